/- PART 3 of 9 of a proof: see the last part. -/
import Derived.Test.YtdhllinkobindaaGreatDoorWp2
set_option maxRecDepth 20000
set_option maxHeartbeats 8000000
set_option linter.unusedSimpArgs false
set_option linter.unusedVariables false
set_option linter.unusedSectionVars false
namespace Go.Proofs.YtdhllinkobindaaGreatDoor
open Go
theorem use_in{tys seen:List Int}:∀{l want:List Int},l.length=want.length->z0y tys seen l want=true->inR tys.length l
 |[],_,_,_=>λv hv=>by simp at hv
 |_::_,[],h,_=>by simp at h
 |x::r,w::ws,h,hg=>by
  simp only[z0y,A0]at hg;intro v hv;rcases Ao.1 hv with rfl|hv
  ·obtain⟨h1,h2⟩:=zi7 hg.1;exact⟨h1,by omega⟩
  ·exact use_in (by simpa using h) hg.2 v hv
theorem zp2{tys seen l want:List Int}(h:z06 tys seen l want=true):l.length=want.length/\inR tys.length l:=by
 simp only[z06,A0,Au]at h;have:l.length=want.length:=by omega
 exact⟨this,use_in this h.2⟩
theorem getV_tot{a:List Int}{i:Int}(h:0<=i/\i<a.length):∃y,getV a i=some y:=by
 unfold getV;rw[if_pos h.1];exact⟨_,A8 oM0⟩
theorem y70{a:List Int}{i y:Int}(h:0<=i/\i<a.length):∃a2,setV a i y=some a2:=by
 unfold setV;rw[if_pos ⟨h.1,by omega⟩];exact⟨_,rfl⟩
theorem y5v{a:List Int}:∀{l:List Int},inR a.length l->∃p,mOf a l=some p/\p.length=l.length
 |[],_=>⟨[],rfl,rfl⟩
 |i::r,h=>by
  obtain⟨y,hy⟩:=getV_tot (h i (.head _));obtain⟨p,hp,hl⟩:=y5v (l:=r) λv hv=>h v (.tail _ hv);exact⟨y::p,by simp[mOf,hy,hp],by simp[hl]⟩
theorem zz4:∀{l p a:List Int},inR a.length l->p.length=l.length->∃a2,mSet a l p=some a2
 |[],_,a,_,_=>⟨a,rfl⟩
 |_::_,[],_,_,h=>by simp at h
 |i::r,y::p,a,h,hl=>by
  obtain⟨a1,h1⟩:=y70 (y:=y) (h i (.head _));have hl1:=zz8 h1;obtain⟨a2,h2⟩:=zz4 (l:=r) (p:=p) (a:=a1) (λv hv=>by rw[hl1];exact h v (.tail _ hv)) (by simpa using hl);exact⟨a2,by simp[mSet,h1,h2]⟩
theorem z9i{tys l:List Int}(h:inR tys.length l):(r8of tys l).length=l.length:=by
 unfold r8of;have:l.all (zi4 tys)=true:=Be.2 λv hv=>by
  have:=h v hv;simp only[zi4,A0,Bj];omega
 rw[if_pos this,Ac]
theorem y4b(name:ByteArray):∀(l:List Ar)(i:Int),0<=i->z0h name l i≥0->∃k:Nat,z0h name l i=i+k/\k<l.length
 |[],i,_,h=>by simp[z0h]at h
 |f::r,i,hi,h=>by
  unfold z0h at h⊢;split
  ·exact⟨0,by simp,by simp⟩
  ·rename_i hne;rw[if_neg hne]at h;obtain⟨k,h1,h2⟩:=y4b name r (i+1) oM0 h;exact⟨k+1,by omega,by simpa using h2⟩
structure Inv(n:Nat)(B M:Int)(s:Rs):Prop where
 ok:Oks B s
 out:(s.out.length:Int)+s.fuel<=M
 ar:s.ar.length=n
structure InvS(n:Nat)(B M:Int)(s:Rs):Prop where
 ok:Oks B s
 ok1:s.cost+s.fuel+1<=B
 out:(s.out.length:Int)+s.fuel+1<=M
 ar:s.ar.length=n
def EOk(w:Wh)(y lv:Bool)(r:Rres):Prop:=(r.1.1=12/\y=true/\w.If=true/\r.1.2.length=w.Yield.length)∨(r.1.1=13/\r.1.2.length=w.Next.length)∨(r.1.1=14/\lv=true/\r.1.2.length=w.Left.length)∨(r.1.1=15/\r.1.2.length=1)
def VF(u:Un)(g:Fl):Prop:=z42 u g 1 z47 (iota g.params.toNat) g.body=true/\g.types.length<=20000/\0<=g.params/\g.params<=g.types.length
theorem vf_of{u:Un}(h:(z17 u).1=0):∀g∈u.flows,VF u g:=by
 intro g hg;obtain⟨h1,h2⟩:=(zb1 u).1 h;have hf:=h2 g hg;have hp:=z6t h1 g hg;unfold z5m at hf;simp only[A0]at hf;obtain⟨⟨⟨⟨⟨f1,f2⟩,f3⟩,f4⟩,f5⟩,f6⟩:=hf;simp only[Bc,Ci]at f1 f2 f3 f4;rw[zs0 u g g.body 1 z47 _ _ (z5f oM0)]at f6;exact⟨f6.1,by omega,hp.1,hp.2⟩
def SumOk(u:Un)(x:Nd)(k:Nat):Prop :=
 (x.kind=3->1<=k)/\(x.kind=4->2<=k)/\(x.kind=5->1<=k/\0<=z0h x.name u.arrays 0)/\(x.kind=6->2<=k/\0<=z0h x.name u.arrays 0) /\
 (x.kind=7->0<=z05 x.name u.flows 0/\∀g,u.flows[(z05 x.name u.flows 0).toNat]?=some g->(k:Int)=g.params)/\(x.kind=9->1<=k)
theorem zv1{p:List Int}{i:Nat}(h:i<p.length):∃y,p[i]?=some y:=⟨_,A8 h⟩
theorem sum_tot{u:Un}{n:Nat}{B M:Int}(hB:B<=4611686018427387903)(hM:M<=1073741824)(hn:n=u.arrays.length)(hv:∀g∈u.flows,VF u g){d:Nat}
 (hC:∀k p s,0<=k->(∃g,u.flows[k.toNat]?=some g/\(p.length:Int)=g.params)->Inv n B M s->3*s.fuel+2<=d->∃r,z3z u d k p s=some r/\Inv n B M r.2)
 (x:Nd) (p:List Int) (s:Rs) (hx:SumOk u x p.length) (hi:InvS n B M s) (hd:3*s.fuel+3<=((d+1:Nat):Int)):∃r,mSum u (d+1) x p s=some r/\Inv n B M r.2:=by
 have e:=zu6 hB hi.ok;have hb:Inv n B M (bmp s):=⟨⟨hi.ok.1,by have:=hi.ok.2.1;show 0<=s.cost+1;omega,by have:=hi.ok1;show s.cost+1+s.fuel<=B;omega⟩,by have:=hi.out;show(s.out.length:Int)+s.fuel<=M;omega,hi.ar⟩;obtain⟨x3,x4,x5,x6,x7,x9⟩:=hx;have ne:∀{i:Int},x.kind≠i->(x.kind==i)=false:=λh=>A9.2 h;have cell:∀{a0:Int},0<=z0h x.name u.arrays 0->∃q,zb7 (bmp s) (z0h x.name u.arrays 0) a0=some q/\((q.1=false/\q.2={ bmp s with st:=3 })∨(q.1=true/\q.2=bmp s/\∃row y,s.ar[(z0h x.name u.arrays 0).toNat]?=some row/\row[a0.toNat]?=some y)):=by
  intro a0 hk;obtain⟨j,hj,hjl⟩:=y4b x.name u.arrays 0 oM0 hk;obtain⟨row,hrow⟩:∃row,s.ar[(z0h x.name u.arrays 0).toNat]?=some row:=⟨_,A8 (by rw[hi.ar];omega)⟩;unfold zb7
  by_cases h0:a0<0
  ·rw[if_pos h0];exact⟨_,rfl,.inl ⟨rfl,rfl⟩⟩
  ·rw[if_neg h0,if_pos hk,show(bmp s).ar=s.ar from rfl,hrow,Bo]
   by_cases h1:a0≥row.length
   ·rw[if_pos h1];exact⟨_,rfl,.inl ⟨rfl,rfl⟩⟩
   ·rw[if_neg h1];exact⟨_,rfl,.inr ⟨rfl,rfl,row,_,rfl,A8 oM0⟩⟩
 have c3:Inv n B M { bmp s with st:=3 }:=⟨hb.ok,hb.out,hb.ar⟩;rw[mSum];simp only[show w64 (s.cost+1)=s.cost+1 from j55 (by have:=hi.ok.2.1;omega) (by have:=hi.ok.1;have:=hi.ok1;omega)]
 by_cases k3:x.kind=3
 ·obtain⟨a0,h0⟩:=zv1 (x3 k3);rw[k3,h0];exact⟨_,rfl,hb⟩
 by_cases k4:x.kind=4
 ·obtain⟨a0,h0⟩:=zv1 (show 0<p.length by have:=x4 k4;omega);obtain⟨a1,h1⟩:=zv1 (show 1<p.length by have:=x4 k4;omega);rw[k4,h0,h1];refine⟨_,rfl,?_⟩;dsimp only;split
  ·exact hb
  ·exact⟨hb.ok,hb.out,hb.ar⟩
 by_cases k5:x.kind=5
 ·obtain⟨a0,h0⟩:=zv1 (x5 k5).1;obtain⟨⟨qb,qs⟩,hq,hq2⟩:=cell (a0:=a0) (x5 k5).2;rw[ne k3,ne k4,k5,h0];simp only[Ap,By,show((5:Int)==5)=true from rfl,C8,Bo]
  erw [hq]
  simp only[Bo];rcases hq2 with⟨rfl,rfl⟩|⟨rfl,rfl,row,y,hr,hy⟩
  ·exact⟨_,rfl,c3⟩
  ·rw[if_pos rfl,hr,Bo,hy];exact⟨_,rfl,hb⟩
 by_cases k6:x.kind=6
 ·obtain⟨a0,h0⟩:=zv1 (show 0<p.length by have:=(x6 k6).1;omega);obtain⟨a1,h1⟩:=zv1 (show 1<p.length by have:=(x6 k6).1;omega);obtain⟨⟨qb,qs⟩,hq,hq2⟩:=cell (a0:=a0) (x6 k6).2;rw[ne k3,ne k4,ne k5,k6,h0];simp only[Ap,By,show((6:Int)==6)=true from rfl,C8,Bo]
  erw [hq]
  simp only[Bo];rcases hq2 with⟨rfl,rfl⟩|⟨rfl,rfl,row,y,hr,hy⟩
  ·exact⟨_,rfl,c3⟩
  ·rw[if_pos rfl,hr,h1];exact⟨_,rfl,⟨hb.ok,hb.out,by simp only[Du];exact hb.ar⟩⟩
 by_cases k7:x.kind=7
 ·rw[ne k3,ne k4,ne k5,ne k6,k7];obtain⟨h0,h1⟩:=x7 k7;obtain⟨j,hj,hjl⟩:=zr9 x.name u.flows 0 oM0 h0;obtain⟨g,hg⟩:∃g,u.flows[(z05 x.name u.flows 0).toNat]?=some g:=⟨_,A8 oM0⟩;exact hC _ p (bmp s) h0 ⟨g,hg,h1 g hg⟩ hb (by show 3*s.fuel+2<=(d:Int);omega)
 by_cases k9:x.kind=9
 ·obtain⟨a0,h0⟩:=zv1 (x9 k9);have hfu:=hi.ok.1;have hlo:s.out.length<1073741824:=by have:=hi.out;omega
  rw[ne k3,ne k4,ne k5,ne k6,ne k7,k9,h0];simp only[Ap,By,show((9:Int)==9)=true from rfl,C8,Bo,if_pos hlo];exact⟨_,rfl,⟨hb.ok,by have:=hi.out;show((s.out++[a0]).length:Int)+s.fuel<=M;simp;omega,hb.ar⟩⟩
 by_cases k8:x.kind=8
 ·rw[ne k3,ne k4,ne k5,ne k6,ne k7,ne k9,k8];simp only[Ap,By,show((8:Int)==8)=true from rfl,C8]
  cases hin:s.ins with
  |nil=>exact⟨_,rfl,⟨hb.ok,hb.out,hb.ar⟩⟩
  |cons y q=>exact⟨_,rfl,⟨hb.ok,hb.out,hb.ar⟩⟩
 ·rw[ne k3,ne k4,ne k5,ne k6,ne k7,ne k9,ne k8];exact⟨_,rfl,hb⟩
theorem smp_ok{u:Un}{f:Fl}{x:Nd}{seen:List Int}{w:Wh}(hgp:∀g∈u.flows,VF u g)(h:(z5r u f x seen w).ok f.types x.outs=true) :
 inR f.types.length x.outs/\inR f.types.length x.args/\SumOk u x x.args.length/\((x.kind=1∨x.kind=2)->x.outs≠[]) /\
 (x.kind=12->w.If=true/\x.args.length=w.Yield.length)/\(x.kind=13->x.args.length=w.Next.length)/\(x.kind=14->x.args.length=w.Left.length)/\(x.kind=15->x.args.length=1):=by
 refine⟨ok_in h,?_⟩;have V:∀{b:Bool} {want:Option (List Int)},SForm.ok ⟨b,want⟩ f.types x.outs=true->b=true:=λ{b want} h=>by
  cases want<;>simp only[SForm.ok,A0]at h<;>exact h.1
 have V1:∀{b:Bool}{t:Int},SForm.ok ⟨b,some [t]⟩ f.types x.outs=true->x.outs≠[]:=λ{b t} h e=>by
  simp only[SForm.ok,A0]at h;have:=zd4 h.2;rw[e]at this;simp at this
 have T:∀{want:List Int},z06 f.types seen x.args want=true->inR f.types.length x.args/\x.args.length=want.length:=λh=>⟨(zp2 h).2,(zp2 h).1⟩;have tr:∀{k:Int}{P:Prop}{j:Int},x.kind=k->k≠j->x.kind=j->P:=λh1 h2 h3=>absurd (h1.symm.trans h3) h2;unfold z5r at h
 by_cases k1:x.kind=1
 ·rw[if_pos (Au.2 k1)]at h;obtain⟨t1,t2⟩:=T (V h);refine⟨t1,⟨tr k1 dC0,tr k1 dC0,tr k1 dC0,tr k1 dC0,tr k1 dC0,tr k1 dC0⟩,λ_=>V1 h,tr k1 dC0,tr k1 dC0,tr k1 dC0,tr k1 dC0⟩
 rw[if_neg (by simpa using k1)]at h
 by_cases k2:x.kind=2
 ·rw[if_pos (Au.2 k2)]at h;have hb:=V h;simp only[A0]at hb;obtain⟨t1,t2⟩:=T hb.2;refine⟨t1,⟨tr k2 dC0,tr k2 dC0,tr k2 dC0,tr k2 dC0,tr k2 dC0,tr k2 dC0⟩,λ_=>V1 h,tr k2 dC0,tr k2 dC0,tr k2 dC0,tr k2 dC0⟩
 rw[if_neg (by simpa using k2)]at h;have n12:¬(x.kind=1∨x.kind=2):=by rintro(h|h)<;>contradiction
 by_cases k3:x.kind=3
 ·rw[if_pos (Au.2 k3)]at h;have hb:=V h;simp only[A0]at hb;obtain⟨t1,t2⟩:=T hb.2;refine⟨t1,⟨λ_=>by rw[t2];exact Ae _,tr k3 dC0,tr k3 dC0,tr k3 dC0,tr k3 dC0,tr k3 dC0⟩,λh=>absurd h n12,tr k3 dC0,tr k3 dC0,tr k3 dC0,tr k3 dC0⟩
 rw[if_neg (by simpa using k3)]at h
 by_cases k4:x.kind=4
 ·rw[if_pos (Au.2 k4)]at h;have hb:=V h;simp only[A0]at hb;obtain⟨t1,t2⟩:=T hb.1.2;refine⟨t1,⟨tr k4 dC0,λ_=>by rw[t2];exact Ae _,tr k4 dC0,tr k4 dC0,tr k4 dC0,tr k4 dC0⟩,λh=>absurd h n12,tr k4 dC0,tr k4 dC0,tr k4 dC0,tr k4 dC0⟩
 rw[if_neg (by simpa using k4)]at h
 by_cases k5:x.kind=5
 ·rw[if_pos (Au.2 k5)]at h;have hb:=V h;simp only[A0,Bj]at hb;obtain⟨t1,t2⟩:=T hb.2;refine⟨t1,⟨tr k5 dC0,tr k5 dC0,λ_=>⟨by rw[t2];exact Ae _,hb.1⟩,tr k5 dC0,tr k5 dC0,tr k5 dC0⟩,λh=>absurd h n12,tr k5 dC0,tr k5 dC0,tr k5 dC0,tr k5 dC0⟩
 rw[if_neg (by simpa using k5)]at h
 by_cases k6:x.kind=6
 ·rw[if_pos (Au.2 k6)]at h;have hb:=V h;simp only[A0,Bj]at hb;obtain⟨t1,t2⟩:=T hb.2;refine⟨t1,⟨tr k6 dC0,tr k6 dC0,tr k6 dC0,λ_=>⟨by rw[t2];exact Ae _,hb.1⟩,tr k6 dC0,tr k6 dC0⟩,λh=>absurd h n12,tr k6 dC0,tr k6 dC0,tr k6 dC0,tr k6 dC0⟩
 rw[if_neg (by simpa using k6)]at h
 by_cases k7:x.kind=7
 ·rw[if_pos (Au.2 k7)]at h
  by_cases hp:decide (z05 x.name u.flows 0≥0)=true
  ·rw[if_pos hp]at h;have hp':0<=z05 x.name u.flows 0:=by simpa using hp
   cases hg:u.flows[(z05 x.name u.flows 0).toNat]? with
   |none=>rw[hg]at h;exact absurd (V h) dC0
   |some g =>
    rw[hg]at h;obtain⟨t1,t2⟩:=T (V h);obtain⟨_,_,g1,g2⟩:=hgp g (Ag hg);refine⟨t1,⟨tr k7 dC0,tr k7 dC0,tr k7 dC0,tr k7 dC0,λ_=>⟨hp',λg' hg'=>?_⟩,tr k7 dC0⟩,λh=>absurd h n12,tr k7 dC0,tr k7 dC0,tr k7 dC0,tr k7 dC0⟩;rw[hg]at hg'
    cases hg'
    rw[t2,Dg];omega
  ·rw[if_neg hp]at h;exact absurd (V h) dC0
 rw[if_neg (by simpa using k7)]at h
 by_cases k8:x.kind=8
 ·rw[if_pos (Au.2 k8)]at h;have hb:=V h;have:x.args=[]:=At (by simp at hb;simp[hb]);refine⟨by rw[this];exact λv hv=>by simp at hv,⟨tr k8 dC0,tr k8 dC0,tr k8 dC0,tr k8 dC0,tr k8 dC0,tr k8 dC0⟩,λh=>absurd h n12,tr k8 dC0,tr k8 dC0,tr k8 dC0,tr k8 dC0⟩
 rw[if_neg (by simpa using k8)]at h
 by_cases k9:x.kind=9
 ·rw[if_pos (Au.2 k9)]at h;obtain⟨t1,t2⟩:=T (V h);refine⟨t1,⟨tr k9 dC0,tr k9 dC0,tr k9 dC0,tr k9 dC0,tr k9 dC0,λ_=>by rw[t2];exact Ae _⟩,λh=>absurd h n12,tr k9 dC0,tr k9 dC0,tr k9 dC0,tr k9 dC0⟩
 rw[if_neg (by simpa using k9)]at h;have S:SumOk u x x.args.length:=⟨λh=>absurd h k3,λh=>absurd h k4,λh=>absurd h k5,λh=>absurd h k6,λh=>absurd h k7,λh=>absurd h k9⟩
 by_cases k12:x.kind=12
 ·rw[if_pos (Au.2 k12)]at h;have hb:=V h;simp only[A0]at hb;obtain⟨t1,t2⟩:=T hb.2;exact⟨t1,S,λh=>absurd h n12,λ_=>⟨hb.1,t2⟩,tr k12 dC0,tr k12 dC0,tr k12 dC0⟩
 rw[if_neg (by simpa using k12)]at h
 by_cases k13:x.kind=13
 ·rw[if_pos (Au.2 k13)]at h;have hb:=V h;simp only[A0]at hb;obtain⟨t1,t2⟩:=T hb.2;exact⟨t1,S,λh=>absurd h n12,tr k13 dC0,λ_=>t2,tr k13 dC0,tr k13 dC0⟩
 rw[if_neg (by simpa using k13)]at h
 by_cases k14:x.kind=14
 ·rw[if_pos (Au.2 k14)]at h;have hb:=V h;simp only[A0]at hb;obtain⟨t1,t2⟩:=T hb.2;exact⟨t1,S,λh=>absurd h n12,tr k14 dC0,tr k14 dC0,λ_=>t2,tr k14 dC0⟩
 rw[if_neg (by simpa using k14)]at h
 by_cases k15:x.kind=15
 ·rw[if_pos (Au.2 k15)]at h;obtain⟨t1,t2⟩:=T (V h);exact⟨t1,S,λh=>absurd h n12,tr k15 dC0,tr k15 dC0,tr k15 dC0,λ_=>t2⟩
 rw[if_neg (by simpa using k15)]at h;exact absurd (V h) dC0
theorem LRel.monoE{k c:Nat}{I:VR}{l:List Nd}{K:List KF}{l':List Nd}{E:ER}(h:LRel k c I l K l' E):∀{E':ER},(∀n p p' a b,E n p p' a b->E' n p p' a b)->LRel k c I l K l' E':=by
 induction h with
 |dead h=>exact λ_=>.dead h
 |weak h _ ih=>exact λhe=>.weak h (ih he)
 |both h1 h2 h3 h4 _ ih=>exact λhe=>.both h1 h2 h3 h4 (ih he)
 |skip h1 h2 _ ih=>exact λhe=>.skip h1 h2 (ih he)
 |paid h1 h2 h3 _ ih=>exact λhe=>.paid h1 h2 h3 (ih he)
 |add h1 h2 h3 _ ih=>exact λhe=>.add h1 h2 h3 (ih he)
 |eff h1 h2 h3 h4 h5 h6 h7 _ ih=>exact λhe=>.eff h1 h2 h3 h4 h5 h6 h7 (ih he)
 |ite h1 h2 h3 h4 h5 h6 h7 h8 _ _ _ ih=>exact λhe=>.ite h1 h2 h3 h4 h5 h6 h7 (λn p p' a b hh=>(h8 n p p' a b hh).imp_right λ⟨x,y,z,w⟩=>⟨x,y,z,he _ _ _ _ _ w⟩) (ih he)
 |loop h1 h2 h3 h4 h5 h6 h7 _ _ ih=>exact λhe=>.loop h1 h2 h3 h4 h5 h6 (λn p p' a b hh=>(h7 n p p' a b hh).imp_left λ⟨x,y⟩=>⟨x,he _ _ _ _ _ y⟩) (ih he)
 |ender h1 h2 h3 h4 h5=>exact λhe=>.ender h1 h2 h3 h4 λa b p p' x y z=>he _ _ _ _ _ (h5 a b p p' x y z)
 |once h1 h2 h3 _ ih=>exact λhe=>.once h1 h2 h3 (ih he)
 |leave h1 h2 h3 _ ih=>exact λhe=>.leave h1 h2 h3 (ih he)
 |fork h1 h2 _ _ ih0 ih1=>exact λhe=>.fork h1 h2 (ih0 he) (ih1 he)
theorem zd9{a a2:List Int}{o y x:Int}(h:setV a o y=some a2):getV a2 x=if x=o then some y else getV a x:=by
 obtain⟨h1,h2,rfl⟩:=z8n h;unfold getV
 by_cases hx:0<=x
 ·rw[if_pos hx]
  by_cases e:x=o
  ·subst e;rw[if_pos rfl,Bl h2]
  ·rw[if_neg e,if_pos hx,Bk oM0]
 ·rw[if_neg hx,if_neg hx,if_neg oM0]
theorem j1d{a b:List Int}:∀{l:List Int},(∀x∈l,getV a x=getV b x)->mOf a l=mOf b l
 |[],_=>rfl
 |i::r,h=>by
  simp only[mOf];rw[h i (.head _),j1d (l:=r) λx hx=>h x (.tail _ hx)]
theorem yq9{tys seen:List Int}:∀{l want:List Int},l.length=want.length->z0y tys seen l want=true->∀v∈l,v∈seen
 |[],_,_,_=>λv hv=>by simp at hv
 |_::_,[],h,_=>by simp at h
 |x::r,w::ws,h,hg=>by
  simp only[z0y,A0]at hg;intro v hv;rcases Ao.1 hv with rfl|hv
  ·have:=hg.1;unfold za6 at this;simp only[Bc,C0]at this;simpa using this.1.2
  ·exact yq9 (by simpa using h) hg.2 v hv
theorem z2m{tys seen l want:List Int}(h:z06 tys seen l want=true):∀v∈l,v∈seen:=by
 have h0:=(zp2 h).1;simp only[z06,A0]at h;exact yq9 h0 h.2
theorem y2g{u:Un}{f:Fl}{x:Nd}{seen:List Int}{w:Wh}(h:(z5r u f x seen w).ok f.types x.outs=true) :
 (∀v∈x.args,v∈seen)/\x.outs.length<=1/\(z16 x=true->HL x/\∃o,x.outs=[o])/\(x.kind=12->w.If=true)/\(12<=x.kind->x.kind<=15):=by
 have V:∀{b:Bool} {want:Option (List Int)},SForm.ok ⟨b,want⟩ f.types x.outs=true->b=true:=λ{b want} h=>by
  cases want<;>simp only[SForm.ok,A0]at h<;>exact h.1
 have V1:∀{b:Bool}{t:Int},SForm.ok ⟨b,some [t]⟩ f.types x.outs=true->x.outs.length=1:=λ{b t} h=>by
  simp only[SForm.ok,A0]at h;exact zd4 h.2
 have V0:∀{b:Bool},SForm.ok ⟨b,none⟩ f.types x.outs=true->x.outs.length=0:=λ{b} h=>by
  simp only[SForm.ok,A0,Au]at h;omega
 have ex1:x.outs.length=1->∃o,x.outs=[o]:=λh=>C7.1 h;have hne:x.outs.length=1->x.outs≠[]:=λh e=>by rw[e]at h;cases h
 unfold z5r at h
 by_cases k1:x.kind=1
 ·rw[if_pos (Au.2 k1)]at h;have h1:=V1 h;exact⟨z2m (V h),by omega,λhm=>⟨⟨hm,λh=>absurd (k1.symm.trans h) dC0,hne h1⟩,ex1 h1⟩,λh=>absurd (k1.symm.trans h) dC0,by omega⟩
 rw[if_neg (by simpa using k1)]at h
 by_cases k2:x.kind=2
 ·rw[if_pos (Au.2 k2)]at h;have h1:=V1 h;have hb:=V h;simp only[A0]at hb;exact⟨z2m hb.2,by omega,λhm=>⟨⟨hm,λh=>absurd (k2.symm.trans h) dC0,hne h1⟩,ex1 h1⟩,λh=>absurd (k2.symm.trans h) dC0,by omega⟩
 rw[if_neg (by simpa using k2)]at h
 by_cases k3:x.kind=3
 ·rw[if_pos (Au.2 k3)]at h;have h1:=V1 h;have hb:=V h;simp only[A0]at hb;exact⟨z2m hb.2,by omega,λhm=>⟨⟨hm,λh=>absurd (k3.symm.trans h) dC0,hne h1⟩,ex1 h1⟩,λh=>absurd (k3.symm.trans h) dC0,by omega⟩
 rw[if_neg (by simpa using k3)]at h
 by_cases k4:x.kind=4
 ·rw[if_pos (Au.2 k4)]at h;have h1:=V1 h;have hb:=V h;simp only[A0]at hb;exact⟨z2m hb.1.2,by omega,λhm=>⟨⟨hm,λ_=>hb.1.1,hne h1⟩,ex1 h1⟩,λh=>absurd (k4.symm.trans h) dC0,by omega⟩
 rw[if_neg (by simpa using k4)]at h;have hno:z16 x=false:=by
  cases hx:z16 x with
  |false=>rfl
  |true=>have:=z9b hx;omega
 have hm0:z16 x=true->HL x/\∃o,x.outs=[o]:=λh=>by rw[hno]at h;cases h
 by_cases k5:x.kind=5
 ·rw[if_pos (Au.2 k5)]at h;have hb:=V h;simp only[A0]at hb;exact⟨z2m hb.2,by have:=V1 h;omega,hm0,λh=>absurd (k5.symm.trans h) dC0,by omega⟩
 rw[if_neg (by simpa using k5)]at h
 by_cases k6:x.kind=6
 ·rw[if_pos (Au.2 k6)]at h;have hb:=V h;simp only[A0]at hb;exact⟨z2m hb.2,by have:=V0 h;omega,hm0,λh=>absurd (k6.symm.trans h) dC0,by omega⟩
 rw[if_neg (by simpa using k6)]at h
 by_cases k7:x.kind=7
 ·rw[if_pos (Au.2 k7)]at h
  by_cases hp:decide (z05 x.name u.flows 0≥0)=true
  ·rw[if_pos hp]at h
   cases hg:u.flows[(z05 x.name u.flows 0).toNat]? with
   |none=>rw[hg]at h;exact absurd (V h) dC0
   |some g=>rw[hg]at h;exact⟨z2m (V h),by have:=V1 h;omega,hm0,λh=>absurd (k7.symm.trans h) dC0,by omega⟩
  ·rw[if_neg hp]at h;exact absurd (V h) dC0
 rw[if_neg (by simpa using k7)]at h
 by_cases k8:x.kind=8
 ·rw[if_pos (Au.2 k8)]at h;have hb:=V h;have:x.args=[]:=At (by simp at hb;simp[hb]);exact⟨by rw[this];exact λv hv=>by simp at hv,by have:=V1 h;omega,hm0,λh=>absurd (k8.symm.trans h) dC0,by omega⟩
 rw[if_neg (by simpa using k8)]at h
 by_cases k9:x.kind=9
 ·rw[if_pos (Au.2 k9)]at h;exact⟨z2m (V h),by have:=V0 h;omega,hm0,λh=>absurd (k9.symm.trans h) dC0,by omega⟩
 rw[if_neg (by simpa using k9)]at h
 by_cases k12:x.kind=12
 ·rw[if_pos (Au.2 k12)]at h;have hb:=V h;simp only[A0]at hb;exact⟨z2m hb.2,by have:=V0 h;omega,hm0,λ_=>hb.1,by omega⟩
 rw[if_neg (by simpa using k12)]at h
 by_cases k13:x.kind=13
 ·rw[if_pos (Au.2 k13)]at h;have hb:=V h;simp only[A0]at hb;exact⟨z2m hb.2,by have:=V0 h;omega,hm0,λh=>absurd (k13.symm.trans h) dC0,by omega⟩
 rw[if_neg (by simpa using k13)]at h
 by_cases k14:x.kind=14
 ·rw[if_pos (Au.2 k14)]at h;have hb:=V h;simp only[A0]at hb;exact⟨z2m hb.2,by have:=V0 h;omega,hm0,λh=>absurd (k14.symm.trans h) dC0,by omega⟩
 rw[if_neg (by simpa using k14)]at h
 by_cases k15:x.kind=15
 ·rw[if_pos (Au.2 k15)]at h;exact⟨z2m (V h),by have:=V0 h;omega,hm0,λh=>absurd (k15.symm.trans h) dC0,by omega⟩
 rw[if_neg (by simpa using k15)]at h;exact absurd (V h) dC0
theorem j18{u:Un}{f:Fl}{deep:Int}{w:Wh}:∀{l:List Nd}{S:List Int},vGo u f deep w S l=true->z2i l=12->w.If=true
 |[],_,_,h=>by simp[z2i]at h
 |[x],S,hv,h=>by
  unfold vGo at hv;simp only[A0]at hv;have hk:x.kind=12:=by
   simp only[z2i,List.getLast?_singleton]at h;split at h
   ·exact h
   ·exact absurd h dC0
  have hx:=hv.1.1.2;rw[z1x u f deep w S (z4s u f deep w S hx) (by rw[hk];rfl) (by rw[hk];rfl)]at hx
  exact(y2g hx).2.2.2.1 hk
 |x::y::r,S,hv,h=>by
  unfold vGo at hv;simp only[A0]at hv;have e:z2i (x::y::r)=z2i (y::r):=by simp[z2i,En]
  rw[e]at h;exact j18 hv.2 h
theorem ym1{x:Nd}{l:List Nd}(h:l≠[]):z2i (x::l)=z2i l:=by
 cases l with
 |nil=>exact absurd rfl h
 |cons y r=>simp[z2i,En]
theorem yl3(x:Nd):z2i [x]=if z0v x.kind then x.kind else 0:=by simp[z2i]
def NEnd(w:Wh)(x:Nd)(r:Rres):Prop:=(r.1.1=0/\z08 x=false)∨EOk w (x.kind==12) (z3f x) r
def LTot(u:Un)(n:Nat)(B M:Int)(d:Nat):Prop:=∀f deep w seen l a s,l≠[]->vGo u f deep w seen l=true->a.length=f.types.length->Inv n B M s->3*s.fuel+1<=(d:Int) ->
 ∃r,z1v u d l a s=some r/\Inv n B M r.2.2/\(Live r.2.2->r.2.2.fuel<s.fuel/\EOk w (z2i l==12) (z0i l) r)
def PTot(u:Un)(n:Nat)(B M:Int)(d:Nat):Prop:=∀f deep x q seen a p s,x.kids=[q]->q≠[]->vGo u f deep (w2 f x) seen q=true->inR f.types.length x.params->inR f.types.length x.outs->p.length=x.params.length->a.length=f.types.length->Inv n B M s->3*s.fuel+2<=(d:Int) ->
 ∃r,z3j u d x a p s=some r/\Inv n B M r.2.2/\(Live r.2.2->(r.1.1=0/\z0i q=true)∨(r.1.1=15/\r.1.2.length=1))
def CTot(u:Un)(n:Nat)(B M:Int)(d:Nat):Prop:=∀k p s,0<=k->(∃g,u.flows[k.toNat]?=some g/\(p.length:Int)=g.params)->Inv n B M s->3*s.fuel+2<=(d:Int)->∃r,z3z u d k p s=some r/\Inv n B M r.2
def STot(u:Un)(n:Nat)(B M:Int)(d:Nat):Prop:=∀x p s,SumOk u x p.length->InvS n B M s->3*s.fuel+3<=(d:Int)->∃r,mSum u d x p s=some r/\Inv n B M r.2
theorem node_tot{u:Un}{n:Nat}{B M:Int}(hB:B<=4611686018427387903)(hv:∀g∈u.flows,VF u g){d:Nat}(i1:LTot u n B M d)(i2:PTot u n B M d)(i4:STot u n B M d)
 {f:Fl} {deep:Int} {w:Wh} {seen:List Int} {x:Nd} {a:List Int} {s:Rs} (hx:z82 u f deep w seen x=true) (ha:a.length=f.types.length) (hl:Live s) (hi:Inv n B M s) (hf:1<=s.fuel) (hd:3*s.fuel+1<=((d+1:Nat):Int)) :
 ∃p r,mOf a x.args=some p/\z5k (z1v u d) (z3j u d) (mSum u d) x p a (dec s)=some r/\Inv n B M r.2.2/\(Live r.2.2->r.2.2.fuel<s.fuel/\NEnd w x r):=by
 have hb:=z4s u f deep w seen hx;have hiS:InvS n B M (dec s):=⟨(z4x hi.ok hf).1,(z4x hi.ok hf).2,by have:=hi.out;show(s.out.length:Int)+(s.fuel-1)+1<=M;omega,hi.ar⟩;have hi1:Inv n B M (dec s):=⟨hiS.ok,by have:=hiS.out;omega,hiS.ar⟩;have hdf:(dec s).fuel=s.fuel-1:=rfl;have ne:∀{i:Int},x.kind≠i->(x.kind==i)=false:=λh=>A9.2 h
 by_cases h10:x.kind=10
 ·obtain⟨q0,q1,hk⟩:=z3u hb h10;rw[z79 u f deep w seen hb h10 hk]at hx;simp only[A0,z42]at hx;obtain⟨⟨⟨⟨v1,v2⟩,v3⟩,v4⟩,v5⟩:=hx;obtain⟨t1,t2⟩:=zp2 v1;have hou:=z1b v5;obtain⟨p,hp,hpl⟩:=y5v (a:=a) (l:=x.args) (by rw[ha];exact t2);obtain⟨c,hc⟩:=zv1 (p:=p) (i:=0) (by rw[hpl,t1];decide);have hq:∃q,x.kids[if c != 0 then 0 else 1]?=some q/\q≠[]/\vGo u f (deep+1) (w1 w f x) seen q=true/\(q=q0∨q=q1):=by
   rw[hk]
   by_cases hc0:(c != 0)=true
   ·rw[if_pos hc0];exact⟨q0,rfl,by simpa using v2.1,v2.2,.inl rfl⟩
   ·rw[if_neg hc0];exact⟨q1,rfl,by simpa using v3.1,v3.2,.inr rfl⟩
  obtain⟨q,hq1,hq2,hq3,hq4⟩:=hq;obtain⟨r2,g1,g2,g3⟩:=i1 f (deep+1) (w1 w f x) seen q a (dec s) hq2 hq3 ha hi1 (by rw[hdf];omega);have hlen:=z6k g1;have hlv:z0i q=true->z3f x=true:=λh=>by
   rw[z4d,h10,hk];rcases hq4 with rfl|rfl<;>simp[z34,h]
  have hcl:z2i q=12->z08 x=false:=λh=>by
   rcases hq4 with rfl|rfl<;>simp[z08,h10,hk,kid0,kid1,h]
  by_cases hov:z11 r2.2.2=true
  ·refine⟨p,r2,hp,?_,g2,λh=>by rw[z0t h]at hov;cases hov⟩;unfold z5k;simp only[h10,show((10:Int)==1)=false from rfl,show((10:Int)==2)=false from rfl,show((10:Int)==12)=false from rfl,show((10:Int)==13)=false from rfl,show((10:Int)==14)=false from rfl,show((10:Int)==15)=false from rfl,show((10:Int)==10)=true from rfl,Fs,Ap,By,C8,hc,Bo,hq1,g1,hov,F5,Cn]
  ·have hov':z11 r2.2.2=false:=by simpa using hov
   have hL2:=z87.1 hov';obtain⟨e1,e2⟩:=g3 hL2
   by_cases h12:r2.1.1=12
   ·rcases e2 with⟨_,e3,_,e4⟩|⟨e3,_⟩|⟨e3,_⟩|⟨e3,_⟩
    ·rw[show(w1 w f x).Yield=r8of f.types x.outs from rfl,z9i hou]at e4;obtain⟨a2,h2⟩:=zz4 (l:=x.outs) (p:=r2.1.2) (a:=r2.2.1) (by rw[hlen,ha];exact hou) e4;refine⟨p,((0,[]),a2,r2.2.2),hp,?_,g2,λ_=>⟨by show r2.2.2.fuel<s.fuel;have:=hdf;omega,.inl ⟨rfl,hcl (by simpa using e3)⟩⟩⟩;unfold z5k;simp only[h10,show((10:Int)==1)=false from rfl,show((10:Int)==2)=false from rfl,show((10:Int)==12)=false from rfl,show((10:Int)==13)=false from rfl,show((10:Int)==14)=false from rfl,show((10:Int)==15)=false from rfl,show((10:Int)==10)=true from rfl,Fs,Ap,By,C8,hc,Bo,hq1,g1,hov',h12,E4,B0,show((12:Int)==12)=true from rfl,h2,D5]
    ·rw[h12]at e3;exact absurd e3 dC0
    ·rw[h12]at e3;exact absurd e3 dC0
    ·rw[h12]at e3;exact absurd e3 dC0
   ·refine⟨p,r2,hp,?_,g2,λ_=>⟨by have:=hdf;omega,.inr ?_⟩⟩
    ·unfold z5k;have hc12:(!false&&r2.1.1==12)=false:=by simpa using h12
     simp only[h10,show((10:Int)==1)=false from rfl,show((10:Int)==2)=false from rfl,show((10:Int)==12)=false from rfl,show((10:Int)==13)=false from rfl,show((10:Int)==14)=false from rfl,show((10:Int)==15)=false from rfl,show((10:Int)==10)=true from rfl,Fs,Ap,By,C8,hc,Bo,hq1,g1,hov',hc12]
    ·rcases e2 with⟨e3,_⟩|e3|⟨e3,e4,e5⟩|e3
     ·exact absurd e3 h12
     ·exact .inr (.inl e3)
     ·exact .inr (.inr (.inl ⟨e3,hlv e4,e5⟩))
     ·exact .inr (.inr (.inr e3))
 by_cases h11:x.kind=11
 ·obtain⟨q,hk⟩:=z2a hb h11;rw[z4t u f deep w seen hb h11 hk]at hx;simp only[A0,z42]at hx;obtain⟨⟨⟨⟨v1,v2⟩,v3⟩,v4⟩,v5⟩:=hx;obtain⟨t1,t2⟩:=zp2 v1;have hpi:=z1b v2;rw[z9i hpi]at t1;obtain⟨p,hp,hpl⟩:=y5v (a:=a) (l:=x.args) (by rw[ha];exact t2);obtain⟨r,g1,g2,g3⟩:=i2 f (deep+1) x q _ a p (dec s) hk (by simpa using v3.1) v3.2 hpi (z1b v5) (by rw[hpl,t1]) ha hi1 (by rw[hdf];omega);refine⟨p,r,hp,?_,g2,λhL=>⟨?_,?_⟩⟩
  ·unfold z5k;simp only[h11,show((11:Int)==1)=false from rfl,show((11:Int)==2)=false from rfl,show((11:Int)==12)=false from rfl,show((11:Int)==13)=false from rfl,show((11:Int)==14)=false from rfl,show((11:Int)==15)=false from rfl,show((11:Int)==10)=false from rfl,show((11:Int)==11)=true from rfl,Fs,Ap,By,C8,g1]
  ·have:=(zk4 hB g1 hi1.ok).fuel;omega
  ·rcases g3 hL with⟨e1,e2⟩|⟨e1,e2⟩
   ·exact .inl ⟨e1,by simp[z08,h11,hk,kid0,e2]⟩
   ·exact .inr (.inr (.inr (.inr ⟨e1,e2⟩)))
 rw[z1x u f deep w seen hb (ne h10) (ne h11)]at hx;obtain⟨s1,s2,s3,s4,s12,s13,s14,s15⟩:=smp_ok hv hx;obtain⟨p,hp,hpl⟩:=y5v (a:=a) (l:=x.args) (by rw[ha];exact s2);have cl:z08 x=z0v x.kind:=by unfold z08;rw[ne h10,ne h11];rfl
 by_cases h1:x.kind=1∨x.kind=2
 ·have ho:=s4 h1
  obtain⟨o,os,he⟩:∃o os,x.outs=o::os:=by cases hxo:x.outs with
   |nil=>exact absurd hxo ho
   |cons o os=>exact⟨o,os,rfl⟩
  obtain⟨a2,h2⟩:=y70 (a:=a) (i:=o) (y:=x.n) (by rw[ha];exact s1 o (by rw[he];exact .head _));refine⟨p,((0,[]),a2,dec s),hp,?_,hi1,λ_=>⟨by show s.fuel-1<s.fuel;omega,.inl ⟨rfl,?_⟩⟩⟩
  ·unfold z5k;rw[if_pos (by rcases h1 with h1|h1<;>rw[h1]<;>rfl),he];simp only[Cr,Bo,h2,D5]
  ·rw[cl];rcases h1 with h1|h1<;>rw[h1]<;>rfl
 have n1:(x.kind==1||x.kind==2)=false:=by rw[C0];exact⟨ne λh=>h1 (.inl h),ne λh=>h1 (.inr h)⟩
 by_cases hE:12<=x.kind/\x.kind<=15
 ·refine⟨p,((x.kind,p),a,dec s),hp,?_,hi1,λ_=>⟨by show s.fuel-1<s.fuel;omega,.inr ?_⟩⟩
  ·unfold z5k;rw[n1,if_neg dC0,if_pos (by rcases(show x.kind=12∨x.kind=13∨x.kind=14∨x.kind=15 by omega)with e|e|e|e<;>rw[e]<;>rfl)]
  ·rcases(show x.kind=12∨x.kind=13∨x.kind=14∨x.kind=15 by omega)with e|e|e|e
   ·exact .inl ⟨e,by rw[e];rfl,(s12 e).1,by rw[<- (s12 e).2];exact hpl⟩
   ·exact .inr (.inl ⟨e,by rw[<- s13 e];exact hpl⟩)
   ·exact .inr (.inr (.inl ⟨e,by rw[z4d,e];rfl,by rw[<- s14 e];exact hpl⟩))
   ·exact .inr (.inr (.inr ⟨e,by rw[<- s15 e];exact hpl⟩))
 have n2:(x.kind==12||x.kind==13||x.kind==14||x.kind==15)=false:=by simp;omega
 obtain⟨q,g1,g2⟩:=i4 x p (dec s) (by rw[hpl];exact s3) hiS (by rw[hdf];omega);have hfq:=(yb8 hB g1 hiS.ok hiS.ok1).fuel;have cl0:z08 x=false:=by rw[cl];simp[z0v];omega
 have hnode:∀r1,(if !z11 q.2&&decide (0<x.outs.length)then(x.outs[0]?).bind λo=>(setV a o q.1).map λv'=>(((0,[]),v',q.2):Rres)else some ((0,[]),a,q.2))=some r1->z5k (z1v u d) (z3j u d) (mSum u d) x p a (dec s)=some r1:=λr1 h=>by
  unfold z5k;rw[n1,n2,ne h10,ne h11];simp only[Ap,By,g1,Bo];exact h
 by_cases hov:(!z11 q.2&&decide (0<x.outs.length))=true
 ·obtain⟨o,os,he⟩:∃o os,x.outs=o::os:=by cases hxo:x.outs with
   |nil=>rw[hxo]at hov;simp at hov
   |cons o os=>exact⟨o,os,rfl⟩
  obtain⟨a2,h2⟩:=y70 (a:=a) (i:=o) (y:=q.1) (by rw[ha];exact s1 o (by rw[he];exact .head _));exact⟨p,((0,[]),a2,q.2),hp,hnode _ (by rw[if_pos hov,he];simp[h2]),g2,λ_=>⟨by show q.2.fuel<s.fuel;omega,.inl ⟨rfl,cl0⟩⟩⟩
 ·exact⟨p,((0,[]),a,q.2),hp,hnode _ (if_neg hov),g2,λ_=>⟨by show q.2.fuel<s.fuel;omega,.inl ⟨rfl,cl0⟩⟩⟩
theorem list_tot{u:Un}{n:Nat}{B M:Int}(hB:B<=4611686018427387903)(hv:∀g∈u.flows,VF u g){d:Nat}(i1:LTot u n B M d)(i2:PTot u n B M d)(i4:STot u n B M d):LTot u n B M (d+1):=by
 intro f deep w seen l a s hne hg ha hi hd
 cases l with
 |nil=>exact absurd rfl hne
 |cons x l =>
  cases hov:z11 s with
  |true =>
   have:z9d s=(false,s):=by unfold z9d;rw[hov];rfl
   refine⟨((0,[]),a,s),by rw[z1v,this],hi,λh=>by rw[z0t h]at hov;cases hov⟩
  |false =>
   have hl:=z87.1 hov;unfold vGo at hg;simp only[A0,Au]at hg;obtain⟨⟨⟨_,v2⟩,v3⟩,v4⟩:=hg;rcases y53 hB hi.ok hl with⟨hf,hs⟩|⟨hf,hs⟩
   ·refine⟨((0,[]),a,gone s),by rw[z1v,hs],⟨hi.ok,hi.out,hi.ar⟩,λh=>?_⟩;have:=h.1
    cases this
   ·obtain⟨p,r1,g1,g2,g3,g4⟩:=node_tot hB hv i1 i2 i4 v2 ha hl hi hf hd;have hlen:r1.2.1.length=a.length:=y8b (λ_ _ _ _ h=>(zi1 u d).1 _ _ _ _ h) (λ_ _ _ _ _ h=>(zi1 u d).2 _ _ _ _ _ h) g2
    by_cases hov1:z11 r1.2.2=true
    ·exact⟨r1,by rw[z1v,hs];simp only[g1,Bo,g2,hov1,B7,C8],g3,λh=>by rw[z0t h]at hov1;cases hov1⟩
    ·have hov1':z11 r1.2.2=false:=by simpa using hov1
     obtain⟨f1,f2⟩:=g4 (z87.1 hov1')
     by_cases hk0:r1.1.1=0
     ·have hc:z08 x=false:=by
       rcases f2 with⟨_,h⟩|⟨h,_⟩|⟨h,_⟩|⟨h,_⟩|⟨h,_⟩
       ·exact h
       all_goals rw[hk0]at h;exact absurd h dC0
      have hlne:l≠[]:=by rw[hc]at v3;intro e;rw[e]at v3;cases v3
      obtain⟨r,q1,q2,q3⟩:=i1 f deep w _ l r1.2.1 r1.2.2 hlne v4 (by rw[hlen,ha]) g3 (by have:=hi.ok.1;omega);refine⟨r,by rw[z1v,hs];simp only[g1,Bo,g2,hov1',hk0,Bv,show((0:Int) != 0)=false from rfl,Ap,By,q1],q2,λh=>?_⟩;obtain⟨z1,z2⟩:=q3 h;refine⟨by omega,?_⟩;rw[ym1 hlne];rcases z2 with z|z|⟨z1,z2,z3⟩|z
      ·exact .inl z
      ·exact .inr (.inl z)
      ·exact .inr (.inr (.inl ⟨z1,by simp[z0i,z2],z3⟩))
      ·exact .inr (.inr (.inr z))
     ·have hk1:(false||r1.1.1 != 0)=true:=by simpa using hk0
      refine⟨r1,by rw[z1v,hs];simp only[g1,Bo,g2,hov1',hk1,C8],g3,λ_=>⟨f1,?_⟩⟩;rcases f2 with⟨h,_⟩|⟨z1,z2,z3,z4⟩|z|⟨z1,z2,z3⟩|z
      ·exact absurd h hk0
      ·have hxk:x.kind=12:=by simpa using z2
       have hc:z08 x=true:=by unfold z08;rw[hxk];rfl
       have hl0:l=[]:=by rw[hc]at v3;cases l with
        |nil=>rfl
        |cons y r=>cases v3
       refine .inl ⟨z1,?_,z3,z4⟩;rw[hl0,yl3,hxk];rfl
      ·exact .inr (.inl z)
      ·exact .inr (.inr (.inl ⟨z1,by simp[z0i,z2],z3⟩))
      ·exact .inr (.inr (.inr z))
theorem loop_tot{u:Un}{n:Nat}{B M:Int}{d:Nat}(i1:LTot u n B M d)(i2:PTot u n B M d):PTot u n B M (d+1):=by
 intro f deep x q seen a p s hk hq hg hpi hoi hp ha hi hd;obtain⟨a2,h2⟩:=zz4 (l:=x.params) (p:=p) (a:=a) (by rw[ha];exact hpi) hp;obtain⟨r1,g1,g2,g3⟩:=i1 f deep (w2 f x) seen q a2 s hq hg (by rw[z3q h2,ha]) hi oM0;have hlen:=(z6k g1).trans (z3q h2);have hk0:x.kids[0]?=some q:=by rw[hk];rfl
 by_cases hov:z11 r1.2.2=true
 ·exact⟨r1,by rw[z3j,h2];simp only[Bo,hk0,g1,hov,B7,C8],g2,λh=>by rw[z0t h]at hov;cases hov⟩
 ·have hov':z11 r1.2.2=false:=by simpa using hov
  obtain⟨f1,f2⟩:=g3 (z87.1 hov');rcases f2 with⟨_,_,h,_⟩|⟨z1,z2⟩|⟨z1,z2,z3⟩|⟨z1,z2⟩
  ·cases h
  ·rw[show(w2 f x).Next=r8of f.types x.params from rfl,z9i hpi]at z2;obtain⟨r,q1,q2,q3⟩:=i2 f deep x q seen r1.2.1 r1.1.2 r1.2.2 hk hq hg hpi hoi z2 (by rw[hlen,ha]) g2 oM0;exact⟨r,by rw[z3j,h2];simp only[Bo,hk0,g1,hov',z1,Bv,show((13:Int)==15)=false from rfl,show((13:Int)==14)=false from rfl,Ap,By,q1],q2,q3⟩
  ·rw[show(w2 f x).Left=r8of f.types x.outs from rfl,z9i hoi]at z3;obtain⟨a3,h3⟩:=zz4 (l:=x.outs) (p:=r1.1.2) (a:=r1.2.1) (by rw[hlen,ha];exact hoi) z3;exact⟨((0,[]),a3,r1.2.2),by rw[z3j,h2];simp only[Bo,hk0,g1,hov',z1,Bv,show((14:Int)==15)=false from rfl,show((14:Int)==14)=true from rfl,Ap,By,C8,h3,D5],g2,λ_=>.inl ⟨rfl,z2⟩⟩
  ·exact⟨r1,by rw[z3j,h2];simp only[Bo,hk0,g1,hov',z1,Bv,show((15:Int)==15)=true from rfl,C8],g2,λ_=>.inr ⟨z1,z2⟩⟩
theorem call_tot{u:Un}{n:Nat}{B M:Int}(hv:∀g∈u.flows,VF u g){d:Nat}(i1:LTot u n B M d):CTot u n B M (d+1):=by
 rintro k p s hk ⟨g,hg,hp⟩ hi hd;obtain⟨v1,v2,v3,v4⟩:=hv g (Ag hg);simp only[z42,A0]at v1;have hpl:p.length<=g.types.length:=by omega
 obtain⟨r1,g1,g2,_⟩:=i1 g 1 z47 _ g.body (p++List.replicate (g.types.length-p.length) 0) s (by simpa using v1.1) v1.2 (by simp;omega) hi oM0;have e:z3z u (d+1) k p s=(if z11 r1.2.2 then some (0,r1.2.2)else some (r1.1.2.headD 0,r1.2.2)):=by
  rw[z3z,if_pos hk,hg,Bo,if_pos ⟨hpl,by omega⟩,g1,Bo]
 rw[e];split
 ·exact⟨_,rfl,g2⟩
 ·exact⟨_,rfl,g2⟩
theorem j4f{u:Un}{n:Nat}{B M:Int}(hB:B<=4611686018427387903)(hM:M<=1073741824)(hn:n=u.arrays.length)(hv:∀g∈u.flows,VF u g):∀d,LTot u n B M d/\PTot u n B M d/\CTot u n B M d/\STot u n B M d
 |0=>⟨λf deep w seen l a s _ _ _ hi hd=>by have:=hi.ok.1;omega,λf deep x q seen a p s _ _ _ _ _ _ _ hi hd=>by have:=hi.ok.1;omega,λk p s _ _ hi hd=>by have:=hi.ok.1;omega,λx p s _ hi hd=>by have:=hi.ok.1;omega⟩
 |d+1=>by
  obtain⟨i1,i2,i3,i4⟩:=j4f hB hM hn hv d;exact⟨list_tot hB hv i1 i2 i4,loop_tot i1 i2,call_tot hv i1,λx p s hx hi hd=>sum_tot hB hM hn hv i3 x p s hx hi hd⟩
def G(m:Bool)(N k w:Nat)(F F':Int):Prop:=if m then F<=F'+k else F'*(N+1)+w<=F
theorem g_mul(F':Int)(N:Nat):(F'-1)*((N:Int)+1)=F'*(N+1)-N-1:=by rw[Int.sub_mul];omega
theorem G.step{m:Bool}{N k w:Nat}{F F':Int}(h:G m N k w F F')(hw:1<=w):G m N k (N+1) (F-1) (F'-1):=by
 unfold G at h⊢
 cases m with
 |true=>simp only[C8]at h⊢;omega
 |false =>
  simp only[Ap,By]at h⊢;rw[g_mul];generalize F'*((N:Int)+1)=P at h⊢;omega
theorem G.weak{m:Bool}{N k w k2 w2:Nat}{F F':Int}(h:G m N k w F F')(hk:k<=k2)(hw:w2<=w):G m N k2 w2 F F':=by
 unfold G at h⊢
 cases m with
 |true=>simp only[C8]at h⊢;omega
 |false=>simp only[Ap,By]at h⊢;omega
theorem G.left{m:Bool}{N k w:Nat}{F F':Int}(h:G m N k (w+1) F F'):G m N k w (F-1) F':=by
 unfold G at h⊢
 cases m with
 |true=>simp only[C8]at h⊢;omega
 |false=>simp only[Ap,By]at h⊢;omega
theorem G.pay{m:Bool}{N k w:Nat}{F F':Int}(h:G m N (k+1) (w+1) F F'):G m N k w (F-1) F':=by
 unfold G at h⊢
 cases m with
 |true=>simp only[C8]at h⊢;omega
 |false=>simp only[Ap,By]at h⊢;omega
theorem G.right{m:Bool}{N k w:Nat}{F F':Int}(h:G m N k w F F'):G m N (k+1) w F (F'-1):=by
 unfold G at h⊢
 cases m with
 |true=>simp only[C8]at h⊢;omega
 |false =>
  simp only[Ap,By]at h⊢;rw[g_mul];generalize F'*((N:Int)+1)=P at h⊢;omega
structure Alike(s s':Rs):Prop where
 l:Live s
 l':Live s'
 ins:s'.ins=s.ins
 ar:s'.ar=s.ar
 out:s'.out=s.out
 code:s'.code=s.code
structure RelR(m:Bool)(N k w c:Nat)(s s':Rs):Prop where
 al:Alike s s'
 g:G m N k w s.fuel s'.fuel
 co:s'.cost<=s.cost+c
structure Halt(m:Bool)(s s':Rs):Prop where
 st:s.st≠0
 st':s'.st=s.st
 sp:s.spent=false
 sp':s'.spent=false
 out:s'.out=s.out
 code:s'.code=s.code
 co:s'.cost<=s.cost
 fu:m=true->s.fuel<=s'.fuel
def Cut(m:Bool)(s s':Rs):Prop:=if m then s.spent=true/\s.st=0/\s.out <+: s'.out else s'.spent=true/\s'.st=0/\s'.out <+: s.out
inductive RR(m:Bool)(N:Nat)(E:ER)(r r':Rres):Prop
 |ok:r'.1.1=r.1.1->E r.1.1 r.1.2 r'.1.2 r.2.1 r'.2.1->RelR m N 0 (N+1) 0 r.2.2 r'.2.2->RR m N E r r'
 |halt:Halt m r.2.2 r'.2.2->RR m N E r r'
 |cut:Cut m r.2.2 r'.2.2->RR m N E r r'
inductive RC(m:Bool)(N:Nat)(q q':Int×Rs):Prop
 |ok:q'.1=q.1->RelR m N 0 (N+1) 0 q.2 q'.2->RC m N q q'
 |halt:Halt m q.2 q'.2->RC m N q q'
 |cut:Cut m q.2 q'.2->RC m N q q'
theorem Halt.over{m:Bool}{s s':Rs}(h:Halt m s s'):z11 s=true/\z11 s'=true:=by
 have h1:=h.st;have h2:=h.st';unfold z11;rw[h2];have:(s.st != 0)=true:=by simpa using h1
 rw[this,Bh,Bh];exact⟨rfl,rfl⟩
section
section
variable {u v:Un} {D:Nat} {B:Int} {m:Bool} {N:Nat}
theorem y3f{k w c:Nat}{E:ER}{s s':Rs}{a:List Int}{r r':Rres}(h:RelR m N k w c s s')(hw:1<=w)(hf:s.fuel<1)(h0:0<=s'.fuel)(ho:s'.out <+: r'.2.2.out)(hr:r=((0,[]),a,gone s)):RR m N E r r':=by
 subst hr
 cases m with
 |true=>exact .cut (by unfold Cut;rw[if_pos rfl];exact⟨rfl,h.al.l.2,by show s.out <+: _;rw[<- h.al.out];exact ho⟩)
 |false =>
  have:=h.g;unfold G at this;simp only[Ap,By]at this;have h2:0<=s'.fuel*((N:Int)+1):=Fz h0 oM0;omega
theorem poor(hB:B<=4611686018427387903){k c:Nat}{I:VR}{l:List Nd}{K:List KF}{l':List Nd}{E:ER}(h:LRel k c I l K l' E) :
 ∀(D:Nat)(a:List Int)(s:Rs)(r:Rres),KRun u D l K a s r->Oks B s->Live s->l≠[]->s.fuel<=k->r.2.2.spent=true/\r.2.2.st=0/\r.2.2.out=s.out:=by
 have G0:∀{s:Rs}{a:List Int}{r:Rres},Live s->r=((0,[]),a,gone s)->r.2.2.spent=true/\r.2.2.st=0/\r.2.2.out=s.out:=λhl e=>by subst e;exact⟨rfl,hl.2,rfl⟩
 have Z:∀{D:Nat}{l:List Nd}{K:List KF}{a:List Int}{s:Rs}{r:Rres},KRun u D l K a s r->Oks B s->Live s->l≠[]->s.fuel<=(0:Nat)->r.2.2.spent=true/\r.2.2.st=0/\r.2.2.out=s.out:=by
  intro D l K a s r hk ho hl hn hf
  cases l with
  |nil=>exact absurd rfl hn
  |cons x l =>
   rcases zx8 hB hk ho hl with⟨_,e⟩|⟨e,_⟩
   ·exact G0 hl e
   ·exact absurd hf (by simp;omega)
 have ne:∀{k c:Nat}{I:VR}{l:List Nd}{K:List KF}{l':List Nd}{E:ER}{f:Int},LRel k c I l K l' E->1<=f->f<=k->l≠[]:=by
  intro k c I l K l' E f h h1 h2 e;have:=LRel.nil h e;subst this;simp at h2;omega
 induction h with
 |dead _=>exact λ_ _ _ _=>Z
 |weak _ _ ih=>exact ih
 |both hx _ _ _ hL ih =>
  intro D a s r hk ho hl hn hf;rcases y81 hB hx hk ho hl with⟨_,e⟩|⟨e,a2,_,h2⟩
  ·exact G0 hl e
  ·have t:=ih _ _ _ _ h2 (zv4 ho e) (y5u (z74 hl)) (ne hL e hf) (by show s.fuel-1<=_;omega)
   exact t
 |skip hx _ hL ih =>
  intro D a s r hk ho hl hn hf;rcases y81 hB hx hk ho hl with⟨_,e⟩|⟨e,a2,_,h2⟩
  ·exact G0 hl e
  ·have t:=ih _ _ _ _ h2 (zv4 ho e) (y5u (z74 hl)) (ne hL e hf) (by show s.fuel-1<=_;omega)
   exact t
 |paid hx _ hne hL ih =>
  intro D a s r hk ho hl hn hf;rcases y81 hB hx hk ho hl with⟨_,e⟩|⟨e,a2,_,h2⟩
  ·exact G0 hl e
  ·have t:=ih _ _ _ _ h2 (zv4 ho e) (y5u (z74 hl)) hne (by show s.fuel-1<=_;omega)
   exact t
 |add _ _ _ _ ih =>
  intro D a s r hk ho hl hn hf
  exact ih _ _ _ _ hk ho hl hn oM0
 |eff=>exact λ_ _ _ _=>Z
 |ite=>exact λ_ _ _ _=>Z
 |ender=>exact λ_ _ _ _=>Z
 |loop hx _ hq _ _ hL _ _ ih _ =>
  intro D a s r hk ho hl hn hf;rcases zx8 hB hk ho hl with⟨_,e⟩|⟨e,d1,p,r1,_,_,h3,h4⟩
  ·exact G0 hl e
  ·have h5:=z61 h3 (by rw[hx];rfl);have ho1:=(z4x ho e).1;obtain⟨d2,v2,q2,r2,rfl,_,g2,g3,g4⟩:=z4m h5;rw[hq]at g2;obtain rfl:=Bx g2;have h6:=ih d2 v2 (dec s) r2 ⟨d2,r2,Ae _,g3,by split<;>rfl⟩ ho1 (z74 hl) (ne hL e hf) (by show s.fuel-1<=_;omega);have hov:z11 r2.2.2=true:=by unfold z11;rw[h6.1];rfl
   rw[hov]at g4
   cases g4
   rcases h4 with⟨_,h4⟩|⟨h4,_⟩|⟨h4,_⟩
   ·subst h4;exact h6
   ·rw[z0t h4]at hov;cases hov
   ·rw[z0t h4]at hov;cases hov
 |once hx hq _ hL ih =>
  intro D a s r hk ho hl hn hf;rcases y8q hB hx hq hk ho hl with⟨_,e⟩|⟨e,p,a2,_,_,h2⟩
  ·exact G0 hl e
  ·have t:=ih _ _ _ _ h2 (z4x ho e).1 (z74 hl) (ne hL e hf) (by show s.fuel-1<=_;omega)
   exact t
 |leave hy hy2 _ hL ih =>
  intro D a s r hk ho hl hn hf;rcases y3w hB hy hy2 hk ho hl with⟨_,e⟩|⟨e,p,a2,_,_,h2⟩
  ·exact G0 hl e
  ·have t:=ih _ _ _ _ h2 (z4x ho e).1 (z74 hl) (ne hL e hf) (by show s.fuel-1<=_;omega)
   exact t
 |fork hx hq hL0 hL1 ih0 ih1 =>
  intro D a s r hk ho hl hn hf;rcases y7w hB hx hq hk ho hl with⟨_,e⟩|⟨e,q,hq',h2⟩
  ·exact G0 hl e
  ·rcases hq' with rfl|rfl
   ·have t:=ih0 _ _ _ _ h2 (z4x ho e).1 (z74 hl) (ne hL0 e hf) (by show s.fuel-1<=_;omega);exact t
   ·have t:=ih1 _ _ _ _ h2 (z4x ho e).1 (z74 hl) (ne hL1 e hf) (by show s.fuel-1<=_;omega);exact t
theorem yz4{k w c:Nat}{I:VR}{l:List Nd}{K:List KF}{l':List Nd}{E:ER}{a b:List Int}{s s':Rs}{r r':Rres}(hB:B<=4611686018427387903)(hL:LRel k c I l K l' E)(hn:l≠[])(hk:KRun u D l K a s r)(ho:Oks B s)
 (h:RelR m N k w c s s') (hf:s'.fuel<1) (hr:r'=((0,[]),b,gone s')):RR m N E r r':=by
 subst hr;refine .cut ?_;unfold Cut
 cases m with
 |true =>
  rw[if_pos rfl];have hg:=h.g;unfold G at hg;simp only[C8]at hg;obtain⟨h1,h2,h3⟩:=poor hB hL _ _ _ _ hk ho h.al.l hn oM0
  exact⟨h1,h2,by rw[h3];show s.out <+: s'.out;rw[h.al.out];exact Ce _⟩
 |false =>
  rw[if_neg dC0];refine⟨rfl,h.al.l'.2,?_⟩;show s'.out <+: _;rw[h.al.out];exact hk.out hB ho
def upd(s:Rs)(ins:List Int)(ar:List (List Int))(st:Int)(out:List Int):Rs:={ bmp s with ins:=ins,ar:=ar,st:=st,out:=out }
theorem j46{d d':Nat}{x x':Nd}{p:List Int}{s s':Rs}{q q':Int×Rs}(hk:x'.kind=x.kind)(hop:x'.op=x.op)(hnm:x'.name=x.name)(h7:x.kind≠7)(hA:v.arrays=u.arrays)
 (hB:B<=4611686018427387903) (ho:Oks B s) (ho':Oks B s') (hal:Alike s s') (h:mSum u d x p s=some q) (h':mSum v d' x' p s'=some q') :
 q'.1=q.1/\∃ins ar st out,q.2=upd s ins ar st out/\q'.2=upd s' ins ar st out:=by
 obtain⟨d,rfl⟩:=z86 h;obtain⟨d',rfl⟩:=z86 h';have e:=zu6 hB ho;have e':=zu6 hB ho';obtain⟨hl,hl',i1,i2,i3,i4⟩:=hal;have U:bmp s=upd s s.ins s.ar s.st s.out:=rfl;have U':bmp s'=upd s' s.ins s.ar s.st s.out:=by unfold upd bmp;rw[<- i1,<- i2,<- i3,hl.2,<- hl'.2]
 have ne:∀{i:Int},x.kind≠i->(x.kind==i)=false:=λh=>A9.2 h;have ne':∀{i:Int},x.kind≠i->(x'.kind==i)=false:=λh=>A9.2 (by rw[hk];exact h)
 by_cases k3:x.kind=3
 ·obtain⟨a0,g1,rfl⟩:=ze3 h (Au.2 k3);obtain⟨a0',g1',rfl⟩:=ze3 h' (Au.2 (hk.trans k3));rw[g1]at g1';cases g1'
  rw[e,e',hop];exact⟨rfl,_,_,_,_,U,U'⟩
 by_cases k4:x.kind=4
 ·obtain⟨a0,a1,g1,g2,rfl⟩:=ze4 h (Au.2 k4);obtain⟨a0',a1',g1',g2',rfl⟩:=ze4 h' (Au.2 (hk.trans k4));rw[g1]at g1';cases g1'
  rw[g2]at g2';cases g2'
  rw[e,e',hop];refine⟨rfl,?_⟩
  cases(mTwo x.op a0 a1).2 with
  |true=>exact⟨_,_,_,_,U,U'⟩
  |false=>exact⟨s.ins,s.ar,2,s.out,rfl,by show({ bmp s' with st:=2 }:Rs)=_;rw[U'];rfl⟩
 have cell:∀(k n:Int)(q q':Bool×Rs),zb7 (bmp s) k n=some q->zb7 (bmp s') k n=some q'->q'.1=q.1/\((q.1=false->q.2=upd s s.ins s.ar 3 s.out/\q'.2=upd s' s.ins s.ar 3 s.out)):=by
  intro k n q q' g g';rw[U']at g';unfold zb7 at g g';have S:({ upd s' s.ins s.ar s.st s.out with st:=3 }:Rs)=upd s' s.ins s.ar 3 s.out:=rfl;split at g
  ·rename_i c1;rw[if_pos c1]at g'
   cases g;cases g'
   exact⟨rfl,λ_=>⟨rfl,S⟩⟩
  ·rename_i c1;rw[if_neg c1]at g';split at g
   ·rename_i c2;rw[if_pos c2]at g';obtain⟨row,r1,r2⟩:=Am.1 g;obtain⟨row',r1',r2'⟩:=Am.1 g';have:s.ar[k.toNat]?=some row:=r1;have h2:s.ar[k.toNat]?=some row':=r1';rw[this]at h2;cases h2
    split at r2
    ·rename_i c3;rw[if_pos c3]at r2'
     cases r2;cases r2'
     exact⟨rfl,λ_=>⟨rfl,S⟩⟩
    ·rename_i c3;rw[if_neg c3]at r2'
     cases r2;cases r2'
     exact⟨rfl,λh=>by cases h⟩
   ·cases g
 by_cases k5:x.kind=5
 ·obtain⟨a0,b,t,g1,g2,g3⟩:=z8p h k5;obtain⟨a0',b',t',g1',g2',g3'⟩:=z8p h' (hk.trans k5);rw[g1]at g1';cases g1'
  rw[e]at g2 g3;rw[e']at g2' g3';rw[hA,hnm]at g2' g3';obtain⟨c1,c2⟩:=cell _ _ _ _ g2 g2';have c1:b'=b:=c1;subst c1;rcases g3 with⟨rfl,rfl⟩|⟨rfl,row,y,h4,h5,rfl⟩
  ·rcases g3' with⟨_,rfl⟩|⟨h0,_⟩
   ·obtain⟨c3,c4⟩:=c2 rfl;exact⟨rfl,_,_,_,_,c3,c4⟩
   ·cases h0
  ·rcases g3' with⟨h0,_⟩|⟨_,row',y',h4',h5',rfl⟩
   ·cases h0
   ·rw[U']at h4';have e1:s.ar[(z0h x.name u.arrays 0).toNat]?=some row:=h4;have e2:s.ar[(z0h x.name u.arrays 0).toNat]?=some row':=h4';rw[e1]at e2;cases e2
    rw[h5]at h5';cases h5'
    exact⟨rfl,_,_,_,_,U,U'⟩
 by_cases k6:x.kind=6
 ·obtain⟨a0,b,t,g1,g2,g3⟩:=z7l h k6;obtain⟨a0',b',t',g1',g2',g3'⟩:=z7l h' (hk.trans k6);rw[g1]at g1';cases g1'
  rw[e]at g2 g3;rw[e']at g2' g3';rw[hA,hnm]at g2' g3';obtain⟨c1,c2⟩:=cell _ _ _ _ g2 g2';have c1:b'=b:=c1;subst c1;rcases g3 with⟨rfl,rfl⟩|⟨rfl,row,y,h4,h5,rfl⟩
  ·rcases g3' with⟨_,rfl⟩|⟨h0,_⟩
   ·obtain⟨c3,c4⟩:=c2 rfl;exact⟨rfl,_,_,_,_,c3,c4⟩
   ·cases h0
  ·rcases g3' with⟨h0,_⟩|⟨_,row',y',h4',h5',rfl⟩
   ·cases h0
   ·rw[U']at h4';have e1:s.ar[(z0h x.name u.arrays 0).toNat]?=some row:=h4;have e2:s.ar[(z0h x.name u.arrays 0).toNat]?=some row':=h4';rw[e1]at e2;cases e2
    rw[h5]at h5';cases h5'
    refine⟨rfl,s.ins,s.ar.set (z0h x.name u.arrays 0).toNat (row.set a0.toNat y),s.st,s.out,rfl,?_⟩;rw[U'];rfl
 by_cases k9:x.kind=9
 ·obtain⟨a0,g1,_,rfl⟩:=z8q h (Au.2 k9);obtain⟨a0',g1',_,rfl⟩:=z8q h' (Au.2 (hk.trans k9));rw[g1]at g1';cases g1'
  rw[e,e',U',i3];exact⟨rfl,s.ins,s.ar,s.st,s.out++[a0],rfl,rfl⟩
 by_cases k8:x.kind=8
 ·have R1:=zc1 h (Au.2 k8);have R2:=zc1 h' (Au.2 (hk.trans k8));rw[e]at R1;rw[e',U',i1]at R2;rcases R1 with⟨c1,rfl⟩|⟨y,z,c1,rfl⟩
  ·rcases R2 with⟨c2,rfl⟩|⟨y',z',c2,rfl⟩
   ·exact⟨rfl,s.ins,s.ar,4,s.out,rfl,rfl⟩
   ·rw[c1]at c2;cases c2
  ·rcases R2 with⟨c2,rfl⟩|⟨y',z',c2,rfl⟩
   ·rw[c1]at c2;cases c2
   ·rw[c1]at c2;cases c2
    exact⟨rfl,z,s.ar,s.st,s.out,rfl,rfl⟩
 ·obtain rfl:=zc0 h (ne k3) (ne k4) (ne k5) (ne k6) (ne h7) (ne k9) (ne k8);obtain rfl:=zc0 h' (ne' k3) (ne' k4) (ne' k5) (ne' k6) (ne' h7) (ne' k9) (ne' k8);rw[e,e'];exact⟨rfl,_,_,_,_,U,U'⟩
end
end
section
def HCall(u v:Un)(D:Nat)(B:Int)(m:Bool)(N:Nat):Prop:=∀e e' k p s s' q q',e<D->z3z u e k p s=some q->z3z v e' k p s'=some q'->Oks B s->Oks B s'->RelR m N 0 (N+1) 0 s s'->RC m N q q'
inductive RN(m:Bool)(N:Nat)(J:VR)(F:Int->Prop)(E:ER)(r r':Rres):Prop
 |go:r.1.1=0->r'.1.1=0->RelR m N 0 (N+1) 0 r.2.2 r'.2.2->J r.2.1 r'.2.1->RN m N J F E r r'
 |fin:r.1.1≠0->r'.1.1=r.1.1->F r.1.1->RelR m N 0 (N+1) 0 r.2.2 r'.2.2->E r.1.1 r.1.2 r'.1.2 r.2.1 r'.2.1->RN m N J F E r r'
 |halt:Halt m r.2.2 r'.2.2->RN m N J F E r r'
 |cut:Cut m r.2.2 r'.2.2->RN m N J F E r r'
theorem z7d{s:Rs}(h:s.spent=true):z11 s=true:=by unfold z11;rw[h];rfl
section
variable {u v:Un} {D:Nat} {B:Int} {m:Bool} {N:Nat}
theorem RelR.weak{k w c k2 w2 c2:Nat}{s s':Rs}(h:RelR m N k w c s s')(hk:k<=k2)(hw:w2<=w)(hc:c<=c2):RelR m N k2 w2 c2 s s':=⟨h.al,h.g.weak hk hw,by have:=h.co;omega⟩
theorem RelR.dec{k w c:Nat}{s s':Rs}(h:RelR m N k w c s s')(hw:1<=w):RelR m N k (N+1) c (dec s) (dec s'):=⟨⟨h.al.l,h.al.l',h.al.ins,h.al.ar,h.al.out,h.al.code⟩,h.g.step hw,h.co⟩
theorem sum_sim(hB:B<=4611686018427387903)(hA:v.arrays=u.arrays)(hP:∀name,z05 name v.flows 0=z05 name u.flows 0)(HC:HCall u v D B m N){d d':Nat}(hd:d<=D){x x':Nd}{p:List Int}{s s':Rs}{q q':Int×Rs}
 (hk:x'.kind=x.kind) (hop:x'.op=x.op) (hnm:x'.name=x.name) (h:mSum u d x p s=some q) (h':mSum v d' x' p s'=some q') (ho:Oks B s) (ho':Oks B s') (ho1:s.cost+s.fuel+1<=B) (ho1':s'.cost+s'.fuel+1<=B)
 (hr:RelR m N 0 (N+1) 0 s s'):RC m N q q':=by
 by_cases k7:x.kind=7
 ·obtain⟨d,rfl⟩:=z86 h;obtain⟨d',rfl⟩:=z86 h';have g:=zb9 h (Au.2 k7);have g':=zb9 h' (Au.2 (hk.trans k7));rw[zu6 hB ho]at g;rw[zu6 hB ho',hnm,hP]at g';have hb:∀{s:Rs},Oks B s->s.cost+s.fuel+1<=B->Oks B (bmp s):=λ{s} ho ho1=>⟨ho.1,by have:=ho.2.1;show 0<=s.cost+1;omega,by show s.cost+1+s.fuel<=B;omega⟩;refine HC _ _ _ _ _ _ _ _ oM0 g g' (hb ho ho1) (hb ho' ho1') ⟨⟨hr.al.l,hr.al.l',hr.al.ins,hr.al.ar,hr.al.out,hr.al.code⟩,hr.g,?_⟩;have:=hr.co;show s'.cost+1<=s.cost+1+(0:Nat);omega
 ·obtain⟨h1,ins,ar,st,out,h2,h3⟩:=j46 hk hop hnm k7 hA hB ho ho' hr.al h h';have hco:q'.2.cost<=q.2.cost:=by rw[h2,h3];have:=hr.co;show s'.cost+1<=s.cost+1;omega
  by_cases hst:st=0
  ·subst hst;refine .ok h1 ⟨?_,?_,by simpa using hco⟩
   ·rw[h2,h3];exact⟨⟨hr.al.l.1,rfl⟩,⟨hr.al.l'.1,rfl⟩,rfl,rfl,rfl,hr.al.code⟩
   ·rw[h2,h3];exact hr.g
  ·refine .halt ⟨by rw[h2];exact hst,by rw[h2,h3];rfl,by rw[h2];exact hr.al.l.1,by rw[h3];exact hr.al.l'.1,by rw[h2,h3];rfl,by rw[h2,h3];exact hr.al.code,hco,λhm=>?_⟩;have:=hr.g;unfold G at this;rw[if_pos hm]at this;rw[h2,h3];show s.fuel<=s'.fuel;simpa using this
theorem zm6{l:List Nd}{K:List KF}{r1 r:Rres}(h:KNext u D l K r1 r)(ho:z11 r1.2.2=true):r=r1:=by
 rcases h with⟨_,h⟩|⟨h,_⟩|⟨h,_⟩
 ·exact h
 ·rw[z0t h]at ho;cases ho
 ·rw[z0t h]at ho;cases ho
theorem y5w(hB:B<=4611686018427387903){D':Nat}{J:VR}{F:Int->Prop}{E:ER}{l l':List Nd}{K:List KF}{r1 r1' r r':Rres}(h:KNext u D l K r1 r)(h':KNext v D' l' [] r1' r')(ho:Oks B r1.2.2)(ho':Oks B r1'.2.2)
 (hR:RN m N J F E r1 r1') (hF:∀n,F n->K=[]∨n=15) (hN:lsz l+ksz K<=N)
 (ih:∀(D':Nat)(a b:List Int)(s s':Rs)(r r':Rres),KRun u D l K a s r->KRun v D' l' [] b s' r'->Oks B s->Oks B s'->RelR m N 0 (lsz l+ksz K) 0 s s'->lsz l+ksz K<=N->J a b->RR m N E r r'):RR m N E r r':=by
 cases hR with
 |go e e' hr hJ =>
  rcases h with⟨h,_⟩|⟨_,h,_⟩|⟨_,_,h⟩
  ·rw[z0t hr.al.l]at h;cases h
  ·exact absurd e h
  ·rcases h' with⟨h',_⟩|⟨_,h',_⟩|⟨_,_,h'⟩
   ·rw[z0t hr.al.l']at h';cases h'
   ·exact absurd e' h'
   ·exact ih _ _ _ _ _ _ _ h h' ho ho' (hr.weak (Ae _) oM0 (Ae _)) hN hJ
 |fin e e' hf hr hE =>
  rcases h with⟨h,_⟩|⟨_,_,h⟩|⟨_,h,_⟩
  ·rw[z0t hr.al.l]at h;cases h
  ·rcases h' with⟨h',_⟩|⟨_,_,h'⟩|⟨_,h',_⟩
   ·rw[z0t hr.al.l']at h';cases h'
   ·obtain rfl:r'=r1':=h';have hr1:r=r1:=by
     rcases hF _ hf with rfl|k15
     ·exact h
     ·cases K with
      |nil=>exact h
      |cons f K=>unfold KFin at h;rw[if_pos k15]at h;exact h
    subst hr1;exact .ok e' hE hr
   ·exact absurd (e'.symm.trans h') e
  ·exact absurd h e
 |halt hh =>
  obtain⟨o1,o2⟩:=hh.over;rw[zm6 h o1,zm6 h' o2]
  exact .halt hh
 |cut hc =>
  refine .cut ?_;unfold Cut at hc⊢
  cases m with
  |true =>
   simp only[C8]at hc⊢;rw[zm6 h (z7d hc.1)]
   exact⟨hc.1,hc.2.1,hc.2.2.trans (h'.out hB ho')⟩
  |false =>
   simp only[Ap,By]at hc⊢;rw[zm6 h' (z7d hc.1)];exact⟨hc.1,hc.2.1,hc.2.2.trans (h.out hB ho)⟩
theorem y8y(hB:B<=4611686018427387903){d:Nat}{x:Nd}{r1 r:Rres}(ho:Oks B r1.2.2)
 (h:(if z11 r1.2.2||r1.1.1==15 then some r1 else if r1.1.1==14 then(mSet r1.2.1 x.outs r1.1.2).map λv=>((0,[]),v,r1.2.2)else z3j u d x r1.2.1 r1.1.2 r1.2.2)=some r):r1.2.2.out <+: r.2.2.out/\(z11 r1.2.2=true->r=r1):=by
 split at h
 ·cases h;exact⟨Ce _,λ_=>rfl⟩
 ·rename_i hn;refine⟨?_,λho=>absurd (by rw[ho];rfl) hn⟩;split at h
  ·obtain⟨v3,_,rfl⟩:=A5.1 h;exact Ce _
  ·exact(zk4 hB h ho).out
theorem ym0(hB:B<=4611686018427387903){k c:Nat}{I2 J:VR}{E E2:ER}{x x':Nd}{q q':List Nd}(hq:x.kids=[q])(hq':x'.kids=[q'])(hN:lsz q<=N)
 (ih:∀(D':Nat)(a b:List Int)(s s':Rs)(r r':Rres),KRun u D q [] a s r->KRun v D' q' [] b s' r'->Oks B s->Oks B s'->RelR m N k (lsz q+ksz []) c s s'->lsz q+ksz []<=N->I2 a b->RR m N E2 r r')
 (hE:∀n p p' a b,E2 n p p' a b->(n=15/\E 15 p p' a b)∨(n=14/\∀a2 b2,mSet a x.outs p=some a2->mSet b x'.outs p'=some b2->J a2 b2)∨(n=13/\∀a2 b2,mSet a x.params p=some a2->mSet b x'.params p'=some b2->I2 a2 b2)) :
 ∀(d d':Nat)(a b p p':List Int)(s s':Rs)(r r':Rres),d<=D->z3j u d x a p s=some r->z3j v d' x' b p' s'=some r'->Oks B s->Oks B s'->RelR m N k (lsz q) c s s' ->
  (∀a2 b2,mSet a x.params p=some a2->mSet b x'.params p'=some b2->I2 a2 b2)->RN m N J (λn=>n=15) E r r'
 |0,_,_,_,_,_,_,_,_,_,_,h,_,_,_,_,_=>by simp[z3j]at h
 |d+1,d',a,b,p,p',s,s',r,r',hd,h,h',ho,ho',hr,hI=>by
  obtain⟨d1,v2,q2,r1,e,g1,g2,g3,g4⟩:=z4m h;obtain⟨d1',v2',q2',r1',e',g1',g2',g3',g4'⟩:=z4m h';obtain rfl:d1=d:=by omega
  rw[hq]at g2;rw[hq']at g2';obtain rfl:=Bx g2;obtain rfl:=Bx g2';have R:=ih d1' v2 v2' s s' r1 r1' ⟨d1,r1,by omega,g3,by split<;>rfl⟩ ⟨d1',r1',Ae _,g3',by split<;>rfl⟩ ho ho' hr hN (hI _ _ g1 g1');have o1:=(z84 hB g3 ho).ok;have o1':=(z84 hB g3' ho').ok;have W:=y8y hB o1 g4;have W':=y8y hB o1' g4'
  cases R with
  |halt hh =>
   obtain⟨t1,t2⟩:=hh.over;rw[W.2 t1,W'.2 t2]
   exact .halt hh
  |cut hc =>
   refine .cut ?_;unfold Cut at hc⊢
   cases m with
   |true =>
    simp only[C8]at hc⊢;rw[W.2 (z7d hc.1)]
    exact⟨hc.1,hc.2.1,hc.2.2.trans W'.1⟩
   |false =>
    simp only[Ap,By]at hc⊢;rw[W'.2 (z7d hc.1)]
    exact⟨hc.1,hc.2.1,hc.2.2.trans W.1⟩
  |ok ek eE hr2 =>
   rw[z0t hr2.al.l]at g4;rw[z0t hr2.al.l',ek]at g4';obtain⟨⟨n,pp⟩,va,sa⟩:=r1;obtain⟨⟨n',pp'⟩,vb,sb⟩:=r1';obtain rfl:n'=n:=ek;rcases hE _ _ _ _ _ eE with⟨rfl,h15⟩|⟨rfl,h14⟩|⟨rfl,h13⟩
   ·cases g4;cases g4'
    exact .fin (show(15:Int)≠0 by decide) rfl rfl hr2 h15
   ·obtain⟨w,g5,rfl⟩:=A5.1 g4;obtain⟨w',g5',rfl⟩:=A5.1 g4';exact .go rfl rfl hr2 (h14 _ _ g5 g5')
   ·exact ym0 hB hq hq' hN ih hE d1 d1' va vb pp pp' sa sb r r' oM0 g4 g4' o1 o1' (hr2.weak (Ad _) oM0 (Ad _)) h13
end
end
section
section
variable {u v:Un} {D:Nat} {B:Int} {m:Bool} {N:Nat}
theorem zc3(x:Nd):1<=nsz x:=by rw[y45];omega
theorem j3q{x:Nd}{q:Int×Rs}{a:List Int}{r1:Rres}(hl:Live q.2)
 (h:(if !z11 q.2&&decide (0<x.outs.length)then(x.outs[0]?).bind λo=>(setV a o q.1).map λv'=>((0,[]),v',q.2)else some ((0,[]),a,q.2))=some r1):∃a2,setO x.outs a q.1 a2/\r1=((0,[]),a2,q.2):=by
 rw[z0t hl]at h
 cases ho:x.outs with
 |nil=>rw[ho]at h;cases h;exact⟨a,rfl,rfl⟩
 |cons o os =>
  rw[ho]at h;simp only[E4,B0,A1,Nat.zero_lt_succ,decide_true,C8,Cr,Bo,A5]at h;obtain⟨a2,h1,rfl⟩:=h;exact⟨a2,h1,rfl⟩
theorem y8d{x:Nd}{q:Int×Rs}{a:List Int}{r1:Rres}
 (h:(if !z11 q.2&&decide (0<x.outs.length)then(x.outs[0]?).bind λo=>(setV a o q.1).map λv'=>((0,[]),v',q.2)else some ((0,[]),a,q.2))=some r1):r1.2.2=q.2:=by
 split at h
 ·simp only[Am,A5]at h;obtain⟨o,_,v',_,rfl⟩:=h;rfl
 ·cases h;rfl
theorem sound(hB:B<=4611686018427387903)(hA:v.arrays=u.arrays)(hP:∀name,z05 name v.flows 0=z05 name u.flows 0)(HC:HCall u v D B m N)
 {k c:Nat} {I:VR} {l:List Nd} {K:List KF} {l':List Nd} {E:ER} (h:LRel k c I l K l' E) :
 ∀(D':Nat)(a b:List Int)(s s':Rs)(r r':Rres),KRun u D l K a s r->KRun v D' l' [] b s' r'->Oks B s->Oks B s'->RelR m N k (lsz l+ksz K) c s s'->lsz l+ksz K<=N->I a b->RR m N E r r':=by
 induction h with
 |dead hd=>intro D' a b s s' r r' h h' ho ho' hr hN hI;exact absurd hI (hd a b)
 |weak hw _ ih=>intro D' a b s s' r r' h h' ho ho' hr hN hI;exact ih D' a b s s' r r' h h' ho ho' hr hN (hw a b hI)
 |@both k c I J x x' l K l' E hx hx' hcc hJ hL ih =>
  intro D' a b s s' r r' h h' ho ho' hr hN hI;have hs:=zc3 x;have ez:lsz (x::l)=nsz x+lsz l:=rfl;rcases y81 hB hx h ho hr.al.l with⟨hf,e⟩|⟨hf,a2,ha,hk⟩
  ·exact y3f hr oM0 hf ho'.1 (h'.out hB ho') e
  rcases y81 hB hx' h' ho' hr.al.l' with⟨hf',e'⟩|⟨hf',b2,hb,hk'⟩
  ·exact yz4 hB (LRel.both hx hx' hcc hJ hL) (Eh _ _) h ho hr hf' e'
  have h2:=hr.dec oM0;refine ih D' a2 b2 _ _ r r' hk hk' (zv4 ho hf) (zv4 ho' hf') ⟨⟨h2.al.l,h2.al.l',h2.al.ins,h2.al.ar,h2.al.out,h2.al.code⟩,h2.g.weak (Ae _) oM0,?_⟩ oM0 (hJ _ _ _ _ hI ha hb);have:=hr.co
  show s'.cost+(hc x':Int)<=s.cost+(hc x:Int)+(c:Int);omega
 |@skip k c I J x l K l' E hx hJ hL ih =>
  intro D' a b s s' r r' h h' ho ho' hr hN hI;have hs:=zc3 x;have ez:lsz (x::l)=nsz x+lsz l:=rfl;rcases y81 hB hx h ho hr.al.l with⟨hf,e⟩|⟨hf,a2,ha,hk⟩
  ·exact y3f hr oM0 hf ho'.1 (h'.out hB ho') e
  refine ih D' a2 b _ _ r r' hk h' (zv4 ho hf) ho' ⟨⟨hr.al.l,hr.al.l',hr.al.ins,hr.al.ar,hr.al.out,hr.al.code⟩,(hr.g.weak (Ae _) (w2:=lsz l+ksz K+1) oM0).left,?_⟩ oM0 (hJ _ _ _ hI ha);have:=hr.co
  show s'.cost<=s.cost+(hc x:Int)+(c:Int);omega
 |@paid k c I J x l K l' E hx hJ hne hL ih =>
  intro D' a b s s' r r' h h' ho ho' hr hN hI;have hs:=zc3 x;have ez:lsz (x::l)=nsz x+lsz l:=rfl;rcases y81 hB hx h ho hr.al.l with⟨hf,e⟩|⟨hf,a2,ha,hk⟩
  ·exact y3f hr oM0 hf ho'.1 (h'.out hB ho') e
  refine ih D' a2 b _ _ r r' hk h' (zv4 ho hf) ho' ⟨⟨hr.al.l,hr.al.l',hr.al.ins,hr.al.ar,hr.al.out,hr.al.code⟩,(hr.g.weak (Ae _) (w2:=lsz l+ksz K+1) oM0).pay,?_⟩ oM0 (hJ _ _ _ hI ha);have:=hr.co
  show s'.cost<=s.cost+(hc x:Int)+(c:Int);omega
 |@add k c I J x' l K l' E hx' hne hJ hL ih =>
  intro D' a b s s' r r' h h' ho ho' hr hN hI;rcases y81 hB hx' h' ho' hr.al.l' with⟨hf',e'⟩|⟨hf',b2,hb,hk'⟩
  ·exact yz4 hB (LRel.add hx' hne hJ hL) hne h ho hr hf' e'
  refine ih D' a b2 _ _ r r' h hk' ho (zv4 ho' hf') ⟨⟨hr.al.l,hr.al.l',hr.al.ins,hr.al.ar,hr.al.out,hr.al.code⟩,hr.g.right,?_⟩ hN (hJ _ _ _ hI hb);have:=hr.co
  show s'.cost+(hc x':Int)<=s.cost+((c+hc x':Nat):Int);omega
 |@eff I J x x' l K l' E hk hkk hop hnm hlen hp hJ hL ih =>
  intro D' a b s s' r r' h h' ho ho' hr hN hI;have hs:=zc3 x;have ez:lsz (x::l)=nsz x+lsz l:=rfl;rcases zx8 hB h ho hr.al.l with⟨hf,e⟩|⟨hf,d1,p,r1,hd,g1,g2,g3⟩
  ·exact y3f hr oM0 hf ho'.1 (h'.out hB ho') e
  rcases zx8 hB h' ho' hr.al.l' with⟨hf',e'⟩|⟨hf',d1',p',r1',hd',g1',g2',g3'⟩
  ·exact yz4 hB (LRel.eff hk hkk hop hnm hlen hp hJ hL) (Eh _ _) h ho hr hf' e'
  obtain⟨k1,k2,k10,k11,k12,k13,k14,k15⟩:=hk;have ne:∀{i:Int},x.kind≠i->(x.kind==i)=false:=λh=>A9.2 h;have ne':∀{i:Int},x.kind≠i->(x'.kind==i)=false:=λh=>A9.2 (by rw[hkk];exact h);obtain⟨q,t1,t2⟩:=z7j g2 (by rw[ne k1,ne k2];rfl) (by rw[ne k12,ne k13,ne k14,ne k15];rfl) (ne k10) (ne k11);obtain⟨q',t1',t2'⟩:=z7j g2' (by rw[ne' k1,ne' k2];rfl) (by rw[ne' k12,ne' k13,ne' k14,ne' k15];rfl) (ne' k10) (ne' k11);have hpp:=hp _ _ _ _ hI g1 g1';subst hpp;have h2:=hr.dec oM0;obtain⟨o1,o2⟩:=z4x ho hf;obtain⟨o1',o2'⟩:=z4x ho' hf';have e1:r1.2.2=q.2:=y8d t2;have e1':r1'.2.2=q'.2:=y8d t2';have R:RN m N J (λn=>K=[]∨n=15) E r1 r1':=by
   cases sum_sim hB hA hP HC oM0 hkk hop hnm t1 t1' o1 o1' o2 o2' h2 with
   |ok hv hrel =>
    obtain⟨a2,s1,rfl⟩:=j3q hrel.al.l t2;obtain⟨b2,s2,rfl⟩:=j3q hrel.al.l' t2';rw[hv]at s2
    exact .go rfl rfl hrel (hJ _ _ _ _ _ hI s1 s2)
   |halt hh=>exact .halt (by rw[e1,e1'];exact hh)
   |cut hh=>exact .cut (by rw[e1,e1'];exact hh)
  exact y5w hB g3 g3' (by rw[e1];exact(yb8 hB t1 o1 o2).ok) (by rw[e1'];exact(yb8 hB t1' o1' o2').ok) R (λ_ h=>h) oM0 ih
 |@ite I J E2 x x' q0 q1 q0' q1' l K l' E hk hk' hq hq' hp hL0 hL1 hE hL ih0 ih1 ih =>
  intro D' a b s s' r r' h h' ho ho' hr hN hI;have hs:=zc3 x;have ez:lsz (x::l)=nsz x+lsz l:=rfl;have ezx:nsz x=1+(lsz q0+(lsz q1+0)):=by rw[y45,hq];rfl
  rcases zx8 hB h ho hr.al.l with⟨hf,e⟩|⟨hf,d1,p,r1,hd,g1,g2,g3⟩
  ·exact y3f hr oM0 hf ho'.1 (h'.out hB ho') e
  rcases zx8 hB h' ho' hr.al.l' with⟨hf',e'⟩|⟨hf',d1',p',r1',hd',g1',g2',g3'⟩
  ·exact yz4 hB (LRel.ite hk hk' hq hq' hp hL0 hL1 hE hL) (Eh _ _) h ho hr hf' e'
  have hpp:=hp _ _ _ _ hI g1 g1';obtain⟨a0,q,r2,t1,t2,t3,t4⟩:=ze2 g2 (by rw[hk];rfl);obtain⟨a0',q',r2',t1',t2',t3',t4'⟩:=ze2 g2' (by rw[hk'];rfl);rw[t1,t1']at hpp;obtain rfl:=Bx hpp;have h2:=hr.dec oM0;obtain⟨o1,o2⟩:=z4x ho hf;obtain⟨o1',o2'⟩:=z4x ho' hf';have R2:RR m N E2 r2 r2':=by
   rw[hq]at t2;rw[hq']at t2'
   by_cases c0:(a0' != 0)=true
   ·rw[if_pos c0]at t2 t2';obtain rfl:q0=q:=by simpa using t2
    obtain rfl:q0'=q':=by simpa using t2'
    exact ih0 d1' a b _ _ r2 r2' ⟨d1,r2,by omega,t3,by split<;>rfl⟩ ⟨d1',r2',Ae _,t3',by split<;>rfl⟩ o1 o1' (h2.weak (Ae _) (by simp[ksz];omega) (Ae _)) (by simp[ksz];omega) hI
   ·rw[if_neg c0]at t2 t2';obtain rfl:q1=q:=by simpa using t2
    obtain rfl:q1'=q':=by simpa using t2'
    exact ih1 d1' a b _ _ r2 r2' ⟨d1,r2,by omega,t3,by split<;>rfl⟩ ⟨d1',r2',Ae _,t3',by split<;>rfl⟩ o1 o1' (h2.weak (Ae _) (by simp[ksz];omega) (Ae _)) (by simp[ksz];omega) hI
  have x1:=(z84 hB t3 o1).ok;have x1':=(z84 hB t3' o1').ok;have SS:∀{x:Nd}{r2 r1:Rres},(if !z11 r2.2.2&&r2.1.1==12 then(mSet r2.2.1 x.outs r2.1.2).map λv'=>(((0,[]),v',r2.2.2):Rres)else some r2)=some r1->r1.2.2=r2.2.2:=by
   intro x r2 r1 h;split at h
   ·obtain⟨w,_,rfl⟩:=A5.1 h;rfl
   ·cases h;rfl
  have e1:=SS t4;have e1':=SS t4';have R:RN m N J (λn=>K=[]∨n=15) E r1 r1':=by
   cases R2 with
   |halt hh=>exact .halt (by rw[e1,e1'];exact hh)
   |cut hh=>exact .cut (by rw[e1,e1'];exact hh)
   |ok ek eE hr2 =>
    rw[z0t hr2.al.l]at t4;rw[z0t hr2.al.l',ek]at t4';obtain⟨⟨n,pp⟩,va,sa⟩:=r2;obtain⟨⟨n',pp'⟩,vb,sb⟩:=r2';obtain rfl:n'=n:=ek;rcases hE _ _ _ _ _ eE with⟨rfl,h12⟩|⟨n12,n0,hKn,hEE⟩
    ·obtain⟨w,g5,rfl⟩:=A5.1 t4;obtain⟨w',g5',rfl⟩:=A5.1 t4';exact .go rfl rfl hr2 (h12 _ _ g5 g5')
    ·have c:(!false&&n'==12)=false:=by simpa using n12
     simp only[c]at t4 t4'
     cases t4;cases t4'
     exact .fin n0 rfl hKn hr2 hEE
  exact y5w hB g3 g3' (by rw[e1];exact x1) (by rw[e1'];exact x1') R (λ_ h=>h) oM0 ih
 |@loop k c I I2 J E2 x x' q q' l K l' E hk hk' hq hq' hI2 hL2 hE hL ih2 ih =>
  intro D' a b s s' r r' h h' ho ho' hr hN hI;have hs:=zc3 x;have ez:lsz (x::l)=nsz x+lsz l:=rfl;have ezx:nsz x=1+(lsz q+0):=by rw[y45,hq];rfl
  rcases zx8 hB h ho hr.al.l with⟨hf,e⟩|⟨hf,d1,p,r1,hd,g1,g2,g3⟩
  ·exact y3f hr oM0 hf ho'.1 (h'.out hB ho') e
  rcases zx8 hB h' ho' hr.al.l' with⟨hf',e'⟩|⟨hf',d1',p',r1',hd',g1',g2',g3'⟩
  ·exact yz4 hB (LRel.loop hk hk' hq hq' hI2 hL2 hE hL) (Eh _ _) h ho hr hf' e'
  have t:=z61 g2 (by rw[hk];rfl);have t':=z61 g2' (by rw[hk'];rfl);have h2:=hr.dec oM0;obtain⟨o1,_⟩:=z4x ho hf;obtain⟨o1',_⟩:=z4x ho' hf';have R:=ym0 hB hq hq' oM0 ih2 hE d1 d1' a b p p' _ _ r1 r1' oM0 t t' o1 o1' (h2.weak (Ae _) oM0 (Ae _)) λa2 b2=>hI2 a b p p' a2 b2 hI g1 g1'
  exact y5w hB g3 g3' (zk4 hB t o1).ok (zk4 hB t' o1').ok R (λn hn=>.inr hn) oM0 ih
 |@ender I x x' l K l' E h1 h2 hkk hKn hE =>
  intro D' a b s s' r r' h h' ho ho' hr hN hI;have hs:=zc3 x;have ez:lsz (x::l)=nsz x+lsz l:=rfl;rcases zq8 hB h1 h2 h ho hr.al.l with⟨hf,e⟩|⟨hf,p,g1,g2⟩
  ·exact y3f hr oM0 hf ho'.1 (h'.out hB ho') e
  rcases zq8 hB (by rw[hkk];exact h1) (by rw[hkk];exact h2) h' ho' hr.al.l' with⟨hf',e'⟩|⟨hf',p',g1',g2'⟩
  ·exact yz4 (l':=x'::l') hB (LRel.ender h1 h2 hkk hKn hE) (Eh _ _) h ho hr hf' e'
  obtain rfl:r'=((x'.kind,p'),b,dec s'):=g2';obtain rfl:r=((x.kind,p),a,dec s):=by
   rcases hKn with rfl|k15
   ·exact g2
   ·cases K with
    |nil=>exact g2
    |cons f K=>unfold KFin at g2;rw[show(((x.kind,p),a,dec s):Rres).1.1=15 from k15,if_pos rfl]at g2;exact g2
  exact .ok hkk (hE _ _ _ _ hI g1 g1') (hr.dec oM0)
 |@once k c I J x q l K l' E hk hq hJ hL ih =>
  intro D' a b s s' r r' h h' ho ho' hr hN hI;have ez:lsz (x::l)=nsz x+lsz l:=rfl;have ezx:nsz x=1+(lsz q+0):=by rw[y45,hq];rfl
  have ek:ksz (⟨14,x.outs,l⟩::K)=lsz l+ksz K:=rfl;rcases y8q hB hk hq h ho hr.al.l with⟨hf,e⟩|⟨hf,p,a2,g1,g2,g3⟩
  ·exact y3f hr oM0 hf ho'.1 (h'.out hB ho') e
  exact ih D' a2 b _ _ r r' g3 h' (z4x ho hf).1 ho' ⟨⟨hr.al.l,hr.al.l',hr.al.ins,hr.al.ar,hr.al.out,hr.al.code⟩,(hr.g.weak (Ae _) (w2:=lsz q+(lsz l+ksz K)+1) oM0).left,hr.co⟩ oM0 (hJ _ _ _ _ hI g1 g2)
 |@leave k c I J y l f K l' E hk hk2 hJ hL ih =>
  intro D' a b s s' r r' h h' ho ho' hr hN hI;have hs:=zc3 y;have ez:lsz (y::l)=nsz y+lsz l:=rfl;have ek:ksz (f::K)=lsz f.rest+ksz K:=rfl;rcases y3w hB hk hk2 h ho hr.al.l with⟨hf,e⟩|⟨hf,p,a2,g1,g2,g3⟩
  ·exact y3f hr oM0 hf ho'.1 (h'.out hB ho') e
  exact ih D' a2 b _ _ r r' g3 h' (z4x ho hf).1 ho' ⟨⟨hr.al.l,hr.al.l',hr.al.ins,hr.al.ar,hr.al.out,hr.al.code⟩,(hr.g.weak (Ae _) (w2:=lsz f.rest+ksz K+1) oM0).left,hr.co⟩ oM0 (hJ _ _ _ _ hI g1 g2)
 |@fork k c I x q0 q1 l K l' E hk hq hL0 hL1 ih0 ih1 =>
  intro D' a b s s' r r' h h' ho ho' hr hN hI;have ez:lsz (x::l)=nsz x+lsz l:=rfl;have ezx:nsz x=1+(lsz q0+(lsz q1+0)):=by rw[y45,hq];rfl
  have ek:ksz (⟨12,x.outs,l⟩::K)=lsz l+ksz K:=rfl;rcases y7w hB hk hq h ho hr.al.l with⟨hf,e⟩|⟨hf,q,hq',g3⟩
  ·exact y3f hr oM0 hf ho'.1 (h'.out hB ho') e
  rcases hq' with rfl|rfl
  ·exact ih0 D' a b _ _ r r' g3 h' (z4x ho hf).1 ho' ⟨⟨hr.al.l,hr.al.l',hr.al.ins,hr.al.ar,hr.al.out,hr.al.code⟩,(hr.g.weak (Ae _) (w2:=lsz q+(lsz l+ksz K)+1) oM0).left,hr.co⟩ oM0 hI
  ·exact ih1 D' a b _ _ r r' g3 h' (z4x ho hf).1 ho' ⟨⟨hr.al.l,hr.al.l',hr.al.ins,hr.al.ar,hr.al.out,hr.al.code⟩,(hr.g.weak (Ae _) (w2:=lsz q+(lsz l+ksz K)+1) oM0).left,hr.co⟩ oM0 hI
def EF:ER:=λ_ p p' _ _=>p'.headD 0=p.headD 0
def FRel(N:Nat)(f g:Fl):Prop:=g.types.length=f.types.length/\lsz f.body<=N/\LRel 0 0 (λa b=>a=b/\a.length=f.types.length) f.body [] g.body EF
theorem y7n(hB:B<=4611686018427387903)(hA:v.arrays=u.arrays)(hP:∀name,z05 name v.flows 0=z05 name u.flows 0)
 (hF:∀(i:Nat) f g,u.flows[i]?=some f->v.flows[i]?=some g->FRel N f g):∀D,HCall u v D B m N
 |0=>λe _ _ _ _ _ _ _ h=>absurd h (Aj e)
 |D+1=>by
  intro e e' k p s s' q q' he h h' ho ho' hr;have HC:=y7n hB hA hP hF D;obtain⟨d1,f,r1,rfl,hk,hf,hl1,_,h1,rfl⟩:=z60 h;obtain⟨d1',g,r1',rfl,_,hg,hl1',_,h1',rfl⟩:=z60 h';obtain⟨ht,hsz,hL⟩:=hF _ _ _ hf hg;have R:=sound hB hA hP HC hL d1' _ _ s s' r1 r1' ⟨d1,r1,by omega,h1,by split<;>rfl⟩ ⟨d1',r1',Ae _,h1',by split<;>rfl⟩ ho ho' (hr.weak (Ae _) (by simp[ksz];omega) (Ae _)) (by simp[ksz];omega) ⟨by rw[ht],by simp;omega⟩
  cases R with
  |ok ek eE hr2 =>
   refine .ok ?_ hr2;rw[z0t hr2.al.l,z0t hr2.al.l']
   exact eE
  |halt hh=>exact .halt hh
  |cut hc=>exact .cut hc
end
end
section
variable {P:Program} {c:Cx} {R1:Nat->Prop} {o:Oper} {fr:Fr} {σ:Heap'}
def y5d(ns:List Int):ByteArray:=ns.foldl (λr n=>r.push (UInt8.ofNat n.toNat)) ByteArray.empty
def y08:List (List PV)->Option (List Int)
 |[]=>some []
 |[.val (.int .u8 n)]::r=>match y08 r with
  |some l=>some (n::l)
  |none=>none
 |_=>none
theorem yr8:∀{els:List (List PV)} {ns:List Int},y08 els=some ns->els=ns.map λn=>[.val (.int .u8 n)]:=by
 intro els
 induction els with
 |nil=>intro ns h;cases h;rfl
 |cons x r ih =>
  intro ns h;unfold y08 at h;split at h
  ·rename_i h1;cases h1
  ·rename_i n r' h1
   cases h1
   split at h
   ·rename_i l hl
    cases h
    rw[ih hl];rfl
   ·cases h
  ·cases h
theorem yd5{s t e:TypeId}{x:Operand}{els:List (List PV)}{ns:List Int}(ho:o.op=.convert s t x)(hx:fr.ev x=some (.pv (.seq els)))(hn:y08 els=some ns)
 (hs:P.underlying s=some (.slice e)) (he:P.underlying e=some (.int .u8)) (hd:P.underlying t=some .string):OkV P c R1 o fr σ (.pv (.val (.string (y5d ns)))):=by
 have hels:=yr8 hn;refine λρ w a h=>?_;have hr:=(h.ev hx).inv_seq;generalize hv:a.eval x=v at hr
 cases hr with
 |seq _ ad cap b off u ha hb hl hm hc hrp =>
  refine⟨.string (y5d ns),λw2 h2=>?_,z3k _⟩;have hlen:els.length=(ns.map (Value.int .u8)).length:=by rw[hels];simp
  simp only[execOp,ho,hv,Ai];rw[run_convert_bytes_string w2 s t e ad els.length cap hs he hd]
  cases ad with
  |none =>
   have h0:els=[]:=Bu λhne=>by cases ha hne
   have hn0:ns=[]:=by rw[h0]at hels;cases ns with|nil=>rfl|cons _ _=>cases hels
   subst hn0
   rfl
  |some ad =>
   have hload:(loadCells ad els.length).run P w2=.ok (ns.map (Value.int .u8)).toArray w2:=by
    rw[hlen];refine run_loadCells_list w2 ad _ λj v hj=>?_;rw[Ba]at hj;obtain⟨n,hn1,rfl⟩:=A5.1 hj;have hej:els[j]?=some [.val (.int .u8 n)]:=by rw[hels,Ba,hn1];rfl
    have hne:els≠[]:=λe=>by rw[e]at hej;cases hej
    have hc2:=hc j _ hej 0 _ rfl;have hr2:=hrp j _ hej 0 _ rfl;have hu:u j 0=.int .u8 n:=by
     generalize u j 0=q at hr2
     cases hr2
     rfl
    rw[hu]at hc2
    cases ha hne
    have hcell:=(Di (a:=⟨b,off+j*1+0,none⟩) (h2 b (hb hne).2 (.inl (hb hne).1))).trans hc2;rw[show(⟨b,off,none⟩:Addr).add j=⟨b,off+j,none⟩ by cases j<;>simp[Addr.add]];simpa using hcell
   rw[run_bytesToString w2 ad els.length cap ns hload];rfl
end
section
variable {P:Program} {c:Cx} {fr:Fr} {hp:Hp} {Q:Exit->Fr->Heap'->Prop}
theorem ok_max{R1:Nat->Prop}{o:Oper}{σ:Heap'}{t:TypeId}{x y:Operand}{k:IntKind}{m n:Int}(ho:o.op=.call { callee:=.builtin .max,args:=#[x,y],argTypes:=#[t,t] })(hx:fr.ev x=some (.pv (.val (.int k m))))(hy:fr.ev y=some (.pv (.val (.int k n)))) :
 OkV P c R1 o fr σ (.pv (.val (.int k (if m<n then n else m)))):=by
 intro ρ w a h;refine⟨.int k (if m<n then n else m),λw2 _=>?_,z3k _⟩;simp[execOp,ho,z0u h hx,z0u h hy,resolve,invoke,builtin,Builtin.max_,Builtin.max2]
end
section
def sw(a b k:Nat):Nat:=bif Nat.beq k a then b else bif Nat.beq k b then a else k
theorem sw_sw(a b k:Nat):sw a b (sw a b k)=k:=by
 unfold sw
 by_cases h1:k=a
 ·subst h1;have e1:Nat.beq k k=true:=Da k;simp only[e1,Dw]
  by_cases h2:b=k
  ·subst h2;simp
  ·have e2:Nat.beq b k=false:=z4a h2;have e3:Nat.beq b b=true:=Da b;simp[e2,e3]
 ·have e1:Nat.beq k a=false:=z4a h1;simp only[e1,Cu]
  by_cases h2:k=b
  ·subst h2;simp
  ·have e2:Nat.beq k b=false:=z4a h2;simp[e1,e2]
mutual
def IV.ren(p:Nat->Nat):IV->IV
 |.pv x=>.pv x
 |.ptr k off=>.ptr (p k) off
 |.sl k len=>.sl (p k) len
 |.rpt k len off=>.rpt (p k) len off
 |.sp k n len=>.sp (p k) n len
 |.bs k n=>.bs (p k) n
 |.mp k=>.mp (p k)
 |.tnil k T=>.tnil (p k) T
 |.agg cs=>.agg (renL p cs)
 |.tup cs=>.tup (renL p cs)
 |.fn f xs ys=>.fn f (renL p xs) (renL p ys)
def renL(p:Nat->Nat):List IV->List IV
 |[]=>[]
 |x::r=>x.ren p::renL p r
end
theorem zz6(p:Nat->Nat):∀xs:List IV,renL p xs=xs.map (IV.ren p)
 |[]=>rfl
 |x::r=>by simp[renL,zz6 p r]
theorem z6d{p:Nat->Nat}{xs:List IV}{j:Nat}{c:IV}(h:(renL p xs)[j]?=some c):∃x,xs[j]?=some x/\c=x.ren p:=by
 rw[zz6,Ba,A5]at h;obtain⟨x,h1,rfl⟩:=h;exact⟨x,h1,rfl⟩
theorem ze7(p:Nat->Nat)(xs:List IV):(renL p xs).length=xs.length:=by rw[zz6,Ac]
def HO.ren(p:Nat->Nat):HO->HO
 |.box cs=>.box (renL p cs)
 |.row s els=>.row s els
 |.map es=>.map es
def renP(p:Nat->Nat)(l:List (Nat×HO)):List (Nat×HO):=l.map λx=>(p x.1,x.2.ren p)
section
variable {p:Nat->Nat} (hp:∀k,p (p k)=k) {F:Nat->Prop} {ρ:Loc} {σ σ':Heap'} {w:World}
include hp
theorem y1c{b:Nat}:owned F (λk=>ρ (p k)) b↔owned F ρ b:=by
 constructor
 ·rintro(h|⟨k,c,h⟩)
  ·exact .inl h
  ·exact .inr ⟨p k,c,h⟩
 ·rintro(h|⟨k,c,h⟩)
  ·exact .inl h
  ·exact .inr ⟨p k,c,by show ρ (p (p k))=_;rw[hp];exact h⟩
theorem y6b(hσ:∀k,σ' (p k)=(σ k).map (HO.ren p)){x:IV}{v:Value}(h:RepI F ρ σ w x v):RepI F (λk=>ρ (p k)) σ' w (x.ren p) v:=by
 induction h with
 |pv q v h=>exact .pv q v (h.own λb hb=>(y1c hp).1 hb)
 |ptr k off v h =>
  refine .ptr _ off v λcs' h'=>?_;rw[hσ,A5]at h';obtain⟨o,h1,h2⟩:=h'
  cases o with
  |box cs=>obtain⟨b,c,h3,h4⟩:=h cs h1;exact⟨b,c,by rw[hp];exact h3,h4⟩
  |row=>cases h2
  |map=>cases h2
 |sl k len v h =>
  refine .sl _ len v λs els h'=>?_;rw[hσ,A5]at h';obtain⟨o,h1,h2⟩:=h'
  cases o with
  |row s' els'=>cases h2;rw[hp];exact h _ _ h1
  |box=>cases h2
  |map=>cases h2
 |sp k n len v h =>
  refine .sp _ n len v λs els h'=>?_;rw[hσ,A5]at h';obtain⟨o,h1,h2⟩:=h'
  cases o with
  |row s' els'=>cases h2;rw[hp];exact h _ _ h1
  |box=>cases h2
  |map=>cases h2
 |rpt k len off v h =>
  refine .rpt _ len off v λs els h'=>?_;rw[hσ,A5]at h';obtain⟨o,h1,h2⟩:=h'
  cases o with
  |row s' els'=>cases h2;rw[hp];exact h _ _ h1
  |box=>cases h2
  |map=>cases h2
 |bs k n v h =>
  refine .bs _ n v λcs' h'=>?_;rw[hσ,A5]at h';obtain⟨o,h1,h2⟩:=h'
  cases o with
  |box cs=>obtain⟨b,c,h3,h4⟩:=h cs h1;exact⟨b,c,by rw[hp];exact h3,h4⟩
  |row=>cases h2
  |map=>cases h2
 |tnil k T v h =>
  refine .tnil _ T v λcs' h'=>?_;rw[hσ,A5]at h';obtain⟨o,h1,h2⟩:=h'
  cases o with
  |box cs=>obtain⟨b,h3,h4⟩:=h cs h1;exact⟨b,by rw[hp];exact h3,h4⟩
  |row=>cases h2
  |map=>cases h2
 |mp k v h =>
  refine .mp _ v λes h'=>?_;rw[hσ,A5]at h';obtain⟨o,h1,h2⟩:=h'
  cases o with
  |map es'=>cases h2;rw[hp];exact h _ h1
  |row=>cases h2
  |box=>cases h2
 |agg cs vs u hl hv _ ih =>
  refine .agg _ vs u (by rw[ze7];exact hl) (λj c hj=>?_) λj c hj=>?_
  ·obtain⟨x,h1,rfl⟩:=z6d hj;exact hv j x h1
  ·obtain⟨x,h1,rfl⟩:=z6d hj;exact ih j x h1
 |tup cs vs u hl hv _ ih =>
  refine .tup _ vs u (by rw[ze7];exact hl) (λj c hj=>?_) λj c hj=>?_
  ·obtain⟨x,h1,rfl⟩:=z6d hj;exact hv j x h1
  ·obtain⟨x,h1,rfl⟩:=z6d hj;exact ih j x h1
 |fn f xs ys vs ws u t hl hv _ hl' hv' _ ih ih' =>
  refine .fn f _ _ vs ws u t (by rw[ze7];exact hl) (λj c hj=>?_) (λj c hj=>?_) (by rw[ze7];exact hl') (λj c hj=>?_) λj c hj=>?_
  ·obtain⟨x,h1,rfl⟩:=z6d hj;exact hv j x h1
  ·obtain⟨x,h1,rfl⟩:=z6d hj;exact ih j x h1
  ·obtain⟨x,h1,rfl⟩:=z6d hj;exact hv' j x h1
  ·obtain⟨x,h1,rfl⟩:=z6d hj;exact ih' j x h1
mutual
theorem j20:∀x:IV,(x.ren p).ren p=x
 |.pv _=>rfl
 |.ptr k off=>by simp only[IV.ren,hp]
 |.sl k len=>by simp only[IV.ren,hp]
 |.rpt k len off=>by simp only[IV.ren,hp]
 |.sp k n len=>by simp only[IV.ren,hp]
 |.bs k n=>by simp only[IV.ren,hp]
 |.mp k=>by simp only[IV.ren,hp]
 |.tnil k T=>by simp only[IV.ren,hp]
 |.agg cs=>by simp only[IV.ren,z8y cs]
 |.tup cs=>by simp only[IV.ren,z8y cs]
 |.fn f xs ys=>by simp only[IV.ren,z8y xs,z8y ys]
theorem z8y:∀xs:List IV,renL p (renL p xs)=xs
 |[]=>rfl
 |x::r=>by simp only[renL,j20 x,z8y r]
end
theorem HO.ren_ren(o:HO):(o.ren p).ren p=o:=by cases o<;>simp[HO.ren,z8y hp]
theorem repO_ren(hσ:∀k,σ' (p k)=(σ k).map (HO.ren p)){b c:Nat}{o:HO}(h:RepO F ρ σ w b c o):RepO F (λk=>ρ (p k)) σ' w b c (o.ren p):=by
 cases h with
 |box cs e a u h1 h2 h3 h4 =>
  refine .box _ e a u h1 (by rw[ze7];exact h2) (λj x hj=>?_) λj x hj=>?_
  ·obtain⟨y,h5,rfl⟩:=z6d hj;exact h3 j y h5
  ·obtain⟨y,h5,rfl⟩:=z6d hj;exact y6b hp hσ (h4 j y h5)
 |row s els a u h1 h2 h3 h4 h5 h6 h7=>exact .row s els a u h1 h2 h3 h4 h5 h6 λi el hi j x hj=>(h7 i el hi j x hj).own λb hb=>(y1c hp).1 hb
 |map es a t u h1 h2 h3 h4=>exact .map es a t u h1 h2 h3 λi k q hi=>(h4 i k q hi).own λb hb=>(y1c hp).1 hb
theorem yn4(hσ:∀k,σ' (p k)=(σ k).map (HO.ren p))(h:RelH F ρ σ w):RelH F (λk=>ρ (p k)) σ' w where
 inj k k' b c c' h1 h2:=by
  have:=h.inj _ _ _ _ _ h1 h2;rw[<- hp k,this,hp]
 apart k b c h1:=h.apart _ _ _ h1
 old:=h.old
 obj k b c h1:=by
  obtain⟨o,h2,h3⟩:=h.obj _ _ _ h1;refine⟨o.ren p,?_,repO_ren hp hσ h3⟩;have:=hσ (p k);rw[hp,h2]at this;exact this
 real k o h1 h2:=by
  have h3:=hσ (p k);rw[hp,h1]at h3;obtain⟨o',h4,h5⟩:=A5.1 h3.symm;obtain⟨s,rfl⟩:=h.real _ _ h4 h2;exact⟨s,h5.symm⟩
end
theorem j4g{p:Nat->Nat}(hp:∀k,p (p k)=k){F R:Nat->Prop}{ρ ρ1:Loc}{σ σ1 τ τ1:Heap'}{w w':World}(hσ:∀k,τ (p k)=(σ k).map (HO.ren p))(hσ1:∀k,τ1 (p k)=(σ1 k).map (HO.ren p))(t:Trans F R ρ σ w ρ1 σ1 w') :
 Trans F (λk=>R (p k)) (λk=>ρ (p k)) τ w (λk=>ρ1 (p k)) τ1 w' where
 os:=t.os
 tape:=t.tape
 output:=t.output
 size:=t.size
 blk b hb h:=t.blk b hb λk c hk=>by
  have:=h (p k) c (by rw[hp];exact hk)
  rwa [hp]at this
 own k b c h hb:=(t.own _ b c h hb).elim .inl λ⟨k0,c0,g,gn⟩=>.inr ⟨p k0,c0,by simp only[hp];exact g,by simp only[hp];exact gn⟩
 box k cs cs' h h':=by
  have e:=hσ (p k);have e':=hσ1 (p k);rw[hp,h]at e;rw[hp,h']at e';obtain⟨o,h1,h2⟩:=A5.1 e.symm;obtain⟨o',h3,h4⟩:=A5.1 e'.symm
  cases o with
  |box cs0=>cases o' with
   |box cs1=>exact t.box _ _ _ h1 h3
   |row=>cases h4
   |map=>cases h4
  |row=>cases h2
  |map=>cases h2
 map k cs cs' h h':=by
  have e:=hσ (p k);have e':=hσ1 (p k);rw[hp,h]at e;rw[hp,h']at e';obtain⟨o,h1,h2⟩:=A5.1 e.symm;obtain⟨o',h3,h4⟩:=A5.1 e'.symm
  cases o with
  |map cs0=>cases o' with
   |map cs1=>exact t.map _ _ _ h1 h3
   |row=>cases h4
   |box=>cases h4
  |row=>cases h2
  |box=>cases h2
 row k s s' els els' h h' hl:=by
  have e:=hσ (p k);have e':=hσ1 (p k);rw[hp,h]at e;rw[hp,h']at e';obtain⟨o,h1,h2⟩:=A5.1 e.symm;obtain⟨o',h3,h4⟩:=A5.1 e'.symm
  cases o with
  |row s0 cs0=>cases o' with
   |row s1 cs1=>cases h2;cases h4;exact t.row _ _ _ _ _ h1 h3 hl
   |map=>cases h4
   |box=>cases h4
  |map=>cases h2
  |box=>cases h2
 grow k s s' els els' h h':=by
  have e:=hσ (p k);have e':=hσ1 (p k);rw[hp,h]at e;rw[hp,h']at e';obtain⟨o,h1,h2⟩:=A5.1 e.symm;obtain⟨o',h3,h4⟩:=A5.1 e'.symm
  cases o with
  |row s0 cs0=>cases o' with
   |row s1 cs1=>cases h2;cases h4;exact t.grow _ _ _ _ _ h1 h3
   |map=>cases h4
   |box=>cases h4
  |map=>cases h2
  |box=>cases h2
 kindB k cs' h':=by
  have e':=hσ1 (p k);have e:=hσ (p k);rw[hp,h']at e';rw[hp]at e;obtain⟨o',h3,h4⟩:=A5.1 e'.symm
  cases o' with
  |box cs1 =>
   rcases t.kindB _ _ h3 with h5|⟨cs,h5⟩
   ·rw[h5]at e;exact .inl e
   ·rw[h5]at e;exact .inr ⟨_,e⟩
  |row=>cases h4
  |map=>cases h4
 kindM k cs' h':=by
  have e':=hσ1 (p k);have e:=hσ (p k);rw[hp,h']at e';rw[hp]at e;obtain⟨o',h3,h4⟩:=A5.1 e'.symm
  cases o' with
  |map cs1 =>
   rcases t.kindM _ _ h3 with h5|⟨cs,h5⟩
   ·rw[h5]at e;exact .inl e
   ·rw[h5]at e;exact .inr ⟨_,e⟩
  |row=>cases h4
  |box=>cases h4
 kindR k s cs' h':=by
  have e':=hσ1 (p k);have e:=hσ (p k);rw[hp,h']at e';rw[hp]at e;obtain⟨o',h3,h4⟩:=A5.1 e'.symm
  cases o' with
  |row s1 cs1 =>
   cases h4
   rcases t.kindR _ _ _ h3 with h5|⟨cs,h5⟩
   ·rw[h5]at e;exact .inl e
   ·rw[h5]at e;exact .inr ⟨_,e⟩
  |map=>cases h4
  |box=>cases h4
theorem beq_ren{p:Nat->Nat}(hp:∀k,p (p k)=k)(a k:Nat):Nat.beq (p a) (p k)=Nat.beq a k:=by
 by_cases h:a=k
 ·subst h;simp
 ·rw[z4a h,z4a λe=>h (by rw[<- hp a,e,hp])]
theorem ze1{p:Nat->Nat}(hp:∀k,p (p k)=k):∀(l:List (Nat×HO)) (k:Nat),look (up (renP p l)) (p k)=(look (up l) k).map (HO.ren p)
 |[],_=>rfl
 |(a,o)::r,k=>by
  simp only[renP,up,B3,look];rw[beq_ren hp]
  cases Nat.beq a k with
  |true=>rfl
  |false=>exact ze1 hp r k
theorem SC.ren{P:Program}{p:Nat->Nat}(hp:∀k,p (p k)=k){f:FuncId}{args:List IV}{pre post:List (Nat×HO)}{R:Nat->Prop}{r:IV}(h:SC P f args pre R r post):SC P f (renL p args) (renP p pre) (λk=>R (p k)) (r.ren p) (renP p post):=by
 intro F ρ w vs hkept hrel hargs;have hb:∀(l:List (Nat×HO)) (k:Nat),look (up l) (p k)=(look (up (renP p l)) k).map (HO.ren p):=by
  intro l k;have:=ze1 hp l (p k);rw[hp]at this;rw[this]
  cases look (up l) (p k)with
  |none=>rfl
  |some o=>exact Af some (HO.ren_ren hp o).symm
 have h1:RelH F (λk=>ρ (p k)) (look (up pre)) w:=yn4 hp (hb pre) hrel;have h2:RepL F (λk=>ρ (p k)) (look (up pre)) w args vs:=by
  refine⟨by rw[<- hargs.1,ze7],λj x hj=>?_⟩;obtain⟨v,h3,h4⟩:=hargs.2 j (x.ren p) (by rw[zz6,Ba,hj];rfl);have h5:=y6b hp (hb pre) h4;rw[j20 hp]at h5;exact⟨v,h3,h5⟩
 refine Calls.mono (h F _ w vs (hkept.mono λb hb=>hb.elim .inl λ⟨k,c,hk⟩=>.inr ⟨p k,c,hk⟩) h1 h2) λe w' hq=>?_;obtain⟨ρ',v,h3,h4,h5,h6⟩:=hq;refine⟨λk=>ρ' (p k),v,h3,y6b hp (ze1 hp post) h4,yn4 hp (ze1 hp post) h5,?_⟩;have:=j4g hp (ze1 hp pre) (ze1 hp post) h6;simpa only[hp]using this
theorem SC.sw{P:Program}{f:FuncId}{args:List IV}{pre post:List (Nat×HO)}{R:Nat->Prop}{r:IV}(a b:Nat)(h:SC P f args pre R r post):SC P f (renL (sw a b) args) (renP (sw a b) pre) (λk=>R (Proofs.YtdhllinkobindaaGreatDoor.sw a b k)) (r.ren (Proofs.YtdhllinkobindaaGreatDoor.sw a b)) (renP (Proofs.YtdhllinkobindaaGreatDoor.sw a b) post):=h.ren (sw_sw a b)
end
section
section
variable {α β:Type} [DecidableEq α]
end
structure Ky where
 kind:Int
 op:Int
 n:Int
 a:Int
 b:Int
 deriving DecidableEq
abbrev TT:=List (Int×Int)
structure Tb where
 seen:List (Ky×Int)
 nums:TT
end
section
variable {P:Program} {c:Cx} {R1:Nat->Prop} {o:Oper} {fr:Fr} {hp:Hp} {σ:Heap'} {Q:Exit->Fr->Heap'->Prop}
theorem Names.one{Q:Nat->Prop}{x:IV}(h:Names Q x):∃k,Q k/\Names (· = k) x:=by
 induction h with
 |ptr h=>exact⟨_,h,.ptr rfl⟩
 |sl h=>exact⟨_,h,.sl rfl⟩
 |rpt h=>exact⟨_,h,.rpt rfl⟩
 |sp h=>exact⟨_,h,.sp rfl⟩
 |bs h=>exact⟨_,h,.bs rfl⟩
 |mp h=>exact⟨_,h,.mp rfl⟩
 |tnil h=>exact⟨_,h,.tnil rfl⟩
 |agg hc _ ih=>obtain⟨k,h1,h2⟩:=ih;exact⟨k,h1,.agg hc h2⟩
 |tup hc _ ih=>obtain⟨k,h1,h2⟩:=ih;exact⟨k,h1,.tup hc h2⟩
 |fn1 hc _ ih=>obtain⟨k,h1,h2⟩:=ih;exact⟨k,h1,.fn1 hc h2⟩
 |fn2 hc _ ih=>obtain⟨k,h1,h2⟩:=ih;exact⟨k,h1,.fn2 hc h2⟩
open Classical in
theorem SC.stepN{ns:List Nat}{f:FuncId}{args:List IV}{pre post:List (Nat×HO)}{R:Nat->Prop}{r:IV}{hp:Hp}{ρ:Loc}{w:World}{a:Act}{vs:List Value}(hsc:SC P f args pre R r post)
 (h:All c ρ (look hp) w fr a) (hargs:RepL c.F ρ (look hp) w args vs) (hpre:∀k o,look (up pre) k=some o->look hp k=some o) (hdom:post.map (·.1)=ns++pre.map (·.1)) (hσ0:∀k∈ns,look hp k=none) (hc0:∀k∈ns,c.σ k=none) (hfr0:∀k∈ns,nmFr k fr=false) (hhp0:∀k∈ns,nmHp k hp=false)
 (hR:∀k,c.R k->look (up pre) k=none∨R k) (hr:only (post.map (·.1)) r=true) (hpost:z8u (post.map (·.1)) post=true) :
 Calls P f vs.toArray w λe w'=>∃ρ' v,e=.returned v/\All c ρ' (look (up post++hp)) w' fr a/\RepI c.F ρ' (look (up post++hp)) w' r v:=by
 have hd:∀k,look (up post) k=none↔look (up pre) k=none/\k∉ns:=λk=>by
  rw[z2r,z2r,hdom,B4,not_or];exact And.comm
 have hpp:∀k,look (up post) k≠none->look hp k≠none->look (up pre) k≠none:=λk e e1 e2=>by
  by_cases e3:k∈ns
  ·exact e1 (hσ0 k e3)
  ·exact e ((hd k).2 ⟨e2,e3⟩)
 let ρ1:Loc:=λk=>if look (up pre) k=none then none else ρ k
 let F1:Nat->Prop:=λb=>c.F b∨∃k cc,ρ k=some (b,cc)/\look (up pre) k=none
 have h1in:∀k,look (up pre) k≠none -> ρ1 k=ρ k:=λk hk=>if_neg hk;have h1out:∀k,look (up pre) k=none -> ρ1 k=none:=λk hk=>if_pos hk;have h1:∀k l,ρ1 k=some l->look (up pre) k≠none /\ ρ k=some l:=λk l hk=>by
  by_cases e:look (up pre) k=none
  ·rw[h1out k e]at hk;cases hk
  ·exact⟨e,(h1in k e)▸hk⟩
 have hown1:∀b,owned F1 ρ1 b->owned c.F ρ b:=λb hb=>by
  rcases hb with(hb|⟨k,cc,hk,_⟩)|⟨k,cc,hk⟩
  ·exact .inl hb
  ·exact .inr ⟨k,cc,hk⟩
  ·exact .inr ⟨k,cc,(h1 k _ hk).2⟩
 have hconv:∀x:IV,¬Names (λk=>¬∀o,look (up pre) k=some o->look hp k=some o /\ ρ1 k=ρ k) x:=λx hx=>by
  obtain⟨k,hk⟩:=hx.some;exact hk λo ho=>⟨hpre k o ho,h1in k (by simp[ho])⟩
 have hrel1:RelH F1 ρ1 (look (up pre)) w:=by
  refine⟨λk k' b cc cc' hk hk'=>h.rel.inj k k' b cc cc' (h1 _ _ hk).2 (h1 _ _ hk').2,λk b cc hk hb=>?_,λb hb=>?_,λk b cc hk=>?_,λk o hk hρ=>?_⟩
  ·rcases hb with hb|⟨k',cc',hk',hn⟩
   ·exact h.rel.apart k b cc (h1 _ _ hk).2 hb
   ·obtain rfl:=h.rel.inj _ _ _ _ _ (h1 _ _ hk).2 hk';exact(h1 _ _ hk).1 hn
  ·rcases hb with hb|⟨k',cc',hk',_⟩
   ·exact h.rel.old b hb
   ·exact h.rel.lt hk'
  ·obtain⟨hne,hk2⟩:=h1 _ _ hk;obtain⟨o1,ho1,ho2⟩:=h.rel.obj k b cc hk2
   cases hl:look (up pre) k with
   |none=>exact absurd hl hne
   |some o2 =>
    rw[hpre k o2 hl]at ho1;cases ho1
    exact⟨_,rfl,ho2.conv hown1 λx _=>hconv x⟩
  ·rw[h1in k (by simp[hk])]at hρ;exact h.rel.real k o (hpre k o hk) hρ
 refine(hsc F1 ρ1 w vs (h.kept.mono hown1) hrel1 ⟨hargs.1,λj x hj=>?_⟩).mono ?_
 ·obtain⟨v,hv,hx⟩:=hargs.2 j x hj;exact⟨v,hv,hx.conv hown1 (hconv x)⟩
 rintro e w' ⟨ρ2,v,rfl,hv,hrel2,t⟩
 let ρ':Loc:=λk=>if look (up post) k=none then ρ k else ρ2 k
 have h2in:∀k,look (up post) k≠none -> ρ' k=ρ2 k:=λk hk=>if_neg hk;have h2out:∀k,look (up post) k=none -> ρ' k=ρ k:=λk hk=>if_pos hk;have h2none:∀k,look (up post) k=none -> ρ2 k=none:=λk hk=>by
  cases h3:ρ2 k with
  |none=>rfl
  |some l =>
   obtain⟨o1,ho1,_⟩:=hrel2.obj k l.1 l.2 h3;rw[hk]at ho1;cases ho1
 have hσin:∀k,look (up post) k≠none->look (up post++hp) k=look (up post) k:=λk hk=>by
  rw[z58]
  cases h3:look (up post) k with
  |none=>exact absurd h3 hk
  |some o=>rfl
 have hσout:∀k,look (up post) k=none->look (up post++hp) k=look hp k:=λk hk=>by
  rw[z58,hk];rfl
 have hown2:∀b,owned c.F ρ' b->owned F1 ρ2 b:=λb hb=>by
  rcases hb with hb|⟨k,cc,hk⟩
  ·exact .inl (.inl hb)
  ·by_cases e:look (up post) k=none
   ·rw[h2out k e]at hk;exact .inl (.inr ⟨k,cc,hk,((hd k).1 e).1⟩)
   ·rw[h2in k e]at hk;exact .inr ⟨k,cc,hk⟩
 have hconv2:∀x:IV,only (post.map (·.1)) x=true -> ¬Names (λk=>¬∀o,look (up post++hp) k=some o->look (up post) k=some o /\ ρ' k=ρ2 k) x:=λx hx hn=>by
  refine y48 hx (hn.imp λk hk hmem=>hk λo ho=>?_);have hne:look (up post) k≠none:=λe=>(z2r.1 e) hmem;rw[hσin k hne]at ho;exact⟨ho,h2in k hne⟩
 have T:Trans c.F (λk=>look (up pre) k=none∨R k) ρ (look hp) w ρ' (look (up post++hp)) w':=by
  refine⟨t.os,t.tape,t.output,t.size,λb hb hall=>t.blk b hb λk cc hk=>?_,λk b cc hk hb=>?_,λk cs cs' e1 e2=>?_,λk cs cs' e1 e2=>?_,λk s s' els els' e1 e2 hl=>?_,λk s s' els els' e1 e2=>?_,λk cs' e2=>?_,λk cs' e2=>?_,λk s els' e2=>?_⟩
  ·obtain⟨hne,hk2⟩:=h1 _ _ hk;exact(hall k cc hk2).resolve_left hne
  ·by_cases e:look (up post) k=none
   ·rw[h2out k e]at hk;exact .inl hk
   ·rw[h2in k e]at hk;rcases t.own k b cc hk hb with g|⟨k0,c0,g,gn⟩
    ·exact .inl (h1 _ _ g).2
    ·exact .inr ⟨k0,c0,(h1 _ _ g).2,λr=>r.elim (h1 _ _ g).1 gn⟩
  all_goals by_cases e:look (up post) k=none
  ·exact h2out k e
  ·cases h3:look (up pre) k with
   |none=>exact absurd h3 (hpp k e (by simp[e1]))
   |some o =>
    rw[hpre k o h3]at e1;cases e1
    rw[hσin k e]at e2;rw[h2in k e,t.box k _ _ h3 e2,h1in k (by simp[h3])]
  ·exact h2out k e
  ·cases h3:look (up pre) k with
   |none=>exact absurd h3 (hpp k e (by simp[e1]))
   |some o =>
    rw[hpre k o h3]at e1;cases e1
    rw[hσin k e]at e2;rw[h2in k e,t.map k _ _ h3 e2,h1in k (by simp[h3])]
  ·exact h2out k e
  ·cases h3:look (up pre) k with
   |none=>exact absurd h3 (hpp k e (by simp[e1]))
   |some o =>
    rw[hpre k o h3]at e1;cases e1
    rw[hσin k e]at e2;rw[h2in k e,t.row k _ _ _ _ h3 e2 hl,h1in k (by simp[h3])]
  ·rw[hσout k e,e1]at e2;cases e2;exact Ae _
  ·cases h3:look (up pre) k with
   |none=>exact absurd h3 (hpp k e (by simp[e1]))
   |some o =>
    rw[hpre k o h3]at e1;cases e1
    rw[hσin k e]at e2;exact t.grow k _ _ _ _ h3 e2
  ·rw[hσout k e]at e2;exact .inr ⟨_,e2⟩
  ·rw[hσin k e]at e2;rcases t.kindB k _ e2 with h3|⟨cs,h3⟩
   ·by_cases e3:k∈ns
    ·exact .inl (hσ0 k e3)
    ·exact absurd ((hd k).2 ⟨h3,e3⟩) e
   ·exact .inr ⟨cs,hpre k _ h3⟩
  ·rw[hσout k e]at e2;exact .inr ⟨_,e2⟩
  ·rw[hσin k e]at e2;rcases t.kindM k _ e2 with h3|⟨cs,h3⟩
   ·by_cases e3:k∈ns
    ·exact .inl (hσ0 k e3)
    ·exact absurd ((hd k).2 ⟨h3,e3⟩) e
   ·exact .inr ⟨cs,hpre k _ h3⟩
  ·rw[hσout k e]at e2;exact .inr ⟨_,e2⟩
  ·rw[hσin k e]at e2;rcases t.kindR k _ _ e2 with h3|⟨cs,h3⟩
   ·by_cases e3:k∈ns
    ·exact .inl (hσ0 k e3)
    ·exact absurd ((hd k).2 ⟨h3,e3⟩) e
   ·exact .inr ⟨cs,hpre k _ h3⟩
 have hnone:∀k,(look hp k=none/\look (up post++hp) k≠none)->k∈ns:=λk hk=>by
  by_cases e:look (up post) k=none
  ·rw[hσout k e]at hk;exact absurd hk.1 hk.2
  ·refine Bu λe3=>?_;have e4:look (up pre) k≠none:=λh3=>e ((hd k).2 ⟨h3,e3⟩)
   cases h3:look (up pre) k with
   |none=>exact e4 h3
   |some o=>rw[hpre k o h3]at hk;cases hk.1
 have hnn:∀x:IV,(∀k∈ns,nm k x=false) -> ¬Names (λk=>look hp k=none/\look (up post++hp) k≠none) x:=λx hx hn=>by
  obtain⟨k,hk,hk2⟩:=(hn.imp hnone).one;have:=hx k hk;rw[zz5 hk2]at this;cases this
 refine⟨ρ',v,rfl,h.step T hR ⟨λk k' b cc cc' hk hk'=>?_,λk b cc hk hb=>?_,λb hb=>B8 (h.rel.old b hb) t.size,λk b cc hk=>?_,λk o hk hρ=>?_⟩ (λk e1 e2=>hc0 k (hnone k ⟨e1,e2⟩)) λ_ x hx=>hnn x λk hk=>zm3 (hfr0 k hk) hx,hv.conv hown2 (hconv2 r hr)⟩
 ·by_cases e:look (up post) k=none<;>by_cases e':look (up post) k'=none
  ·rw[h2out k e]at hk;rw[h2out k' e']at hk';exact h.rel.inj _ _ _ _ _ hk hk'
  ·rw[h2out k e]at hk;rw[h2in k' e']at hk';exact absurd (.inr ⟨k,cc,hk,((hd k).1 e).1⟩) (hrel2.apart _ _ _ hk')
  ·rw[h2in k e]at hk;rw[h2out k' e']at hk';exact absurd (.inr ⟨k',cc',hk',((hd k').1 e').1⟩) (hrel2.apart _ _ _ hk)
  ·rw[h2in k e]at hk;rw[h2in k' e']at hk';exact hrel2.inj _ _ _ _ _ hk hk'
 ·by_cases e:look (up post) k=none
  ·rw[h2out k e]at hk;exact h.rel.apart _ _ _ hk hb
  ·rw[h2in k e]at hk;exact hrel2.apart _ _ _ hk (.inl hb)
 ·by_cases e:look (up post) k=none
  ·rw[h2out k e]at hk;obtain⟨o1,ho1,ho2⟩:=h.rel.obj k b cc hk;refine⟨o1,(hσout k e).trans ho1,ho2.keep T (t.blk b (h.rel.lt hk) λk' cc' hk'=>?_) λx ⟨cs,h3,h4⟩=>hnn x λk hk=>by subst h3;exact z5l (z8r (hhp0 k hk) ho1) h4⟩;obtain⟨hne,hk2⟩:=h1 _ _ hk';obtain rfl:=h.rel.inj _ _ _ _ _ hk hk2;exact absurd ((hd _).1 e).1 hne
  ·rw[h2in k e]at hk;obtain⟨o1,ho1,ho2⟩:=hrel2.obj k b cc hk;refine⟨o1,(hσin k e).trans ho1,ho2.conv hown2 λx ⟨cs,h3,h4⟩=>hconv2 x ?_⟩;subst h3;exact z7q (z8v hpost (z1l ho1)) h4
 ·by_cases e:look (up post) k=none
  ·rw[hσout k e]at hk;rw[h2out k e]at hρ;exact h.rel.real k o hk hρ
  ·rw[hσin k e]at hk;rw[h2in k e]at hρ;exact hrel2.real k o hk hρ
theorem j1k{ns:List Nat}{f:FuncId}{os:Array Operand}{tys:Array TypeId}{xs args:List IV}{pre post:List (Nat×HO)}{R:Nat->Prop}{r:IV}{hp:Hp}(hsc:SC P f args pre R r post)(hf:z6g P f)
 (ho:o.op=.call { callee:=.value (.func f),args:=os,argTypes:=tys }) (hx:evs fr os.toList=some xs) (hs:Subs (look hp) xs args) (hpre:∀k o,look (up pre) k=some o->look hp k=some o) (hdom:post.map (·.1)=ns++pre.map (·.1)) (hσ0:∀k∈ns,look hp k=none) (hc0:∀k∈ns,c.σ k=none) (hfr0:∀k∈ns,nmFr k fr=false) (hhp0:∀k∈ns,nmHp k hp=false)
 (hR:∀k,c.R k->look (up pre) k=none∨R k) (hr:only (post.map (·.1)) r=true) (hpost:z8u (post.map (·.1)) post=true):Ok P c o fr (look hp) r (look (up post++hp)):=by
 intro ρ w a K Q h hK;obtain⟨fn,hfn,hname,hbody⟩:=hf;have hargs:=hs _ _ _ _ (zh7 h hx);have hrun:(execOp a.eval o).run P w=.ok (.enter f (os.toList.map a.eval).toArray) w:=by
  have hcall:(callFunc f (os.toList.map a.eval).toArray).run P w=.ok (.enter f (os.toList.map a.eval).toArray) w:=by
   unfold callFunc;simp only[Ai];show(Result.andThen (.ok P w) _)=_;simp only[As,hfn,hname,hbody];rfl
  simp only[execOp,ho,resolve,Act.eval,Deferred.ofValue,Ai,Cd,As,invoke];rw[<- hcall]
  congr 2
  apply Fj;simp
 unfold Oper.wp;rw[hrun,Fa];refine(hsc.stepN h hargs hpre hdom hσ0 hc0 hfr0 hhp0 hR hr hpost).mono ?_;rintro e w' ⟨ρ',v,rfl,h1,h2⟩;exact hK ρ' w' v h1 h2
structure K5(P:Program)(t:TypeId)(f0 f1 f2 f3 f4:Field):Prop where
 hu:P.underlying t=some (.struct #[f0,f1,f2,f3,f4])
 hs:P.stoodInHeld t=false
 t0:P.underlying f0.type=some (.int .i64)
 t1:P.underlying f1.type=some (.int .i64)
 t2:P.underlying f2.type=some (.int .i64)
 t3:P.underlying f3.type=some (.int .i64)
 t4:P.underlying f4.type=some (.int .i64)
 n0:f0.name ≠ "_"
 n1:f1.name ≠ "_"
 n2:f2.name ≠ "_"
 n3:f3.name ≠ "_"
 n4:f4.name ≠ "_"
 o0:f0.offset=0
 o1:f1.offset=1
 o2:f2.offset=2
 o3:f3.offset=3
 o4:f4.offset=4
section
variable {kt:TypeId} {f0 f1 f2 f3 f4:Field}
end
end
section
variable {P:Program} {c:Cx} {o:Oper} {fr:Fr} {hp:Hp}
theorem All.flatRow{ρ:Loc}{w:World}{a:Act}(h:All c ρ (look hp) w fr a){x:Operand}{k n:Nat}{s:RT}{els:List (List PV)}(hx:fr.ev x=some (.sl k n))(hk:look hp k=some (.row s els))(hn:els.length=n)(hone:∀el∈els,∀x∈el,x.one=true) :
 FlatV (owned c.F ρ) w s.n els (a.eval x):=by
 rcases h.row hx hk hn with⟨b,cc,r,u,hv,hρ,h3,h4,hc,hcm,hwe,hcells,hu⟩|⟨hv,hρ,hnil⟩
 ·have key:∀q,q<els.length*s.n->∃el x,els[q/s.n]?=some el/\el.length=s.n/\el[q%s.n]?=some x/\x.one=true:=λq hq=>by
   obtain⟨h1,h2,h3⟩:=y5j hq;have he:=hwe _ (D6 h1);exact⟨els[q/s.n],els[q/s.n][q%s.n]'oM0,A8 h1,he,A8 _,hone _ (D6 h1) _ (D6 _)⟩
  refine⟨some ⟨b,0,none⟩,cc,u,by rw[hv,hn],λ_=>⟨_,rfl,λj y hj=>?_⟩,λy hy=>?_,hu⟩
  ·have hq:j<els.length*s.n:=by have:=(A7.1 hj).1;simpa using this
   obtain⟨el,x,h1,h2,h5,_⟩:=key j hq;have hy:y=u (j/s.n) (j%s.n):=by simpa[hq]using hj.symm
   have:=hcells _ el h1 _ x h5;rw[Cp,hy,z4v h3,Bt,<- this,(y5j hq).2.2]
  ·obtain⟨q,hq,rfl⟩:=Cb.1 hy;obtain⟨el,x,h1,h2,h5,h6⟩:=key q (by simpa using hq);exact(hu _ el h1 _ x h5).one h6
 ·subst hnil;exact⟨none,0,λ_ _=>undef,by simpa using hv,λhne=>absurd rfl hne,λy hy=>by simp at hy,λi el hi=>by simp at hi⟩
theorem y63{t:TypeId}{x y:Operand}{k n k2 n2 by_:Nat}{s:RT}{els news:List (List PV)}(ho:o.op=.call { callee:=.builtin .append,args:=#[x,y],argTypes:=#[t,t] })(hx:fr.ev x=some (.sl k n))(hy:fr.ev y=some (.sl k2 n2))
 (hk:look hp k=some (.row s els)) (hn:els.length=n) (hk2:look hp k2=some (.row s news)) (hn2:news.length=n2) (hR:¬c.R k) (ht:P.underlying t=some (.slice s.e)) (hi:(P.info? s.e).map (λi=>(i.size,i.bytes,(i.zero.map λz=>z.cells.size)))=some (s.n,by_,some s.n)) (hs:0<s.n)
 (hw:∀el∈news,el.length=s.n) (hone:∀el∈news,∀x∈el,x.one=true) (hmax:n+news.length<=maxLen) (hb:(n+news.length)*by_<=140737488355328) :
 Ok P c o fr (look hp) (.sl k (n+news.length)) (look ((k,some (.row s (els++news)))::hp)) :=
 zg9 ho hx (λρ w a h=>h.flatRow hy hk2 hn2 hone) hk hn hR ht hi hs hw hmax hb
theorem zg7{t e:TypeId}{len s:Nat}{parts:Array (Nat×Operand)}{xs:List (Nat×IV)}{z:Value}{out:List IV}{ρ:Loc}{w:World}{a:Act}(h:All c ρ (look hp) w fr a)(ho:o.op=.buildSlice t len parts)(hx:z4w fr parts.toList=some xs)
 (hu:P.underlying t=some (.slice e)) (hz:((P.info? e).bind (·.zero))=some z) (hs:(P.info? e).map (·.size)=some s) (hzs:z.cells.size=s) (hpos:Nat.ble 1 s=true) (hsmall:Nat.ble (len*s) (2 ^ 24)=true)
 (hf:z6h (λi=>some (i*s,s)) (zi8 z len) xs=some out) (hfirm:z6i (look hp) xs) :
 ∃vs,z72 c.F ρ (look hp) w out vs/\out.length=len*s/\(execOp a.eval o).run P w=.ok (.value (.slice (some ⟨w.heap.size,0,none⟩) len len)) (w.alloc (.cells vs e)):=by
 have hpos':0<s:=Az hpos;have hsmall':=Az hsmall;have hzv:(zeroValue e).run P w=.ok z w:=by
  cases hq:P.info? e with
  |none=>simp[hq]at hz
  |some i=>simp[hq]at hz;simp[zeroValue,typeInfo,hq,hz]
 obtain⟨hl,hv⟩:=z7g h hx;obtain⟨hrl,hrg⟩:=y1i (z:=z) oM0 len;have hrep:z72 c.F ρ (look hp) w (zi8 z len) ((Array.range (len*s)).map (z.cells[· % z.cells.size]!)):=by
  refine⟨by simp[hrl,hzs],λj x hj=>?_⟩;have hjl:j<len*s:=by have:=(A7.1 hj).1;rw[hrl,hzs]at this;exact this
  rw[hrg j x hj];exact⟨_,by simp[hjl],z3k _⟩
 have hlenfill:out.length=len*s:=by
  have:∀(ps:List (Nat×IV)) (cs out:List IV),z6h (λi=>some (i*s,s)) cs ps=some out->out.length=cs.length:=by
   intro ps
   induction ps with
   |nil=>intro cs out h;cases h;rfl
   |cons p r ih =>
    intro cs out h;simp only[z6h]at h
    cases hc:Nat.beq (z8i p.2).length s&&Nat.ble (p.1*s+s) cs.length with
    |false=>rw[hc]at h;cases h
    |true =>
     rw[hc]at h;simp only[A0]at hc;have h1:=Ah hc.1;have h2:=Az hc.2;rw[ih _ _ h,zc5 oM0]
  rw[this _ _ _ hf,hrl,hzs]
 obtain⟨vs,h1,h2⟩:=zk5 hrep hl (λj i x hj=>by
  obtain⟨v,h3,h4⟩:=hv j i x hj;exact⟨v,h3,h4,hfirm _ (Ag hj)⟩) hf
 have hparts:(parts.map λ(i,x)=>(i,a.eval x)).toList=parts.toList.map λp=>(p.1,a.eval p.2):=by simp
 have hrun:(execOp a.eval o).run P w=.ok (.value (.slice (some ⟨w.heap.size,0,none⟩) len len)) (w.alloc (.cells vs e)):=by
  have hnr:(newRow e vs).run P w=.ok ⟨w.heap.size,0,none⟩ (w.alloc (.cells vs e)):=rfl;simp only[execOp,ho,Instr.buildSlice,Ai,B6 hu,z18 hs,As];rw[if_neg oM0]
  by_cases h0:len*s=0
  ·have h1':Instr.fill (λi=>some (i*s,s)) ((Array.range (len*s)).map ((#[]:Array Value)[· % (#[]:Array Value).size]!)) (List.map (λp=>(p.fst,a.eval p.snd)) parts.toList)=some vs:=by
    have e1:∀f:Nat->Value,(Array.range (len*s)).map f = #[]:=λf=>by rw[h0];simp
    rw[e1]at h1⊢;exact h1
   simp only[if_pos h0,Ai,Cd,As,hparts];rw[h1'];simp only[Ai,hnr,As];rfl
  ·simp only[if_neg h0,Ai,Cd,As,hzv,hparts];rw[h1];simp only[Ai,hnr,As];rfl
 exact⟨vs,h2,hlenfill,hrun⟩
theorem zx9{k:Nat}{t e:TypeId}{len s:Nat}{parts:Array (Nat×Operand)}{xs:List (Nat×IV)}{z:Value}{out:List IV}{ps:List PV}(ho:o.op=.buildSlice t len parts)(hx:z4w fr parts.toList=some xs)
 (hu:P.underlying t=some (.slice e)) (hz:((P.info? e).bind (·.zero))=some z) (hs:(P.info? e).map (·.size)=some s) (hzs:z.cells.size=s) (hpos:Nat.ble 1 s=true) (hsmall:Nat.ble (len*s) (2 ^ 24)=true)
 (hf:z6h (λi=>some (i*s,s)) (zi8 z len) xs=some out) (hfirm:z6i (look hp) xs) (hps:z7s out=some ps) (hσ:look hp k=none) (hc:c.σ k=none) (hfr:nmFr k fr=false) (hhp:nmHp k hp=false) :
 Ok P c o fr (look hp) (.sl k len) (look ((k,some (.row ⟨e,s⟩ (z83 s len ps)))::hp)):=by
 intro ρ w a K Q h hK;have hpos':0<s:=Az hpos;have hsmall':=Az hsmall;obtain⟨vs,h2,hlenfill,hrun⟩:=zg7 h ho hx hu hz hs hzs hpos hsmall hf hfirm;unfold Oper.wp;rw[hrun];obtain⟨hpl,hpg⟩:=z8x hps;have hel:∀i el,(z83 s len ps)[i]?=some el->el.length=s/\∀j x,el[j]?=some x->ps[i*s+j]?=some x:=λi el hi=>zq5 s len ps i el hi oM0;have hcl:=z97 s len ps;have hlm:len<=maxLen:=by simp only[maxLen];have:len<=len*s:=Dz _ hpos';omega
 refine hK (z15 ρ k (some (w.heap.size,len))) _ _ (h.alloc hσ hc hfr hhp len _ _ λ_ keep=>?_) (.sl _ _ _ λs' els' h'=>?_)
 ·refine .row ⟨e,s⟩ _ vs (λi j=>vs.getD (i*s+j) undef) (z2y w _) (by have:=h2.1;simp only;omega) oM0 hlm (λel hel'=>?_) (λi el hi j x hj=>?_) λi el hi j x hj=>?_
  ·obtain⟨i,hi⟩:=List.getElem?_of_mem hel';exact(hel i el hi).1
  ·obtain⟨h5,h6⟩:=hel i el hi;obtain⟨v,h7,_⟩:=h2.2 _ _ (hpg _ _ (h6 j x hj));simp[Aw,h7]
  ·obtain⟨h5,h6⟩:=hel i el hi;obtain⟨v,h7,h8⟩:=h2.2 _ _ (hpg _ _ (h6 j x hj));simp only[Aw,h7,Cf]
   cases h8 with
   |pv _ _ h8=>exact keep _ _ h8
 ·rw[z1e]at h';cases h'
  exact⟨by omega,λ_=>.inl ⟨w.heap.size,len,z0a,rfl⟩⟩
def nilP:PV->PV
 |.val (.slice none 0 0)=>.seq []
 |x=>x
theorem nilP_sub(x:PV):PSub x (nilP x):=by
 unfold nilP;split
 ·exact PSub.nil
 ·exact PSub.refl _
theorem y12:∀cs:List PV,PSubs cs (cs.map nilP)
 |[]=>trivial
 |x::r=>⟨nilP_sub x,y12 r⟩
theorem z0c(cs:List PV):PSub (.agg cs) (.agg (cs.map nilP)):=PSub.agg (y12 cs)
end
section
variable {P:Program} {c:Cx} {R1:Nat->Prop} {o:Oper} {fr:Fr} {hp:Hp} {σ:Heap'} {Q:Exit->Fr->Heap'->Prop}
theorem All.bs{ρ:Loc}{w:World}{a:Act}(h:All c ρ (look hp) w fr a){x:Operand}{k n:Nat}{cs:List IV}(hx:fr.ev x=some (.bs k n))(hk:look hp k=some (.box cs)) :
 ∃(b cc cap:Nat)(e:TypeId)(r:Array Value)(u:Nat->Value),a.eval x=.slice (some ⟨b,0,none⟩) n cap/\n<=cap/\cap<=maxLen /\ ρ k=some (b,cc)/\w.heap[b]?=some (.cells r e (0,0))/\cs.length<=r.size/\(∀j x,cs[j]?=some x->r[j]?=some (u j))/\∀j x,cs[j]?=some x->RepI c.F ρ (look hp) w x (u j):=by
 have hr:=h.ev hx;generalize hv:a.eval x=v at hr
 cases hr with
 |bs _ _ _ hh =>
  obtain⟨b,cc,hρ,h8,h9,rfl⟩:=hh cs hk;obtain⟨o1,h1,h2⟩:=h.rel.obj k b cc hρ;rw[hk]at h1;cases h1
  obtain⟨e,r,u,h3,h4,h5,h6⟩:=h2.inv_box;exact⟨b,cc,cc,e,r,u,rfl,h8,h9,hρ,h3,h4,h5,h6⟩
theorem yd7{t e:TypeId}{x y:Operand}{k n i:Nat}{m:Int}{kk:IntKind}{cs:List IV}(ho:o.op=.indexAddr t x y)(hx:fr.ev x=some (.bs k n))(hy:fr.ev y=some (.pv (.val (.int kk m))))(hk:look hp k=some (.box cs))
 (hu:P.underlying t=some (.slice e)) (he:(P.info? e).map (·.size)=some 1) (hi:i<n) (hm:m=i):OkV P c R1 o fr (look hp) (.ptr k i):=by
 subst hm;intro ρ w a h;obtain⟨b,cc,cap,e',r,u,hv,_,_,hρ,_⟩:=h.bs hx hk;refine⟨.pointer (some ⟨b,i,none⟩),λw2 _=>?_,.ptr _ _ _ λcs' h'=>⟨b,cc,hρ,rfl⟩⟩;simp[execOp,ho,hv,z0u h hy,Instr.indexAt,Ai,asIntOf,B6 hu,hi,z18 he,Cp]
theorem y14{k:Nat}{t e:TypeId}{len s:Nat}{parts:Array (Nat×Operand)}{xs:List (Nat×IV)}{z:Value}{out:List IV}(ho:o.op=.buildSlice t len parts)(hx:z4w fr parts.toList=some xs)
 (hu:P.underlying t=some (.slice e)) (hz:((P.info? e).bind (·.zero))=some z) (hs:(P.info? e).map (·.size)=some s) (hzs:z.cells.size=s) (hpos:Nat.ble 1 s=true) (hsmall:Nat.ble (len*s) (2 ^ 24)=true)
 (hf:z6h (λi=>some (i*s,s)) (zi8 z len) xs=some out) (hfirm:z6i (look hp) xs) (hn:nm.nms k out=false) (hσ:look hp k=none) (hc:c.σ k=none) (hfr:nmFr k fr=false) (hhp:nmHp k hp=false) :
 Ok P c o fr (look hp) (.bs k len) (look ((k,some (.box out))::hp)):=by
 intro ρ w a K Q h hK;have hpos':0<s:=Az hpos;have hsmall':=Az hsmall;obtain⟨vs,h2,hlenfill,hrun⟩:=zg7 h ho hx hu hz hs hzs hpos hsmall hf hfirm;unfold Oper.wp;rw[hrun];have hlm:len<=maxLen:=by simp only[maxLen];have:len<=len*s:=Dz _ hpos';omega
 refine hK (z15 ρ k (some (w.heap.size,len))) _ _ (h.alloc hσ hc hfr hhp len _ _ λkeep _=>?_) (.bs _ _ _ λcs' h'=>⟨w.heap.size,len,z0a,Ae _,hlm,rfl⟩);refine .box _ e vs (λj=>vs.getD j undef) (z2y w _) (Nat.le_of_eq h2.1.symm) (λj x hj=>?_) (λj x hj=>?_) ⟨λhh=>absurd hh (by simp only[maxLen]at hlm;unfold j4i;omega),λ_ _=>by have h9:=h2.1;have h10:len<=len*s:=Dz _ hpos';omega⟩
 ·obtain⟨v,h7,_⟩:=h2.2 _ _ hj;simp[Aw,h7]
 ·obtain⟨v,h7,h8⟩:=h2.2 _ _ hj;simp only[Aw,h7,Cf];exact keep _ _ h8 (z5l hn (Ag hj))
theorem y8g{t:TypeId}{x y:Operand}{k k2 n by_:Nat}{e:TypeId}{cs:List IV}(ho:o.op=.call { callee:=.builtin .append,args:=#[x,y],argTypes:=#[t,t] })(hx:fr.ev x=some (.pv (.val (.slice none 0 0))))(hy:fr.ev y=some (.bs k2 n))(hk2:look hp k2=some (.box cs))(hn:cs.length=n)(h0:0<n)
 (ht:P.underlying t=some (.slice e)) (hi:(P.info? e).map (λi=>(i.size,i.bytes,(i.zero.map λz=>z.cells.size)))=some (1,by_,some 1)) (hmax:n<=maxLen) (hb:n*by_<=140737488355328) (hnm:nm.nms k cs=false)
 (hσ:look hp k=none) (hc:c.σ k=none) (hfr:nmFr k fr=false) (hhp:nmHp k hp=false) :
 Ok P c o fr (look hp) (.bs k n) (look ((k,some (.box cs))::hp)):=by
 intro ρ w a K Q h hK
 cases hq:P.info? e with
 |none=>simp[hq]at hi
 |some i =>
  have hsz:i.size=1:=by simp[hq]at hi;exact hi.1
  have hby:i.bytes=by_:=by simp[hq]at hi;exact hi.2.1
  obtain⟨z,hz,hzs⟩:∃z,i.zero=some z/\z.cells.size=1:=by simp[hq]at hi;exact hi.2.2
  simp only[maxLen]at hmax;obtain⟨b,cc,cap,e',r,u,hv,_,_,hρ,hbk,hlen,hcell,hrep⟩:=h.drew.bs hy hk2;have hge:=grownCap_ge w n 0 e;have hcm:=Fg w n 0 e (by simp only[maxLen];omega);have hL:((List.range n).map u).length=n*i.size:=by simp[hsz]
  have hcl:∀j y,((List.range n).map u)[j]?=some y->w.cell? ((⟨b,0,none⟩:Addr).add j)=some y:=λj y hj=>by
   rw[Cp,Bt,z4v (w:=w) hbk];have hj':j<n:=by have:=(A7.1 hj).1;simpa using this
   have e1:u j=y:=by simpa[hj']using hj
   have h5:cs[j]?=some (cs[j]'oM0):=A8 oM0;rw[hcell j _ h5,e1]
  have hr:=run_append_nil (P:=P) w t o.type e i z ht hq hz ⟨b,0,none⟩ n cap _ hL hcl h0 oM0 (by rw[hby];omega);refine Lib.wp_append_run w x y t t ho _ _ (z0u h hx) hv _ _ hr ?_;refine hK (z15 ρ k (some (w.heap.size,grownCap w n 0 e))) _ _ (h.drew.alloc hσ hc hfr hhp (grownCap w n 0 e) _ _ λkeep _=>?_) (.bs _ _ _ λcs' h'=>⟨w.heap.size,_,z0a,hge,hcm,rfl⟩);refine .box _ e _ u (z2y _ _) (by simp;omega) (λj x hj=>?_) (λj x hj=>keep _ _ (hrep j x hj) (z5l hnm (Ag hj))) ⟨λhh=>absurd hh (by simp only[maxLen]at hcm;unfold j4i;omega),λ_ _=>by simp[G4,hzs];omega⟩;have hj':j<n:=by have:=(A7.1 hj).1;omega
  rw[Ec (by simpa using hj')];simp[hj']
theorem y42{k:Nat}:∀{l m:List IV},nm.nms k l=false->nm.nms k m=false->nm.nms k (l++m)=false
 |[],_,_,h=>h
 |x::r,m,h1,h2=>by
  simp only[Bb,nm.nms,C0]at h1⊢;exact⟨h1.1,y42 h1.2 h2⟩
theorem y7j{t ty e e1:TypeId}{i:TypeInfo}{w:World}(ht:P.underlying t=some (.slice e))(hi:P.info? e=some i){g n cc:Nat}{cur:Array Value}(hg:w.heap[g]?=some (.cells cur e1 (0,0))){b:Addr}{m c2:Nat}{news:List Value}(hl:news.length=m*i.size)
 (hnews:∀j u,news[j]?=some u->w.cell? (b.add j)=some u) (h1:∀u∈news,u.oneCell'=true) (hroom:n+m<=cc) (hfit:n*i.size+news.length<=cur.size) :
 (Builtin.append_ #[t,t] ty #[.slice (some ⟨g,0,none⟩) n cc,.slice (some b) m c2]).run P w=.ok (.slice (some ⟨g,0,none⟩) (n+m) cc) (w.setRow g (cur.toList.take (n*i.size)++news++cur.toList.drop (n*i.size+news.length)).toArray):=by
 have q1:=run_firstCells_some (P:=P) w i.size m b m c2 news hl hnews;have q2:=Ev P g (n*i.size) e1 news 0 cur w hg (by simpa using hfit) h1;simp only[Bw]at q2;simp[Builtin.append_,B6 ht,sizeOf,typeInfo,hi,Builtin.lenOf,hroom,q1,Addr.add_lit,q2]
theorem All.bs2{ρ:Loc}{w:World}{a:Act}(h:All c ρ (look hp) w fr a){x:Operand}{k n:Nat}{cs:List IV}(hx:fr.ev x=some (.bs k n))(hk:look hp k=some (.box cs)) :
 ∃(b cc:Nat)(e:TypeId)(r:Array Value)(u:Nat->Value),a.eval x=.slice (some ⟨b,0,none⟩) n cc/\n<=cc/\cc<=maxLen /\ ρ k=some (b,cc)/\w.heap[b]?=some (.cells r e (0,0))/\(2<=cc->cc<=r.size)/\cs.length<=r.size/\(∀j x,cs[j]?=some x->r[j]?=some (u j))/\∀j x,cs[j]?=some x->RepI c.F ρ (look hp) w x (u j):=by
 have hr:=h.ev hx;generalize hv:a.eval x=v at hr
 cases hr with
 |bs _ _ _ hh =>
  obtain⟨b,cc,hρ,h8,h9,rfl⟩:=hh cs hk;obtain⟨o1,h1,h2⟩:=h.rel.obj k b cc hρ;rw[hk]at h1;cases h1
  obtain⟨e,r,u,h3,h4,h5,h6⟩:=h2.inv_box;exact⟨b,cc,e,r,u,rfl,h8,h9,hρ,h3,λh7=>(h.rel.ty hk hρ h3).2 h7 h9,h4,h5,h6⟩
theorem y61{t:TypeId}{x y:Operand}{k k2 k' n n2 by_:Nat}{e:TypeId}{cs cs2:List IV}(ho:o.op=.call { callee:=.builtin .append,args:=#[x,y],argTypes:=#[t,t] })(hx:fr.ev x=some (.bs k n))(hy:fr.ev y=some (.bs k2 n2))
 (hk:look hp k=some (.box cs)) (hk2:look hp k2=some (.box cs2)) (hn:cs.length=n) (hn2:cs2.length=n2) (h0:0<n) (h02:0<n2)
 (ht:P.underlying t=some (.slice e)) (hi:(P.info? e).map (λi=>(i.size,i.bytes,(i.zero.map λz=>z.cells.size)))=some (1,by_,some 1)) (hmax:n+n2<=maxLen) (hb:(n+n2)*by_<=140737488355328)
 (hfirm:∀x∈cs2,x.firm (look hp)) (hnm:nm.nms k' cs2=false) (hR:¬c.R k) (hσ:look hp k'=none) (hc:c.σ k'=none) (hfr:nmFr k' fr=false) (hhp:nmHp k' hp=false) :
 Ok P c o fr (look hp) (.bs k' (n+n2)) (look ((k',some (.box (cs++cs2)))::(k,none)::hp)):=by
 intro ρ w a K Q h hK;have hne:k≠k':=λe=>by subst e;rw[hk]at hσ;cases hσ
 cases hq:P.info? e with
 |none=>simp[hq]at hi
 |some i =>
  have hsz:i.size=1:=by simp[hq]at hi;exact hi.1
  have hby:i.bytes=by_:=by simp[hq]at hi;exact hi.2.1
  obtain⟨z,hz,hzs⟩:∃z,i.zero=some z/\z.cells.size=1:=by simp[hq]at hi;exact hi.2.2
  simp only[maxLen]at hmax;obtain⟨b,cc,e1,r,u,hv,hnc,hcm,hρ,hbk,hty,hlen,hcell,hrep⟩:=h.bs2 hx hk;obtain⟨b2,cc2,e2,r2,u2,hv2,_,_,hρ2,hbk2,_,hlen2,hcell2,hrep2⟩:=h.bs2 hy hk2;have hL:((List.range n2).map u2).length=n2*i.size:=by simp[hsz]
  have hcl:∀j y,((List.range n2).map u2)[j]?=some y->w.cell? ((⟨b2,0,none⟩:Addr).add j)=some y:=λj y hj=>by
   rw[Cp,Bt,z4v (w:=w) hbk2];have hj':j<n2:=by have:=(A7.1 hj).1;simpa using this
   have e1:u2 j=y:=by simpa[hj']using hj
   have h5:cs2[j]?=some (cs2[j]'oM0):=A8 oM0;rw[hcell2 j _ h5,e1]
  have hone:∀v∈(List.range n2).map u2,v.oneCell'=true:=λv hv=>by
   obtain⟨j,hj,rfl⟩:=Cb.1 hv;have hj':j<n2:=Fi.1 hj;have h5:cs2[j]?=some (cs2[j]'oM0):=A8 oM0;exact(hrep2 j _ h5).one (hfirm _ (Ag h5))
  have hrun:∀(v:Value)(w':World),(Builtin.append_ #[t,t] o.type #[a.eval x,a.eval y]).run P w=.ok v w'->(execOp a.eval o).run P w=.ok (.value v) w':=λv w' hr=>by
   simp only[execOp,ho,resolve,Ai,Cd,As,invoke,builtin,List.map_toArray,B3,Cs,hr]
  unfold Oper.wp;have hnm1:nm.nms k' cs=false:=z8r hhp hk;have hall:∀(own':IV->Value->Prop),(∀j x,cs[j]?=some x->own' x (u j))->(∀j x,cs2[j]?=some x->own' x (u2 j))->∀j x,(cs++cs2)[j]?=some x->own' x (if j<n then u j else u2 (j-n)):=λown' g1 g2 j x hj=>by
   by_cases hjn:j<n
   ·rw[Aq oM0]at hj;rw[if_pos hjn];exact g1 j x hj
   ·rw[Ay oM0,hn]at hj;rw[if_neg hjn];exact g2 _ x hj
  have hval:∀(pre:List Value)(tl:List Value),pre.length=n->(∀j x,cs[j]?=some x->pre[j]?=some (u j))->∀j x,(cs++cs2)[j]?=some x->(pre++(List.range n2).map u2++tl)[j]?=some (if j<n then u j else u2 (j-n)):=λpre tl hp1 hp2 j x hj=>by
   have hjl:j<n+n2:=by have:=(A7.1 hj).1;simp at this;omega
   by_cases hjn:j<n
   ·rw[Aq oM0]at hj;rw[if_pos hjn,C2,Aq oM0];exact hp2 j x hj
   ·rw[if_neg hjn,C2,Ay oM0,hp1,Aq (by simp;omega)];simp[show j-n<n2 by omega]
  have hnmA:nm.nms k' (cs++cs2)=false:=y42 hnm1 hnm
  by_cases hroom:n+n2<=cc
  ·have hrs:cc<=r.size:=hty oM0;have hr:=y7j (P:=P) (ty:=o.type) ht hq hbk (b:=⟨b2,0,none⟩) (c2:=cc2) hL hcl hone hroom (by simp[hsz];omega);rw[hsz,Nat.mul_one]at hr;rw[hrun _ _ (by rw[hv,hv2];exact hr)];have hA:=h.write hρ hk (o':=.box (cs++cs2)) trivial hR rfl rfl rfl (w':=w.setRow b (r.toList.take n++(List.range n2).map u2++r.toList.drop (n+((List.range n2).map u2).length)).toArray) sI0 (λj hj=>F0 w b j _ hj) λkeep _=>by
    refine .box (cs++cs2) e1 _ (λj=>if j<n then u j else u2 (j-n)) (Fc w b r _ e1 _ hbk) (by simp;omega) (λj x hj=>?_) (hall _ (λj x hj=>keep _ _ (hrep j x hj)) λj x hj=>keep _ _ (hrep2 j x hj)) ?_
    ·rw[Dr];exact hval _ _ (by simp;omega) (λj x hj=>by
      have:=(A7.1 hj).1;rw[C5,if_pos oM0,Bg,hcell j x hj]) j x hj
    ·have h9:=h.rel.ty hk hρ hbk;have h8:(r.toList.take n++(List.range n2).map u2++r.toList.drop (n+((List.range n2).map u2).length)).toArray.size=r.size:=by simp;omega
     rw[h8];exact h9
   have hA2:=hA.rename (k':=k') hρ z1e hR ((z1k hne).trans hσ) hc hfr (by simp only[nmHp,hnmA,hhp];rfl);have hsame:look ((k',some (.box (cs++cs2)))::(k,none)::(k,some (.box (cs++cs2)))::hp)=look ((k',some (.box (cs++cs2)))::(k,none)::hp):=by
    funext j
    by_cases e1:j=k'
    ·subst e1;rw[z1e,z1e]
    ·rw[z1k (C3 e1),z1k (C3 e1)]
     by_cases e2:j=k
     ·subst e2;rw[z1e,z1e]
     ·rw[z1k (C3 e2),z1k (C3 e2),z1k (C3 e2)]
   rw[hsame]at hA2;exact hK _ _ _ hA2 (.bs _ _ _ λcs' h'=>⟨b,cc,z0a,hroom,hcm,rfl⟩)
  ·have hpl:(r.toList.take n).length=n:=by simp;omega
   have holds:∀j y,(r.toList.take n)[j]?=some y->w.cell? ((⟨b,0,none⟩:Addr).add j)=some y:=λj y hj=>by
    rw[Cp,Bt,z4v (w:=w) hbk];rw[C5]at hj;split at hj
    ·simpa using hj
    ·cases hj
   have hr:=run_append_grow (P:=P) w t o.type e i z ht hq hz ⟨b,0,none⟩ n cc _ (by rw[hsz,Nat.mul_one];exact hpl) holds ⟨b2,0,none⟩ n2 cc2 _ hL hcl oM0 oM0 (growslice_fits oM0 (by rw[hby];exact hb));rw[hrun _ _ (by rw[hv,hv2];exact hr)];have hdrew:∀x v,RepI c.F ρ (look hp) w x v->RepI c.F ρ (look hp) { w with drawn:=w.drawn+1 } x v:=λx v hx=>hx.trans' (Trans.drew c.F (λ_=>True) ρ (look hp) w) (λhx=>by obtain⟨k,hk⟩:=hx.some;exact hk.2 hk.1);have hge:=grownCap_ge w (n+n2) cc e;have hcm2:=Fg w (n+n2) cc e (by simp only[maxLen];omega);have hA:=h.drew.alloc hσ hc hfr hhp (grownCap w (n+n2) cc e) (.box (cs++cs2)) (.cells ((r.toList.take n).toArray++((List.range n2).map u2).toArray++Builtin.zeroCells z.cells (grownCap w (n+n2) cc e-(n+n2))) e) λkeep _=>by
    refine .box (cs++cs2) e _ (λj=>if j<n then u j else u2 (j-n)) (z2y _ _) (by simp;omega) (λj x hj=>?_) (hall _ (λj x hj=>keep _ _ (hdrew _ _ (hrep j x hj)) (z5l hnm1 (Ag hj))) λj x hj=>keep _ _ (hdrew _ _ (hrep2 j x hj)) (z5l hnm (Ag hj))) ⟨λhh=>absurd hh (by simp only[maxLen]at hcm2;unfold j4i;omega),λ_ _=>by simp[G4,hzs];omega⟩;have:=hval (r.toList.take n) (Builtin.zeroCells z.cells (grownCap w (n+n2) cc e-(n+n2))).toList hpl (λj x hj=>by
     have:=(A7.1 hj).1;rw[C5,if_pos oM0,Bg,hcell j x hj]) j x hj
    rw[<- this,<- Bg];simp
   have hA2:=hA.drop (k:=k);have hsame:look ((k,none)::(k',some (.box (cs++cs2)))::hp)=look ((k',some (.box (cs++cs2)))::(k,none)::hp):=by
    funext j
    by_cases e1:j=k'
    ·subst e1;rw[z1e,z1k hne,z1e]
    ·rw[z1k (k:=k') (C3 e1)]
     by_cases e2:j=k
     ·subst e2;rw[z1e,z1e]
     ·rw[z1k (C3 e2),z1k (C3 e1),z1k (C3 e2)]
   rw[hsame]at hA2;exact hK _ _ _ hA2 (.bs _ _ _ λcs' h'=>⟨w.heap.size,_,(z2t hne).trans z0a,hge,hcm2,rfl⟩)
theorem y65{t:TypeId}{x y:Operand}{n by_:Nat}{s:RT}{z:Value}{σ:Heap'}(ho:o.op=.makeSlice t x y)(hx:fr.ev x=some (.pv (.val (.int .i64 n))))(hy:fr.ev y=some (.pv (.val (.int .i64 n))))
 (hu:P.underlying t=some (.slice s.e)) (hz:((P.info? s.e).bind (·.zero))=some z) (hi:(P.info? s.e).map (λi=>(i.size,i.bytes))=some (s.n,by_)) (hzs:z.cells.size=s.n) (hpos:0<s.n) (hn:n<2 ^ 63) (hb:by_*n<=281474976710656) :
 Ok P c o fr σ (.pv (.seq (List.replicate n (z.cells.toList.map .val)))) σ:=by
 intro ρ w a K Q h hK
 cases hq:P.info? s.e with
 |none=>simp[hq]at hi
 |some i =>
  have hsz:i.size=s.n:=by simp[hq]at hi;exact hi.1
  have hby:i.bytes=by_:=by simp[hq]at hi;exact hi.2
  have hiz:i.zero=some z:=by simpa[hq]using hz
  have hwrap:IntKind.i64.wrap (n:Int)=n:=Cw _ oM0;have hrun:(execOp a.eval o).run P w=.ok (.value (.slice (some ⟨w.heap.size,0,none⟩) n n)) (w.alloc (.cells ((Array.range (n*s.n)).map (z.cells[· % z.cells.size]!)) s.e)):=by
   have hnr:∀r,(newRow s.e r).run P w=.ok ⟨w.heap.size,0,none⟩ (w.alloc (.cells r s.e)):=λ_=>rfl;have hti:(typeInfo s.e).run P w=.ok i w:=by simp[typeInfo,hq]
   have hso:(sizeOf s.e).run P w=.ok s.n w:=z18 (by simp[hq,hsz]) w;have hzv:(zeroValue s.e).run P w=.ok z w:=by simp[zeroValue,typeInfo,hq,hiz]
   have h2:(by_:Int)*n<=281474976710656:=by
    have:((by_*n:Nat):Int)<=281474976710656:=by omega
    rwa [Int.natCast_mul]at this
   simp only[execOp,ho,Instr.makeSlice,Ai,B6 hu,As,z0u h hx,z0u h hy,asInt,asIntOf,Cd,hti,hwrap,hby];rw[if_neg (by simpa using h2)];simp only[Ai,y1u,As,hso,Int.toNat_natCast]
   by_cases h0:n*s.n=0
   ·rw[if_pos h0];simp only[Ai,Cd,As,hnr];have e1:∀f g:Nat->Value,(Array.range (n*s.n)).map f=(Array.range (n*s.n)).map g:=λf g=>by rw[h0];simp
    rw[e1 _ (z.cells[· % z.cells.size]!)]
   ·rw[if_neg h0];simp only[Ai,Cd,As,hzv,hnr]
  unfold Oper.wp;rw[hrun];obtain⟨h3,keep⟩:=h.push (.cells ((Array.range (n*s.n)).map (z.cells[· % z.cells.size]!)) s.e);refine hK ρ _ _ h3 (.pv _ _ ?_);have hll:(List.replicate n (z.cells.toList.map PV.val)).length=n:=by simp
  have hbig:by_*n<=281474976710656:=hb;have:RepP (owned c.F ρ) (w.alloc (.cells ((Array.range (n*s.n)).map (z.cells[· % z.cells.size]!)) s.e)) (.seq (List.replicate n (z.cells.toList.map .val))) (.slice (some ⟨w.heap.size,0,none⟩) (List.replicate n (z.cells.toList.map PV.val)).length n):=by
   refine .seq _ _ n w.heap.size 0 (λ_ j=>z.cells[j]!) (λ_=>rfl) (λ_=>⟨h.fresh,by simp⟩) sI0 (by simp only[maxLen];omega) (λi el hi j x hj=>?_) λi el hi j x hj=>?_
   ·have hel:=De (Ag hi);have hin:i<n:=by have:=(A7.1 hi).1;simpa using this
    subst hel;have hjs:j<s.n:=by have:=(A7.1 hj).1;simp[hzs]at this;exact this
    have hlt:i*s.n+j<n*s.n:=by
     have:(i+1)*s.n<=n*s.n:=C1 _ oM0;rw[D8]at this;omega
    rw[z4v (z2y w _)];simp[hlt,hzs,Ej hjs]
   ·have hel:=De (Ag hi);subst hel;simp only[Ba,A5,Bg]at hj;obtain⟨v,hv,rfl⟩:=hj;have:z.cells[j]! = v:=by
     have hlt:=(Ca.1 hv).1;simp[hlt]at hv⊢;exact hv
    rw[this];exact .val v
  rwa [hll]at this
end
section
variable {P:Program} {c:Cx} {R1:Nat->Prop} {o:Oper} {fr:Fr} {hp:Hp}
theorem RepI.toSp{F:Nat->Prop}{ρ:Loc}{σ:Heap'}{w:World}{k n:Nat}{v:Value}(h:RepI F ρ σ w (.sl k n) v):RepI F ρ σ w (.sp k n n) v:=by
 cases h with
 |sl _ _ _ hh =>
  refine .sp k n n v λs els h1=>⟨(hh s els h1).1,λhl=>?_⟩;rcases(hh s els h1).2 hl with⟨b,cc,h2,h3⟩|⟨h2,h3,h4⟩
  ·exact .inl ⟨Ae _,b,cc,h2,h3⟩
  ·exact .inr ⟨h2,h3,h3,h4⟩
theorem RepI.ofSp{F:Nat->Prop}{ρ:Loc}{σ:Heap'}{w:World}{k n:Nat}{v:Value}(h:RepI F ρ σ w (.sp k n n) v):RepI F ρ σ w (.sl k n) v:=by
 cases h with
 |sp _ _ _ _ hh =>
  refine .sl k n v λs els h1=>⟨(hh s els h1).1,λhl=>?_⟩;rcases(hh s els h1).2 hl with⟨_,b,cc,h2,h3⟩|⟨h2,h3,_,h4⟩
  ·exact .inl ⟨b,cc,h2,h3⟩
  ·exact .inr ⟨h2,h3,h4⟩
theorem All.sp{ρ:Loc}{w:World}{a:Act}{v:Value}(h:All c ρ (look hp) w fr a){k n m:Nat}{s:RT}{els:List (List PV)}(hr:RepI c.F ρ (look hp) w (.sp k n m) v)(hk:look hp k=some (.row s els))(hn:els.length=m) :
 (∃(b cc:Nat)(r:Array Value)(u:Nat->Nat->Value),n<=m/\v=.slice (some ⟨b,0,none⟩) n cc /\ ρ k=some (b,cc)/\w.heap[b]?=some (.cells r s.e (0,0))/\r.size=cc*s.n/\m<=cc/\cc<=maxLen/\(∀el∈els,el.length=s.n) /\
  (∀i el,els[i]?=some el->∀j x,el[j]?=some x->r[i*s.n+j]?=some (u i j))/\∀i el,els[i]?=some el->∀j x,el[j]?=some x->RepP (owned c.F ρ) w x (u i j)) ∨
 (v=.slice none 0 0 /\ ρ k=none/\els=[]/\n=0/\m=0):=by
 cases hr with
 |sp _ _ _ _ hh =>
  rcases(hh s els hk).2 hn with⟨hnm,b,cc,hρ,rfl⟩|⟨hρ,hz,hz2,rfl⟩
  ·obtain⟨o1,h1,h2⟩:=h.rel.obj k b cc hρ;rw[hk]at h1;cases h1
   cases h2 with
   |row _ _ r u h3 h4 h5 h6 h7 h8 h9=>exact .inl ⟨b,cc,r,u,hnm,rfl,hρ,h3,h4,hn▸h5,h6,h7,h8,h9⟩
  ·exact .inr ⟨rfl,hρ,At (hn.trans hz),hz2,hz⟩
theorem j1n{t e:TypeId}{x:Operand}{k n m:Nat}{s:RT}{els:List (List PV)}(ho:o.op=.call { callee:=.builtin .len,args:=#[x],argTypes:=#[t] })(hx:fr.ev x=some (.sp k n m))(hk:look hp k=some (.row s els))(hn:els.length=m)
 (hu:P.underlying t=some (.slice e)):OkV P c R1 o fr (look hp) (.pv (.val (.int .i64 n))):=by
 intro ρ w a h;refine⟨.int .i64 n,λw2 _=>?_,z3k _⟩;rcases h.sp (h.ev hx) hk hn with⟨b,cc,r,u,_,hv,_⟩|⟨hv,_,_,he,_⟩
 ·simp[execOp,ho,hv,resolve,Ai,invoke,builtin,Builtin.len_,B6 hu,goInt]
 ·subst he;simp[execOp,ho,hv,resolve,Ai,invoke,builtin,Builtin.len_,B6 hu,goInt]
theorem yd8{t:TypeId}{x y:Operand}{k n i m':Nat}{m:Int}{kk:IntKind}{s:RT}{els:List (List PV)}(ho:o.op=.indexAddr t x y)(hx:fr.ev x=some (.sp k n m'))(hy:fr.ev y=some (.pv (.val (.int kk m))))(hk:look hp k=some (.row s els))(hn:els.length=m')
 (hu:P.underlying t=some (.slice s.e)) (he:(P.info? s.e).map (·.size)=some s.n) (hi:i<n) (hm:m=i):OkV P c R1 o fr (look hp) (.rpt k m' (i*s.n)):=by
 subst hm;intro ρ w a h;rcases h.sp (h.ev hx) hk hn with⟨b,cc,r,u,hnm,hv,hρ,h3,h4,hc,hcm,hwe,hcells,hu'⟩|⟨_,_,_,hz,_⟩
 ·refine⟨.pointer (some ⟨b,i*s.n,none⟩),λw2 _=>?_,.rpt _ _ _ _ λs' els' h'=>?_⟩
  ·simp[execOp,ho,hv,z0u h hy,Instr.indexAt,Ai,asIntOf,B6 hu,hi,z18 he,Cp]
  ·rw[hk]at h';cases h'
   exact⟨by omega,λ_=>⟨b,cc,hρ,rfl⟩⟩
 ·omega
theorem zv6{t e:TypeId}{x:Operand}{hi:Option Operand}{k n m j q:Nat}{s:RT}{els:List (List PV)}(ho:o.op=.slice t x none hi none)(hx:∀ρ w a,All c ρ (look hp) w fr a->RepI c.F ρ (look hp) w (.sp k n m) (a.eval x))(hk:look hp k=some (.row s els))(hn:els.length=m)
 (hu:P.underlying t=some (.slice e)) (hs:(P.info? e).map (·.size)=some q) (hhi:(hi=none/\j=n)∨∃y k,hi=some y/\fr.ev y=some (.pv (.val (.int k j)))) (hj:j<=n):OkV P c R1 o fr (look hp) (.sp k j m):=by
 intro ρ w a h;have hr:=hx ρ w a h;generalize hv:a.eval x=v at hr;have hund:∀w,(underlying t).run P w=.ok (.slice e) w:=B6 hu;have key:∀(ad:Option Addr)(cap:Nat),n<=cap->∀w,(Instr.sliceAt t (.slice ad n cap) none (hi.map a.eval) none).run P w=.ok (.slice (if cap=0 then ad else ad.map (·.add (0*q))) (j-0) (cap-0)) w:=by
  intro ad cap hcap w;have hb':(Instr.sliceBounds true n cap none (hi.map a.eval) none).run P w=.ok (0,j,cap) w:=by
   rcases hhi with⟨rfl,rfl⟩|⟨y',k',rfl,hy'⟩
   ·simp[Instr.sliceBounds]
   ·have e1:j<=cap:=by omega
    simp[Instr.sliceBounds,Instr.sliceBound,z0u h hy',asIntOf,e1]
  simp only[Instr.sliceAt,Instr.slice,Ai,hund,As,hb',z18 hs];rfl
 rcases h.sp hr hk hn with⟨b,cc,r,u,hnm,rfl,hρ,h3,h4,hc,hcm,hwe,hcells,hu'⟩|⟨rfl,hρ,rfl,rfl,rfl⟩
 ·refine⟨.slice (some ⟨b,0,none⟩) j cc,λw2 _=>?_,.sp _ _ _ _ λs' els' h'=>?_⟩
  ·simp only[execOp,ho,hv,Fb,Ai,key _ cc oM0,As];simp[Cp]
  ·rw[hk]at h';cases h'
   exact⟨by omega,λ_=>.inl ⟨by omega,b,cc,hρ,rfl⟩⟩
 ·have hj0:j=0:=by omega
  subst hj0;refine⟨.slice none 0 0,λw2 _=>?_,.sp _ _ _ _ λs' els' h'=>?_⟩
  ·simp only[execOp,ho,hv,Fb,Ai,key _ 0 oM0,As];rfl
  ·rw[hk]at h';cases h'
   exact⟨Ae _,λ_=>.inr ⟨hρ,rfl,rfl,rfl⟩⟩
theorem y3a{t:TypeId}{x y:Operand}{k n m by_:Nat}{s:RT}{els:List (List PV)}{el:List PV}(ho:o.op=.call { callee:=.builtin .append,args:=#[x,y],argTypes:=#[t,t] })(hx:fr.ev x=some (.sp k n m))(hy:fr.ev y=some (.pv (.seq [el])))
 (hk:look hp k=some (.row s els)) (hn:els.length=m) (hnm:n<m) (hR:¬c.R k) (ht:P.underlying t=some (.slice s.e)) (hi:(P.info? s.e).map (λi=>(i.size,i.bytes,(i.zero.map λz=>z.cells.size)))=some (s.n,by_,some s.n))
 (hw:el.length=s.n) (hone:∀x∈el,x.one=true) :
 Ok P c o fr (look hp) (.sp k (n+1) m) (look ((k,some (.row s (els.set n el)))::hp)):=by
 intro ρ w a K Q h hK
 cases hq:P.info? s.e with
 |none=>simp[hq]at hi
 |some i =>
  have hsz:i.size=s.n:=by simp[hq]at hi;exact hi.1
  have hlk':look ((k,some (.row s (els.set n el)))::hp) k=some (.row s (els.set n el)):=z1e;obtain⟨ad,cap,u',hvy,had,hone',hr'⟩:=(h.ev hy).inv_seq.flat (s:=s.n) (λe he=>by rw[Ak.1 he];exact hw) (λe he x hx=>by rw[Ak.1 he]at hx;exact hone x hx);obtain⟨ad,rfl,hcell⟩:=had sI0;simp only[A1,A6,Bt,G6]at hvy hcell hone';have hlenN:((List.range s.n).map λq=>u' (q/s.n) (q%s.n)).length=1*i.size:=by simp[hsz]
  have hrun:∀(v:Value)(w':World),(Builtin.append_ #[t,t] o.type #[a.eval x,a.eval y]).run P w=.ok v w'->(execOp a.eval o).run P w=.ok (.value v) w':=λv w' hr=>by
   simp only[execOp,ho,resolve,Ai,Cd,As,invoke,builtin,List.map_toArray,B3,Cs,hr]
  rcases h.sp (h.ev hx) hk hn with⟨b,cc,r,u,_,hv,hρ,h3,h4,hc,hcm,hwe,hcells,hu⟩|⟨_,_,_,_,hz⟩
  ·unfold Oper.wp;have hroom:n+1<=cc:=by omega
   have hle:(n+1)*s.n<=cc*s.n:=C1 _ hroom;have hnn:(n+1)*s.n=n*s.n+s.n:=by rw[D8,G6]
   have hr:=run_append_room (P:=P) w t o.type s.e i ht hq b n cc r h3 ad 1 cap _ hlenN hcell hone' hroom (by rw[hsz];simp;omega);rw[hsz]at hr;rw[hrun _ _ (by rw[hv,hvy];exact hr)];have hpl:(r.toList.take (n*s.n)).length=n*s.n:=by simp;omega
   refine hK ρ _ _ (h.write hρ hk ⟨rfl,by simp⟩ hR rfl rfl rfl sI0 (λj hj=>F0 w b j _ hj) λ_ keep=>?_) (.sp _ _ _ _ λs1 els1 h1=>?_)
   ·refine .row s (els.set n el) _ (λi j=>if i=n then u' 0 j else u i j) (Fc w b r _ s.e _ h3) ?_ (by simp;omega) hcm (λe he=>?_) (λi' e' hi' j' x hj'=>?_) λi' e' hi' j' x hj'=>?_
    ·simp only[Et,B5,Ei,Bq,Ac,List.length_range];rw[hpl];omega
    ·rcases Eg he with h5|rfl
     ·exact hwe _ h5
     ·exact hw
    ·have hel':e'.length=s.n:=by
      rcases Eg (Ag hi')with h5|rfl
      ·exact hwe _ h5
      ·exact hw
     have hj2:j'<s.n:=by have:=(A7.1 hj').1;omega
     rw[Dr]
     by_cases e1:i'=n
     ·subst e1;have:e'=el:=by
       rw[Bl oM0]at hi';exact(Bx hi').symm
      subst this;rw[if_pos rfl,C2,Ay oM0,hpl,Aq (by simp;omega)];have:i'*s.n+j'-i'*s.n=j':=by omega
      rw[this,Ba,List.getElem?_range hj2,D5,F3 hj2,Ej hj2]
     ·rw[Bk (C3 e1)]at hi';rw[if_neg e1];have h5:=hcells i' e' hi' j' x hj';rcases Dj i' n with hlt|hge
      ·have:(i'+1)*s.n<=n*s.n:=C1 _ oM0;rw[D8,G6]at this;rw[C2,Aq oM0,C5,if_pos oM0,Bg,h5]
      ·have:(n+1)*s.n<=i'*s.n:=C1 _ oM0;rw[Ay (by simp;omega),Cm,Bg,<- h5]
       congr 1
       simp;omega
    ·by_cases e1:i'=n
     ·subst e1;have:e'=el:=by
       rw[Bl oM0]at hi';exact(Bx hi').symm
      subst this;rw[if_pos rfl];exact keep _ _ (hr' 0 e' rfl j' x hj')
     ·rw[Bk (C3 e1)]at hi';rw[if_neg e1];exact keep _ _ (hu i' e' hi' j' x hj')
   ·rw[hlk']at h1;cases h1
    exact⟨by simp;omega,λ_=>.inl ⟨by omega,b,cc,hρ,rfl⟩⟩
  ·omega
theorem Ok.reI{t:Nat}{y y' x:IV}{σ σ':Heap'}(ht:fr.get t=some y)(h1:∀F ρ σ w v,RepI F ρ σ w y v->RepI F ρ σ w y' v)(h2:∀F ρ σ w v,RepI F ρ σ w y' v->RepI F ρ σ w y v)(h:Ok P c o ((t,y')::fr) σ x σ'):Ok P c o fr σ x σ':=by
 intro ρ w a Kc Q ha hK;have ha2:All c ρ σ w ((t,y')::fr) a:=ha.putFr ht λu hu=>h1 _ _ _ _ _ hu;refine h ρ w a Kc Q ha2 λρ' w' u ha' hu=>hK ρ' w' u ⟨ha'.rel,λt' z hz=>?_,ha'.tr,ha'.df,ha'.sz,ha'.kk⟩ hu
 by_cases e:t=t'
 ·subst e;rw[ht]at hz
  cases hz
  obtain⟨v,hv,hr⟩:=ha'.fr t y' (by simp[Fr.get]);exact⟨v,hv,h2 _ _ _ _ _ hr⟩
 ·exact ha'.fr t' z (by simp only[Fr.get,z4a e];exact hz)
theorem y13{t k m u v by_:Nat}{s:RT}{els:List (List PV)}{el:List PV}(hut:Nat.beq u v=false)(ho:o.op=.call { callee:=.builtin .append,args:=#[.tmp u,.tmp v],argTypes:=#[t,t] })(hx:fr.get u=some (.sp k m m))(hy:fr.get v=some (.pv (.seq [el])))
 (hk:look hp k=some (.row s els)) (hn:els.length=m) (hR:¬c.R k) (ht:P.underlying t=some (.slice s.e)) (hi:(P.info? s.e).map (λi=>(i.size,i.bytes,(i.zero.map λz=>z.cells.size)))=some (s.n,by_,some s.n)) (hs:0<s.n)
 (hw:el.length=s.n) (hone:∀x∈el,x.one=true) (hmax:m+1<=maxLen) (hb:(m+1)*by_<=140737488355328) :
 Ok P c o fr (look hp) (.sp k (m+1) (m+1)) (look ((k,some (.row s (els++[el])))::hp)):=by
 refine Ok.reI (y':=.sl k m) hx (λ_ _ _ _ _ h=>h.ofSp) (λ_ _ _ _ _ h=>h.toSp) ?_;have hu:Fr.ev ((u,.sl k m)::fr) (.tmp u)=some (.sl k m):=by simp[Fr.ev,Fr.get]
 have hv:Fr.ev ((u,.sl k m)::fr) (.tmp v)=some (.pv (.seq [el])):=by simp only[Fr.ev,Fr.get,hut];exact hy
 have:=aPp (c:=c) (hp:=hp) ho hu hv hk hn hR ht hi hs (λe he=>by rw[Ak.1 he];exact hw) (λe he x hx=>by rw[Ak.1 he]at hx;exact hone x hx) hmax hb;exact λρ w a Kc Q ha hK=>this ρ w a Kc Q ha λρ' w' u ha' hu=>hK ρ' w' u ha' hu.toSp
end
section
variable {P:Program} {o:Oper} {fr fr2:Fr} {hp hp2:Hp} {Rl:List Nat}
inductive TI where
 |int (k:IntKind)
 |bool
 |str
 |slice (e:Nat)
 |struct (fs:List (Nat×Nat))
 |arr (len e:Nat)
 |map (k e:Nat)
 |ptr (e:Nat)
 |one
inductive ZV where
 |int (k:IntKind)
 |bool
 |str
 |slice
 |map
 |ptr
 |fn
 |iface
def ZV.val:ZV->Value
 |.int k=>.int k 0
 |.bool=>.bool false
 |.str=>.string ⟨#[]⟩
 |.slice=>.slice none 0 0
 |.map=>.map none
 |.ptr=>.pointer none
 |.fn=>.nilFunc
 |.iface=>.nilIface
def ZV.isB:ZV->Value->Bool
 |.int k,.int k' n=>k'==k&&n==0
 |.bool,.bool b=>!b
 |.str,.string s=>s.data.isEmpty
 |.slice,.slice none 0 0=>true
 |.map,.map none=>true
 |.ptr,.pointer none=>true
 |.fn,.nilFunc=>true
 |.iface,.nilIface=>true
 |_,_=>false
theorem ZV.isB_ok{z:ZV}{v:Value}(h:z.isB v=true):v=z.val:=by
 unfold ZV.isB at h;split at h
 ·simp only[A0,Au]at h;simp[ZV.val,h.1,h.2]
 ·simp only[Bc]at h;subst h;rfl
 ·rename_i s;have:s.data = #[]:=by simpa using h
  cases s;simp_all[ZV.val]
 all_goals first|rfl|cases h
structure TE where
 i:TI
 n:Nat
 b:Nat
 z:List ZV
def TI.row:TI->Bool
 |.struct _=>true
 |.arr ..=>true
 |_=>false
def TI.is:TI->TypeDesc->Prop
 |.int k,d=>d=.int k
 |.bool,d=>d=.bool
 |.str,d=>d=.string
 |.slice e,d=>d=.slice e
 |.struct fs,d=>∃a,d=.struct a/\a.toList.map (λf=>(f.offset,f.type))=fs
 |.arr len e,d=>d=.array len e
 |.map k e,d=>d=.map k e
 |.ptr e,d=>d=.pointer e
 |.one,d=>d.isRow=false
def TI.isB:TI->TypeDesc->Bool
 |.int k,.int k'=>k'==k
 |.bool,.bool=>true
 |.str,.string=>true
 |.slice e,.slice e'=>Nat.beq e' e
 |.struct fs,.struct a=>a.toList.map (λf=>(f.offset,f.type))==fs
 |.arr len e,.array len' e'=>Nat.beq len' len&&Nat.beq e' e
 |.map k e,.map k' e'=>Nat.beq k' k&&Nat.beq e' e
 |.ptr e,.pointer e'=>Nat.beq e' e
 |.one,d=>!d.isRow
 |_,_=>false
theorem TI.isB_ok{i:TI}{d:TypeDesc}(h:i.isB d=true):i.is d:=by
 unfold TI.isB at h;split at h
 ·simp only[Au]at h;simp[TI.is,h]
 ·rfl
 ·rfl
 ·simp[TI.is,Ah h]
 ·exact⟨_,rfl,by simpa using h⟩
 ·simp only[A0]at h;simp[TI.is,Ah h.1,Ah h.2]
 ·simp only[A0]at h;simp[TI.is,Ah h.1,Ah h.2]
 ·simp[TI.is,Ah h]
 ·simpa[TI.is]using h
 ·cases h
theorem TI.is_row{i:TI}{d:TypeDesc}(h:i.is d):d.isRow=i.row:=by
 cases i with
 |struct fs=>obtain⟨a,rfl,_⟩:=h;rfl
 |one=>exact h
 |_=>cases h;rfl
def zsB:List ZV->List Value->Bool
 |[],[]=>true
 |z::r,v::s=>z.isB v&&zsB r s
 |_,_=>false
theorem zsB_ok:∀{l:List ZV}{m:List Value},zsB l m=true->m=l.map ZV.val
 |[],[],_=>rfl
 |z::r,v::s,h=>by
  simp only[zsB,A0]at h;rw[ZV.isB_ok h.1,zsB_ok h.2];rfl
def TE.zv(e:TE):Value:=match e.i.row with
 |true=>.agg (e.z.map ZV.val).toArray
 |false=>(e.z.headD .bool).val
def TE.zB(e:TE)(v:Value):Bool:=match e.i.row with
 |true=>match v with
  |.agg cs=>zsB e.z cs.toList
  |_=>false
 |false=>match e.z with
  |[z]=>z.isB v
  |_=>false
theorem TE.zB_ok{e:TE}{v:Value}(h:e.zB v=true):v=e.zv/\v.cells.toList=e.z.map ZV.val:=by
 unfold TE.zB at h;unfold TE.zv;split at h
 ·rename_i hr;split at h
  ·rename_i cs;have:=zsB_ok h;exact⟨by simp[<- this],this⟩
  ·cases h
 ·rename_i hr;split at h
  ·rename_i z hz;obtain rfl:=ZV.isB_ok h;rw[hz];exact⟨rfl,by cases z<;>rfl⟩
  ·cases h
def teB(P:Program)(t:Nat)(e:TE):Bool :=
 (match P.underlying t with
  |some d=>e.i.isB d
  |none=>false) &&
 (match P.info? t with
  |some i=>Nat.beq i.size e.n&&Nat.beq i.bytes e.b&&(match e.z with
   |[]=>true
   |_=>Nat.beq e.z.length e.n&&(match i.zero with
    |some z=>e.zB z
    |none=>false))
  |none=>false)
section
variable {t:Nat} {e:TE}
theorem z3m(h:teB P t e=true):∃d,P.underlying t=some d/\e.i.is d:=by
 unfold teB at h;simp only[A0]at h;replace h:=h.1;split at h
 ·rename_i d hd;exact⟨d,hd,TI.isB_ok h⟩
 ·cases h
theorem y2j(h:teB P t e=true):∃i,P.info? t=some i/\i.size=e.n/\i.bytes=e.b/\(e.z≠[]->e.z.length=e.n/\i.zero=some e.zv/\e.zv.cells.toList=e.z.map ZV.val):=by
 unfold teB at h;simp only[A0]at h;replace h:=h.2;split at h
 ·rename_i i hi;simp only[A0]at h;refine⟨i,hi,Ah h.1.1,Ah h.1.2,λhz=>?_⟩;have h2:=h.2;split at h2
  ·rename_i h0;exact absurd h0 hz
  ·simp only[A0]at h2;have h3:=h2.2;split at h3
   ·rename_i z hz;obtain⟨rfl,h4⟩:=TE.zB_ok h3;exact⟨Ah h2.1,hz,h4⟩
   ·cases h3
 ·cases h
theorem z2n(h:teB P t e=true):(P.info? t).map (·.size)=some e.n:=by
 obtain⟨i,hi,h1,_⟩:=y2j h;simp[hi,h1]
theorem te_by(h:teB P t e=true):(P.info? t).map (λi=>(i.size,i.bytes))=some (e.n,e.b):=by
 obtain⟨i,hi,h1,h2,_⟩:=y2j h;simp[hi,h1,h2]
theorem z80(h:teB P t e=true)(hz:e.z≠[]):(P.info? t).bind (·.zero)=some e.zv:=by
 obtain⟨i,hi,_,_,h2⟩:=y2j h;simp[hi,(h2 hz).2.1]
theorem z6f(h:teB P t e=true)(hz:e.z≠[]):e.zv.cells.toList=e.z.map ZV.val/\e.zv.cells.size=e.n:=by
 obtain⟨i,hi,_,_,h2⟩:=y2j h;refine⟨(h2 hz).2.2,?_⟩;rw[<- Bq,(h2 hz).2.2,Ac];exact(h2 hz).1
theorem te_app(h:teB P t e=true)(hz:e.z≠[]):(P.info? t).map (λi=>(i.size,i.bytes,(i.zero.map λz=>z.cells.size)))=some (e.n,e.b,some e.n):=by
 obtain⟨i,hi,h1,h2,h3⟩:=y2j h;simp[hi,h1,h2,(h3 hz).2.1,(z6f h hz).2]
end
structure TB(P:Program) where
 ti:Nat->Option TE
 tok:∀t e,ti t=some e->teB P t e=true
 fn:Nat->Bool
 fok:∀f,fn f=true->z6g P f
 mx:P.follows .mixedOrders=true
def tFind:List (Nat×TE)->Nat->Option TE
 |[],_=>none
 |(k,e)::r,t=>match Nat.beq k t with
  |true=>some e
  |false=>tFind r t
def tAll(P:Program):List (Nat×TE)->Bool
 |[]=>true
 |(k,e)::r=>teB P k e&&tAll P r
theorem yq6:∀{l:List (Nat×TE)} {t:Nat} {e:TE},tAll P l=true->tFind l t=some e->teB P t e=true
 |[],_,_,_,h=>by cases h
 |(k,e')::r,t,e,h1,h=>by
  simp only[tAll,A0]at h1;simp only[tFind]at h;split at h
  ·rename_i hb;obtain rfl:=Ah hb
   cases h;exact h1.1
  ·exact yq6 h1.2 h
def entB(P:Program)(f:Nat):Bool:=match P.funcs[f]? with
 |some fn=>!(fn.name == "runtime.NumGoroutine") && !fn.body.isNone
 |none=>false
theorem entB_ok{f:Nat}(h:entB P f=true):z6g P f:=by
 unfold entB at h;split at h
 ·rename_i fn hf;simp only[A0,Bc]at h;exact⟨fn,hf,h.1,h.2⟩
 ·cases h
def nIn(k:Nat):List Nat->Bool
 |[]=>false
 |j::r=>match Nat.beq j k with
  |true=>true
  |false=>nIn k r
theorem z65{k:Nat}:∀{l:List Nat},nIn k l=true↔k∈l
 |[]=>by simp[nIn]
 |j::r=>by
  simp only[nIn,Ao];split
  ·rename_i h;simp[Ah h]
  ·rename_i h;have:k≠j:=λe=>by subst e;simp at h
   simp[this,z65]
theorem z3e{k:Nat}{l:List Nat}(h:nIn k l=false):k∉l:=λhm=>by rw[z65.2 hm]at h;cases h
def y7r(P:Program):List Nat->Bool
 |[]=>true
 |f::r=>entB P f&&y7r P r
theorem y7s{f:Nat}:∀{l:List Nat},y7r P l=true->nIn f l=true->z6g P f
 |[],_,h=>by cases h
 |g::r,h1,h=>by
  simp only[y7r,A0]at h1;simp only[nIn]at h;split at h
  ·rename_i hb;obtain rfl:=Ah hb;exact entB_ok h1.1
  ·exact y7s h1.2 h
def mkTB(P:Program)(l:List (Nat×TE))(q:List Nat)(h:tAll P l=true)(h2:y7r P q=true)(mx:P.follows .mixedOrders=true):TB P where
 ti t:=tFind l t
 tok _ _ ht:=yq6 h ht
 fn f:=nIn f q
 fok _ hf:=y7s h2 hf
 mx:=mx
structure Stp where
 x:IV
 wr:Hp
 rd:List Nat
 nw:List Nat
def agr(fr2 fr:Fr)(l:List Nat):Prop:=∀t∈l,fr2.get t=fr.get t
def agh(hp2 hp:Hp)(l:List Nat):Prop:=∀k∈l,look hp2 k=look hp k
def frsh(k:Nat)(fr:Fr)(hp:Hp):Bool:=match nmFr k fr with
 |true=>false
 |false=>match nmHp k hp with
  |true=>false
  |false=>match look hp k with
   |none=>true
   |some _=>false
theorem z3x{k:Nat}(h:frsh k fr hp=true):nmFr k fr=false/\nmHp k hp=false/\look hp k=none:=by
 unfold frsh at h;split at h
 ·cases h
 ·rename_i h1;split at h
  ·cases h
  ·rename_i h2;split at h
   ·rename_i h3;exact⟨h1,h2,h3⟩
   ·cases h
def j40(l:List Operand):List Nat:=l.flatMap λ
 |.tmp t=>[t]
 |_=>[]
def z1a(op:Op):List Nat:=j40 op.operands.toList
theorem agr.evO{l:List Operand}(h:agr fr2 fr (j40 l)){y:Operand}(hy:y∈l):fr2.ev y=fr.ev y:=by
 cases y with
 |tmp t=>exact h t (List.mem_flatMap.2 ⟨.tmp t,hy,Ak.2 rfl⟩)
 |_=>rfl
theorem agr.ev{op:Op}(h:agr fr2 fr (z1a op)){y:Operand}{x:IV}(hx:fr.ev y=some x)(hy:y∈op.operands.toList):fr2.ev y=some x:=(h.evO hy).trans hx
theorem agr.evs{op:Op}(h:agr fr2 fr (z1a op)):∀{os:List Operand}{xs:List IV},evs fr os=some xs->(∀y∈os,y∈op.operands.toList)->evs fr2 os=some xs
 |[],xs,hx,_=>hx
 |y::r,xs,hx,hy=>by
  simp only[Go.Proofs.YtdhllinkobindaaGreatDoor.evs]at hx⊢;split at hx
  ·rename_i a b h1 h2;rw[h.ev h1 (hy y (.head _)),h.evs h2 λz hz=>hy z (.tail _ hz)];exact hx
  ·cases hx
theorem agr.evParts{op:Op}(h:agr fr2 fr (z1a op)):∀{ps:List (Nat×Operand)} {xs:List (Nat×IV)},z4w fr ps=some xs->(∀y∈ps,y.2∈op.operands.toList)->z4w fr2 ps=some xs
 |[],xs,hx,_=>hx
 |(i,y)::r,xs,hx,hy=>by
  simp only[Go.Proofs.YtdhllinkobindaaGreatDoor.z4w]at hx⊢;split at hx
  ·rename_i a b h1 h2;rw[h.ev h1 (hy (i,y) (.head _)),h.evParts h2 λz hz=>hy z (.tail _ hz)];exact hx
  ·cases hx
theorem agh.at{rd:List Nat}(h:agh hp2 hp rd){k:Nat}{ob:Option HO}(hk:look hp k=ob)(hm:k∈rd):look hp2 k=ob:=(h k hm).trans hk
def OkF(P:Program)(Rl:List Nat)(o:Oper)(fr:Fr)(hp:Hp)(s:Stp):Prop :=
 ∀(c:Cx) fr2 hp2,(∀k,c.R k->k∈Rl)->(∀k∈s.nw,c.σ k=none)->agr fr2 fr (z1a o.op)->agh hp2 hp s.rd->(∀k∈s.nw,frsh k fr2 hp2=true)->Ok P c o fr2 (look hp2) s.x (look (s.wr++hp2))
theorem OkF.pure{x:IV}{rd:List Nat}(h:∀(c:Cx) (R1:Nat->Prop) fr2 hp2,agr fr2 fr (z1a o.op)->agh hp2 hp rd->(∀k∈rd,R1 k)->OkV P c R1 o fr2 (look hp2) x):OkF P Rl o fr hp ⟨x,[],rd,[]⟩ :=
 λc fr2 hp2 _ _ ha hh _=>(h c (λ_=>True) fr2 hp2 ha hh λ_ _=>trivial).ok
inductive VAny(P:Program)(Rl:List Nat)(o:Oper)(fr:Fr)(hp:Hp)(K:Stp->Prop):Prop
 |mk {s:Stp} (h:OkF P Rl o fr hp s) (k:K s)
def Does(P:Program)(Rl:List Nat)(o:Oper)(fr:Fr)(hp:Hp)(K:Stp->Prop):Prop:=∃s,K s/\OkF P Rl o fr hp s
def frcI:List IV->(List IV->Prop)->Prop
 |[],K=>K []
 |x::r,K=>frcI r λl=>K (x::l)
theorem z5z:∀{l:List IV}{K:List IV->Prop},frcI l K->K l
 |[],_,h=>h
 |_::r,K,h=>z5z (l:=r) (K:=λl=>K (_::l)) h
def frcP:List PV->(List PV->Prop)->Prop
 |[],K=>K []
 |x::r,K=>frcP r λl=>K (x::l)
theorem z8g:∀{l:List PV}{K:List PV->Prop},frcP l K->K l
 |[],_,h=>h
 |_::r,K,h=>z8g (l:=r) (K:=λl=>K (_::l)) h
def bsel(b:Bool)(A B:Prop):Prop:=match b with
 |true=>A
 |false=>B
theorem z00{b:Bool}{A B:Prop}(ht:b=true->A)(hf:b=false->B):bsel b A B:=by
 cases b with
 |true=>exact ht rfl
 |false=>exact hf rfl
def vev(fr:Fr)(y:Operand)(K:IV->Prop):Prop:=match fr.ev y with
 |some x=>K x
 |none=>False
theorem z1p{y:Operand}{K:IV->Prop}(h:vev fr y K):∃x,fr.ev y=some x/\K x:=by
 unfold vev at h;split at h
 ·rename_i x hx;exact⟨x,hx,h⟩
 ·exact h.elim
def vti(T:TB P)(t:Nat)(K:TE->Prop):Prop:=match T.ti t with
 |some e=>K e
 |none=>False
theorem z1q{T:TB P}{t:Nat}{K:TE->Prop}(h:vti T t K):∃e,teB P t e=true/\K e:=by
 unfold vti at h;split at h
 ·rename_i e he;exact⟨e,T.tok _ _ he,h⟩
 ·exact h.elim
def vbox(hp:Hp)(k:Nat)(K:List IV->Prop):Prop:=match look hp k with
 |some (.box cs)=>K cs
 |_=>False
theorem z4i{k:Nat}{K:List IV->Prop}(h:vbox hp k K):∃cs,look hp k=some (.box cs)/\K cs:=by
 unfold vbox at h;split at h
 ·rename_i cs hk;exact⟨cs,hk,h⟩
 ·exact h.elim
def vrow(hp:Hp)(k:Nat)(K:RT->List (List PV)->Prop):Prop:=match look hp k with
 |some (.row s els)=>K s els
 |_=>False
theorem z3r{k:Nat}{K:RT->List (List PV)->Prop}(h:vrow hp k K):∃s els,look hp k=some (.row s els)/\K s els:=by
 unfold vrow at h;split at h
 ·rename_i s els hk;exact⟨s,els,hk,h⟩
 ·exact h.elim
def vmap(hp:Hp)(k:Nat)(K:List (Value×PV)->Prop):Prop:=match look hp k with
 |some (.map es)=>K es
 |_=>False
theorem y79{k:Nat}{K:List (Value×PV)->Prop}(h:vmap hp k K):∃es,look hp k=some (.map es)/\K es:=by
 unfold vmap at h;split at h
 ·rename_i es hk;exact⟨es,hk,h⟩
 ·exact h.elim
def z2e(b:Bool)(A:Prop):Prop:=match b with
 |true=>A
 |false=>False
theorem z0f{b:Bool}{A:Prop}(h:z2e b A):b=true/\A:=by
 unfold z2e at h;split at h
 ·exact⟨rfl,h⟩
 ·exact h.elim
def vopt{α:Type}(x:Option α)(K:α -> Prop):Prop:=match x with
 |some a=>K a
 |none=>False
theorem z0k{α:Type}{x:Option α}{K:α -> Prop}(h:vopt x K):∃a,x=some a/\K a:=by
 unfold vopt at h;split at h
 ·exact⟨_,rfl,h⟩
 ·exact h.elim
def z04:IV->List Nat
 |.pv _=>[]
 |.ptr k _=>[k]
 |.sl k _=>[k]
 |.rpt k _ _=>[k]
 |.sp k _ _=>[k]
 |.bs k _=>[k]
 |.mp k=>[k]
 |_=>[]
def yz3(hp:Hp)(z:IV)(A:Prop):Prop:=match z with
 |.pv p=>z2e p.one A
 |.ptr k _=>vbox hp k λ_=>A
 |.sl k n=>vrow hp k λ_ els=>els.length=n/\A
 |.sp k _ n=>vrow hp k λ_ els=>els.length=n/\A
 |.bs k _=>vbox hp k λ_=>A
 |.mp k=>vmap hp k λ_=>A
 |.fn ..=>A
 |_=>False
theorem y02{z:IV}{A:Prop}(h:yz3 hp z A):A/\∀hp2,agh hp2 hp (z04 z)->z.firm (look hp2):=by
 unfold yz3 at h;split at h
 ·obtain⟨h1,h2⟩:=z0f h;exact⟨h2,λ_ _=>h1⟩
 ·obtain⟨cs,h1,h2⟩:=z4i h;exact⟨h2,λhp2 hh=>⟨cs,hh.at h1 (.head _)⟩⟩
 ·obtain⟨s,els,h1,h2,h3⟩:=z3r h;exact⟨h3,λhp2 hh=>⟨s,els,hh.at h1 (.head _),h2⟩⟩
 ·obtain⟨s,els,h1,h2,h3⟩:=z3r h;exact⟨h3,λhp2 hh=>⟨s,els,hh.at h1 (.head _),h2⟩⟩
 ·obtain⟨cs,h1,h2⟩:=z4i h;exact⟨h2,λhp2 hh=>⟨cs,hh.at h1 (.head _)⟩⟩
 ·obtain⟨cs,h1,h2⟩:=y79 h;exact⟨h2,λhp2 hh=>⟨cs,hh.at h1 (.head _)⟩⟩
 ·exact⟨h,λ_ _=>trivial⟩
 ·exact h.elim
def j4z(hp:Hp):List IV->Prop->Prop
 |[],A=>A
 |z::r,A=>yz3 hp z (j4z hp r A)
theorem ya4:∀{l:List IV}{A:Prop},j4z hp l A->A/\∀hp2,agh hp2 hp (l.flatMap z04)->∀z∈l,z.firm (look hp2)
 |[],A,h=>⟨h,λ_ _ z hz=>by cases hz⟩
 |z::r,A,h=>by
  obtain⟨h1,h2⟩:=y02 h;obtain⟨h3,h4⟩:=ya4 h1;refine⟨h3,λhp2 hh y hy=>?_⟩;simp only[Es]at hh;rcases Ao.1 hy with rfl|hy
  ·exact h2 hp2 λk hk=>hh k (Cc _ hk)
  ·exact h4 hp2 (λk hk=>hh k (Ch _ hk)) y hy
end
section
variable {P:Program} {T:TB P} {o:Oper} {fr:Fr} {hp:Hp} {Rl:List Nat} {K:Stp->Prop}
def ya3(fr:Fr)(y:Operand)(K:Stp->Prop):Prop:=vev fr y λx=>K ⟨x,[],[],[]⟩
theorem vMove_ok{y:Operand}(ho:o.op=.move y)(h:ya3 fr y K):Does P Rl o fr hp K:=by
 obtain⟨x,hx,hk⟩:=z1p h;exact⟨_,hk,.pure λc R1 fr2 hp2 ha _ _=>z2p ho (ha.ev hx (by rw[ho];simp[Op.operands]))⟩
theorem yy5{y:Operand}(ho:o.op=.assign y)(h:ya3 fr y K):Does P Rl o fr hp K:=by
 obtain⟨x,hx,hk⟩:=z1p h;exact⟨_,hk,.pure λc R1 fr2 hp2 ha _ _=>z3t ho (ha.ev hx (by rw[ho];simp[Op.operands]))⟩
def vPick(fr:Fr)(q y w:Operand)(K:Stp->Prop):Prop:=vev fr q λb=>match b with
 |.pv (.val (.bool t))=>bsel t (ya3 fr y K) (ya3 fr w K)
 |_=>False
theorem vPick_ok{q y w:Operand}(ho:o.op=.pick q y w)(h:vPick fr q y w K):Does P Rl o fr hp K:=by
 obtain⟨b,hb,hk⟩:=z1p h;split at hk
 ·rename_i t
  cases t with
  |true =>
   obtain⟨x,hx,hk⟩:=z1p (show ya3 fr y K from hk)
   exact⟨_,hk,.pure λc R1 fr2 hp2 ha _ _=>z5b ho (ha.ev hb (by rw[ho];simp[Op.operands])) (ha.ev hx (by rw[ho];simp[Op.operands]))⟩
  |false =>
   obtain⟨x,hx,hk⟩:=z1p (show ya3 fr w K from hk);exact⟨_,hk,.pure λc R1 fr2 hp2 ha _ _=>z1g ho (ha.ev hb (by rw[ho];simp[Op.operands])) (ha.ev hx (by rw[ho];simp[Op.operands]))⟩
 ·exact hk.elim
def j0a:BinOp->Int->Int->Option Bool
 |.eql,m,n=>some (m==n)
 |.neq,m,n=>some (m != n)
 |.lss,m,n=>some (decide (m<n))
 |.leq,m,n=>some (decide (m<=n))
 |.gtr,m,n=>some (decide (m > n))
 |.geq,m,n=>some (decide (m≥n))
 |_,_,_=>none
theorem j0b{p:BinOp}{k:IntKind}{m n:Int}{b:Bool}(h:j0a p m n=some b):z3c p k m n=some (.bool b):=by
 cases p<;>simp only[j0a]at h<;>first|(cases h;done)|(cases h;rfl)
def j0c:BinOp->ByteArray->ByteArray->Option Bool
 |.eql,x,y=>some (x.toList==y.toList)
 |.neq,x,y=>some (!(x.toList==y.toList))
 |.lss,x,y=>some (Op.bytesLess x.toList y.toList)
 |.leq,x,y=>some (Op.bytesLess x.toList y.toList||x.toList==y.toList)
 |.gtr,x,y=>some (!(Op.bytesLess x.toList y.toList||x.toList==y.toList))
 |.geq,x,y=>some (!Op.bytesLess x.toList y.toList)
 |_,_,_=>none
theorem j0d{p:BinOp}{x y:ByteArray}{b:Bool}(h:j0c p x y=some b):y54 p x y=some (.bool b):=by
 cases p<;>simp only[j0c]at h<;>first|(cases h;done)|(cases h;rfl)
theorem y1v{op:BinOp}{t:TypeId}{x y:Operand}{p q:Option Addr}(w:World):(eqGuard op t x y (.pointer p) (.pointer q)).run P w=.ok () w:=by
 unfold eqGuard;split<;>simp
theorem zs6{tp te:TypeId}{w:World}(p:Option Addr)(hp:P.underlying tp=some (.pointer te)):(Op.equal tp (.pointer p) (.pointer none)).run P w=.ok p.isNone w:=by
 have h:∀d:Nat,(Op.equalIn (d+1) tp (.pointer p) (.pointer none)).run P w=.ok p.isNone w:=λd=>by
  cases p<;>simp[Op.equalIn,B6 hp]
 simp[Op.equal,Op.maxDepth,h 9999]
theorem y3c{op:BinOp}{t:TypeId}{x y:Operand}{p q:Option Addr}{n m n' m':Nat}(w:World):(eqGuard op t x y (.slice p n m) (.slice q n' m')).run P w=.ok () w:=by
 unfold eqGuard;split<;>simp
theorem zy1{tp te:TypeId}{w:World}(p:Option Addr)(n m:Nat)(hp:P.underlying tp=some (.slice te)):(Op.equal tp (.slice p n m) (.slice none 0 0)).run P w=.ok p.isNone w:=by
 have h:∀d:Nat,(Op.equalIn (d+1) tp (.slice p n m) (.slice none 0 0)).run P w=.ok p.isNone w:=λd=>by
  cases p<;>simp[Op.equalIn,B6 hp]
 simp[Op.equal,Op.maxDepth,h 9999]
def y3l:BinOp->Bool->Option Bool
 |.eql,b=>some b
 |.neq,b=>some (!b)
 |_,_=>none
def pvNil:PV->Option Bool
 |.ept _ _=>some false
 |.val (.pointer none)=>some true
 |_=>none
theorem pvNil_ok{own:Nat->Prop}{w:World}{q:PV}{b:Bool}{v:Value}(h:pvNil q=some b)(hr:RepP own w q v):∃p,v=.pointer p/\p.isNone=b:=by
 unfold pvNil at h;split at h
 ·cases h
  cases hr with
  |ept _ _ b o' u hb hc hr1=>exact⟨_,rfl,rfl⟩
 ·cases h
  cases hr with
  |val=>exact⟨none,rfl,rfl⟩
 ·cases h
theorem j1l{c:Cx}{R1:Nat->Prop}{op:BinOp}{t u te:TypeId}{x y:Operand}{q:PV}{b r:Bool}{σ:Heap'}(ho:o.op=.binOp op t x y u)(hx:fr.ev x=some (.pv q))(hy:fr.ev y=some (.pv (.val (.pointer none))))(hq:pvNil q=some b)(hr:y3l op b=some r)
 (ht:P.underlying t=some (.pointer te)):OkV P c R1 o fr σ (.pv (.val (.bool r))):=λρ w a h=>by
 have hv:=h.ev hx;have hn:=h.ev hy;generalize hg:a.eval x=v at hv;generalize hg2:a.eval y=v2 at hn
 cases hv with
 |pv _ _ hv =>
  obtain⟨p,rfl,hp⟩:=pvNil_ok hq hv;obtain rfl:=hn.val;refine⟨_,λw2 _=>?_,z3k _⟩
  cases op<;>simp only[y3l]at hr<;>first
   |(cases hr;done)
   |(cases hr;subst hp;simp only[execOp,ho,hg,hg2,Ai,y1v,As,binOp,zs6 p ht];rfl)
def slNil:PV->Option Bool
 |.seq (_::_)=>some false
 |.val (.slice none _ _)=>some true
 |.val (.slice (some _) _ _)=>some false
 |_=>none
theorem slNil_ok{own:Nat->Prop}{w:World}{q:PV}{b:Bool}{v:Value}(h:slNil q=some b)(hr:RepP own w q v):∃p n m,v=.slice p n m/\p.isNone=b:=by
 unfold slNil at h;split at h
 ·cases h
  cases hr with
  |seq els a cap bb off u ha hb hl hm hc hr1=>exact⟨_,_,_,rfl,by rw[ha sI0];rfl⟩
 ·cases h
  cases hr with
  |val=>exact⟨none,_,_,rfl,rfl⟩
 ·cases h
  cases hr with
  |val=>exact⟨some _,_,_,rfl,rfl⟩
 ·cases h
theorem ok_cmpSl{c:Cx}{R1:Nat->Prop}{op:BinOp}{t u te:TypeId}{x y:Operand}{q:PV}{b r:Bool}{σ:Heap'}(ho:o.op=.binOp op t x y u)(hx:fr.ev x=some (.pv q))(hy:fr.ev y=some (.pv (.val (.slice none 0 0))))(hq:slNil q=some b)(hr:y3l op b=some r)
 (ht:P.underlying t=some (.slice te)):OkV P c R1 o fr σ (.pv (.val (.bool r))):=λρ w a h=>by
 have hv:=h.ev hx;have hn:=h.ev hy;generalize hg:a.eval x=v at hv;generalize hg2:a.eval y=v2 at hn
 cases hv with
 |pv _ _ hv =>
  obtain⟨p,n,m,rfl,hp⟩:=slNil_ok hq hv;obtain rfl:=hn.val;refine⟨_,λw2 _=>?_,z3k _⟩
  cases op<;>simp only[y3l]at hr<;>first
   |(cases hr;done)
   |(cases hr;subst hp;simp only[execOp,ho,hg,hg2,Ai,y3c,As,binOp,zy1 p n m ht];rfl)
inductive VBin(p:BinOp)(k:IntKind)(m n:Int)(K:Value->Prop):Prop
 |mk {v:Value} (h:z3c p k m n=some v) (k:K v)
inductive VStr(p:BinOp)(m n:ByteArray)(K:Value->Prop):Prop
 |mk {v:Value} (h:y54 p m n=some v) (k:K v)
def vBin(T:TB P)(p:BinOp)(t:Nat)(fr:Fr)(y w:Operand)(K:Stp->Prop):Prop:=vev fr y λa=>vev fr w λb=>match a with
 |.pv (.val (.int k m))=>match b with
  |.pv (.val (.int k' n))=>match p with
   |.shl=>0<=n/\K ⟨.pv (.val (.int k (k.wrap (m*2 ^ (min n.toNat k.bits))))),[],[],[]⟩
   |.shr=>0<=n/\K ⟨.pv (.val (.int k (m.fdiv (2 ^ (min n.toNat k.bits))))),[],[],[]⟩
   |p=>z2e (k'==k) (match j0a p m n with
    |some v=>K ⟨.pv (.val (.bool v)),[],[],[]⟩
    |none=>VBin p k m n λv=>K ⟨.pv (.val v),[],[],[]⟩)
  |_=>False
 |.pv (.val (.string m))=>match b with
  |.pv (.val (.string n))=>match j0c p m n with
   |some v=>K ⟨.pv (.val (.bool v)),[],[],[]⟩
   |none=>VStr p m n λv=>K ⟨.pv (.val v),[],[],[]⟩
  |_=>False
 |.pv (.val (.bool q))=>match b with
  |.pv (.val (.bool r))=>vti T t λe=>match e.i with
   |.bool=>match p with
    |.eql=>K ⟨.pv (.val (.bool (q==r))),[],[],[]⟩
    |.neq=>K ⟨.pv (.val (.bool (!(q==r)))),[],[],[]⟩
    |_=>False
   |_=>False
  |_=>False
 |.pv q=>match b with
  |.pv (.val (.pointer none))=>vopt (pvNil q) λn=>vopt (y3l p n) λr=>vti T t λe=>match e.i with
   |.ptr _=>K ⟨.pv (.val (.bool r)),[],[],[]⟩
   |_=>False
  |.pv (.val (.slice none 0 0))=>vopt (slNil q) λn=>vopt (y3l p n) λr=>vti T t λe=>match e.i with
   |.slice _=>K ⟨.pv (.val (.bool r)),[],[],[]⟩
   |_=>False
  |_=>False
 |_=>False
theorem vBin_ok{p:BinOp}{t u:Nat}{y w:Operand}(ho:o.op=.binOp p t y w u)(h:vBin T p t fr y w K):Does P Rl o fr hp K:=by
 obtain⟨a,ha,h⟩:=z1p h;obtain⟨b,hb,h⟩:=z1p h;have ea:∀{fr2:Fr},agr fr2 fr (z1a o.op)->fr2.ev y=some a:=λhg=>hg.ev ha (by rw[ho];simp[Op.operands]);have eb:∀{fr2:Fr},agr fr2 fr (z1a o.op)->fr2.ev w=some b:=λhg=>hg.ev hb (by rw[ho];simp[Op.operands]);split at h
 ·rename_i k m;split at h
  ·rename_i k' n;split at h
   ·exact⟨_,h.2,.pure λc R1 fr2 hp2 hg _ _=>ok_shl ho (ea hg) (eb hg) h.1⟩
   ·exact⟨_,h.2,.pure λc R1 fr2 hp2 hg _ _=>ok_shr ho (ea hg) (eb hg) h.1⟩
   ·obtain⟨hk,h⟩:=z0f h;obtain rfl:=eq_of_beq hk;split at h
    ·rename_i v hv;exact⟨_,h,.pure λc R1 fr2 hp2 hg _ _=>zr6 ho (ea hg) (eb hg) (j0b hv)⟩
    ·obtain⟨h1,h2⟩:=h;exact⟨_,h2,.pure λc R1 fr2 hp2 hg _ _=>zr6 ho (ea hg) (eb hg) h1⟩
  ·exact h.elim
 ·split at h
  ·split at h
   ·rename_i v hv;exact⟨_,h,.pure λc R1 fr2 hp2 hg _ _=>bSt ho (ea hg) (eb hg) (j0d hv)⟩
   ·obtain⟨h1,h2⟩:=h;exact⟨_,h2,.pure λc R1 fr2 hp2 hg _ _=>bSt ho (ea hg) (eb hg) h1⟩
  ·exact h.elim
 ·split at h
  ·obtain⟨e,he,h⟩:=z1q h;obtain⟨d,hd,hi⟩:=z3m he;split at h
   ·rename_i hb;rw[hb]at hi
    cases hi
    split at h
    ·exact⟨_,h,.pure λc R1 fr2 hp2 hg _ _=>yd6 ho (ea hg) (eb hg) hd⟩
    ·exact⟨_,h,.pure λc R1 fr2 hp2 hg _ _=>ye0 ho (ea hg) (eb hg) hd⟩
    ·exact h.elim
   ·exact h.elim
  ·exact h.elim
 ·split at h
  ·obtain⟨n,hn,h⟩:=z0k h;obtain⟨r,hr,h⟩:=z0k h;obtain⟨e,he,h⟩:=z1q h;obtain⟨d,hd,hi⟩:=z3m he;split at h
   ·rename_i hb;rw[hb]at hi
    cases hi
    exact⟨_,h,.pure λc R1 fr2 hp2 hg _ _=>j1l ho (ea hg) (eb hg) hn hr hd⟩
   ·exact h.elim
  ·obtain⟨n,hn,h⟩:=z0k h;obtain⟨r,hr,h⟩:=z0k h;obtain⟨e,he,h⟩:=z1q h;obtain⟨d,hd,hi⟩:=z3m he;split at h
   ·rename_i hb;rw[hb]at hi
    cases hi
    exact⟨_,h,.pure λc R1 fr2 hp2 hg _ _=>ok_cmpSl ho (ea hg) (eb hg) hn hr hd⟩
   ·exact h.elim
  ·exact h.elim
 ·exact h.elim
def vUn(p:UnOp)(fr:Fr)(y:Operand)(K:Stp->Prop):Prop:=vev fr y λa=>match p with
 |.not=>match a with
  |.pv (.val (.bool b))=>K ⟨.pv (.val (.bool (!b))),[],[],[]⟩
  |_=>False
 |.neg=>match a with
  |.pv (.val (.int k n))=>K ⟨.pv (.val (.int k (k.wrap (0-n)))),[],[],[]⟩
  |_=>False
 |_=>False
theorem vUn_ok{p:UnOp}{t:Nat}{y:Operand}(ho:o.op=.unOp p t y)(h:vUn p fr y K):Does P Rl o fr hp K:=by
 obtain⟨a,ha,h⟩:=z1p h;have ea:∀{fr2:Fr},agr fr2 fr (z1a o.op)->fr2.ev y=some a:=λhg=>hg.ev ha (by rw[ho];simp[Op.operands]);split at h
 ·split at h
  ·exact⟨_,h,.pure λc R1 fr2 hp2 hg _ _=>ym8 ho (ea hg)⟩
  ·exact h.elim
 ·split at h
  ·exact⟨_,h,.pure λc R1 fr2 hp2 hg _ _=>ok_neg ho (ea hg)⟩
  ·exact h.elim
 ·exact h.elim
def vConv(T:TB P)(s t:Nat)(fr:Fr)(y:Operand)(K:Stp->Prop):Prop:=vev fr y λa=>match a with
 |.pv (.val (.int _ n))=>vti T s λ_=>vti T t λe=>match e.i with
  |.int k'=>K ⟨.pv (.val (.int k' (k'.wrap n))),[],[],[]⟩
  |_=>False
 |.pv (.seq els)=>vti T s λd=>vti T t λe=>match d.i with
  |.slice q=>vti T q λz=>match z.i with
   |.int .u8=>match e.i with
    |.str=>match y08 els with
     |some ns=>K ⟨.pv (.val (.string (y5d ns))),[],[],[]⟩
     |none=>False
    |_=>False
   |_=>False
  |_=>False
 |_=>False
theorem vConv_ok{s t:Nat}{y:Operand}(ho:o.op=.convert s t y)(h:vConv T s t fr y K):Does P Rl o fr hp K:=by
 obtain⟨a,ha,h⟩:=z1p h;have ea:∀{fr2:Fr},agr fr2 fr (z1a o.op)->fr2.ev y=some a:=λhg=>hg.ev ha (by rw[ho];simp[Op.operands]);split at h
 ·obtain⟨e1,he1,h⟩:=z1q h;obtain⟨e,he,h⟩:=z1q h;obtain⟨d1,hd1,_⟩:=z3m he1;obtain⟨d,hd,hi⟩:=z3m he;split at h
  ·rename_i hb;rw[hb]at hi
   cases hi
   exact⟨_,h,.pure λc R1 fr2 hp2 hg _ _=>y15 ho (ea hg) ⟨d1,hd1⟩ hd⟩
  ·exact h.elim
 ·obtain⟨e1,he1,h⟩:=z1q h;obtain⟨e,he,h⟩:=z1q h;obtain⟨d1,hd1,hi1⟩:=z3m he1;obtain⟨d,hd,hi⟩:=z3m he;split at h
  ·rename_i q hb1;rw[hb1]at hi1
   cases hi1
   obtain⟨z,hz,h⟩:=z1q h;obtain⟨d2,hd2,hi2⟩:=z3m hz;split at h
   ·rename_i hb2;rw[hb2]at hi2
    cases hi2
    split at h
    ·rename_i hb;rw[hb]at hi
     cases hi
     split at h
     ·rename_i ns hns;exact⟨_,h,.pure λc R1 fr2 hp2 hg _ _=>yd5 ho (ea hg) hns hd1 hd2 hd⟩
     ·exact h.elim
    ·exact h.elim
   ·exact h.elim
  ·exact h.elim
 ·exact h.elim
inductive VIdx(els:List (List PV))(m:Int)(K:List PV->Prop):Prop
 |mk {i:Nat} {el:List PV} (hi:els[i]?=some el) (hm:m=i) (k:K el)
inductive VIdR(n:Nat)(m:Int)(K:Nat->Prop):Prop
 |mk {i:Nat} (hi:i<n) (hm:m=i) (k:K i)
inductive VIdS(s:ByteArray)(m:Int)(K:UInt8->Prop):Prop
 |mk {i:Nat} {b:UInt8} (hi:s[i]?=some b) (hm:m=i) (k:K b)
def vIdxA(T:TB P)(t:Nat)(fr:Fr)(hp:Hp)(y w:Operand)(K:Stp->Prop):Prop:=vev fr y λa=>vev fr w λb=>match b with
 |.pv (.val (.int _ m))=>vti T t λe=>match e.i with
  |.slice q=>vti T q λeq=>match a with
   |.pv (.seq els)=>VIdx els m λel=>z2e (Nat.beq el.length eq.n) (K ⟨.pv (.ept el 0),[],[],[]⟩)
   |.sl k n=>vrow hp k λs els=>z2e (Nat.beq s.e q&&Nat.beq s.n eq.n) (els.length=n/\VIdR n m λi=>K ⟨.rpt k n (i*s.n),[],[k],[]⟩)
   |.bs k n=>vbox hp k λ_=>z2e (Nat.beq eq.n 1) (VIdR n m λi=>K ⟨.ptr k i,[],[k],[]⟩)
   |.sp k n m'=>vrow hp k λs els=>z2e (Nat.beq s.e q&&Nat.beq s.n eq.n) (els.length=m'/\VIdR n m λi=>K ⟨.rpt k m' (i*s.n),[],[k],[]⟩)
   |_=>False
  |.arr n q=>vti T q λeq=>match a with
   |.ptr k off=>vbox hp k λ_=>VIdR n m λi=>K ⟨.ptr k (off+i*eq.n),[],[k],[]⟩
   |_=>False
  |_=>False
 |_=>False
theorem vIdxA_ok{t:Nat}{y w:Operand}(ho:o.op=.indexAddr t y w)(h:vIdxA T t fr hp y w K):Does P Rl o fr hp K:=by
 obtain⟨a,ha,h⟩:=z1p h;obtain⟨b,hb,h⟩:=z1p h;have ea:∀{fr2:Fr},agr fr2 fr (z1a o.op)->fr2.ev y=some a:=λhg=>hg.ev ha (by rw[ho];simp[Op.operands]);have eb:∀{fr2:Fr},agr fr2 fr (z1a o.op)->fr2.ev w=some b:=λhg=>hg.ev hb (by rw[ho];simp[Op.operands]);split at h
 ·obtain⟨e,he,h⟩:=z1q h;obtain⟨d,hd,hi⟩:=z3m he;split at h
  ·rename_i q hq;rw[hq]at hi
   cases hi
   obtain⟨eq,heq,h⟩:=z1q h;split at h
   ·obtain⟨h1,h2,h⟩:=h;obtain⟨h3,h⟩:=z0f h;exact⟨_,h,.pure λc R1 fr2 hp2 hg _ _=>iSq ho (ea hg) (eb hg) hd h1 (z2n heq) (Ah h3) h2⟩
   ·rename_i k n;obtain⟨s,els,hk,h⟩:=z3r h;obtain⟨h3,h⟩:=z0f h;obtain⟨hn,h1,h2,h9⟩:=h;simp only[A0]at h3;obtain rfl:=Ah h3.1;exact⟨_,h9,.pure λc R1 fr2 hp2 hg hh _=>iRw ho (ea hg) (eb hg) (hh.at hk (.head _)) hn hd (by rw[z2n heq,Ah h3.2]) h1 h2⟩
   ·rename_i k n;obtain⟨cs,hk,h⟩:=z4i h;obtain⟨h3,h⟩:=z0f h;obtain⟨h1,h2,h⟩:=h;exact⟨_,h,.pure λc R1 fr2 hp2 hg hh _=>yd7 ho (ea hg) (eb hg) (hh.at hk (.head _)) hd (by rw[z2n heq,Ah h3]) h1 h2⟩
   ·rename_i k n m';obtain⟨s,els,hk,h⟩:=z3r h;obtain⟨h3,h⟩:=z0f h;obtain⟨hn,h1,h2,h9⟩:=h;simp only[A0]at h3;obtain rfl:=Ah h3.1;exact⟨_,h9,.pure λc R1 fr2 hp2 hg hh _=>yd8 ho (ea hg) (eb hg) (hh.at hk (.head _)) hn hd (by rw[z2n heq,Ah h3.2]) h1 h2⟩
   ·exact h.elim
  ·rename_i n q hq;rw[hq]at hi
   cases hi
   obtain⟨eq,heq,h⟩:=z1q h;split at h
   ·rename_i k off;obtain⟨cs,hk,h⟩:=z4i h;obtain⟨h1,h2,h⟩:=h;exact⟨_,h,.pure λc R1 fr2 hp2 hg hh _=>y8l ho (ea hg) (eb hg) (hh.at hk (.head _)) hd (z2n heq) h2 h1⟩
   ·exact h.elim
  ·exact h.elim
 ·exact h.elim
def vIdxV(T:TB P)(t:Nat)(fr:Fr)(y w:Operand)(K:Stp->Prop):Prop:=vev fr y λa=>vev fr w λb=>match b with
 |.pv (.val (.int _ m))=>match a with
  |.pv (.val (.string s))=>vti T t λe=>match e.i with
   |.str=>VIdS s m λb=>K ⟨.pv (.val (.int .u8 b.toNat)),[],[],[]⟩
   |_=>False
  |_=>False
 |_=>False
theorem vIdxV_ok{t:Nat}{y w:Operand}(ho:o.op=.index t y w)(h:vIdxV T t fr y w K):Does P Rl o fr hp K:=by
 obtain⟨a,ha,h⟩:=z1p h;obtain⟨b,hb,h⟩:=z1p h;have ea:∀{fr2:Fr},agr fr2 fr (z1a o.op)->fr2.ev y=some a:=λhg=>hg.ev ha (by rw[ho];simp[Op.operands]);have eb:∀{fr2:Fr},agr fr2 fr (z1a o.op)->fr2.ev w=some b:=λhg=>hg.ev hb (by rw[ho];simp[Op.operands]);split at h
 ·split at h
  ·obtain⟨e,he,h⟩:=z1q h;obtain⟨d,hd,hi⟩:=z3m he;split at h
   ·rename_i hq;rw[hq]at hi
    cases hi
    obtain⟨h1,h2,h⟩:=h;exact⟨_,h,.pure λc R1 fr2 hp2 hg _ _=>zv5 ho (ea hg) (eb hg) hd h1 h2⟩
   ·exact h.elim
  ·exact h.elim
 ·exact h.elim
theorem y8k{c:Cx}{R1:Nat->Prop}{t:TypeId}{x:Operand}{f fo:Nat}{k n off:Nat}{s:RT}{els:List (List PV)}(ho:o.op=.fieldAddr t x f)(hx:fr.ev x=some (.rpt k n off))(hk:look hp k=some (.row s els))(hn:els.length=n)
 (hfo:y5b P t f fo):OkV P c R1 o fr (look hp) (.rpt k n (off+fo)):=by
 refine λρ w a h=>?_;obtain⟨fs,fd,s',hu,hf,rfl,hs⟩:=hfo;obtain⟨b,cc,r,u,hv,hρ,h3,h4,hc,hcm,hwe,hcells,hu'⟩:=h.rpt hx hk hn;refine⟨.pointer (some ⟨b,off+fd.offset,none⟩),λw2 _=>?_,.rpt _ _ _ _ λs2 els2 h2=>?_⟩
 ·simp[execOp,ho,hv,Instr.fieldAt,Ai,B6 hu,hf,Instr.sureAddr,fieldPlace,z18 hs,Cp]
 ·rw[hk]at h2;cases h2
  exact⟨by omega,λ_=>⟨b,cc,hρ,rfl⟩⟩
theorem y19{c:Cx}{R1:Nat->Prop}{x:Operand}{k n off:Nat}{s:RT}{els:List (List PV)}(ho:o.op=.nilCheck x)(hx:fr.ev x=some (.rpt k n off))(hk:look hp k=some (.row s els))(hn:els.length=n):OkV P c R1 o fr (look hp) (.rpt k n off):=by
 intro ρ w a h;obtain⟨b,cc,r,u,hv,hρ,h3,h4,hc,hcm,hwe,hcells,hu'⟩:=h.rpt hx hk hn;refine⟨.pointer (some ⟨b,off,none⟩),λw2 _=>by simp[execOp,ho,hv],.rpt _ _ _ _ λs2 els2 h2=>?_⟩;rw[hk]at h2;cases h2
 exact⟨by omega,λ_=>⟨b,cc,hρ,rfl⟩⟩
def j4r(T:TB P)(t:Nat)(fr:Fr)(hp:Hp)(y:Operand)(f:Nat)(K:Stp->Prop):Prop:=vev fr y λa=>vti T t λe=>match e.i with
 |.struct fs=>vopt fs[f]? λp=>vti T p.2 λef=>z2e (Nat.blt 0 ef.n) (match a with
  |.pv (.ept cs off)=>K ⟨.pv (.ept cs (off+p.1)),[],[],[]⟩
  |.ptr k off=>vbox hp k λ_=>K ⟨.ptr k (off+p.1),[],[k],[]⟩
  |.rpt k n off=>vrow hp k λ_ els=>els.length=n/\K ⟨.rpt k n (off+p.1),[],[k],[]⟩
  |_=>False)
 |_=>False
theorem field_ok{t f:Nat}{e ef:TE}{fs:List (Nat×Nat)}{p:Nat×Nat}(he:teB P t e=true)(hi:e.i=.struct fs)(hp:fs[f]?=some p)(hf:teB P p.2 ef=true)(hn:Nat.blt 0 ef.n=true):y5b P t f p.1:=by
 obtain⟨d,hd,h1⟩:=z3m he;rw[hi]at h1;obtain⟨a,rfl,h2⟩:=h1;rw[<- h2,Ba,A5]at hp;obtain⟨fd,h3,rfl⟩:=hp;have h4:1<=ef.n:=by simpa[Nat.blt]using hn
 exact⟨a,fd,ef.n-1,hd,by simpa using h3,rfl,by rw[z2n hf];congr 1;omega⟩
theorem yy8{t f:Nat}{y:Operand}(ho:o.op=.fieldAddr t y f)(h:j4r T t fr hp y f K):Does P Rl o fr hp K:=by
 obtain⟨a,ha,h⟩:=z1p h;have ea:∀{fr2:Fr},agr fr2 fr (z1a o.op)->fr2.ev y=some a:=λhg=>hg.ev ha (by rw[ho];simp[Op.operands]);obtain⟨e,he,h⟩:=z1q h;split at h
 ·rename_i fs hfs;obtain⟨p,hp',h⟩:=z0k h;obtain⟨ef,hef,h⟩:=z1q h;obtain⟨hn,h⟩:=z0f h;have hF:=field_ok he hfs hp' hef hn;split at h
  ·exact⟨_,h,.pure λc R1 fr2 hp2 hg _ _=>y8i ho (ea hg) hF⟩
  ·obtain⟨cs,hk,h⟩:=z4i h;exact⟨_,h,.pure λc R1 fr2 hp2 hg hh _=>y8j ho (ea hg) (hh.at hk (.head _)) hF⟩
  ·obtain⟨s,els,hk,h⟩:=z3r h;exact⟨_,h.2,.pure λc R1 fr2 hp2 hg hh _=>y8k ho (ea hg) (hh.at hk (.head _)) h.1 hF⟩
  ·exact h.elim
 ·exact h.elim
theorem zc4{c:Cx}{R1:Nat->Prop}{t:Nat}{x:Operand}{d:TypeDesc}{k n i off:Nat}{s:RT}{els:List (List PV)}{el:List PV}(ho:o.op=.load t x)(hx:fr.ev x=some (.rpt k n off))(hk:look hp k=some (.row s els))(hn:els.length=n)
 (hoff:off=i*s.n) (hi:els[i]?=some el) (hu:P.underlying t=some d) (hd:d.isRow=true) (hs:(P.info? t).map (·.size)=some s.n) (hR1:R1 k):OkV P c R1 o fr (look hp) (.pv (.agg el)):=by
 intro ρ w a h;obtain⟨b,cc,r,u,hv,hρ,h3,h4,hc,hcm,hwe,hcells,hu'⟩:=h.rpt hx hk hn;have hel:el.length=s.n:=hwe el (Ag hi);have hin:i<els.length:=(A7.1 hi).1;have hle:i*s.n+s.n<=r.size:=by
  have:(i+1)*s.n<=cc*s.n:=C1 _ oM0;rw[D8]at this;omega
 have hlen:((r.toList.drop off).take s.n).length=s.n:=by simp;omega
 refine⟨_,λw2 h2=>by simp only[execOp,ho,hv,Ai,G3 (P:=P) w2 b off t _ d (y8t ((h2 b (h.rel.lt hρ) (.inr ⟨k,cc,hR1,hρ⟩)).trans h3) off s.n) hu hd (by rw[hlen];exact hs)];rfl,.pv _ _ (.agg _ _ (u i) ?_ ?_ ?_)⟩
 ·simp;omega
 ·intro j z hj;have hjn:j<s.n:=by have:=(A7.1 hj).1;omega
  have:=hcells i el hi j z hj;subst hoff;simp[hjn];simpa using this
 ·exact λj z hj=>hu' i el hi j z hj
inductive VRow(s:RT)(els:List (List PV))(n off:Nat)(K:PV->Prop):Prop
 |mk {i j:Nat} {el:List PV} {z:PV} (hn:els.length=n) (ho:off=i*s.n+j) (hi:els[i]?=some el) (hj:el[j]?=some z) (k:K z)
inductive VRowS(s:RT)(els:List (List PV))(n off:Nat)(K:List PV->Prop):Prop
 |mk {i:Nat} {el:List PV} (hn:els.length=n) (ho:off=i*s.n) (hi:els[i]?=some el) (k:K el)
def yj2(T:TB P)(t:Nat)(fr:Fr)(hp:Hp)(y:Operand)(K:Stp->Prop):Prop:=vev fr y λa=>vti T t λe=>match a with
 |.pv (.ept cs off)=>match e.i.row with
  |false=>vopt cs[off]? λz=>K ⟨.pv z,[],[],[]⟩
  |true=>z2e (Nat.ble (off+e.n) cs.length) (frcP ((cs.drop off).take e.n) λl=>K ⟨.pv (.agg l),[],[],[]⟩)
 |.ptr k off=>vbox hp k λcs=>match e.i.row with
  |false=>vopt cs[off]? λz=>K ⟨z,[],[k],[]⟩
  |true=>z2e (Nat.ble (off+e.n) cs.length) (match z7s ((cs.drop off).take e.n)with
   |some ps=>frcP ps λl=>K ⟨.pv (.agg l),[],[k],[]⟩
   |none=>frcI ((cs.drop off).take e.n) λl=>K ⟨.agg l,[],[k],[]⟩)
 |.rpt k n off=>vrow hp k λs els=>match e.i.row with
  |false=>VRow s els n off λz=>K ⟨.pv z,[],[k],[]⟩
  |true=>z2e (Nat.beq e.n s.n) (VRowS s els n off λel=>K ⟨.pv (.agg el),[],[k],[]⟩)
 |_=>False
theorem vLoad_ok{t:Nat}{y:Operand}(ho:o.op=.load t y)(h:yj2 T t fr hp y K):Does P Rl o fr hp K:=by
 obtain⟨a,ha,h⟩:=z1p h;have ea:∀{fr2:Fr},agr fr2 fr (z1a o.op)->fr2.ev y=some a:=λhg=>hg.ev ha (by rw[ho];simp[Op.operands]);obtain⟨e,he,h⟩:=z1q h;obtain⟨d,hd,hi⟩:=z3m he;have hrow:=TI.is_row hi;split at h
 ·split at h
  ·rename_i hr;obtain⟨z,hz,h⟩:=z0k h;exact⟨_,h,.pure λc R1 fr2 hp2 hg _ _=>y17 ho (ea hg) hd (hrow.trans hr) hz⟩
  ·rename_i hr;obtain⟨hn,h⟩:=z0f h;exact⟨_,z8g h,.pure λc R1 fr2 hp2 hg _ _=>lEA ho (ea hg) hd (hrow.trans hr) (z2n he) (Az hn)⟩
 ·obtain⟨cs,hk,h⟩:=z4i h;split at h
  ·rename_i hr;obtain⟨z,hz,h⟩:=z0k h;exact⟨_,h,.pure λc R1 fr2 hp2 hg hh hR=>y16 ho (ea hg) (hh.at hk (.head _)) hd (hrow.trans hr) hz (hR _ (.head _))⟩
  ·rename_i hr;obtain⟨hn,h⟩:=z0f h;split at h
   ·rename_i ps hps;exact⟨_,z8g h,.pure λc R1 fr2 hp2 hg hh hR=>lBP ho (ea hg) (hh.at hk (.head _)) hd (hrow.trans hr) (z2n he) (Az hn) hps (hR _ (.head _))⟩
   ·exact⟨_,z5z h,.pure λc R1 fr2 hp2 hg hh hR=>z7p ho (ea hg) (hh.at hk (.head _)) hd (hrow.trans hr) (z2n he) (Az hn) (hR _ (.head _))⟩
 ·obtain⟨s,els,hk,h⟩:=z3r h;split at h
  ·rename_i hr;obtain⟨hn,hoff,h1,h2,h⟩:=h;exact⟨_,h,.pure λc R1 fr2 hp2 hg hh hR=>lRw ho (ea hg) (hh.at hk (.head _)) hn hoff h1 h2 hd (hrow.trans hr) (hR _ (.head _))⟩
  ·rename_i hr;obtain⟨hq,h⟩:=z0f h;obtain⟨hn,hoff,h1,h⟩:=h;exact⟨_,h,.pure λc R1 fr2 hp2 hg hh hR=>zc4 ho (ea hg) (hh.at hk (.head _)) hn hoff h1 hd (hrow.trans hr) (by rw[z2n he,Ah hq]) (hR _ (.head _))⟩
 ·exact h.elim
def j4s(T:TB P)(t:Nat)(fr:Fr)(y:Operand)(f:Nat)(K:Stp->Prop):Prop:=vev fr y λa=>match a with
 |.pv (.agg ps)=>vti T t λe=>match e.i with
  |.struct fs=>vopt fs[f]? λp=>vti T p.2 λef=>match ef.i.row with
   |false=>vopt ps[p.1]? λz=>K ⟨.pv z,[],[],[]⟩
   |true=>False
  |_=>False
 |_=>False
theorem yy9{t f:Nat}{y:Operand}(ho:o.op=.field t y f)(h:j4s T t fr y f K):Does P Rl o fr hp K:=by
 obtain⟨a,ha,h⟩:=z1p h;have ea:∀{fr2:Fr},agr fr2 fr (z1a o.op)->fr2.ev y=some a:=λhg=>hg.ev ha (by rw[ho];simp[Op.operands]);split at h
 ·obtain⟨e,he,h⟩:=z1q h;obtain⟨d,hd,hi⟩:=z3m he;split at h
  ·rename_i fs hfs;rw[hfs]at hi;obtain⟨q,rfl,h2⟩:=hi;obtain⟨p,hp',h⟩:=z0k h;obtain⟨ef,hef,h⟩:=z1q h;obtain⟨df,hdf,hif⟩:=z3m hef;split at h
   ·rename_i hr;obtain⟨z,hz,h9⟩:=z0k h;rw[<- h2,Ba,A5]at hp';obtain⟨fd,h3,rfl⟩:=hp';exact⟨_,h9,.pure λc R1 fr2 hp2 hg _ _=>y64 ho (ea hg) hd (by simpa using h3) hdf ((TI.is_row hif).trans hr) hz⟩
   ·exact h.elim
  ·exact h.elim
 ·exact h.elim
def yr0(fr:Fr)(y:Operand)(i:Nat)(K:Stp->Prop):Prop:=vev fr y λa=>match a with
 |.tup vs=>vopt vs[i]? λz=>K ⟨z,[],[],[]⟩
 |_=>False
theorem yj1{i:Nat}{y:Operand}(ho:o.op=.extract y i)(h:yr0 fr y i K):Does P Rl o fr hp K:=by
 obtain⟨a,ha,h⟩:=z1p h;split at h
 ·obtain⟨z,hz,h⟩:=z0k h;exact⟨_,h,.pure λc R1 fr2 hp2 hg _ _=>z8s ho (hg.ev ha (by rw[ho];simp[Op.operands])) hz⟩
 ·exact h.elim
def vNil(fr:Fr)(hp:Hp)(y:Operand)(K:Stp->Prop):Prop:=vev fr y λa=>match a with
 |.ptr k off=>vbox hp k λ_=>K ⟨.ptr k off,[],[k],[]⟩
 |.pv (.ept cs off)=>K ⟨.pv (.ept cs off),[],[],[]⟩
 |.rpt k n off=>vrow hp k λ_ els=>els.length=n/\K ⟨.rpt k n off,[],[k],[]⟩
 |_=>False
theorem vNil_ok{y:Operand}(ho:o.op=.nilCheck y)(h:vNil fr hp y K):Does P Rl o fr hp K:=by
 obtain⟨a,ha,h⟩:=z1p h;have ea:∀{fr2:Fr},agr fr2 fr (z1a o.op)->fr2.ev y=some a:=λhg=>hg.ev ha (by rw[ho];simp[Op.operands]);split at h
 ·obtain⟨cs,hk,h⟩:=z4i h;exact⟨_,h,.pure λc R1 fr2 hp2 hg hh _=>nCk ho (ea hg) (hh.at hk (.head _))⟩
 ·exact⟨_,h,.pure λc R1 fr2 hp2 hg _ _=>y18 ho (ea hg)⟩
 ·obtain⟨s,els,hk,h⟩:=z3r h;exact⟨_,h.2,.pure λc R1 fr2 hp2 hg hh _=>y19 ho (ea hg) (hh.at hk (.head _)) h.1⟩
 ·exact h.elim
def vEnd(fr:Fr)(y:Option Operand)(n:Nat)(K:Nat->Prop):Prop:=match y with
 |none=>K n
 |some y=>vev fr y λa=>match a with
  |.pv (.val (.int _ m))=>∃i:Nat,m=i/\K i
  |_=>False
theorem zu3{y:Option Operand}{n:Nat}{K:Nat->Prop}(h:vEnd fr y n K):∃i,K i/\((y=none/\i=n)∨∃z k,y=some z/\fr.ev z=some (.pv (.val (.int k i)))):=by
 unfold vEnd at h;split at h
 ·exact⟨n,h,.inl ⟨rfl,rfl⟩⟩
 ·rename_i y;obtain⟨a,ha,h⟩:=z1p h;split at h
  ·rename_i k m;obtain⟨i,rfl,h⟩:=h;exact⟨i,h,.inr ⟨y,k,rfl,ha⟩⟩
  ·exact h.elim
def vSlice(T:TB P)(t:Nat)(fr:Fr)(hp:Hp)(y:Operand)(lo hi:Option Operand)(K:Stp->Prop):Prop:=vev fr y λa=>vti T t λe=>match a with
 |.pv (.seq els)=>match e.i with
  |.slice q=>vti T q λeq=>vEnd fr lo 0 λi=>vEnd fr hi els.length λj=>i<=j/\j<=els.length/\(∀el∈els,el.length=eq.n)/\K ⟨.pv (.seq ((els.take j).drop i)),[],[],[]⟩
  |_=>False
 |.pv (.val (.string s))=>match e.i with
  |.str=>vEnd fr lo 0 λi=>vEnd fr hi s.size λj=>i<=j/\j<=s.size/\K ⟨.pv (.val (.string (s.extract i j))),[],[],[]⟩
  |_=>False
 |.sl k n=>match e.i with
  |.slice q=>vti T q λ_=>z2e lo.isNone (vrow hp k λ_ els=>els.length=n/\vEnd fr hi n λj=>j<=n/\K ⟨.sp k j n,[],[k],[]⟩)
  |_=>False
 |.sp k n m=>match e.i with
  |.slice q=>vti T q λ_=>z2e lo.isNone (vrow hp k λ_ els=>els.length=m/\vEnd fr hi n λj=>j<=n/\K ⟨.sp k j m,[],[k],[]⟩)
  |_=>False
 |_=>False
theorem zq1{lo:Option Operand}{n i:Nat}{fr2:Fr}(hg:agr fr2 fr (z1a o.op))(hm:∀z,lo=some z->z∈o.op.operands.toList)(h:(lo=none/\i=n)∨∃z k,lo=some z/\fr.ev z=some (.pv (.val (.int k i)))):(lo=none/\i=n)∨∃z k,lo=some z/\fr2.ev z=some (.pv (.val (.int k i))):=by
 rcases h with h|⟨z,k,h1,h2⟩
 ·exact .inl h
 ·exact .inr ⟨z,k,h1,hg.ev h2 (hm z h1)⟩
theorem j4w{t:Nat}{y:Operand}{lo hi:Option Operand}(ho:o.op=.slice t y lo hi none)(h:vSlice T t fr hp y lo hi K):Does P Rl o fr hp K:=by
 obtain⟨a,ha,h⟩:=z1p h;have ea:∀{fr2:Fr},agr fr2 fr (z1a o.op)->fr2.ev y=some a:=λhg=>hg.ev ha (by rw[ho];simp[Op.operands]);have ml:∀z,lo=some z->z∈o.op.operands.toList:=λz hz=>by rw[ho,hz];simp[Op.operands]
 have mh:∀z,hi=some z->z∈o.op.operands.toList:=λz hz=>by rw[ho,hz];simp[Op.operands]
 obtain⟨e,he,h⟩:=z1q h;obtain⟨d,hd,hi'⟩:=z3m he;split at h
 ·split at h
  ·rename_i q hq;rw[hq]at hi'
   cases hi'
   obtain⟨eq,heq,h⟩:=z1q h;obtain⟨i,h,h1⟩:=zu3 h;obtain⟨j,h,h2⟩:=zu3 h;exact⟨_,h.2.2.2,.pure λc R1 fr2 hp2 hg _ _=>y8o ho (ea hg) hd (z2n heq) (zq1 hg ml h1) (zq1 hg mh h2) h.1 h.2.1 h.2.2.1⟩
  ·exact h.elim
 ·split at h
  ·rename_i hq;rw[hq]at hi'
   cases hi'
   obtain⟨i,h,h1⟩:=zu3 h;obtain⟨j,h,h2⟩:=zu3 h;exact⟨_,h.2.2,.pure λc R1 fr2 hp2 hg _ _=>zv7 ho (ea hg) hd (zq1 hg ml h1) (zq1 hg mh h2) h.1 h.2.1⟩
  ·exact h.elim
 ·split at h
  ·rename_i q hq;rw[hq]at hi'
   cases hi'
   obtain⟨eq,heq,h⟩:=z1q h;obtain⟨hl,h⟩:=z0f h;obtain rfl:lo=none:=by simpa using hl
   obtain⟨s,els,hk,hn,h⟩:=z3r h;obtain⟨j,h,h2⟩:=zu3 h;exact⟨_,h.2,.pure λc R1 fr2 hp2 hg hh _=>zv6 ho (λ_ _ _ ha=>(ha.ev (ea hg)).toSp) (hh.at hk (.head _)) hn hd (z2n heq) (zq1 hg mh h2) h.1⟩
  ·exact h.elim
 ·split at h
  ·rename_i q hq;rw[hq]at hi'
   cases hi'
   obtain⟨eq,heq,h⟩:=z1q h;obtain⟨hl,h⟩:=z0f h;obtain rfl:lo=none:=by simpa using hl
   obtain⟨s,els,hk,hn,h⟩:=z3r h;obtain⟨j,h,h2⟩:=zu3 h;exact⟨_,h.2,.pure λc R1 fr2 hp2 hg hh _=>zv6 ho (λ_ _ _ ha=>ha.ev (ea hg)) (hh.at hk (.head _)) hn hd (z2n heq) (zq1 hg mh h2) h.1⟩
  ·exact h.elim
 ·exact h.elim
def vFunc(fr:Fr)(f:Fn)(xs ys:Array Operand)(K:Stp->Prop):Prop:=vopt (evs fr xs.toList) λus=>vopt (evs fr ys.toList) λvs=>K ⟨.fn f us vs,[],[],[]⟩
theorem vFunc_ok{f:Fn}{xs ys:Array Operand}(ho:o.op=.makeFunc f xs ys)(h:vFunc fr f xs ys K):Does P Rl o fr hp K:=by
 obtain⟨us,h1,h⟩:=z0k h;obtain⟨vs,h2,h⟩:=z0k h;exact⟨_,h,.pure λc R1 fr2 hp2 hg _ _=>yd9 ho (hg.evs h1 λy hy=>by rw[ho];simp only[Op.operands,Dk];exact Cc _ hy) (hg.evs h2 λy hy=>by rw[ho];simp only[Op.operands,Dk];exact Ch _ hy)⟩
inductive VAsk(d:TypeDesc)(kv:Value)(es:List (Value×PV))(z:Value)(K:PV->Bool->Prop):Prop
 |mk {p:PV} {b:Bool} (hk:z1w d kv=true) (hes:∀e∈es,z1w d e.1=true) (h:((z1m kv es).getD (.val z),(z1m kv es).isSome)=(p,b)) (k:K p b)
inductive VMap(d:TypeDesc)(kv:Value)(es:List (Value×PV))(A:Prop):Prop
 |mk (hk:z1w d kv=true) (hes:∀e∈es,z1w d e.1=true) (k:A)
def TI.key:TI->Option TypeDesc
 |.int k=>some (.int k)
 |.str=>some .string
 |_=>none
theorem y5q{t:Nat}{e:TE}{d:TypeDesc}(he:teB P t e=true)(hd:e.i.key=some d):P.underlying t=some d:=by
 obtain⟨d',hd',hi⟩:=z3m he;rw[hd']
 cases hq:e.i<;>rw[hq]at hd hi<;>first|(cases hd;cases hi;rfl)|cases hd
def j4t(T:TB P)(t:Nat)(fr:Fr)(hp:Hp)(y w:Operand)(two:Bool)(K:Stp->Prop):Prop:=vev fr y λa=>vev fr w λb=>match a with
 |.mp k=>match b with
  |.pv (.val kv)=>vmap hp k λes=>vti T t λe=>match e.i with
   |.map kt et=>vti T kt λek=>vti T et λee=>vopt ek.i.key λd=>z2e (!ee.z.isEmpty) (VAsk d kv es ee.zv λp b=>match two with
    |false=>K ⟨.pv p,[],[k],[]⟩
    |true=>K ⟨.tup [.pv p,iBool b],[],[k],[]⟩)
   |_=>False
  |_=>False
 |_=>False
theorem yz2{t:Nat}{y w:Operand}{two:Bool}(ho:o.op=.lookup t y w two)(h:j4t T t fr hp y w two K):Does P Rl o fr hp K:=by
 obtain⟨a,ha,h⟩:=z1p h;obtain⟨b,hb,h⟩:=z1p h;have ea:∀{fr2:Fr},agr fr2 fr (z1a o.op)->fr2.ev y=some a:=λhg=>hg.ev ha (by rw[ho];simp[Op.operands]);have eb:∀{fr2:Fr},agr fr2 fr (z1a o.op)->fr2.ev w=some b:=λhg=>hg.ev hb (by rw[ho];simp[Op.operands]);split at h
 ·split at h
  ·obtain⟨es,hk,h⟩:=y79 h;obtain⟨e,he,h⟩:=z1q h;obtain⟨d,hd,hi⟩:=z3m he;split at h
   ·rename_i kt et hq;rw[hq]at hi
    cases hi
    obtain⟨ek,hek,h⟩:=z1q h;obtain⟨ee,hee,h⟩:=z1q h;obtain⟨dk,hdk,h⟩:=z0k h;obtain⟨hz,h⟩:=z0f h;have hz':ee.z≠[]:=by simpa using hz
    obtain⟨h1,h2,h3,h⟩:=h;have e1:=(Af Prod.fst h3).symm;have e2:=(Af Prod.snd h3).symm;dsimp only at e1 e2;subst e1 e2;split at h
    ·exact⟨_,h,.pure λc R1 fr2 hp2 hg hh hR=>j1o ho (ea hg) (eb hg) (hh.at hk (.head _)) hd (y5q hek hdk) h1 h2 (z80 hee hz') (hR _ (.head _))⟩
    ·exact⟨_,h,.pure λc R1 fr2 hp2 hg hh hR=>y47 ho (ea hg) (eb hg) (hh.at hk (.head _)) hd (y5q hek hdk) h1 h2 (z80 hee hz') (hR _ (.head _))⟩
   ·exact h.elim
  ·exact h.elim
 ·exact h.elim
def vLen(T:TB P)(t:Nat)(fr:Fr)(hp:Hp)(y:Operand)(K:Stp->Prop):Prop:=vev fr y λa=>vti T t λe=>match a with
 |.pv (.seq els)=>match e.i with
  |.slice _=>K ⟨.pv (.val (.int .i64 els.length)),[],[],[]⟩
  |_=>False
 |.pv (.val (.slice none 0 0))=>match e.i with
  |.slice _=>K ⟨.pv (.val (.int .i64 0)),[],[],[]⟩
  |_=>False
 |.pv (.val (.string s))=>match e.i with
  |.str=>K ⟨.pv (.val (.int .i64 s.size)),[],[],[]⟩
  |_=>False
 |.sl k n=>match e.i with
  |.slice _=>vrow hp k λ_ els=>els.length=n/\K ⟨.pv (.val (.int .i64 n)),[],[k],[]⟩
  |_=>False
 |.mp k=>match e.i with
  |.map ..=>vmap hp k λes=>K ⟨.pv (vInt es.length),[],[k],[]⟩
  |_=>False
 |.sp k n m=>match e.i with
  |.slice _=>vrow hp k λ_ els=>els.length=m/\K ⟨.pv (.val (.int .i64 n)),[],[k],[]⟩
  |_=>False
 |_=>False
theorem vLen_ok{t:Nat}{y:Operand}(ho:o.op=.call { callee:=.builtin .len,args:=#[y],argTypes:=#[t] })(h:vLen T t fr hp y K):Does P Rl o fr hp K:=by
 obtain⟨a,ha,h⟩:=z1p h;have ea:∀{fr2:Fr},agr fr2 fr (z1a o.op)->fr2.ev y=some a:=λhg=>hg.ev ha (by rw[ho];simp[Op.operands,Call.operands]);obtain⟨e,he,h⟩:=z1q h;obtain⟨d,hd,hi⟩:=z3m he;split at h
 ·split at h
  ·rename_i hq;rw[hq]at hi;cases hi
   exact⟨_,h,.pure λc R1 fr2 hp2 hg _ _=>yu0 ho (ea hg) hd rfl⟩
  ·exact h.elim
 ·split at h
  ·rename_i hq;rw[hq]at hi;cases hi
   exact⟨_,h,.pure λc R1 fr2 hp2 hg _ _=>yt8 ho (ea hg) hd⟩
  ·exact h.elim
 ·split at h
  ·rename_i hq;rw[hq]at hi;cases hi
   exact⟨_,h,.pure λc R1 fr2 hp2 hg _ _=>y46 ho (ea hg) hd⟩
  ·exact h.elim
 ·split at h
  ·rename_i hq;rw[hq]at hi;cases hi
   obtain⟨s,els,hk,h⟩:=z3r h;exact⟨_,h.2,.pure λc R1 fr2 hp2 hg hh _=>yt9 ho (ea hg) (hh.at hk (.head _)) h.1 hd⟩
  ·exact h.elim
 ·split at h
  ·rename_i hq;rw[hq]at hi;cases hi
   obtain⟨es,hk,h⟩:=y79 h;exact⟨_,h,.pure λc R1 fr2 hp2 hg hh hR=>yt7 ho (ea hg) (hh.at hk (.head _)) hd (hR _ (.head _))⟩
  ·exact h.elim
 ·split at h
  ·rename_i hq;rw[hq]at hi;cases hi
   obtain⟨s,els,hk,h⟩:=z3r h;exact⟨_,h.2,.pure λc R1 fr2 hp2 hg hh _=>j1n ho (ea hg) (hh.at hk (.head _)) h.1 hd⟩
  ·exact h.elim
 ·exact h.elim
def vMax(fr:Fr)(y w:Operand)(K:Stp->Prop):Prop:=vev fr y λa=>vev fr w λb=>match a with
 |.pv (.val (.int k m))=>match b with
  |.pv (.val (.int k' n))=>z2e (k'==k) (K ⟨.pv (.val (.int k (if m<n then n else m))),[],[],[]⟩)
  |_=>False
 |_=>False
theorem vMax_ok{t:Nat}{y w:Operand}(ho:o.op=.call { callee:=.builtin .max,args:=#[y,w],argTypes:=#[t,t] })(h:vMax fr y w K):Does P Rl o fr hp K:=by
 obtain⟨a,ha,h⟩:=z1p h;obtain⟨b,hb,h⟩:=z1p h;split at h
 ·split at h
  ·obtain⟨hk,h⟩:=z0f h;obtain rfl:=eq_of_beq hk;exact⟨_,h,.pure λc R1 fr2 hp2 hg _ _=>ok_max ho (hg.ev ha (by rw[ho];simp[Op.operands,Call.operands])) (hg.ev hb (by rw[ho];simp[Op.operands,Call.operands]))⟩
  ·exact h.elim
 ·exact h.elim
def vCap(T:TB P)(t:Nat)(fr:Fr)(y:Operand)(K:Stp->Prop):Prop:=vev fr y λa=>vti T t λe=>match a with
 |.pv (.val (.slice none 0 0))=>match e.i with
  |.slice _=>K ⟨iInt 0,[],[],[]⟩
  |_=>False
 |_=>False
theorem vCap_ok{t:Nat}{y:Operand}(ho:o.op=.call { callee:=.builtin .cap,args:=#[y],argTypes:=#[t] })(h:vCap T t fr y K):Does P Rl o fr hp K:=by
 obtain⟨a,ha,h⟩:=z1p h;obtain⟨e,he,h⟩:=z1q h;obtain⟨d,hd,hi⟩:=z3m he;split at h
 ·split at h
  ·rename_i hq;rw[hq]at hi;cases hi
   exact⟨_,h,.pure λc R1 fr2 hp2 hg _ _=>yt6 ho (hg.ev ha (by rw[ho];simp[Op.operands,Call.operands])) hd⟩
  ·exact h.elim
 ·exact h.elim
end
section
variable {P:Program} {T:TB P} {o:Oper} {fr:Fr} {hp:Hp} {Rl:List Nat} {K:Stp->Prop} {c:Cx}
theorem notR{k:Nat}(hR:∀k,c.R k->k∈Rl)(h:nIn k Rl=false):¬c.R k:=λh1=>z3e h (hR k h1)
def vStore(T:TB P)(Rl:List Nat)(t:Nat)(fr:Fr)(hp:Hp)(y w:Operand)(K:Stp->Prop):Prop:=vev fr y λa=>vev fr w λz=>vti T t λe=>match a with
 |.ptr k off=>z2e (!nIn k Rl) (vbox hp k λcs=>match e.i.row with
  |false=>z2e (Nat.beq e.n 1&&Nat.blt off cs.length) (yz3 hp z (frcI (cs.set off z) λl=>K ⟨.pv (.val undef),[(k,some (.box l))],k::z04 z,[]⟩))
  |true=>vopt z.parts λzs=>z2e (Nat.beq e.n zs.length&&Nat.ble (off+zs.length) cs.length) (j4z hp zs (frcI (y1d cs off zs) λl=>K ⟨.pv (.val undef),[(k,some (.box l))],k::zs.flatMap z04,[]⟩)))
 |.rpt k n off=>z2e (!nIn k Rl) (vrow hp k λs els=>match z with
  |.pv p=>z2e (Nat.beq e.n 1&&p.one) (∃i j el,els.length=n/\off=i*s.n+j/\els[i]?=some el/\j<el.length/\K ⟨.pv (.val undef),[(k,some (.row s (els.set i (el.set j p))))],[k],[]⟩)
  |_=>False)
 |_=>False
theorem j4x{t:Nat}{y w:Operand}(ho:o.op=.store t y w)(h:vStore T Rl t fr hp y w K):Does P Rl o fr hp K:=by
 replace h:=z1p h;obtain⟨a,ha,h⟩:=h;replace h:=z1p h;obtain⟨z,hz,h⟩:=h;have ea:∀{fr2:Fr},agr fr2 fr (z1a o.op)->fr2.ev y=some a:=λhg=>hg.ev ha (by rw[ho];simp[Op.operands]);have eb:∀{fr2:Fr},agr fr2 fr (z1a o.op)->fr2.ev w=some z:=λhg=>hg.ev hz (by rw[ho];simp[Op.operands]);replace h:=z1q h;obtain⟨e,he,h⟩:=h;split at h
 ·rename_i k off;replace h:=z0f h;obtain⟨hR,h⟩:=h;have hR':nIn k Rl=false:=by simpa using hR
  replace h:=z4i h;obtain⟨cs,hk,h⟩:=h;split at h
  ·obtain⟨h1,h⟩:=z0f h;simp only[A0]at h1;replace h:=y02 h;obtain⟨h,hf⟩:=h;refine⟨_,z5z h,λc fr2 hp2 hc _ hg hh _=>?_⟩;exact sBx ho (ea hg) (eb hg) (hh.at hk (.head _)) (notR hc hR') (by rw[z2n he,Ah h1.1]) (hf hp2 λk hk=>hh k (.tail _ hk)) (Az h1.2)
  ·obtain⟨zs,hzs,h⟩:=z0k h;replace h:=z0f h;obtain⟨h1,h⟩:=h;simp only[A0]at h1;replace h:=ya4 h;obtain⟨h,hf⟩:=h;refine⟨_,z5z h,λc fr2 hp2 hc _ hg hh _=>?_⟩;exact sBA ho (ea hg) (eb hg) hzs (hh.at hk (.head _)) (notR hc hR') (by rw[z2n he,Ah h1.1]) (hf hp2 λk hk=>hh k (.tail _ hk)) (Az h1.2)
 ·rename_i k n off;replace h:=z0f h;obtain⟨hR,h⟩:=h;have hR':nIn k Rl=false:=by simpa using hR
  replace h:=z3r h;obtain⟨s,els,hk,h⟩:=h;split at h
  ·obtain⟨h1,h⟩:=z0f h;simp only[A0]at h1;obtain⟨i,j,el,hn,hoff,hi,hj,h⟩:=h;exact⟨_,h,λc fr2 hp2 hc _ hg hh _=>y8p ho (ea hg) (eb hg) (hh.at hk (.head _)) hn hoff hi hj (by rw[z2n he,Ah h1.1]) h1.2 (notR hc hR')⟩
  ·exact h.elim
 ·exact h.elim
def ZV.pvs:List ZV->List IV
 |[]=>[]
 |z::r=>.pv (.val z.val)::ZV.pvs r
theorem ZV.pvs_eq:∀l:List ZV,ZV.pvs l=(l.map ZV.val).map λv=>.pv (.val v)
 |[]=>rfl
 |z::r=>by simp only[ZV.pvs,B3,ZV.pvs_eq r]
def ZV.ps:List ZV->List PV
 |[]=>[]
 |z::r=>.val z.val::ZV.ps r
theorem ZV.ps_eq:∀l:List ZV,ZV.ps l=(l.map ZV.val).map .val
 |[]=>rfl
 |z::r=>by simp only[ZV.ps,B3,ZV.ps_eq r]
def vAlloc(T:TB P)(t k:Nat)(K:Stp->Prop):Prop:=vti T t λe=>z2e (!e.z.isEmpty) (frcI (ZV.pvs e.z) λl=>K ⟨.ptr k 0,[(k,some (.box l))],[k],[k]⟩)
theorem j4n{t k:Nat}(ho:o.op=.alloc t)(h:vAlloc T t k K):Does P Rl o fr hp K:=by
 replace h:=z1q h;obtain⟨e,he,h⟩:=h;replace h:=z0f h;obtain⟨hz,h⟩:=h;have hz':e.z≠[]:=by simpa using hz
 refine⟨_,z5z h,λc fr2 hp2 _ hc _ _ hf=>?_⟩;obtain⟨f1,f2,f3⟩:=z3x (hf k (.head _));have:=aLc (c:=c) ho (z80 he hz') f3 (hc k (.head _)) f1 f2
 rwa [(z6f he hz').1,<- ZV.pvs_eq]at this
def vBox(own:Bool)(fr:Fr)(hp:Hp)(y:Operand)(k:Nat)(K:Stp->Prop):Prop:=vev fr y λa=>match own with
 |true=>match a with
  |.pv (.agg ps)=>frcI (ps.map .pv) λl=>K ⟨.ptr k 0,[(k,some (.box l))],[k],[k]⟩
  |.agg cs=>z2e (!nm.nms k cs) (K ⟨.ptr k 0,[(k,some (.box cs))],[k],[k]⟩)
  |z=>z2e (!nm k z) (yz3 hp z (K ⟨.ptr k 0,[(k,some (.box [z]))],k::z04 z,[k]⟩))
 |false=>match a with
  |.pv (.agg ps)=>K ⟨.pv (.ept ps 0),[],[],[]⟩
  |.pv p=>z2e p.one (K ⟨.pv (.ept [p] 0),[],[],[]⟩)
  |_=>False
theorem vBox_ok{t k:Nat}{own:Bool}{y:Operand}(ho:o.op=.box t y)(h:vBox own fr hp y k K):Does P Rl o fr hp K:=by
 replace h:=z1p h;obtain⟨a,ha,h⟩:=h;have ea:∀{fr2:Fr},agr fr2 fr (z1a o.op)->fr2.ev y=some a:=λhg=>hg.ev ha (by rw[ho];simp[Op.operands]);split at h
 ·split at h
  ·refine⟨_,z5z h,λc fr2 hp2 _ hc hg _ hf=>?_⟩;obtain⟨f1,f2,f3⟩:=z3x (hf k (.head _));exact yt5 ho (ea hg) f3 (hc k (.head _)) f1 f2
  ·obtain⟨hn,h⟩:=z0f h;refine⟨_,h,λc fr2 hp2 _ hc hg _ hf=>?_⟩;obtain⟨f1,f2,f3⟩:=z3x (hf k (.head _));exact j1j ho (ea hg) f3 (hc k (.head _)) f1 f2 (by simpa using hn)
  ·obtain⟨hn,h⟩:=z0f h;replace h:=y02 h;obtain⟨h,hz⟩:=h;refine⟨_,h,λc fr2 hp2 _ hc hg hh hf=>?_⟩;obtain⟨f1,f2,f3⟩:=z3x (hf k (.head _));exact yt4 ho (ea hg) (hz hp2 λk hk=>hh k (.tail _ hk)) f3 (hc k (.head _)) f1 f2 (by simpa using hn)
 ·split at h
  ·exact⟨_,h,λc fr2 hp2 _ _ hg _ _=>ok_box ho (ea hg)⟩
  ·obtain⟨h1,h⟩:=z0f h;exact⟨_,h,λc fr2 hp2 _ _ hg _ _=>ok_box1 ho (ea hg) h1⟩
  ·exact h.elim
def szs(T:TB P):List (Nat×Nat)->Option (List (Nat×Nat))
 |[]=>some []
 |(off,t)::r=>match T.ti t with
  |some e=>match szs T r with
   |some l=>some ((off,e.n)::l)
   |none=>none
  |none=>none
theorem j48{w:World}:∀{fs:List Field} {l:List (Nat×Nat)},szs T (fs.map λf=>(f.offset,f.type))=some l->((fs.mapM λf=>do pure (f.offset,<- sizeOf f.type)):Sem (List (Nat×Nat))).run P w=.ok l w
 |[],l,h=>by cases h;rfl
 |f::r,l,h=>by
  simp only[B3,szs]at h;split at h
  ·rename_i e he;split at h
   ·rename_i l' hl
    cases h
    have ih:=j48 (w:=w) hl;have hs:=z18 (z2n (T.tok _ _ he)) w;simp only[List.mapM_cons,Ai,hs,As,Cd,ih]
   ·cases h
  ·cases h
theorem y1e{a:Array Field}{l:List (Nat×Nat)}(h:szs T (a.toList.map λf=>(f.offset,f.type))=some l):y5c P a l.toArray:=by
 intro w;have h1:=j48 (P:=P) (w:=w) h;obtain⟨fs⟩:=a;have h2:((#[].append fs.toArray:Array Field).mapM λf=>(do pure (f.offset,<- sizeOf f.type):Sem (Nat×Nat)))=(fs.mapM λf=>(do pure (f.offset,<- sizeOf f.type):Sem (Nat×Nat))) >>= λl=>pure l.toArray:=by
  simp
 have h3:(⟨fs⟩:Array Field) = #[].append fs.toArray:=by simp
 rw[h3,h2,Ai,h1];rfl
def y2r(hp:Hp):List (Nat×IV)->Prop->Prop
 |[],A=>A
 |(_,x)::r,A=>match x.parts with
  |some _=>y2r hp r A
  |none=>yz3 hp x (y2r hp r A)
theorem zd5:∀{l:List (Nat×IV)} {A:Prop},y2r hp l A->A/\∀hp2,agh hp2 hp (l.flatMap λp=>z04 p.2)->z6i (look hp2) l
 |[],A,h=>⟨h,λ_ _ p hq=>by cases hq⟩
 |(i,x)::r,A,h=>by
  simp only[y2r]at h;have split:∀{hp2},agh hp2 hp (((i,x)::r).flatMap λp=>z04 p.2)->agh hp2 hp (z04 x)/\agh hp2 hp (r.flatMap λp=>z04 p.2):=λhh=>by
   simp only[Es]at hh;exact⟨λk hk=>hh k (Cc _ hk),λk hk=>hh k (Ch _ hk)⟩
  split at h
  ·rename_i ps hps;replace h:=zd5 h;obtain⟨h1,h2⟩:=h;refine⟨h1,λhp2 hh p hq h0=>?_⟩;rcases Ao.1 hq with rfl|hq
   ·rw[hps]at h0;cases h0
   ·exact h2 hp2 (split hh).2 p hq h0
  ·obtain⟨h,hz⟩:=y02 h;replace h:=zd5 h;obtain⟨h1,h2⟩:=h;refine⟨h1,λhp2 hh p hq h0=>?_⟩;rcases Ao.1 hq with rfl|hq
   ·exact hz hp2 (split hh).1
   ·exact h2 hp2 (split hh).2 p hq h0
def vmade(ids:List Nat)(out:List IV)(K:Stp->Prop):Prop:=match z7s out with
 |some ps=>frcP ps λl=>K ⟨.pv (.agg l),[],ids,[]⟩
 |none=>frcI out λl=>K ⟨.agg l,[],ids,[]⟩
theorem zvIV{e:TE}{t:Nat}(he:teB P t e=true)(hz:e.z≠[]):z71 e.zv=ZV.pvs e.z:=by
 rw[z71,(z6f he hz).1,<- ZV.pvs_eq]
def vBuild(T:TB P)(t:Nat)(fr:Fr)(hp:Hp)(parts:List (Nat×Operand))(K:Stp->Prop):Prop:=vti T t λe=>z2e (!e.z.isEmpty) (vopt (z4w fr parts) λxs=>y2r hp xs (match e.i with
 |.struct fs=>vopt (szs T fs) λpl=>vopt (z6h (pl.toArray[·]?) (ZV.pvs e.z) xs) λout=>vmade (xs.flatMap λp=>z04 p.2) out K
 |.arr _ q=>vti T q λeq=>vopt (z6h (λi=>some (i*eq.n,eq.n)) (ZV.pvs e.z) xs) λout=>frcI out λl=>K ⟨.agg l,[],xs.flatMap λp=>z04 p.2,[]⟩
 |_=>False))
theorem j4q{t:Nat}{parts:Array (Nat×Operand)}(ho:o.op=.build t parts)(h:vBuild T t fr hp parts.toList K):Does P Rl o fr hp K:=by
 replace h:=z1q h;obtain⟨e,he,h⟩:=h;replace h:=z0f h;obtain⟨hz,h⟩:=h;have hz':e.z≠[]:=by simpa using hz
 replace h:=z0k h;obtain⟨xs,hxs,h⟩:=h;have ex:∀{fr2:Fr},agr fr2 fr (z1a o.op)->z4w fr2 parts.toList=some xs:=λhg=>hg.evParts hxs λy hy=>by
  rw[ho];simp only[Op.operands];exact D7 hy
 replace h:=zd5 h;obtain⟨h,hfirm⟩:=h;obtain⟨d,hd,hi⟩:=z3m he;have hzi:=zvIV he hz';split at h
 ·rename_i fs hq;rw[hq]at hi;obtain⟨a,rfl,h2⟩:=hi;replace h:=z0k h;obtain⟨pl,hpl,h⟩:=h;replace h:=z0k h;obtain⟨out,hout,h⟩:=h;rw[<- h2]at hpl;unfold vmade at h;split at h
  ·rename_i ps hps;exact⟨_,z8g h,.pure λc R1 fr2 hp2 hg hh _=>bPu ho (ex hg) (z80 he hz') ⟨a,hd,y1e hpl⟩ (by rw[hzi];exact hout) (hfirm hp2 hh) hps⟩
  ·exact⟨_,z5z h,.pure λc R1 fr2 hp2 hg hh _=>ym7 ho (ex hg) (z80 he hz') ⟨a,hd,y1e hpl⟩ (by rw[hzi];exact hout) (hfirm hp2 hh)⟩
 ·rename_i n q hq;rw[hq]at hi
  cases hi
  replace h:=z1q h;obtain⟨eq,heq,h⟩:=h;replace h:=z0k h;obtain⟨out,hout,h⟩:=h;exact⟨_,z5z h,.pure λc R1 fr2 hp2 hg hh _=>y8h ho (ex hg) (z80 he hz') hd (z2n heq) (by rw[hzi];exact hout) (hfirm hp2 hh)⟩
 ·exact h.elim
def repZ(z:List ZV):Nat->List IV
 |0=>[]
 |n+1=>ZV.pvs z++repZ z n
theorem j21{e:TE}{t:Nat}(he:teB P t e=true)(hz:e.z≠[]):∀n,zi8 e.zv n=repZ e.z n
 |0=>rfl
 |n+1=>by simp only[zi8,repZ,j21 he hz n,zvIV he hz]
def frcE:List (List PV)->(List (List PV)->Prop)->Prop
 |[],K=>K []
 |x::r,K=>frcP x λy=>frcE r λl=>K (y::l)
theorem j0p:∀{l:List (List PV)} {K:List (List PV)->Prop},frcE l K->K l
 |[],_,h=>h
 |x::r,K,h=>j0p (l:=r) (K:=λl=>K (x::l)) (z8g (K:=λy=>frcE r λl=>K (y::l)) h)
def j4p(T:TB P)(own:Bool)(t len:Nat)(fr:Fr)(hp:Hp)(parts:List (Nat×Operand))(k:Nat)(K:Stp->Prop):Prop:=vti T t λe=>match e.i with
 |.slice q=>vti T q λeq=>z2e (!eq.z.isEmpty&&Nat.ble 1 eq.n&&Nat.ble (len*eq.n) (2 ^ 24)) (vopt (z4w fr parts) λxs=>y2r hp xs (vopt (z6h (λi=>some (i*eq.n,eq.n)) (repZ eq.z len) xs) λout=>match z7s out with
  |some ps=>frcE (z83 eq.n len ps) λl=>match own with
   |false=>K ⟨.pv (.seq l),[],xs.flatMap λp=>z04 p.2,[]⟩
   |true=>K ⟨.sl k len,[(k,some (.row ⟨q,eq.n⟩ l))],k::xs.flatMap λp=>z04 p.2,[k]⟩
  |none=>z2e (!nm.nms k out) (K ⟨.bs k len,[(k,some (.box out))],k::xs.flatMap λp=>z04 p.2,[k]⟩)))
 |_=>False
theorem yy6{t len k:Nat}{own:Bool}{parts:Array (Nat×Operand)}(ho:o.op=.buildSlice t len parts)(h:j4p T own t len fr hp parts.toList k K):Does P Rl o fr hp K:=by
 replace h:=z1q h;obtain⟨e,he,h⟩:=h;obtain⟨d,hd,hi⟩:=z3m he;split at h
 ·rename_i q hq;rw[hq]at hi
  cases hi
  replace h:=z1q h;obtain⟨eq,heq,h⟩:=h;replace h:=z0f h;obtain⟨h1,h⟩:=h;simp only[A0]at h1;have hz':eq.z≠[]:=by simpa using h1.1.1
  replace h:=z0k h;obtain⟨xs,hxs,h⟩:=h;have ex:∀{fr2:Fr},agr fr2 fr (z1a o.op)->z4w fr2 parts.toList=some xs:=λhg=>hg.evParts hxs λy hy=>by
   rw[ho];simp only[Op.operands];exact D7 hy
  replace h:=zd5 h;obtain⟨h,hfirm⟩:=h;replace h:=z0k h;obtain⟨out,hout,h⟩:=h;rw[<- j21 heq hz']at hout
  cases hps:z7s out with
  |none =>
   rw[hps]at h;replace h:=z0f h;obtain⟨hn,h⟩:=h;refine⟨_,h,λc fr2 hp2 _ hc hg hh hf=>?_⟩;obtain⟨f1,f2,f3⟩:=z3x (hf k (.head _))
   exact y14 ho (ex hg) hd (z80 heq hz') (z2n heq) (z6f heq hz').2 h1.1.2 h1.2 hout (hfirm hp2 λj hj=>hh j (.tail _ hj)) (by simpa using hn) f3 (hc k (.head _)) f1 f2
  |some ps =>
  rw[hps]at h;replace h:=j0p h;split at h
  ·exact⟨_,h,λc fr2 hp2 _ _ hg hh _=>bSl ho (ex hg) hd (z80 heq hz') (z2n heq) (z6f heq hz').2 h1.1.2 h1.2 hout (hfirm hp2 hh) hps⟩
  ·refine⟨_,h,λc fr2 hp2 _ hc hg hh hf=>?_⟩;obtain⟨f1,f2,f3⟩:=z3x (hf k (.head _));exact zx9 ho (ex hg) hd (z80 heq hz') (z2n heq) (z6f heq hz').2 h1.1.2 h1.2 hout (hfirm hp2 λj hj=>hh j (.tail _ hj)) hps f3 (hc k (.head _)) f1 f2
 ·exact h.elim
def vMkMap(k:Nat)(K:Stp->Prop):Prop:=K ⟨.mp k,[(k,some (.map []))],[k],[k]⟩
theorem j4v{t k:Nat}(ho:o.op=.makeMap t none)(h:vMkMap k K):Does P Rl o fr hp K:=by
 refine⟨_,h,λc fr2 hp2 _ hc _ _ hf=>?_⟩;obtain⟨f1,f2,f3⟩:=z3x (hf k (.head _));exact yu1 ho f3 (hc k (.head _)) f1 f2
inductive VNum(m:Int)(K:Nat->Prop):Prop
 |mk {n:Nat} (hm:m=n) (hb:n<=68719476736) (k:K n)
def yr1(T:TB P)(t:Nat)(fr:Fr)(y w:Operand)(k:Nat)(K:Stp->Prop):Prop:=vti T t λe=>match e.i with
 |.slice q=>vti T q λeq=>z2e (!eq.z.isEmpty&&Nat.ble 1 eq.n&&Nat.ble eq.b 2048) (vev fr y λa=>match a with
  |.pv (.val (.int .i64 m))=>vev fr w λb=>b=a/\VNum m λn=>frcP (ZV.ps eq.z) λl=>K ⟨.sl k n,[(k,some (.row ⟨q,eq.n⟩ (List.replicate n l)))],[k],[k]⟩
  |_=>False)
 |_=>False
theorem yj3{t k:Nat}{y w:Operand}(ho:o.op=.makeSlice t y w)(h:yr1 T t fr y w k K):Does P Rl o fr hp K:=by
 replace h:=z1q h;obtain⟨e,he,h⟩:=h;obtain⟨d,hd,hi⟩:=z3m he;split at h
 ·rename_i q hq;rw[hq]at hi
  cases hi
  replace h:=z1q h;obtain⟨eq,heq,h⟩:=h;replace h:=z0f h;obtain⟨h1,h⟩:=h;simp only[A0]at h1;have hz':eq.z≠[]:=by simpa using h1.1.1
  replace h:=z1p h;obtain⟨a,ha,h⟩:=h;split at h
  ·obtain⟨b,hb,h⟩:=z1p h;obtain⟨rfl,h⟩:=h;obtain⟨rfl,hn,h9⟩:=h;refine⟨_,z8g h9,λc fr2 hp2 _ hc hg _ hf=>?_⟩;obtain⟨f1,f2,f3⟩:=z3x (hf k (.head _));have h128:=Az h1.2;have:=y8m (c:=c) (s:=⟨q,eq.n⟩) ho (hg.ev ha (by rw[ho];simp[Op.operands])) (hg.ev hb (by rw[ho];simp[Op.operands])) hd (z80 heq hz') (te_by heq) (z6f heq hz').2 (Az h1.1.2) oM0 (B9 (G2 h128 hn) dC0) f3 (hc k (.head _)) f1 f2
   rwa [(z6f heq hz').1,<- ZV.ps_eq]at this
  ·exact h.elim
 ·exact h.elim
def ya1(T:TB P)(t:Nat)(fr:Fr)(y w:Operand)(K:Stp->Prop):Prop:=vti T t λe=>match e.i with
 |.slice q=>vti T q λeq=>z2e (!eq.z.isEmpty&&Nat.ble 1 eq.n&&Nat.ble eq.b 2048) (vev fr y λa=>match a with
  |.pv (.val (.int .i64 m))=>vev fr w λb=>b=a/\VNum m λn=>frcP (ZV.ps eq.z) λl=>K ⟨.pv (.seq (List.replicate n l)),[],[],[]⟩
  |_=>False)
 |_=>False
theorem ya2{t:Nat}{y w:Operand}(ho:o.op=.makeSlice t y w)(h:ya1 T t fr y w K):Does P Rl o fr hp K:=by
 replace h:=z1q h;obtain⟨e,he,h⟩:=h;obtain⟨d,hd,hi⟩:=z3m he;split at h
 ·rename_i q hq;rw[hq]at hi
  cases hi
  replace h:=z1q h;obtain⟨eq,heq,h⟩:=h;replace h:=z0f h;obtain⟨h1,h⟩:=h;simp only[A0]at h1;have hz':eq.z≠[]:=by simpa using h1.1.1
  replace h:=z1p h;obtain⟨a,ha,h⟩:=h;split at h
  ·obtain⟨b,hb,h⟩:=z1p h;obtain⟨rfl,h⟩:=h;obtain⟨rfl,hn,h9⟩:=h;refine⟨_,z8g h9,λc fr2 hp2 _ hc hg _ hf=>?_⟩;have h128:=Az h1.2;have:=y65 (c:=c) (s:=⟨q,eq.n⟩) (σ:=look hp2) ho (hg.ev ha (by rw[ho];simp[Op.operands])) (hg.ev hb (by rw[ho];simp[Op.operands])) hd (z80 heq hz') (te_by heq) (z6f heq hz').2 (Az h1.1.2) oM0 (B9 (G2 h128 hn) dC0)
   rwa [(z6f heq hz').1,<- ZV.ps_eq]at this
  ·exact h.elim
 ·exact h.elim
def j4u(T:TB P)(Rl:List Nat)(t:Nat)(fr:Fr)(hp:Hp)(x y w:Operand)(K:Stp->Prop):Prop:=vev fr x λa=>vev fr y λb=>vev fr w λz=>match a with
 |.mp k=>z2e (!nIn k Rl) (match b with
  |.pv (.val kv)=>match z with
   |.pv p=>vmap hp k λes=>vti T t λe=>match e.i with
    |.map kt _=>vti T kt λek=>vopt ek.i.key λd=>VMap d kv es (K ⟨.pv (.val undef),[(k,some (.map (mput kv p es)))],[k],[]⟩)
    |_=>False
   |_=>False
  |_=>False)
 |_=>False
theorem ya0{t:Nat}{x y w:Operand}(ho:o.op=.mapUpdate t x y w∨o.op=.insert t x y w)(h:j4u T Rl t fr hp x y w K):Does P Rl o fr hp K:=by
 replace h:=z1p h;obtain⟨a,ha,h⟩:=h;replace h:=z1p h;obtain⟨b,hb,h⟩:=h;replace h:=z1p h;obtain⟨z,hz,h⟩:=h;have hops:o.op.operands.toList=[x,y,w]:=by rcases ho with ho|ho<;>rw[ho]<;>rfl
 have ea:∀{fr2:Fr},agr fr2 fr (z1a o.op)->fr2.ev x=some a:=λhg=>hg.ev ha (by rw[hops];simp);have eb:∀{fr2:Fr},agr fr2 fr (z1a o.op)->fr2.ev y=some b:=λhg=>hg.ev hb (by rw[hops];simp);have ez:∀{fr2:Fr},agr fr2 fr (z1a o.op)->fr2.ev w=some z:=λhg=>hg.ev hz (by rw[hops];simp);split at h
 ·rename_i k;replace h:=z0f h;obtain⟨hR,h⟩:=h;have hR':nIn k Rl=false:=by simpa using hR
  split at h
  ·split at h
   ·obtain⟨es,hk,h⟩:=y79 h;replace h:=z1q h;obtain⟨e,he,h⟩:=h;obtain⟨d,hd,hi⟩:=z3m he;split at h
    ·rename_i kt et hq;rw[hq]at hi
     cases hi
     replace h:=z1q h;obtain⟨ek,hek,h⟩:=h;replace h:=z0k h;obtain⟨dk,hdk,h⟩:=h;obtain⟨h1,h2,h⟩:=h;refine⟨_,h,λc fr2 hp2 hc _ hg hh _=>?_⟩;rcases ho with ho|ho
     ·exact y8n ho (ea hg) (eb hg) (ez hg) (hh.at hk (.head _)) (notR hc hR') hd (y5q hek hdk) h1 h2
     ·exact j1m ho (ea hg) (eb hg) (ez hg) (hh.at hk (.head _)) (notR hc hR') hd (y5q hek hdk) h1 h2
    ·exact h.elim
   ·exact h.elim
  ·exact h.elim
 ·exact h.elim
def VFlat(n:Nat)(news:List (List PV)):Prop:=∀el∈news,el.length=n/\∀x∈el,x.one=true
def flatB(n:Nat):List (List PV)->Bool
 |[]=>true
 |el::r=>Nat.beq el.length n&&el.all PV.one&&flatB n r
theorem z3i{n:Nat}:∀{l:List (List PV)},flatB n l=true->VFlat n l
 |[],_=>λ_ h=>by cases h
 |el::r,h=>by
  simp only[flatB,A0]at h;intro e he;rcases Ao.1 he with rfl|he
  ·exact⟨Ah h.1.1,λx hx=>Be.1 h.1.2 x hx⟩
  ·exact z3i h.2 e he
theorem zk6{α:Type}{n:Nat}{f:α -> List PV}{l:List α}(h:∀x∈l,(f x).length=n/\∀y∈f x,y.one=true):VFlat n (l.map f):=λel hel=>by
 obtain⟨x,hx,rfl⟩:=Cb.1 hel;exact h x hx
inductive VApp(s:RT)(els:List (List PV))(n:Nat)(news:List (List PV))(A:Prop):Prop
 |mk (hn:els.length=n) (hf:VFlat s.n news) (hb:n+news.length<=68719476736) (k:A)
theorem All.back{t:Nat}{v:Value}{y:IV}{ρ:Loc}{σ:Heap'}{w:World}{a:Act}(ht:fr.get t=some (.pv (.val v)))(hv:a.tmps[t]?=some v)(h:All c ρ σ w ((t,y)::fr) a):All c ρ σ w fr a:=by
 refine⟨h.rel,λt' z hz=>?_,h.tr,h.df,h.sz,h.kk⟩
 by_cases e:t=t'
 ·subst e;rw[ht]at hz
  cases hz
  exact⟨v,hv,z3k v⟩
 ·exact h.fr t' z (by simp only[Fr.get,z4a e];exact hz)
theorem All.slot{t:Nat}{v:Value}{ρ:Loc}{σ:Heap'}{w:World}{a:Act}(h:All c ρ σ w fr a)(ht:fr.get t=some (.pv (.val v))):a.tmps[t]?=some v:=by
 obtain⟨u,hu,hr⟩:=h.fr t _ ht;rw[hu,hr.val]
theorem Ok.reval{t:Nat}{v:Value}{y x:IV}{σ σ':Heap'}(ht:fr.get t=some (.pv (.val v)))(hs:∀F ρ w,RepI F ρ σ w y v)(h:Ok P c o ((t,y)::fr) σ x σ'):Ok P c o fr σ x σ':=by
 intro ρ w a Kc Q ha hK;have ha2:All c ρ σ w ((t,y)::fr) a:=ha.putFr ht λu hu=>by rw[hu.val];exact hs _ _ _
 exact h ρ w a Kc Q ha2 λρ' w' u ha' hu=>hK ρ' w' u (ha'.back ht (ha.slot ht)) hu
theorem Ok.ghostR{k t:Nat}{s:RT}{x:IV}{σ':Heap'}(hσ:look hp k=none)(hc:c.σ k=none)(hfr:nmFr k fr=false)(hhp:nmHp k hp=false)(ht:fr.get t=some (.pv (.val (.slice none 0 0))))(h:Ok P c o ((t,.sl k 0)::fr) (look ((k,some (.row s []))::hp)) x σ'):Ok P c o fr (look hp) x σ':=by
 intro ρ w a Kc Q ha hK;obtain⟨hk,ha'⟩:=ha.ghost hσ hc hfr hhp s;have ha2:=ha'.putFr (y:=.sl k 0) ht λv hv=>by
  obtain rfl:=hv.val;exact .sl k 0 _ λs' els' _=>⟨Ad _,λ_=>.inr ⟨hk,rfl,rfl⟩⟩
 exact h ρ w a Kc Q ha2 λρ' w' u ha3 hu=>hK ρ' w' u (ha3.back ht (ha.slot ht)) hu
theorem y62{t u v k by_:Nat}{s:RT}{news:List (List PV)}(hut:Nat.beq u v=false)(ho:o.op=.call { callee:=.builtin .append,args:=#[.tmp u,.tmp v],argTypes:=#[t,t] })(hx:fr.get u=some (.pv (.val (.slice none 0 0))))(hy:fr.get v=some (.pv (.seq news)))
 (ht:P.underlying t=some (.slice s.e)) (hi:(P.info? s.e).map (λi=>(i.size,i.bytes,(i.zero.map λz=>z.cells.size)))=some (s.n,by_,some s.n)) (hs:0<s.n)
 (hw:∀el∈news,el.length=s.n) (hone:∀el∈news,∀x∈el,x.one=true) (hmax:0+news.length<=maxLen) (hb:(0+news.length)*by_<=140737488355328)
 (hσ:look hp k=none) (hc:c.σ k=none) (hR:¬c.R k) (hfr:nmFr k fr=false) (hhp:nmHp k hp=false) :
 Ok P c o fr (look hp) (.sl k news.length) (look ((k,some (.row s news))::hp)):=by
 refine Ok.ghostR (s:=s) hσ hc hfr hhp hx ?_;have hu:Fr.ev ((u,.sl k 0)::fr) (.tmp u)=some (.sl k 0):=by simp[Fr.ev,Fr.get]
 have hv:Fr.ev ((u,.sl k 0)::fr) (.tmp v)=some (.pv (.seq news)):=by simp only[Fr.ev,Fr.get,hut];exact hy
 have:=aPp (c:=c) (hp:=(k,some (.row s []))::hp) ho hu hv z1e rfl hR ht hi hs hw hone hmax hb;simp only[Bt,Dn]at this
 rwa [yd0]at this
theorem y39{t k n:Nat}{u:Operand}{v by_:Nat}{s:RT}{els:List (List PV)}(hut:∀x,u=.tmp x->Nat.beq v x=false)(ho:o.op=.call { callee:=.builtin .append,args:=#[u,.tmp v],argTypes:=#[t,t] })(hx:fr.ev u=some (.sl k n))(hy:fr.get v=some (.pv (.val (.slice none 0 0))))
 (hk:look hp k=some (.row s els)) (hn:els.length=n) (hR:¬c.R k) (ht:P.underlying t=some (.slice s.e)) (hi:(P.info? s.e).map (λi=>(i.size,i.bytes,(i.zero.map λz=>z.cells.size)))=some (s.n,by_,some s.n)) (hs:0<s.n)
 (hmax:n+0<=maxLen) (hb:(n+0)*by_<=140737488355328):Ok P c o fr (look hp) (.sl k n) (look ((k,some (.row s els))::hp)):=by
 refine Ok.reval (y:=.pv (.seq [])) hy (λF ρ w=>.pv _ _ (.seq [] none 0 0 0 (λ_ _=>undef) sI0 sI0 sI0 (by simp[maxLen]) sI0 sI0)) ?_;have hu:Fr.ev ((v,.pv (.seq []))::fr) u=some (.sl k n):=by
  cases u with
  |tmp x=>simp only[Fr.ev,Fr.get,hut x rfl];exact hx
  |_=>exact hx
 have hv:Fr.ev ((v,.pv (.seq []))::fr) (.tmp v)=some (.pv (.seq [])):=by simp[Fr.ev,Fr.get]
 have:=aPp (c:=c) ho hu hv hk hn hR ht hi hs (λ_ h=>by cases h) (λ_ h=>by cases h) hmax hb;simpa using this
def tmpB:Operand->Option Nat
 |.tmp t=>some t
 |_=>none
theorem y2k{y:Operand}{t:Nat}(h:tmpB y=some t):y=.tmp t:=by cases y<;>simp_all[tmpB]
inductive VApp1(s:RT)(els:List (List PV))(n m:Nat)(el:List PV)(K:Nat->List (List PV)->Prop):Prop
 |mk {m':Nat} {els':List (List PV)} (hn:els.length=m) (hf:VFlat s.n [el]) (hb:m+1<=68719476736) (h:(n<m/\els'=els.set n el/\m'=m)∨(n=m/\els'=els++[el]/\m'=m+1)) (k:K m' els')
def y5z:List IV->Bool
 |[]=>true
 |x::r=>match x.parts with
  |none=>y5z r
  |some _=>false
theorem y43:∀{l:List IV},y5z l=true->∀x∈l,x.parts=none
 |y::r,h,x,hx=>by
  simp only[y5z]at h;split at h
  ·rename_i hy;rcases Ao.1 hx with rfl|hx
   ·exact hy
   ·exact y43 h x hx
  ·cases h
def j4o(T:TB P)(Rl:List Nat)(t:Nat)(fr:Fr)(hp:Hp)(x y:Operand)(k0:Nat)(K:Stp->Prop):Prop:=vti T t λe=>match e.i with
 |.slice q=>vti T q λeq=>z2e (!eq.z.isEmpty&&Nat.ble 1 eq.n&&Nat.ble eq.b 2048) (vev fr x λa=>vev fr y λb=>match a with
  |.sl k n=>z2e (!nIn k Rl) (vrow hp k λs els=>z2e (Nat.beq s.e q&&Nat.beq s.n eq.n) (match b with
   |.pv (.seq news)=>VApp s els n news (K ⟨.sl k (n+news.length),[(k,some (.row s (els++news)))],[k],[]⟩)
   |.sl k2 n2=>vrow hp k2 λs2 news=>z2e (Nat.beq s2.e q&&Nat.beq s2.n eq.n) (news.length=n2/\VApp s els n news (K ⟨.sl k (n+news.length),[(k,some (.row s (els++news)))],[k,k2],[]⟩))
   |.pv (.val (.slice none 0 0))=>vopt (tmpB y) λv=>z2e (match tmpB x with
    |some u=>!Nat.beq v u
    |none=>true) (els.length=n/\n<=68719476736/\K ⟨.sl k n,[(k,some (.row s els))],[k],[]⟩)
   |_=>False))
  |.pv (.val (.slice none 0 0))=>vopt (tmpB x) λu=>vopt (tmpB y) λv=>z2e (!Nat.beq u v && !nIn k0 Rl) (match b with
   |.pv (.seq news)=>VApp ⟨q,eq.n⟩ [] 0 news (K ⟨.sl k0 news.length,[(k0,some (.row ⟨q,eq.n⟩ news))],[k0],[k0]⟩)
   |.bs k2 n2=>vbox hp k2 λcs=>z2e (!nm.nms k0 cs&&Nat.beq eq.n 1) (cs.length=n2/\0<n2/\n2<=68719476736/\K ⟨.bs k0 n2,[(k0,some (.box cs))],[k0,k2],[k0]⟩)
   |_=>False)
  |.sp k n m=>vopt (tmpB x) λu=>vopt (tmpB y) λv=>z2e (!Nat.beq u v && !nIn k Rl) (vrow hp k λs els=>z2e (Nat.beq s.e q&&Nat.beq s.n eq.n) (match b with
   |.pv (.seq [el])=>VApp1 s els n m el λm' els'=>K ⟨.sp k (n+1) m',[(k,some (.row s els'))],[k],[]⟩
   |_=>False))
  |.bs k n=>z2e (!nIn k Rl&&Nat.beq eq.n 1) (vbox hp k λcs=>match b with
   |.bs k2 n2=>vbox hp k2 λcs2=>z2e (!nm.nms k0 cs2&&y5z cs2) (y2r hp (cs2.map λx=>((0:Nat),x)) (cs.length=n/\cs2.length=n2/\0<n/\0<n2/\n+n2<=68719476736/\K ⟨.bs k0 (n+n2),[(k0,some (.box (cs++cs2))),(k,none)],k0::k::k2::(cs2.map λx=>((0:Nat),x)).flatMap (λp=>z04 p.2),[k0]⟩))
   |_=>False)
  |_=>False)
 |_=>False
theorem y0b{n b:Nat}(hn:n<=68719476736)(hb:Nat.ble b 2048=true):n<=maxLen/\n*b<=140737488355328:=by
 refine⟨by simp only[maxLen];omega,B9 (G2 hn (Az hb)) dC0⟩
theorem yy4{t k0:Nat}{x y:Operand}(ho:o.op=.call { callee:=.builtin .append,args:=#[x,y],argTypes:=#[t,t] })(h:j4o T Rl t fr hp x y k0 K):Does P Rl o fr hp K:=by
 have hops:o.op.operands.toList=[x,y]:=by rw[ho];rfl
 replace h:=z1q h;obtain⟨e,he,h⟩:=h;obtain⟨d,hd,hi⟩:=z3m he;split at h
 ·rename_i q hq;rw[hq]at hi
  cases hi
  replace h:=z1q h;obtain⟨eq,heq,h⟩:=h;replace h:=z0f h;obtain⟨h1,h⟩:=h;simp only[A0]at h1;have hz':eq.z≠[]:=by simpa using h1.1.1
  have hpos:=Az h1.1.2;have hinfo:=te_app heq hz';replace h:=z1p h;obtain⟨a,ha,h⟩:=h;replace h:=z1p h;obtain⟨b,hb,h⟩:=h;have ea:∀{fr2:Fr},agr fr2 fr (z1a o.op)->fr2.ev x=some a:=λhg=>hg.ev ha (by rw[hops];simp);have eb:∀{fr2:Fr},agr fr2 fr (z1a o.op)->fr2.ev y=some b:=λhg=>hg.ev hb (by rw[hops];simp);split at h
  ·rename_i k n;replace h:=z0f h;obtain⟨hR,h⟩:=h;have hR':nIn k Rl=false:=by simpa using hR
   replace h:=z3r h;obtain⟨s,els,hk,h⟩:=h;replace h:=z0f h;obtain⟨hs,h⟩:=h;simp only[A0]at hs;have hse:=Ah hs.1;have hsn:=Ah hs.2;split at h
   ·obtain⟨hn,hf,hbd,h⟩:=h;obtain⟨hm1,hm2⟩:=y0b hbd h1.2;exact⟨_,h,λc fr2 hp2 hc _ hg hh _=>aPp ho (ea hg) (eb hg) (hh.at hk (.head _)) hn (notR hc hR') (by rw[hse];exact hd) (by rw[hse,hsn];exact hinfo) oM0 (λel hel=>(hf el hel).1) (λel hel=>(hf el hel).2) hm1 hm2⟩
   ·rename_i k2 n2;replace h:=z3r h;obtain⟨s2,news,hk2,h⟩:=h;replace h:=z0f h;obtain⟨hs2,h⟩:=h;simp only[A0]at hs2;have hss:s2=s:=by
     cases s;cases s2
     have h3:=Ah hs2.1;have h4:=Ah hs2.2
     simp_all
    subst hss;obtain⟨hn2,hn,hf,hbd,h9⟩:=h;obtain⟨hm1,hm2⟩:=y0b hbd h1.2;exact⟨_,h9,λc fr2 hp2 hc _ hg hh _=>y63 ho (ea hg) (eb hg) (hh.at hk (.head _)) hn (hh.at hk2 (.tail _ (.head _))) hn2 (notR hc hR') (by rw[hse];exact hd) (by rw[hse,hsn];exact hinfo) oM0 (λel hel=>(hf el hel).1) (λel hel=>(hf el hel).2) hm1 hm2⟩
   ·replace h:=z0k h;obtain⟨v,hv,h⟩:=h;have hv':=y2k hv;replace h:=z0f h;obtain⟨hut,h⟩:=h;obtain⟨hn,hbd,h⟩:=h;obtain⟨hm1,hm2⟩:=y0b hbd h1.2;refine⟨_,h,λc fr2 hp2 hc _ hg hh _=>y39 (v:=v) (λu hu=>?_) (by rw[ho,hv']) (ea hg) (by have:=eb hg;rw[hv']at this;exact this) (hh.at hk (.head _)) hn (notR hc hR') (by rw[hse];exact hd) (by rw[hse,hsn];exact hinfo) oM0 hm1 hm2⟩;rw[hu]at hut;simpa[tmpB]using hut
   ·exact h.elim
  ·replace h:=z0k h;obtain⟨u,hu,h⟩:=h;replace h:=z0k h;obtain⟨v,hv,h⟩:=h;replace h:=z0f h;obtain⟨hut,h⟩:=h;simp only[A0,Bc]at hut;have hu':=y2k hu;have hv':=y2k hv;split at h
   ·obtain⟨hn,hf,hbd,h⟩:=h;obtain⟨hm1,hm2⟩:=y0b hbd h1.2;refine⟨_,h,λc fr2 hp2 hc hc0 hg _ hfr=>?_⟩;obtain⟨f1,f2,f3⟩:=z3x (hfr k0 (.head _));exact y62 (s:=⟨q,eq.n⟩) hut.1 (by rw[ho,hu',hv']) (by have:=ea hg;rw[hu']at this;exact this) (by have:=eb hg;rw[hv']at this;exact this) hd hinfo hpos (λel hel=>(hf el hel).1) (λel hel=>(hf el hel).2) hm1 hm2 f3 (hc0 k0 (.head _)) (notR hc hut.2) f1 f2
   ·rename_i k2 n2;obtain⟨cs,hk2,h⟩:=z4i h;replace h:=z0f h;obtain⟨hn1,hn2,h02,hbd,h⟩:=h;simp only[A0,Bc]at hn1;obtain⟨hm1,hm2⟩:=y0b hbd h1.2;have hn3:=Ah hn1.2;refine⟨_,h,λc fr2 hp2 hc hc0 hg hh hfr=>?_⟩;obtain⟨f1,f2,f3⟩:=z3x (hfr k0 (.head _));exact y8g ho (ea hg) (eb hg) (hh.at hk2 (.tail _ (.head _))) hn2 h02 hd (by rw[hn3]at hinfo;exact hinfo) hm1 hm2 hn1.1 f3 (hc0 k0 (.head _)) f1 f2
   ·exact h.elim
  ·rename_i k n m;replace h:=z0k h;obtain⟨u,hu,h⟩:=h;replace h:=z0k h;obtain⟨v,hv,h⟩:=h;replace h:=z0f h;obtain⟨hut,h⟩:=h;simp only[A0,Bc]at hut;have hu':=y2k hu;have hv':=y2k hv;replace h:=z3r h;obtain⟨s,els,hk,h⟩:=h;replace h:=z0f h;obtain⟨hs,h⟩:=h;simp only[A0]at hs;have hse:=Ah hs.1;have hsn:=Ah hs.2;split at h
   ·rename_i el;obtain⟨hn,hf,hbd,hor,h⟩:=h;obtain⟨hm1,hm2⟩:=y0b hbd h1.2;obtain⟨hf1,hf2⟩:=hf el (.head _);rcases hor with⟨g1,rfl,rfl⟩|⟨rfl,rfl,rfl⟩
    ·exact⟨_,h,λc fr2 hp2 hc _ hg hh _=>y3a ho (ea hg) (eb hg) (hh.at hk (.head _)) hn g1 (notR hc hut.2) (by rw[hse];exact hd) (by rw[hse,hsn];exact hinfo) hf1 hf2⟩
    ·exact⟨_,h,λc fr2 hp2 hc _ hg hh _=>y13 hut.1 (by rw[ho,hu',hv']) (by have:=ea hg;rw[hu']at this;exact this) (by have:=eb hg;rw[hv']at this;exact this) (hh.at hk (.head _)) hn (notR hc hut.2) (by rw[hse];exact hd) (by rw[hse,hsn];exact hinfo) oM0 hf1 hf2 hm1 hm2⟩
   ·exact h.elim
  ·rename_i k n;replace h:=z0f h;obtain⟨hut,h⟩:=h;simp only[A0,Bc]at hut;obtain⟨cs,hk,h⟩:=z4i h;split at h
   ·rename_i k2 n2;obtain⟨cs2,hk2,h⟩:=z4i h;replace h:=z0f h;obtain⟨hv,h⟩:=h;simp only[A0,Bc]at hv;obtain⟨⟨hn,hn2,h0,h02,hbd,h⟩,hfm⟩:=zd5 h;obtain⟨hm1,hm2⟩:=y0b hbd h1.2;have hn3:=Ah hut.2;refine⟨_,h,λc fr2 hp2 hc hc0 hg hh hfr=>?_⟩;obtain⟨f1,f2,f3⟩:=z3x (hfr k0 (.head _));have hfm2:=hfm hp2 λk hk=>hh k (.tail _ (.tail _ (.tail _ hk)));exact y61 ho (ea hg) (eb hg) (hh.at hk (.tail _ (.head _))) (hh.at hk2 (.tail _ (.tail _ (.head _)))) hn hn2 h0 h02 hd (by rw[hn3]at hinfo;exact hinfo) hm1 hm2 (λx hx=>hfm2 (0,x) (Cb.2 ⟨x,hx,rfl⟩) (y43 hv.2 x hx)) hv.1 (notR hc hut.1) f3 (hc0 k0 (.head _)) f1 f2
   ·exact h.elim
  ·exact h.elim
 ·exact h.elim
end
end Go.Proofs.YtdhllinkobindaaGreatDoor
