/- PART 3 of 7 of a proof: see the last part. -/
import Derived.Test.YtekdhljpmflboaaGreatTd2
set_option maxRecDepth 8000
set_option maxHeartbeats 2000000
set_option linter.unusedSimpArgs false
set_option linter.unusedVariables false
set_option linter.unusedSectionVars false
namespace Go.Proofs.YtekdhljpmflboaaGreat
open Go
theorem use_in {tys seen:List Int}:∀ {l want:List Int},l.length=want.length->z0u tys seen l want=true->inR tys.length l
  | [],_,_,_=>fun v hv=>by simp at hv
  | _::_,[],h,_=>by simp at h
  | x::r,w::ws,h,hg=>by
    simp only [z0u,Bool.and_eq_true] at hg
    intro v hv
    rcases List.mem_cons.1 hv with rfl | hv
    ·obtain ⟨h1,h2⟩:=zb7 hg.1
     exact ⟨h1,by omega⟩
    exact use_in (by simpa using h) hg.2 v hv
theorem zf6 {tys seen l want:List Int} (h:z02 tys seen l want=true):l.length=want.length/\inR tys.length l:=by
  simp only [z02,Bool.and_eq_true,beq_iff_eq] at h
  have:l.length=want.length:=by omega
  exact ⟨this,use_in this h.2⟩
theorem getV_tot {a:List Int} {i:Int} (h:0<=i/\i<a.length):∃ y,getV a i=some y:=by
  unfold getV
  rw [if_pos h.1]
  exact ⟨_,List.getElem?_eq_getElem oM0⟩
theorem y0q {a:List Int} {i y:Int} (h:0<=i/\i<a.length):∃ a2,setV a i y=some a2:=by
  unfold setV
  rw [if_pos ⟨h.1,by omega⟩]
  exact ⟨_,rfl⟩
theorem y02 {a:List Int}:∀ {l:List Int},inR a.length l->∃ p,mOf a l=some p/\p.length=l.length
  | [],_=>⟨[],rfl,rfl⟩
  | i::r,h=>by
    obtain ⟨y,hy⟩:=getV_tot (h i (.head _))
    obtain ⟨p,hp,hl⟩:=y02 (l:=r) fun v hv=>h v (.tail _ hv)
    exact ⟨y::p,by simp [mOf,hy,hp],by simp [hl]⟩
theorem zl7:∀ {l p a:List Int},inR a.length l->p.length=l.length->∃ a2,mSet a l p=some a2
  | [],_,a,_,_=>⟨a,rfl⟩
  | _::_,[],_,_,h=>by simp at h
  | i::r,y::p,a,h,hl=>by
    obtain ⟨a1,h1⟩:=y0q (y:=y) (h i (.head _))
    have hl1:=zm4 h1
    obtain ⟨a2,h2⟩:=zl7 (l:=r) (p:=p) (a:=a1) (fun v hv=>by rw [hl1];exact h v (.tail _ hv)) (by simpa using hl)
    exact ⟨a2,by simp [mSet,h1,h2]⟩
theorem zm1 {tys l:List Int} (h:inR tys.length l):(r8of tys l).length=l.length:=by
  unfold r8of
  have:l.all (z6k tys)=true:=List.all_eq_true.2 fun v hv=>by
    have:=h v hv
    simp only [z6k,Bool.and_eq_true,decide_eq_true_eq];omega
  rw [if_pos this,List.length_map]
theorem zw8 (name:ByteArray):∀ (l:List Ar) (i:Int),0<=i->z0e name l i ≥ 0->∃ k:Nat,z0e name l i=i+k/\k<l.length
  | [],i,_,h=>by simp [z0e] at h
  | f::r,i,hi,h=>by
    unfold z0e at h ⊢
    split
    ·exact ⟨0,by simp,by simp⟩
    rename_i hne
    rw [if_neg hne] at h
    obtain ⟨k,h1,h2⟩:=zw8 name r (i+1) oM0 h
    exact ⟨k+1,by omega,by simpa using h2⟩
structure Inv (n:Nat) (B M:Int) (s:Rs):Prop where
  ok:Oks B s
  out:(s.out.length:Int)+s.fuel<=M
  ar:s.ar.length=n
structure InvS (n:Nat) (B M:Int) (s:Rs):Prop where
  ok:Oks B s
  ok1:s.cost+s.fuel+1<=B
  out:(s.out.length:Int)+s.fuel+1<=M
  ar:s.ar.length=n
def EOk (w:Wh) (y lv:Bool) (r:Rres):Prop:=(r.1.1=12/\y=true/\w.If=true/\r.1.2.length=w.Yield.length)∨(r.1.1=13/\r.1.2.length=w.Next.length)∨(r.1.1=14/\lv=true/\r.1.2.length=w.Left.length)∨(r.1.1=15/\r.1.2.length=1)
def VF (u:Un) (g:Fl):Prop:=z2t u g 1 z1d (iota g.params.toNat) g.body=true/\g.types.length<=20000/\0<=g.params/\g.params<=g.types.length
theorem vf_of {u:Un} (h:(z1a u).1=0):∀ g∈u.flows,VF u g:=by
  intro g hg
  obtain ⟨h1,h2⟩:=(z4r u).1 h
  have hf:=h2 g hg
  have hp:=z5f h1 g hg
  unfold z2j at hf
  simp only [Bool.and_eq_true] at hf
  obtain ⟨⟨⟨⟨⟨f1,f2⟩,f3⟩,f4⟩,f5⟩,f6⟩:=hf
  simp only [Bool.not_eq_true',decide_eq_false_iff_not] at f1 f2 f3 f4
  rw [z9f u g g.body 1 z1d _ _ (z2x oM0)] at f6
  exact ⟨f6.1,by omega,hp.1,hp.2⟩
def SumOk (u:Un) (x:Nd) (k:Nat):Prop :=
  (x.kind=3->1<=k)/\(x.kind=4->2<=k)/\(x.kind=5->1<=k/\0<=z0e x.name u.arrays 0)/\(x.kind=6->2<=k/\0<=z0e x.name u.arrays 0) /\
  (x.kind=7->0<=z04 x.name u.flows 0/\∀ g,u.flows[(z04 x.name u.flows 0).toNat]? = some g->(k:Int)=g.params)/\(x.kind=9->1<=k)
theorem zj5 {p:List Int} {i:Nat} (h:i<p.length):∃ y,p[i]? = some y:=⟨_,List.getElem?_eq_getElem h⟩
theorem sum_tot {u:Un} {n:Nat} {B M:Int} (hB:B<=4611686018427387903) (hM:M<=1073741824) (hn:n=u.arrays.length) (hv:∀ g∈u.flows,VF u g) {d:Nat}
    (hC:∀ k p s,0<=k->(∃ g,u.flows[k.toNat]? = some g/\(p.length:Int)=g.params)->Inv n B M s->3*s.fuel+2<=d->∃ r,z3r u d k p s=some r/\Inv n B M r.2)
    (x:Nd) (p:List Int) (s:Rs) (hx:SumOk u x p.length) (hi:InvS n B M s) (hd:3*s.fuel+3<=((d+1:Nat):Int)):∃ r,mSum u (d+1) x p s=some r/\Inv n B M r.2:=by
  have e:=zj0 hB hi.ok
  have hb:Inv n B M (bmp s):=⟨⟨hi.ok.1,by have:=hi.ok.2.1;show 0<=s.cost+1;omega,by have:=hi.ok1;show s.cost+1+s.fuel<=B;omega⟩,by have:=hi.out;show (s.out.length:Int)+s.fuel<=M;omega,hi.ar⟩
  obtain ⟨x3,x4,x5,x6,x7,x9⟩:=hx
  have ne:∀ {i:Int},x.kind≠i->(x.kind==i)=false:=fun h=>beq_eq_false_iff_ne.2 h
  have cell:∀ {a0:Int},0<=z0e x.name u.arrays 0->∃ q,z8f (bmp s) (z0e x.name u.arrays 0) a0=some q/\((q.1=false/\q.2={ bmp s with st:=3 })∨(q.1=true/\q.2=bmp s/\∃ row y,s.ar[(z0e x.name u.arrays 0).toNat]? = some row/\row[a0.toNat]? = some y)):=by
    intro a0 hk
    obtain ⟨j,hj,hjl⟩:=zw8 x.name u.arrays 0 oM0 hk
    obtain ⟨row,hrow⟩:∃ row,s.ar[(z0e x.name u.arrays 0).toNat]? = some row:=⟨_,List.getElem?_eq_getElem (by rw [hi.ar];omega)⟩
    unfold z8f
    by_cases h0:a0<0
    ·rw [if_pos h0];exact ⟨_,rfl,.inl ⟨rfl,rfl⟩⟩
    rw [if_neg h0,if_pos hk,show (bmp s).ar=s.ar from rfl,hrow,Option.bind_some]
    by_cases h1:a0 ≥ row.length
    ·rw [if_pos h1];exact ⟨_,rfl,.inl ⟨rfl,rfl⟩⟩
    rw [if_neg h1]
    exact ⟨_,rfl,.inr ⟨rfl,rfl,row,_,rfl,List.getElem?_eq_getElem oM0⟩⟩
  have c3:Inv n B M { bmp s with st:=3 }:=⟨hb.ok,hb.out,hb.ar⟩
  rw [mSum]
  simp only [show w64 (s.cost+1)=s.cost+1 from ym8 (by have:=hi.ok.2.1;omega) (by have:=hi.ok.1;have:=hi.ok1;omega)]
  by_cases k3:x.kind=3
  ·obtain ⟨a0,h0⟩:=zj5 (x3 k3)
   rw [k3,h0]
   exact ⟨_,rfl,hb⟩
  by_cases k4:x.kind=4
  ·obtain ⟨a0,h0⟩:=zj5 (show 0<p.length by have:=x4 k4;omega)
   obtain ⟨a1,h1⟩:=zj5 (show 1<p.length by have:=x4 k4;omega)
   rw [k4,h0,h1]
   refine ⟨_,rfl,?_⟩
   dsimp only
   split
   ·exact hb
   exact ⟨hb.ok,hb.out,hb.ar⟩
  by_cases k5:x.kind=5
  ·obtain ⟨a0,h0⟩:=zj5 (x5 k5).1
   obtain ⟨⟨qb,qs⟩,hq,hq2⟩:=cell (a0:=a0) (x5 k5).2
   rw [ne k3,ne k4,k5,h0]
   simp only [Bool.false_eq_true,if_false,show ((5:Int)==5)=true from rfl,if_true,Option.bind_some]
   erw [hq]
   simp only [Option.bind_some]
   rcases hq2 with ⟨rfl,rfl⟩ | ⟨rfl,rfl,row,y,hr,hy⟩
   ·exact ⟨_,rfl,c3⟩
   rw [if_pos rfl,hr,Option.bind_some,hy]
   exact ⟨_,rfl,hb⟩
  by_cases k6:x.kind=6
  ·obtain ⟨a0,h0⟩:=zj5 (show 0<p.length by have:=(x6 k6).1;omega)
   obtain ⟨a1,h1⟩:=zj5 (show 1<p.length by have:=(x6 k6).1;omega)
   obtain ⟨⟨qb,qs⟩,hq,hq2⟩:=cell (a0:=a0) (x6 k6).2
   rw [ne k3,ne k4,ne k5,k6,h0]
   simp only [Bool.false_eq_true,if_false,show ((6:Int)==6)=true from rfl,if_true,Option.bind_some]
   erw [hq]
   simp only [Option.bind_some]
   rcases hq2 with ⟨rfl,rfl⟩ | ⟨rfl,rfl,row,y,hr,hy⟩
   ·exact ⟨_,rfl,c3⟩
   rw [if_pos rfl,hr,h1]
   exact ⟨_,rfl,⟨hb.ok,hb.out,by simp only [List.length_set];exact hb.ar⟩⟩
  by_cases k7:x.kind=7
  ·rw [ne k3,ne k4,ne k5,ne k6,k7]
   obtain ⟨h0,h1⟩:=x7 k7
   obtain ⟨j,hj,hjl⟩:=zi2 x.name u.flows 0 oM0 h0
   obtain ⟨g,hg⟩:∃ g,u.flows[(z04 x.name u.flows 0).toNat]? = some g:=⟨_,List.getElem?_eq_getElem oM0⟩
   exact hC _ p (bmp s) h0 ⟨g,hg,h1 g hg⟩ hb (by show 3*s.fuel+2<=(d:Int);omega)
  by_cases k9:x.kind=9
  ·obtain ⟨a0,h0⟩:=zj5 (x9 k9)
   have hfu:=hi.ok.1
   have hlo:s.out.length<1073741824:=by have:=hi.out;omega
   rw [ne k3,ne k4,ne k5,ne k6,ne k7,k9,h0]
   simp only [Bool.false_eq_true,if_false,show ((9:Int)==9)=true from rfl,if_true,Option.bind_some,if_pos hlo]
   exact ⟨_,rfl,⟨hb.ok,by have:=hi.out;show ((s.out++[a0]).length:Int)+s.fuel<=M;simp;omega,hb.ar⟩⟩
  by_cases k8:x.kind=8
  ·rw [ne k3,ne k4,ne k5,ne k6,ne k7,ne k9,k8]
   simp only [Bool.false_eq_true,if_false,show ((8:Int)==8)=true from rfl,if_true]
   cases hin:s.ins with
   | nil=>exact ⟨_,rfl,⟨hb.ok,hb.out,hb.ar⟩⟩
   | cons y q=>exact ⟨_,rfl,⟨hb.ok,hb.out,hb.ar⟩⟩
  rw [ne k3,ne k4,ne k5,ne k6,ne k7,ne k9,ne k8]
  exact ⟨_,rfl,hb⟩
theorem smp_ok {u:Un} {f:Fl} {x:Nd} {seen:List Int} {w:Wh} (hgp:∀ g∈u.flows,VF u g) (h:(z38 u f x seen w).ok f.types x.outs=true) :
    inR f.types.length x.outs/\inR f.types.length x.args/\SumOk u x x.args.length/\((x.kind=1∨x.kind=2)->x.outs≠[]) /\
    (x.kind=12->w.If=true/\x.args.length=w.Yield.length)/\(x.kind=13->x.args.length=w.Next.length)/\(x.kind=14->x.args.length=w.Left.length)/\(x.kind=15->x.args.length=1):=by
  refine ⟨ok_in h,?_⟩
  have V:∀ {b:Bool} {want:Option (List Int)},SForm.ok ⟨b,want⟩ f.types x.outs=true->b=true:=fun {b want} h=>by
    cases want<;>simp only [SForm.ok,Bool.and_eq_true] at h<;>exact h.1
  have V1:∀ {b:Bool} {t:Int},SForm.ok ⟨b,some [t]⟩ f.types x.outs=true->x.outs≠[]:=fun {b t} h e=>by
    simp only [SForm.ok,Bool.and_eq_true] at h
    have:=zf8 h.2
    rw [e] at this;simp at this
  have T:∀ {want:List Int},z02 f.types seen x.args want=true->inR f.types.length x.args/\x.args.length=want.length:=fun h=>⟨(zf6 h).2,(zf6 h).1⟩
  have tr:∀ {k:Int} {P:Prop} {j:Int},x.kind=k->k≠j->x.kind=j->P:=fun h1 h2 h3=>absurd (h1.symm.trans h3) h2
  unfold z38 at h
  by_cases k1:x.kind=1
  ·rw [if_pos (beq_iff_eq.2 k1)] at h
   obtain ⟨t1,t2⟩:=T (V h)
   refine ⟨t1,⟨tr k1 dC0,tr k1 dC0,tr k1 dC0,tr k1 dC0,tr k1 dC0,tr k1 dC0⟩,fun _=>V1 h,tr k1 dC0,tr k1 dC0,tr k1 dC0,tr k1 dC0⟩
  rw [if_neg (by simpa using k1)] at h
  by_cases k2:x.kind=2
  ·rw [if_pos (beq_iff_eq.2 k2)] at h
   have hb:=V h
   simp only [Bool.and_eq_true] at hb
   obtain ⟨t1,t2⟩:=T hb.2
   refine ⟨t1,⟨tr k2 dC0,tr k2 dC0,tr k2 dC0,tr k2 dC0,tr k2 dC0,tr k2 dC0⟩,fun _=>V1 h,tr k2 dC0,tr k2 dC0,tr k2 dC0,tr k2 dC0⟩
  rw [if_neg (by simpa using k2)] at h
  have n12:¬ (x.kind=1∨x.kind=2):=by rintro (h | h)<;>contradiction
  by_cases k3:x.kind=3
  ·rw [if_pos (beq_iff_eq.2 k3)] at h
   have hb:=V h
   simp only [Bool.and_eq_true] at hb
   obtain ⟨t1,t2⟩:=T hb.2
   refine ⟨t1,⟨fun _=>by rw [t2];exact Nat.le_refl _,tr k3 dC0,tr k3 dC0,tr k3 dC0,tr k3 dC0,tr k3 dC0⟩,fun h=>absurd h n12,tr k3 dC0,tr k3 dC0,tr k3 dC0,tr k3 dC0⟩
  rw [if_neg (by simpa using k3)] at h
  by_cases k4:x.kind=4
  ·rw [if_pos (beq_iff_eq.2 k4)] at h
   have hb:=V h
   simp only [Bool.and_eq_true] at hb
   obtain ⟨t1,t2⟩:=T hb.1.2
   refine ⟨t1,⟨tr k4 dC0,fun _=>by rw [t2];exact Nat.le_refl _,tr k4 dC0,tr k4 dC0,tr k4 dC0,tr k4 dC0⟩,fun h=>absurd h n12,tr k4 dC0,tr k4 dC0,tr k4 dC0,tr k4 dC0⟩
  rw [if_neg (by simpa using k4)] at h
  by_cases k5:x.kind=5
  ·rw [if_pos (beq_iff_eq.2 k5)] at h
   have hb:=V h
   simp only [Bool.and_eq_true,decide_eq_true_eq] at hb
   obtain ⟨t1,t2⟩:=T hb.2
   refine ⟨t1,⟨tr k5 dC0,tr k5 dC0,fun _=>⟨by rw [t2];exact Nat.le_refl _,hb.1⟩,tr k5 dC0,tr k5 dC0,tr k5 dC0⟩,fun h=>absurd h n12,tr k5 dC0,tr k5 dC0,tr k5 dC0,tr k5 dC0⟩
  rw [if_neg (by simpa using k5)] at h
  by_cases k6:x.kind=6
  ·rw [if_pos (beq_iff_eq.2 k6)] at h
   have hb:=V h
   simp only [Bool.and_eq_true,decide_eq_true_eq] at hb
   obtain ⟨t1,t2⟩:=T hb.2
   refine ⟨t1,⟨tr k6 dC0,tr k6 dC0,tr k6 dC0,fun _=>⟨by rw [t2];exact Nat.le_refl _,hb.1⟩,tr k6 dC0,tr k6 dC0⟩,fun h=>absurd h n12,tr k6 dC0,tr k6 dC0,tr k6 dC0,tr k6 dC0⟩
  rw [if_neg (by simpa using k6)] at h
  by_cases k7:x.kind=7
  ·rw [if_pos (beq_iff_eq.2 k7)] at h
   by_cases hp:decide (z04 x.name u.flows 0 ≥ 0)=true
   ·rw [if_pos hp] at h
    have hp':0<=z04 x.name u.flows 0:=by simpa using hp
    cases hg:u.flows[(z04 x.name u.flows 0).toNat]? with
    | none=>rw [hg] at h;exact absurd (V h) dC0
    | some g =>
      rw [hg] at h
      obtain ⟨t1,t2⟩:=T (V h)
      obtain ⟨_,_,g1,g2⟩:=hgp g (List.mem_of_getElem? hg)
      refine ⟨t1,⟨tr k7 dC0,tr k7 dC0,tr k7 dC0,tr k7 dC0,fun _=>⟨hp',fun g' hg'=>?_⟩,tr k7 dC0⟩,fun h=>absurd h n12,tr k7 dC0,tr k7 dC0,tr k7 dC0,tr k7 dC0⟩
      rw [hg] at hg'
      cases hg'
      rw [t2,List.length_take];omega
   rw [if_neg hp] at h;exact absurd (V h) dC0
  rw [if_neg (by simpa using k7)] at h
  by_cases k8:x.kind=8
  ·rw [if_pos (beq_iff_eq.2 k8)] at h
   have hb:=V h
   have:x.args=[]:=List.eq_nil_of_length_eq_zero (by simp at hb;simp [hb])
   refine ⟨by rw [this];exact fun v hv=>by simp at hv,⟨tr k8 dC0,tr k8 dC0,tr k8 dC0,tr k8 dC0,tr k8 dC0,tr k8 dC0⟩,fun h=>absurd h n12,tr k8 dC0,tr k8 dC0,tr k8 dC0,tr k8 dC0⟩
  rw [if_neg (by simpa using k8)] at h
  by_cases k9:x.kind=9
  ·rw [if_pos (beq_iff_eq.2 k9)] at h
   obtain ⟨t1,t2⟩:=T (V h)
   refine ⟨t1,⟨tr k9 dC0,tr k9 dC0,tr k9 dC0,tr k9 dC0,tr k9 dC0,fun _=>by rw [t2];exact Nat.le_refl _⟩,fun h=>absurd h n12,tr k9 dC0,tr k9 dC0,tr k9 dC0,tr k9 dC0⟩
  rw [if_neg (by simpa using k9)] at h
  have S:SumOk u x x.args.length:=⟨fun h=>absurd h k3,fun h=>absurd h k4,fun h=>absurd h k5,fun h=>absurd h k6,fun h=>absurd h k7,fun h=>absurd h k9⟩
  by_cases k12:x.kind=12
  ·rw [if_pos (beq_iff_eq.2 k12)] at h
   have hb:=V h
   simp only [Bool.and_eq_true] at hb
   obtain ⟨t1,t2⟩:=T hb.2
   exact ⟨t1,S,fun h=>absurd h n12,fun _=>⟨hb.1,t2⟩,tr k12 dC0,tr k12 dC0,tr k12 dC0⟩
  rw [if_neg (by simpa using k12)] at h
  by_cases k13:x.kind=13
  ·rw [if_pos (beq_iff_eq.2 k13)] at h
   have hb:=V h
   simp only [Bool.and_eq_true] at hb
   obtain ⟨t1,t2⟩:=T hb.2
   exact ⟨t1,S,fun h=>absurd h n12,tr k13 dC0,fun _=>t2,tr k13 dC0,tr k13 dC0⟩
  rw [if_neg (by simpa using k13)] at h
  by_cases k14:x.kind=14
  ·rw [if_pos (beq_iff_eq.2 k14)] at h
   have hb:=V h
   simp only [Bool.and_eq_true] at hb
   obtain ⟨t1,t2⟩:=T hb.2
   exact ⟨t1,S,fun h=>absurd h n12,tr k14 dC0,tr k14 dC0,fun _=>t2,tr k14 dC0⟩
  rw [if_neg (by simpa using k14)] at h
  by_cases k15:x.kind=15
  ·rw [if_pos (beq_iff_eq.2 k15)] at h
   obtain ⟨t1,t2⟩:=T (V h)
   exact ⟨t1,S,fun h=>absurd h n12,tr k15 dC0,tr k15 dC0,tr k15 dC0,fun _=>t2⟩
  rw [if_neg (by simpa using k15)] at h
  exact absurd (V h) dC0
theorem LRel.monoE {k c:Nat} {I:VR} {l:List Nd} {K:List KF} {l':List Nd} {E:ER} (h:LRel k c I l K l' E):∀ {E':ER},(∀ n p p' a b,E n p p' a b->E' n p p' a b)->LRel k c I l K l' E':=by
  induction h with
  | dead h=>exact fun _=>.dead h
  | weak h _ ih=>exact fun he=>.weak h (ih he)
  | both h1 h2 h3 h4 _ ih=>exact fun he=>.both h1 h2 h3 h4 (ih he)
  | skip h1 h2 _ ih=>exact fun he=>.skip h1 h2 (ih he)
  | paid h1 h2 h3 _ ih=>exact fun he=>.paid h1 h2 h3 (ih he)
  | add h1 h2 h3 _ ih=>exact fun he=>.add h1 h2 h3 (ih he)
  | eff h1 h2 h3 h4 h5 h6 h7 _ ih=>exact fun he=>.eff h1 h2 h3 h4 h5 h6 h7 (ih he)
  | ite h1 h2 h3 h4 h5 h6 h7 h8 _ _ _ ih=>exact fun he=>.ite h1 h2 h3 h4 h5 h6 h7 (fun n p p' a b hh=>(h8 n p p' a b hh).imp_right fun ⟨x,y,z,w⟩=>⟨x,y,z,he _ _ _ _ _ w⟩) (ih he)
  | loop h1 h2 h3 h4 h5 h6 h7 _ _ ih=>exact fun he=>.loop h1 h2 h3 h4 h5 h6 (fun n p p' a b hh=>(h7 n p p' a b hh).imp_left fun ⟨x,y⟩=>⟨x,he _ _ _ _ _ y⟩) (ih he)
  | ender h1 h2 h3 h4 h5=>exact fun he=>.ender h1 h2 h3 h4 fun a b p p' x y z=>he _ _ _ _ _ (h5 a b p p' x y z)
  | once h1 h2 h3 _ ih=>exact fun he=>.once h1 h2 h3 (ih he)
  | leave h1 h2 h3 _ ih=>exact fun he=>.leave h1 h2 h3 (ih he)
  | fork h1 h2 _ _ ih0 ih1=>exact fun he=>.fork h1 h2 (ih0 he) (ih1 he)
def EqS (S:List Int) (a b:List Int):Prop:=∀ x∈S,getV a x=getV b x
theorem zd4 {a a2:List Int} {o y x:Int} (h:setV a o y=some a2):getV a2 x=if x=o then some y else getV a x:=by
  obtain ⟨h1,h2,rfl⟩:=zb9 h
  unfold getV
  by_cases hx:0<=x
  · rw [if_pos hx]
    by_cases e:x=o
    · subst e
      rw [if_pos rfl,List.getElem?_set_self h2]
    · rw [if_neg e,if_pos hx,List.getElem?_set_ne oM0]
  · rw [if_neg hx,if_neg hx,if_neg oM0]
theorem y03:∀ {l p a a2:List Int} {x:Int},mSet a l p=some a2->x∉l->getV a2 x=getV a x
  | [],_,_,_,_,h,_=>by cases h;rfl
  | i::r,p,a,a2,x,h,hx=>by
    obtain ⟨y,p',a1,rfl,h1,h2⟩:=z8g h
    simp only [List.mem_cons,not_or] at hx
    rw [y03 h2 hx.2,zd4 h1,if_neg hx.1]
theorem y6m {outs a a2:List Int} {y x:Int} (h:setO outs a y a2) (hx:x∉outs):getV a2 x=getV a x:=by
  cases outs with
  | nil=>obtain rfl:a2=a:=h;rfl
  | cons o os =>
    simp only [List.mem_cons,not_or] at hx
    rw [zd4 h,if_neg hx.1]
theorem EqS.set {S:List Int} {a b a2 b2:List Int} {o y:Int} (h:EqS S a b) (h1:setV a o y=some a2) (h2:setV b o y=some b2):EqS (S++[o]) a2 b2:=by
  intro x hx
  rw [zd4 h1,zd4 h2]
  by_cases e:x=o
  · rw [if_pos e,if_pos e]
  · rw [if_neg e,if_neg e]
    rcases List.mem_append.1 hx with hx | hx
    · exact h x hx
    · exact absurd (List.mem_singleton.1 hx) e
theorem EqS.msets:∀ {l p S a b a2 b2:List Int},EqS S a b->mSet a l p=some a2->mSet b l p=some b2->EqS (S++l) a2 b2
  | [],p,S,a,b,a2,b2,h,h1,h2=>by cases h1;cases h2;simpa using h
  | i::r,p,S,a,b,a2,b2,h,h1,h2=>by
    obtain ⟨y,p',a1,rfl,g1,g2⟩:=z8g h1
    obtain ⟨y',p'',b1,e,g1',g2'⟩:=z8g h2
    obtain ⟨rfl,rfl⟩:=List.cons.inj e
    have:=EqS.msets (h.set g1 g1') g2 g2'
    simpa using this
theorem EqS.setO {S outs:List Int} {a b a2 b2:List Int} {y:Int} (h:EqS S a b) (ho:outs.length<=1) (h1:setO outs a y a2) (h2:setO outs b y b2):EqS (S++outs) a2 b2:=by
  cases outs with
  | nil=>obtain rfl:a2=a:=h1;obtain rfl:b2=b:=h2;simpa using h
  | cons o os =>
    have:os=[]:=List.eq_nil_of_length_eq_zero (by simpa using ho)
    subst this
    exact h.set h1 h2
theorem y6p {tys seen:List Int}:∀ {l want:List Int},l.length=want.length->z0u tys seen l want=true->∀ v∈l,v∈seen
  | [],_,_,_=>fun v hv=>by simp at hv
  | _::_,[],h,_=>by simp at h
  | x::r,w::ws,h,hg=>by
    simp only [z0u,Bool.and_eq_true] at hg
    intro v hv
    rcases List.mem_cons.1 hv with rfl | hv
    · have:=hg.1
      unfold z5t at this
      simp only [Bool.not_eq_true',Bool.or_eq_false_iff] at this
      simpa using this.1.2
    · exact y6p (by simpa using h) hg.2 v hv
theorem z1y {tys seen l want:List Int} (h:z02 tys seen l want=true):∀ v∈l,v∈seen:=by
  have h0:=(zf6 h).1
  simp only [z02,Bool.and_eq_true] at h
  exact y6p h0 h.2
theorem zc2 {u:Un} {f:Fl} {x:Nd} {seen:List Int} {w:Wh} (h:(z38 u f x seen w).ok f.types x.outs=true) :
    (∀ v∈x.args,v∈seen)/\x.outs.length<=1/\(z80 x=true->HL x/\∃ o,x.outs=[o])/\(x.kind=12->w.If=true)/\(12<=x.kind->x.kind<=15):=by
  have V:∀ {b:Bool} {want:Option (List Int)},SForm.ok ⟨b,want⟩ f.types x.outs=true->b=true:=fun {b want} h=>by
    cases want<;>simp only [SForm.ok,Bool.and_eq_true] at h<;>exact h.1
  have V1:∀ {b:Bool} {t:Int},SForm.ok ⟨b,some [t]⟩ f.types x.outs=true->x.outs.length=1:=fun {b t} h=>by
    simp only [SForm.ok,Bool.and_eq_true] at h
    exact zf8 h.2
  have V0:∀ {b:Bool},SForm.ok ⟨b,none⟩ f.types x.outs=true->x.outs.length=0:=fun {b} h=>by
    simp only [SForm.ok,Bool.and_eq_true,beq_iff_eq] at h
    omega
  have ex1:x.outs.length=1->∃ o,x.outs=[o]:=fun h=>List.length_eq_one_iff.1 h
  have hne:x.outs.length=1->x.outs≠[]:=fun h e=>by rw [e] at h;cases h
  unfold z38 at h
  by_cases k1:x.kind=1
  · rw [if_pos (beq_iff_eq.2 k1)] at h
    have h1:=V1 h
    exact ⟨z1y (V h),by omega,fun hm=>⟨⟨hm,fun h=>absurd (k1.symm.trans h) dC0,hne h1⟩,ex1 h1⟩,fun h=>absurd (k1.symm.trans h) dC0,by omega⟩
  rw [if_neg (by simpa using k1)] at h
  by_cases k2:x.kind=2
  · rw [if_pos (beq_iff_eq.2 k2)] at h
    have h1:=V1 h
    have hb:=V h
    simp only [Bool.and_eq_true] at hb
    exact ⟨z1y hb.2,by omega,fun hm=>⟨⟨hm,fun h=>absurd (k2.symm.trans h) dC0,hne h1⟩,ex1 h1⟩,fun h=>absurd (k2.symm.trans h) dC0,by omega⟩
  rw [if_neg (by simpa using k2)] at h
  by_cases k3:x.kind=3
  · rw [if_pos (beq_iff_eq.2 k3)] at h
    have h1:=V1 h
    have hb:=V h
    simp only [Bool.and_eq_true] at hb
    exact ⟨z1y hb.2,by omega,fun hm=>⟨⟨hm,fun h=>absurd (k3.symm.trans h) dC0,hne h1⟩,ex1 h1⟩,fun h=>absurd (k3.symm.trans h) dC0,by omega⟩
  rw [if_neg (by simpa using k3)] at h
  by_cases k4:x.kind=4
  · rw [if_pos (beq_iff_eq.2 k4)] at h
    have h1:=V1 h
    have hb:=V h
    simp only [Bool.and_eq_true] at hb
    exact ⟨z1y hb.1.2,by omega,fun hm=>⟨⟨hm,fun _=>hb.1.1,hne h1⟩,ex1 h1⟩,fun h=>absurd (k4.symm.trans h) dC0,by omega⟩
  rw [if_neg (by simpa using k4)] at h
  have hno:z80 x=false:=by
    cases hx:z80 x with
    | false=>rfl
    | true=>have:=za2 hx;omega
  have hm0:z80 x=true->HL x/\∃ o,x.outs=[o]:=fun h=>by rw [hno] at h;cases h
  by_cases k5:x.kind=5
  · rw [if_pos (beq_iff_eq.2 k5)] at h
    have hb:=V h
    simp only [Bool.and_eq_true] at hb
    exact ⟨z1y hb.2,by have:=V1 h;omega,hm0,fun h=>absurd (k5.symm.trans h) dC0,by omega⟩
  rw [if_neg (by simpa using k5)] at h
  by_cases k6:x.kind=6
  · rw [if_pos (beq_iff_eq.2 k6)] at h
    have hb:=V h
    simp only [Bool.and_eq_true] at hb
    exact ⟨z1y hb.2,by have:=V0 h;omega,hm0,fun h=>absurd (k6.symm.trans h) dC0,by omega⟩
  rw [if_neg (by simpa using k6)] at h
  by_cases k7:x.kind=7
  · rw [if_pos (beq_iff_eq.2 k7)] at h
    by_cases hp:decide (z04 x.name u.flows 0 ≥ 0)=true
    · rw [if_pos hp] at h
      cases hg:u.flows[(z04 x.name u.flows 0).toNat]? with
      | none=>rw [hg] at h;exact absurd (V h) dC0
      | some g=>rw [hg] at h;exact ⟨z1y (V h),by have:=V1 h;omega,hm0,fun h=>absurd (k7.symm.trans h) dC0,by omega⟩
    · rw [if_neg hp] at h;exact absurd (V h) dC0
  rw [if_neg (by simpa using k7)] at h
  by_cases k8:x.kind=8
  · rw [if_pos (beq_iff_eq.2 k8)] at h
    have hb:=V h
    have:x.args=[]:=List.eq_nil_of_length_eq_zero (by simp at hb;simp [hb])
    exact ⟨by rw [this];exact fun v hv=>by simp at hv,by have:=V1 h;omega,hm0,fun h=>absurd (k8.symm.trans h) dC0,by omega⟩
  rw [if_neg (by simpa using k8)] at h
  by_cases k9:x.kind=9
  · rw [if_pos (beq_iff_eq.2 k9)] at h
    exact ⟨z1y (V h),by have:=V0 h;omega,hm0,fun h=>absurd (k9.symm.trans h) dC0,by omega⟩
  rw [if_neg (by simpa using k9)] at h
  by_cases k12:x.kind=12
  · rw [if_pos (beq_iff_eq.2 k12)] at h
    have hb:=V h
    simp only [Bool.and_eq_true] at hb
    exact ⟨z1y hb.2,by have:=V0 h;omega,hm0,fun _=>hb.1,by omega⟩
  rw [if_neg (by simpa using k12)] at h
  by_cases k13:x.kind=13
  · rw [if_pos (beq_iff_eq.2 k13)] at h
    have hb:=V h
    simp only [Bool.and_eq_true] at hb
    exact ⟨z1y hb.2,by have:=V0 h;omega,hm0,fun h=>absurd (k13.symm.trans h) dC0,by omega⟩
  rw [if_neg (by simpa using k13)] at h
  by_cases k14:x.kind=14
  · rw [if_pos (beq_iff_eq.2 k14)] at h
    have hb:=V h
    simp only [Bool.and_eq_true] at hb
    exact ⟨z1y hb.2,by have:=V0 h;omega,hm0,fun h=>absurd (k14.symm.trans h) dC0,by omega⟩
  rw [if_neg (by simpa using k14)] at h
  by_cases k15:x.kind=15
  · rw [if_pos (beq_iff_eq.2 k15)] at h
    exact ⟨z1y (V h),by have:=V0 h;omega,hm0,fun h=>absurd (k15.symm.trans h) dC0,by omega⟩
  rw [if_neg (by simpa using k15)] at h
  exact absurd (V h) dC0
theorem y3z {u:Un} {f:Fl} {deep:Int} {w:Wh}:∀ {l:List Nd} {S:List Int},vGo u f deep w S l=true->z1b l=12->w.If=true
  | [],_,_,h=>by simp [z1b] at h
  | [x],S,hv,h=>by
    unfold vGo at hv
    simp only [Bool.and_eq_true] at hv
    have hk:x.kind=12:=by
      simp only [z1b,List.getLast?_singleton] at h
      split at h
      · exact h
      · exact absurd h dC0
    have hx:=hv.1.1.2
    rw [z11 u f deep w S (z19 u f deep w S hx) (by rw [hk];rfl) (by rw [hk];rfl)] at hx
    exact (zc2 hx).2.2.2.1 hk
  | x::y::r,S,hv,h=>by
    unfold vGo at hv
    simp only [Bool.and_eq_true] at hv
    have e:z1b (x::y::r)=z1b (y::r):=by simp [z1b,List.getLast?_cons_cons]
    rw [e] at h
    exact y3z hv.2 h
section
def z48 (B:List Nd->List Nd) (f:Fl):Fl:=⟨f.name,f.ty,f.params,f.types,B f.body⟩
def z42 (B:List Nd->List Nd) (u:Un):Un:=⟨u.arrays,u.flows.map (z48 B)⟩
def z68 (B:List Nd->List Nd) (u:Un):Un × Int:=if (z53 u).1==0 then (z42 B u,0) else (⟨[],[]⟩,1)
section
variable (B:List Nd->List Nd)
theorem zi0 (name:ByteArray):∀ (l:List Fl) (i:Int),z04 name (l.map (z48 B)) i=z04 name l i
  | [],_=>rfl
  | f::r,i=>by
    have ih:=zi0 name r (i+1)
    unfold z04
    rw [List.map_cons]
    simp only [ih]
    rfl
theorem sForm_m (u:Un) (f:Fl) (x:Nd) (s:List Int) (w:Wh):z38 (z42 B u) (z48 B f) x s w=z38 u f x s w:=by
  unfold z38
  simp only [z42,z48,zi0,List.getElem?_map]
  cases u.flows[(z04 x.name u.flows 0).toNat]? with
  | none=>rfl
  | some g=>rfl
mutual
theorem vNode_m (u:Un) (f:Fl):∀ (x:Nd) (deep:Int) (w:Wh) (s:List Int),z2r (z42 B u) (z48 B f) deep w s x=z2r u f deep w s x
  | .mk kind op n name args outs params ks,deep,w,s=>by
    unfold z2r
    rw [sForm_m]
    match ks with
    | []=>rfl
    | [a] =>
      have h1:=y8q u f a (deep+1) (w2 f (.mk kind op n name args outs params [a])) (s++params)
      simp only [show w2 (z48 B f) (.mk kind op n name args outs params [a])=w2 f (.mk kind op n name args outs params [a]) from rfl,h1]
      rfl
    | a::b::r =>
      have h1:=y8q u f a (deep+1) (w2 f (.mk kind op n name args outs params (a::b::r))) (s++params)
      have h2:=y8q u f a (deep+1) (w1 w f (.mk kind op n name args outs params (a::b::r))) s
      have h3:=y8q u f b (deep+1) (w1 w f (.mk kind op n name args outs params (a::b::r))) s
      simp only [show w2 (z48 B f) (.mk kind op n name args outs params (a::b::r))=w2 f (.mk kind op n name args outs params (a::b::r)) from rfl,show w1 w (z48 B f) (.mk kind op n name args outs params (a::b::r))=w1 w f (.mk kind op n name args outs params (a::b::r)) from rfl,h1,h2,h3]
      rfl
theorem y8q (u:Un) (f:Fl):∀ (l:List Nd) (deep:Int) (w:Wh) (s:List Int),vGo (z42 B u) (z48 B f) deep w s l=vGo u f deep w s l
  | [],_,_,_=>by simp [vGo]
  | x::r,deep,w,s=>by
    unfold vGo
    rw [vNode_m u f x,y8q u f r]
end
def y1a (u:Un) (f:Fl) (l:List Nd):Prop:=z2t u f 1 z1d (iota f.params.toNat) l=true/\Frs (z34 f.params.toNat f.types.length) (dL l)
theorem z7d {u:Un} {f:Fl} (h:z2j u f=true):f.params.toNat<=f.types.length:=by
  unfold z2j at h
  simp only [Bool.and_eq_true] at h
  have a1:=h.1.1.1.1.1
  have a2:=h.1.1.1.2
  simp only [Bool.not_eq_true',decide_eq_false_iff_not] at a1 a2
  omega
theorem zd1 {u:Un} {f:Fl} (h:z2j u f=true):y1a u f f.body:=by
  have hn:(z34 f.params.toNat f.types.length).length=f.types.length:=z2x (z7d h)
  unfold z2j at h
  simp only [Bool.and_eq_true] at h
  have h2:=h.2
  rw [z9f u f f.body 1 z1d _ _ hn] at h2
  exact h2
theorem flow_m {u:Un} {f:Fl} (h:z2j u f=true) (hB:y1a u f f.body->y1a u f (B f.body)):z2j (z42 B u) (z48 B f)=true:=by
  have hb:=hB (zd1 h)
  have hn:(z34 f.params.toNat f.types.length).length=f.types.length:=z2x (z7d h)
  unfold z2j at h ⊢
  simp only [Bool.and_eq_true] at h ⊢
  refine ⟨h.1,?_⟩
  show (z1n (z42 B u) (z48 B f) 1 z1d (iota f.params.toNat) (z34 f.params.toNat f.types.length) (B f.body)).1=true
  rw [z9f (z42 B u) (z48 B f) (B f.body) 1 z1d _ _ hn]
  have hv:=hb.1
  simp only [z2t,Bool.and_eq_true] at hv ⊢
  exact ⟨⟨hv.1,by rw [y8q];exact hv.2⟩,hb.2⟩
theorem gA_m (u:Un):∀ (l:List Ar) (i:Int),r8gA (z42 B u) l i=r8gA u l i
  | [],_=>rfl
  | a::r,i=>by
    have h1:gArr (z42 B u) a i=gArr u a i:=by simp only [gArr,z42,zi0]
    simp only [r8gA,gA_m u r,h1]
theorem gF_m (u:Un):∀ (l:List Fl) (i:Int),r8gF (z42 B u) (l.map (z48 B)) i=r8gF u l i
  | [],_=>rfl
  | a::r,i=>by
    have h1:gFlw (z42 B u) (z48 B a) i=gFlw u a i:=by
      simp only [gFlw,z42,zi0]
      rfl
    simp only [List.map_cons,r8gF,gF_m u r,h1]
theorem zv7 (l:List Fl) (k:Nat):((l.map (z48 B)).getD k y1m).ty=(l.getD k y1m).ty/\((l.map (z48 B)).getD k y1m).params=(l.getD k y1m).params:=by
  simp only [List.getD_eq_getElem?_getD,List.getElem?_map]
  cases l[k]? with
  | none=>exact ⟨rfl,rfl⟩
  | some g=>exact ⟨rfl,rfl⟩
theorem ya6 (u:Un):z10 (z42 B u)=z10 u:=by
  unfold z10
  rw [show (z42 B u).arrays=u.arrays from rfl,show (z42 B u).flows=u.flows.map (z48 B) from rfl,gA_m,gF_m]
  unfold z6r
  rw [show (z42 B u).flows=u.flows.map (z48 B) from rfl,zi0,(zv7 B _ _).1,(zv7 B _ _).2]
theorem check_m {u:Un} (h:(z1a u).1=0) (hB:∀ f∈u.flows,y1a u f f.body->y1a u f (B f.body)):z1a (z42 B u)=(0,0):=by
  obtain ⟨h1,h2⟩:=(z4r u).1 h
  unfold z1a
  rw [ya6,h1,if_pos rfl]
  refine zv2 (z42 B u) _ 0 fun g hg=>?_
  obtain ⟨f,hf,rfl⟩:=List.mem_map.1 hg
  exact flow_m B (h2 f hf) (hB f hf)
theorem wtF_m (hw:∀ l,z37 (B l)<=z37 l):∀ l:List Fl,wtF (l.map (z48 B))<=wtF l
  | []=>Nat.le_refl _
  | f::r=>by
    have h1:=hw f.body
    have h2:=wtF_m hw r
    simp only [List.map_cons,wtF,z48] at h2 ⊢
    omega
theorem y6u (hw:∀ l,z37 (B l)<=z37 l) (u:Un):z0p (z42 B u)<=z0p u:=by
  have:=wtF_m B hw u.flows
  unfold z0p
  rw [show (z42 B u).flows=u.flows.map (z48 B) from rfl,List.length_map,show (z42 B u).arrays=u.arrays from rfl]
  omega
theorem zw7 {u:Un} (h:(z1a u).1≠0):z68 B u=(⟨[],[]⟩,1):=by
  have:((z53 u).1==0)=false:=by rw [zi5];simpa using h
  simp [z68,this]
theorem z69 {u:Un} (h:(z1a u).1=0):z68 B u=(z42 B u,0):=by
  have:((z53 u).1==0)=true:=by rw [zi5];simpa using h
  simp [z68,this]
theorem y0e (hw:∀ l,z37 (B l)<=z37 l) (u:Un):z0p (z68 B u).1<=z0p u:=by
  unfold z68
  split
  ·exact y6u B hw u
  simp [z0p,wtA,wtF]
end
end
section
section
variable {α β:Type} [DecidableEq α]
def aGet (k:α):List (α × β)->Option β
  | []=>none
  | (a,b)::r=>if k=a then some b else aGet k r
def aPut (k:α) (v:β):List (α × β)->List (α × β)
  | []=>[(k,v)]
  | (a,b)::r=>if k=a then (k,v)::r else (a,b)::aPut k v r
theorem zc5 (j k:α) (v:β):∀ es:List (α × β),aGet j (aPut k v es)=if j=k then some v else aGet j es
  | []=>by simp [aPut,aGet]
  | (a,b)::r=>by
    have ih:=zc5 j k v r
    unfold aPut
    by_cases h:k=a
    ·subst h
     rw [if_pos rfl]
     unfold aGet
     by_cases h2:j=k
     ·rw [if_pos h2,if_pos h2]
     rw [if_neg h2,if_neg h2,if_neg h2]
    rw [if_neg h]
    unfold aGet
    rw [ih]
    by_cases h2:j=a
    ·subst h2
     rw [if_pos rfl,if_neg (fun e=>h e.symm),if_pos rfl]
    rw [if_neg h2,if_neg h2]
end
structure Ky where
  kind:Int
  op:Int
  n:Int
  a:Int
  b:Int
  deriving DecidableEq
abbrev TT:=List (Int × Int)
structure Tb where
  seen:List (Ky × Int)
  nums:TT
def z0o (to:TT) (v:Int):Int:=(aGet v to).getD v
theorem zz7 {A B:List Nd} (h:B≠[]):(A++B).getLast? = B.getLast?:=by
  rw [List.getLast?_append]
  cases hb:B.getLast? with
  | none=>exact absurd (List.getLast?_eq_none_iff.1 hb) h
  | some z=>rfl
end
def Vis (tys all:List Int) (y t:Int):Prop:=all.contains y=true/\0<=y/\y<tys.length/\tys.getD y.toNat 0=t
theorem Vis.mono {tys all:List Int} {y t:Int} (h:Vis tys all y t) (c:List Int):Vis tys (all++c) y t:=⟨by rw [List.contains_append,h.1];rfl,h.2⟩
def Rel (tys:List Int) (to:TT) (all all':List Int):Prop:=∀ v,all.contains v=true->0<=v->v<tys.length->Vis tys all' (z0o to v) (tys.getD v.toNat 0)
theorem zt3 {tys seen:List Int} {v w:Int}:z5t tys seen v w=true↔seen.contains v=true/\0<=v/\v<tys.length/\(w=0∨tys.getD v.toNat 0=w):=by
  unfold z5t
  simp only [Bool.not_eq_true',Bool.or_eq_false_iff,decide_eq_false_iff_not,Bool.not_eq_false',Bool.and_eq_false_iff,bne_eq_false_iff_eq]
  constructor
  ·rintro ⟨⟨⟨h1,h2⟩,h3⟩,h4⟩
   exact ⟨h3,by omega,by omega,h4⟩
  rintro ⟨h3,h1,h2,h4⟩
  exact ⟨⟨⟨by omega,by omega⟩,h3⟩,h4⟩
theorem use_rel {tys all all':List Int} {to:TT} (hr:Rel tys to all all') {v w:Int} (h:z5t tys all v w=true):z5t tys all' (z0o to v) w=true:=by
  obtain ⟨h1,h2,h3,h4⟩:=zt3.1 h
  obtain ⟨k1,k2,k3,k4⟩:=hr v h1 h2 h3
  exact zt3.2 ⟨k1,k2,k3,by rw [k4];exact h4⟩
theorem zt1 {tys all all':List Int} {to:TT} (hr:Rel tys to all all'):∀ {l want:List Int},z0u tys all l want=true->z0u tys all' (l.map (z0o to)) want=true
  | [],_,_=>by simp [z0u]
  | _::_,[],_=>by simp [z0u]
  | v::r,w::ws,h=>by
    simp only [z0u,Bool.and_eq_true,List.map_cons] at h ⊢
    exact ⟨use_rel hr h.1,zt1 hr h.2⟩
theorem zf7 {tys all all':List Int} {to:TT} (hr:Rel tys to all all') {l want:List Int} (h:z02 tys all l want=true):z02 tys all' (l.map (z0o to)) want=true:=by
  unfold z02 at h ⊢
  simp only [Bool.and_eq_true,List.length_map] at h ⊢
  exact ⟨h.1,zt1 hr h.2⟩
theorem Rel.outs {tys all all' outs:List Int} {to:TT} (hr:Rel tys to all all') (hn:∀ v∈outs,aGet v to=none):Rel tys to (all++outs) (all'++outs):=fun v hv h0 h1=>by
  rw [List.contains_append,Bool.or_eq_true] at hv
  by_cases ho:outs.contains v=true
  ·have e:z0o to v=v:=by unfold z0o;rw [hn v (List.contains_iff_mem.1 ho)];rfl
   rw [e]
   exact ⟨by rw [List.contains_append,ho,Bool.or_true],h0,h1,rfl⟩
  exact (hr v (hv.resolve_right ho) h0 h1).mono _
theorem Rel.congr {tys all all':List Int} {to to':TT} (hr:Rel tys to all all') (hn:∀ v,all.contains v=true->aGet v to'=aGet v to):Rel tys to' all all':=fun v hv h0 h1=>by
  have e:z0o to' v=z0o to v:=by unfold z0o;rw [hn v hv]
  rw [e]
  exact hr v hv h0 h1
theorem yi1 {u:Un} {f:Fl} {to:TT} {all all':List Int} {w:Wh} {outs:List Int} {x y:Nd} (ek:y.kind=x.kind) (eo:y.op=x.op) (en:y.n=x.n) (em:y.name=x.name) (ea:y.args=x.args.map (z0o to)) (hr:Rel f.types to all all')
    (h:(z38 u f x all w).ok f.types outs=true):(z38 u f y all' w).ok f.types outs=true:=by
  have M:∀ want,z02 f.types all x.args want=true->z02 f.types all' (x.args.map (z0o to)) want=true:=fun want=>zf7 hr
  have F:∀ (b b':Bool) (want:Option (List Int)),(b=true->b'=true)->SForm.ok ⟨b,want⟩ f.types outs=true->SForm.ok ⟨b',want⟩ f.types outs=true:=fun b b' want hb h=>by
    cases want<;>simp only [SForm.ok,Bool.and_eq_true] at h ⊢<;>exact ⟨hb h.1,h.2⟩
  unfold z38 at h ⊢
  rw [ek,eo,en,em,ea]
  by_cases k1:(x.kind==1)=true
  ·rw [if_pos k1] at h ⊢
   exact F _ _ _ (fun hb=>M _ hb) h
  rw [if_neg k1] at h ⊢
  by_cases k2:(x.kind==2)=true
  ·rw [if_pos k2] at h ⊢
   exact F _ _ _ (fun hb=>by simp only [Bool.and_eq_true] at hb ⊢;exact ⟨hb.1,M _ hb.2⟩) h
  rw [if_neg k2] at h ⊢
  by_cases k3:(x.kind==3)=true
  ·rw [if_pos k3] at h ⊢
   exact F _ _ _ (fun hb=>by simp only [Bool.and_eq_true] at hb ⊢;exact ⟨hb.1,M _ hb.2⟩) h
  rw [if_neg k3] at h ⊢
  by_cases k4:(x.kind==4)=true
  ·rw [if_pos k4] at h ⊢
   refine F _ _ _ (fun hb=>?_) h
   simp only [Bool.and_eq_true] at hb ⊢
   refine ⟨⟨hb.1.1,M _ hb.1.2⟩,?_⟩
   have ht:=hb.1.2
   unfold z02 at ht
   simp only [Bool.and_eq_true,beq_iff_eq,List.length_cons,List.length_nil] at ht
   match x.args,ht,hb.2 with
   | [a,b],ht,h2 =>
     simp only [z0u,Bool.and_eq_true] at ht
     obtain ⟨a1,a2,a3,_⟩:=zt3.1 ht.2.1
     obtain ⟨b1,b2,b3,_⟩:=zt3.1 ht.2.2.1
     have e1:=(hr a a1 a2 a3).2.2.2
     have e2:=(hr b b1 b2 b3).2.2.2
     simp only [List.map_cons,List.map_nil,List.getD_cons_zero,List.getD_cons_succ] at h2 ⊢
     rw [e1,e2]
     exact h2
  rw [if_neg k4] at h ⊢
  by_cases k5:(x.kind==5)=true
  ·rw [if_pos k5] at h ⊢
   exact F _ _ _ (fun hb=>by simp only [Bool.and_eq_true] at hb ⊢;exact ⟨hb.1,M _ hb.2⟩) h
  rw [if_neg k5] at h ⊢
  by_cases k6:(x.kind==6)=true
  ·rw [if_pos k6] at h ⊢
   exact F _ _ _ (fun hb=>by simp only [Bool.and_eq_true] at hb ⊢;exact ⟨hb.1,M _ hb.2⟩) h
  rw [if_neg k6] at h ⊢
  by_cases k7:(x.kind==7)=true
  ·rw [if_pos k7] at h ⊢
   by_cases hp:decide (z04 x.name u.flows 0 ≥ 0)=true
   ·rw [if_pos hp] at h ⊢
    cases hg:u.flows[(z04 x.name u.flows 0).toNat]? with
    | none=>rw [hg] at h;exact h
    | some g=>rw [hg] at h;exact F _ _ _ (fun hb=>M _ hb) h
   rw [if_neg hp] at h ⊢;exact h
  rw [if_neg k7] at h ⊢
  by_cases k8:(x.kind==8)=true
  ·rw [if_pos k8] at h ⊢
   exact F _ _ _ (fun hb=>by simpa using hb) h
  rw [if_neg k8] at h ⊢
  by_cases k9:(x.kind==9)=true
  ·rw [if_pos k9] at h ⊢
   exact F _ _ _ (fun hb=>M _ hb) h
  rw [if_neg k9] at h ⊢
  by_cases k12:(x.kind==12)=true
  ·rw [if_pos k12] at h ⊢
   exact F _ _ _ (fun hb=>by simp only [Bool.and_eq_true] at hb ⊢;exact ⟨hb.1,M _ hb.2⟩) h
  rw [if_neg k12] at h ⊢
  by_cases k13:(x.kind==13)=true
  ·rw [if_pos k13] at h ⊢
   exact F _ _ _ (fun hb=>by simp only [Bool.and_eq_true] at hb ⊢;exact ⟨hb.1,M _ hb.2⟩) h
  rw [if_neg k13] at h ⊢
  by_cases k14:(x.kind==14)=true
  ·rw [if_pos k14] at h ⊢
   exact F _ _ _ (fun hb=>by simp only [Bool.and_eq_true] at hb ⊢;exact ⟨hb.1,M _ hb.2⟩) h
  rw [if_neg k14] at h ⊢
  by_cases k15:(x.kind==15)=true
  ·rw [if_pos k15] at h ⊢
   exact F _ _ _ (fun hb=>M _ hb) h
  rw [if_neg k15] at h ⊢
  exact h
def EqT (to:TT) (S a b:List Int):Prop:=∀ v∈S,getV b (z0o to v)=getV a v
theorem EqT.mof {to:TT} {S a b:List Int} (h:EqT to S a b):∀ {l:List Int},(∀ v∈l,v∈S)->mOf b (l.map (z0o to))=mOf a l
  | [],_=>rfl
  | i::r,hs=>by
    simp only [List.map_cons,mOf]
    rw [h i (hs i (.head _)),EqT.mof h fun v hv=>hs v (.tail _ hv)]
theorem EqT.sub {to to':TT} {S T a b:List Int} (h:EqT to S a b) (hc:∀ v∈T,v∈S/\z0o to v=z0o to' v):EqT to' T a b:=fun v hv=>by rw [<- (hc v hv).2];exact h v (hc v hv).1
theorem EqT.sets {to:TT} {S l p a b a2 b2:List Int} (h:EqT to S a b) (h1:mSet a l p=some a2) (h2:mSet b l p=some b2) (hs:∀ v∈S,z0o to v∉l) (hl:∀ v∈l,aGet v to=none):EqT to (S++l) a2 b2:=by
  intro v hv
  by_cases hm:v∈l
  · have e:z0o to v=v:=by unfold z0o;rw [hl v hm];rfl
    rw [e]
    have:=EqS.msets (S:=[]) (fun _ h=>by simp at h) h1 h2 v (by simpa using hm)
    exact this.symm
  · have hS:=(List.mem_append.1 hv).resolve_right hm
    rw [y03 h2 (hs v hS),y03 h1 hm]
    exact h v hS
theorem EqT.seto {to:TT} {S outs a b a2 b2:List Int} {y:Int} (h:EqT to S a b) (ho:outs.length<=1) (h1:setO outs a y a2) (h2:setO outs b y b2) (hs:∀ v∈S,z0o to v∉outs) (hl:∀ v∈outs,aGet v to=none):EqT to (S++outs) a2 b2:=by
  intro v hv
  by_cases hm:v∈outs
  · have e:z0o to v=v:=by unfold z0o;rw [hl v hm];rfl
    rw [e]
    have:=EqS.setO (S:=[]) (fun _ h=>by simp at h) ho h1 h2 v (by simpa using hm)
    exact this.symm
  · have hS:=(List.mem_append.1 hv).resolve_right hm
    rw [y6m h2 (hs v hS),y6m h1 hm]
    exact h v hS
structure New (f:Fl) (D all all':List Int) (to:TT):Prop where
  nd:D.Nodup
  fa:∀ v∈D,all.contains v=false
  fb:∀ v∈D,v∉all'
  ft:∀ v∈D,aGet v to=none
  rel:Rel f.types to all all'
  inr:inR f.types.length all
theorem New.stv {f:Fl} {D all all':List Int} {to:TT} (h:New f D all all' to):∀ v∈all,∀ o∈D,z0o to v≠o:=fun v hv o ho e=>by
  have h1:=(h.inr v hv)
  have h2:=(h.rel v (List.contains_iff_mem.2 hv) h1.1 h1.2).1
  exact h.fb o ho (e ▸ List.contains_iff_mem.1 h2)
theorem New.na {f:Fl} {D all all':List Int} {to:TT} (h:New f D all all' to) {v:Int} (hv:v∈D):v∉all:=fun hm=>by
  have:=h.fa v hv
  rw [List.contains_iff_mem.2 hm] at this
  cases this
theorem New.sub {f:Fl} {D D' all all':List Int} {to:TT} (h:New f D all all' to) (hn:D'.Nodup) (hs:∀ v∈D',v∈D):New f D' all all' to :=
  ⟨hn,fun v hv=>h.fa v (hs v hv),fun v hv=>h.fb v (hs v hv),fun v hv=>h.ft v (hs v hv),h.rel,h.inr⟩
theorem New.to {f:Fl} {D all all':List Int} {to to':TT} (h:New f D all all' to) (h1:∀ v∈all,aGet v to'=aGet v to) (h2:∀ v∈D,aGet v to'=aGet v to):New f D all all' to' :=
  ⟨h.nd,h.fa,h.fb,fun v hv=>(h2 v hv).trans (h.ft v hv),h.rel.congr fun v hv=>h1 v (List.contains_iff_mem.1 hv),h.inr⟩
theorem z5u {to to':TT} {v:Int} (h:aGet v to'=aGet v to):z0o to' v=z0o to v:=by unfold z0o;rw [h]
def TEnd (t0:TT) (S0 S1:List Int) (y nx lv:Bool):ER:=fun n p p' a b =>
  (n=12/\y=true/\p'=p/\EqT t0 S0 a b)∨(n=13/\nx=true/\p'=p/\EqT t0 S1 a b)∨(n=14/\lv=true/\p'=p/\EqT t0 S1 a b)∨(n=15/\p'=p)
structure Ends (t0 to:TT) (S0 S1 all:List Int):Prop where
  s0:∀ v∈S0,v∈all/\z0o to v=z0o t0 v
  s1:∀ v∈S1,v∈all/\z0o to v=z0o t0 v
theorem Ends.step {t0 to to':TT} {S0 S1 all all2:List Int} (h:Ends t0 to S0 S1 all) (h1:∀ v∈all,v∈all2) (h2:∀ v∈all,aGet v to'=aGet v to):Ends t0 to' S0 S1 all2 :=
  ⟨fun v hv=>⟨h1 v (h.s0 v hv).1,(z5u (h2 v (h.s0 v hv).1)).trans (h.s0 v hv).2⟩,fun v hv=>⟨h1 v (h.s1 v hv).1,(z5u (h2 v (h.s1 v hv).1)).trans (h.s1 v hv).2⟩⟩
mutual
def cnN (k:Int):Nd->Nat
  | .mk kind _ _ _ _ _ _ ks=>(if kind==k then 1 else 0)+(if kind==10 then cnK k ks else 0)
def cnL (k:Int):List Nd->Nat
  | []=>0
  | x::r=>cnN k x+cnL k r
def cnK (k:Int):List (List Nd)->Nat
  | []=>0
  | l::r=>cnL k l+cnK k r
end
theorem z7y (k:Int) (x:Nd):cnN k x=(if x.kind==k then 1 else 0)+(if x.kind==10 then cnK k x.kids else 0):=by cases x;simp only [cnN];rfl
theorem z7c (k:Int):∀ a b:List Nd,cnL k (a++b)=cnL k a+cnL k b
  | [],b=>by simp [cnL]
  | x::r,b=>by simp only [List.cons_append,cnL,z7c k r b];omega
def z0h (l:List Nd):Int:=match l.getLast? with
  | some x=>x.kind
  | none=>0
def z18 (l:List Nd):Bool:=match l.getLast? with
  | some x=>z01 x
  | none=>false
def z27 (l:List Nd):Bool:=cnL 13 l==0&&(cnL 14 l==0||(cnL 14 l==1&&z0h l==14))
def z2e:List Nd->List Nd->Bool
  | [x],[y]=>x.kind==12&&y.kind==12&&x.args==y.args
  | _,_=>false
def z0k:List Int->List Int->TT->TT
  | v::l,t::m,to=>z0k l m (aPut v t to)
  | _,_,to=>to
def z6z:List Nd->List Int
  | x::_=>x.args
  | []=>[]
def z30 (l:List Nd):List Int:=match l.getLast? with
  | some x=>x.args
  | none=>[]
def z81 (x:Nd):Nd:=if z01 x then .mk x.kind x.op x.n x.name x.args [] x.params x.kids else x
mutual
def tdN:Nd->Nd
  | .mk kind op n name args outs params ks=>z81 (.mk kind op n name args outs params (tdK ks))
def tdL:List Nd->List Nd
  | []=>[]
  | x::r=>if z01 (tdN x) then [tdN x] else tdN x::tdL r
def tdK:List (List Nd)->List (List Nd)
  | []=>[]
  | l::r=>tdL l::tdK r
end
theorem tdN_eq (x:Nd):tdN x=z81 (.mk x.kind x.op x.n x.name x.args x.outs x.params (tdK x.kids)):=by cases x;simp only [tdN];rfl
mutual
def trN (to:TT):Nd->List Nd × TT
  | .mk kind op n name args outs params ks =>
    if kind==11 then
      (if z27 (kid0 ks) then
        (if z0h (kid0 (trKs (z0k params (args.map (z0o to)) to) ks).1)==14 then
          ((kid0 (trKs (z0k params (args.map (z0o to)) to) ks).1).dropLast,z0k outs (z30 (kid0 (trKs (z0k params (args.map (z0o to)) to) ks).1)) (trKs (z0k params (args.map (z0o to)) to) ks).2)
        else (kid0 (trKs (z0k params (args.map (z0o to)) to) ks).1,(trKs (z0k params (args.map (z0o to)) to) ks).2))
      else ([.mk kind op n name (args.map (z0o to)) outs params (trKs to ks).1],(trKs to ks).2))
    else if kind==10 then
      (if z2e (kid0 (trKs to ks).1) (kid1 (trKs to ks).1) then ([],z0k outs (z6z (kid0 (trKs to ks).1)) (trKs to ks).2)
      else ([.mk kind op n name (args.map (z0o to)) outs params (trKs to ks).1],(trKs to ks).2))
    else ([.mk kind op n name (args.map (z0o to)) outs params ks],to)
def trR (out:List Nd) (to:TT):List Nd->List Nd × TT
  | []=>(out,to)
  | x::r=>if z18 (out++(trN to x).1) then (out++(trN to x).1,(trN to x).2) else trR (out++(trN to x).1) (trN to x).2 r
def trKs (to:TT):List (List Nd)->List (List Nd) × TT
  | []=>([],to)
  | l::r=>(tdL (trR [] to l).1::(trKs (trR [] to l).2 r).1,(trKs (trR [] to l).2 r).2)
end
def trL (to:TT) (l:List Nd):List Nd × TT:=(tdL (trR [] to l).1,(trR [] to l).2)
theorem z3m (to:TT) (l:List Nd) (r:List (List Nd)):trKs to (l::r)=((trL to l).1::(trKs (trL to l).2 r).1,(trKs (trL to l).2 r).2):=by rw [trKs];rfl
def trB (l:List Nd):List Nd:=(trL [] l).1
def trA (to:TT) (x:Nd):Nd:=.mk x.kind x.op x.n x.name (x.args.map (z0o to)) x.outs x.params x.kids
def z91 (to:TT) (x:Nd):List Nd × TT :=
  if z27 (kid0 x.kids) then
    (if z0h (kid0 (trKs (z0k x.params x.args to) x.kids).1)==14 then
      ((kid0 (trKs (z0k x.params x.args to) x.kids).1).dropLast,z0k x.outs (z30 (kid0 (trKs (z0k x.params x.args to) x.kids).1)) (trKs (z0k x.params x.args to) x.kids).2)
    else (kid0 (trKs (z0k x.params x.args to) x.kids).1,(trKs (z0k x.params x.args to) x.kids).2))
  else ([.mk x.kind x.op x.n x.name x.args x.outs x.params (trKs to x.kids).1],(trKs to x.kids).2)
def z6v (to:TT) (x:Nd):List Nd × TT :=
  if z2e (kid0 (trKs to x.kids).1) (kid1 (trKs to x.kids).1) then ([],z0k x.outs (z6z (kid0 (trKs to x.kids).1)) (trKs to x.kids).2)
  else ([.mk x.kind x.op x.n x.name x.args x.outs x.params (trKs to x.kids).1],(trKs to x.kids).2)
theorem z9y (to:TT) (x:Nd):trN to x=if x.kind==11 then z91 to (trA to x) else if x.kind==10 then z6v to (trA to x) else ([trA to x],to):=by
  cases x;simp only [trN,z91,z6v,trA,Nd.kind,Nd.op,Nd.n,Nd.name,Nd.args,Nd.outs,Nd.params,Nd.kids];rfl
mutual
def gdN (to:TT):Nd->Bool
  | .mk kind op n name args outs params ks =>
    if kind==11 then ks.length==1&&decide (params.length<=args.length) &&
      (if z27 (kid0 ks) then gdKs (z0k params (args.map (z0o to)) to) ks && !(kid0 (trKs (z0k params (args.map (z0o to)) to) ks).1).isEmpty &&
          (z0h (kid0 (trKs (z0k params (args.map (z0o to)) to) ks).1) != 14||decide (outs.length<=(z30 (kid0 (trKs (z0k params (args.map (z0o to)) to) ks).1)).length))
        else gdKs to ks)
    else if kind==10 then ks.length==2&&gdKs to ks&&(!z2e (kid0 (trKs to ks).1) (kid1 (trKs to ks).1)||decide (outs.length<=(z6z (kid0 (trKs to ks).1)).length))
    else true
def gdR (out:List Nd) (to:TT):List Nd->Bool
  | []=>true
  | x::r=>gdN to x&&(z18 (out++(trN to x).1)||gdR (out++(trN to x).1) (trN to x).2 r)
def gdKs (to:TT):List (List Nd)->Bool
  | []=>true
  | l::r=>gdR [] to l&&gdKs (trR [] to l).2 r
end
theorem y1r (to:TT) (x:Nd):gdN to x =
    if x.kind==11 then x.kids.length==1&&decide (x.params.length<=x.args.length) &&
      (if z27 (kid0 x.kids) then gdKs (z0k x.params (trA to x).args to) x.kids && !(kid0 (trKs (z0k x.params (trA to x).args to) x.kids).1).isEmpty &&
          (z0h (kid0 (trKs (z0k x.params (trA to x).args to) x.kids).1) != 14||decide (x.outs.length<=(z30 (kid0 (trKs (z0k x.params (trA to x).args to) x.kids).1)).length))
        else gdKs to x.kids)
    else if x.kind==10 then x.kids.length==2&&gdKs to x.kids&&(!z2e (kid0 (trKs to x.kids).1) (kid1 (trKs to x.kids).1)||decide (x.outs.length<=(z6z (kid0 (trKs to x.kids).1)).length))
    else true:=by
  cases x;simp only [gdN,trA,Nd.kind,Nd.args,Nd.outs,Nd.params,Nd.kids];rfl
mutual
def y0y:Nd->Bool
  | .mk kind _ _ _ args outs params ks=>(kind != 10||ks.length==2)&&(kind != 11||(ks.length==1&&params.length==args.length))&&y34 ks
def zk9:List Nd->Bool
  | []=>true
  | x::r=>y0y x&&zk9 r
def y34:List (List Nd)->Bool
  | []=>true
  | l::r=>!l.isEmpty&&zk9 l&&y34 r
end
theorem z9j (x:Nd):y0y x=((x.kind != 10||x.kids.length==2)&&(x.kind != 11||(x.kids.length==1&&x.params.length==x.args.length))&&y34 x.kids):=by
  cases x;simp only [y0y];rfl
theorem zs9:∀ {l:List Nd} {x:Nd},zk9 l=true->x∈l->y0y x=true
  | y::r,x,hh,hx=>by
    simp only [zk9,Bool.and_eq_true] at hh
    rcases List.mem_cons.1 hx with rfl | hx
    · exact hh.1
    · exact zs9 hh.2 hx
theorem z92:∀ {l:List (List Nd)} {x:List Nd},y34 l=true->x∈l->x≠[]/\zk9 x=true
  | y::r,x,hh,hx=>by
    simp only [y34,Bool.and_eq_true] at hh
    rcases List.mem_cons.1 hx with rfl | hx
    · exact ⟨by intro e;rw [e] at hh;simp at hh,hh.1.2⟩
    · exact z92 hh.2 hx
theorem zo4 {k n:Nat} {v:Int} (hk:k<=n) (h:(iota k).contains v=true):(z34 k n).getD v.toNat false=true:=by
  rw [List.contains_iff_mem] at h
  obtain ⟨i,hi,rfl⟩:=List.mem_map.1 h
  rw [List.mem_range] at hi
  simp only [z34,List.getD_eq_getElem?_getD]
  rw [List.getElem?_append_left (by simpa using hi)]
  simp [hi]
mutual
theorem y7d:∀ x:Nd,z20 x=(cnN 14 x != 0)
  | .mk kind op n name args outs params ks=>by
    have hk:=zw1 ks
    simp only [z20,cnN,hk]
    by_cases h14:kind=14
    ·subst h14;simp
    by_cases h10:kind=10
    ·subst h10;simp
    simp [h14,h10]
theorem z3q:∀ l:List Nd,z0r l=(cnL 14 l != 0)
  | []=>rfl
  | x::r=>by
    simp only [z0r,cnL,y7d x,z3q r]
    rw [Bool.eq_iff_iff]
    simp only [Bool.or_eq_true,bne_iff_ne,ne_eq]
    omega
theorem zw1:∀ ks:List (List Nd),z2q ks=(cnK 14 ks != 0)
  | []=>rfl
  | l::r=>by
    simp only [z2q,cnK,z3q l,zw1 r]
    rw [Bool.eq_iff_iff]
    simp only [Bool.or_eq_true,bne_iff_ne,ne_eq]
    omega
end
def Cx13 (w w':Wh) (n:Nat):Prop:=n=0∨(w'.Loop=w.Loop/\w'.Next=w.Next)
def Cx14 (w w':Wh) (n:Nat):Prop:=n=0∨(w'.Loop=w.Loop/\w'.Left=w.Left)
def Cx12 (w w':Wh) (x:Nd):Prop:=x.kind=12->(w'.If=w.If/\w'.Yield=w.Yield)
theorem Cx13.part {w w':Wh} {n m:Nat} (h:Cx13 w w' n) (hm:n=0->m=0):Cx13 w w' m:=h.imp hm id
theorem Cx14.part {w w':Wh} {n m:Nat} (h:Cx14 w w' n) (hm:n=0->m=0):Cx14 w w' m:=h.imp hm id
theorem yi0 (u:Un) (f:Fl) (x:Nd) (s:List Int) (w w':Wh) (h12:Cx12 w w' x) (h13:Cx13 w w' (cnN 13 x)) (h14:Cx14 w w' (cnN 14 x)):z38 u f x s w'=z38 u f x s w:=by
  have e12:(x.kind==12)=true->(w'.If=w.If/\w'.Yield=w.Yield):=fun h=>h12 (by simpa using h)
  have e13:(x.kind==13)=true->(w'.Loop=w.Loop/\w'.Next=w.Next):=fun h=>h13.resolve_left (by rw [z7y,if_pos h];omega)
  have e14:(x.kind==14)=true->(w'.Loop=w.Loop/\w'.Left=w.Left):=fun h=>h14.resolve_left (by rw [z7y,if_pos h];omega)
  unfold z38
  by_cases k12:(x.kind==12)=true
  ·obtain ⟨a,b⟩:=e12 k12
   rw [a,b]
   have k13:(x.kind==13)=false:=by simp at k12 ⊢;omega
   have k14:(x.kind==14)=false:=by simp at k12 ⊢;omega
   simp only [k12,k13,k14,if_true,Bool.false_eq_true,if_false]
  by_cases k13:(x.kind==13)=true
  ·obtain ⟨a,b⟩:=e13 k13
   rw [a,b]
   have k12':(x.kind==12)=false:=by simpa using k12
   have k14:(x.kind==14)=false:=by simp at k13 ⊢;omega
   simp only [k12',k13,k14,if_true,Bool.false_eq_true,if_false]
  by_cases k14:(x.kind==14)=true
  ·obtain ⟨a,b⟩:=e14 k14
   rw [a,b]
   have k12':(x.kind==12)=false:=by simpa using k12
   have k13':(x.kind==13)=false:=by simpa using k13
   simp only [k12',k13',k14,if_true,Bool.false_eq_true,if_false]
  have k12':(x.kind==12)=false:=by simpa using k12
  have k13':(x.kind==13)=false:=by simpa using k13
  have k14':(x.kind==14)=false:=by simpa using k14
  simp only [k12',k13',k14',Bool.false_eq_true,if_false]
mutual
theorem y68 (u:Un) (f:Fl):∀ (x:Nd) (deep deep':Int) (w w':Wh) (all:List Int),deep'<=deep->Cx12 w w' x->Cx13 w w' (cnN 13 x)->Cx14 w w' (cnN 14 x)->z2r u f deep w all x=true->z2r u f deep' w' all x=true
  | .mk kind op n name args outs params ks,deep,deep',w,w',all,hd,h12,h13,h14,hv=>by
    have hb:=z19 u f deep _ all hv
    by_cases h10:kind=10
    ·obtain ⟨a,b,hk⟩:=z2k hb h10
     rw [z3w u f deep w all hb h10 hk] at hv
     rw [z3w u f deep' w' all hb h10 hk]
     simp only [Bool.and_eq_true,z2t] at hv ⊢
     simp only [Nd.kids] at hk
     match ks,hk with
     | [a',b'],hk =>
       cases hk
       subst h10
       have z13:∀ {c:Nat},cnN 13 (.mk 10 op n name args outs params [a,b])=0->(cnL 13 a=0/\cnL 13 b=0):=fun {_} h=>by simp only [cnN,cnK] at h;simp at h;exact h
       have z14:∀ {c:Nat},cnN 14 (.mk 10 op n name args outs params [a,b])=0->(cnL 14 a=0/\cnL 14 b=0):=fun {_} h=>by simp only [cnN,cnK] at h;simp at h;exact h
       have A:=y1s u f a (deep+1) (deep'+1) (w1 w f (.mk 10 op n name args outs params [a,b])) (w1 w' f (.mk 10 op n name args outs params [a,b])) all oM0 (fun _ _ _=>⟨rfl,rfl⟩) (h13.imp (fun h=>(z13 (c:=0) h).1) id) (h14.imp (fun h=>(z14 (c:=0) h).1) id) hv.1.1.1.2.2
       have B:=y1s u f b (deep+1) (deep'+1) (w1 w f (.mk 10 op n name args outs params [a,b])) (w1 w' f (.mk 10 op n name args outs params [a,b])) all oM0 (fun _ _ _=>⟨rfl,rfl⟩) (h13.imp (fun h=>(z13 (c:=0) h).2) id) (h14.imp (fun h=>(z14 (c:=0) h).2) id) hv.1.1.2.2
       exact ⟨⟨⟨⟨hv.1.1.1.1,hv.1.1.1.2.1,A⟩,hv.1.1.2.1,B⟩,hv.1.2⟩,hv.2⟩
    by_cases h11:kind=11
    ·obtain ⟨a,hk⟩:=z1m hb h11
     rw [z28 u f deep w all hb h11 hk] at hv
     rw [z28 u f deep' w' all hb h11 hk]
     simp only [Bool.and_eq_true,z2t] at hv ⊢
     simp only [Nd.kids] at hk
     match ks,hk with
     | [a'],hk =>
       cases hk
       have A:=y1s u f a (deep+1) (deep'+1) (w2 f (.mk kind op n name args outs params [a])) (w2 f (.mk kind op n name args outs params [a])) (all++params) oM0 (fun _ _ _=>⟨rfl,rfl⟩) (.inr ⟨rfl,rfl⟩) (.inr ⟨rfl,rfl⟩) hv.1.1.2.2
       exact ⟨⟨⟨hv.1.1.1,hv.1.1.2.1,A⟩,hv.1.2⟩,hv.2⟩
    have e10:(kind==10)=false:=by simpa using h10
    have e11:(kind==11)=false:=by simpa using h11
    rw [z11 u f deep w all hb e10 e11] at hv
    rw [z11 u f deep' w' all hb e10 e11,yi0 u f _ all w w' h12 h13 h14]
    exact hv
theorem y1s (u:Un) (f:Fl):∀ (l:List Nd) (deep deep':Int) (w w':Wh) (all:List Int),deep'<=deep->(∀ x∈l,Cx12 w w' x)->Cx13 w w' (cnL 13 l)->Cx14 w w' (cnL 14 l)->vGo u f deep w all l=true->vGo u f deep' w' all l=true
  | [],_,_,_,_,_,_,_,_,_,_=>by simp [vGo]
  | x::r,deep,deep',w,w',all,hd,h12,h13,h14,hv=>by
    simp only [vGo,Bool.and_eq_true] at hv ⊢
    simp only [cnL] at h13 h14
    refine ⟨⟨⟨?_,y68 u f x deep deep' w w' all hd (h12 x (.head _)) (h13.part oM0) (h14.part oM0) hv.1.1.2⟩,hv.1.2⟩,y1s u f r deep deep' w w' _ hd (fun y hy=>h12 y (.tail _ hy)) (h13.part oM0) (h14.part oM0) hv.2⟩
    have:=hv.1.1.1
    simp only [Bool.not_eq_true',decide_eq_false_iff_not] at this ⊢
    omega
end
theorem zh8 {x:Nd} (h:z01 x=false):x.kind≠12/\x.kind≠13/\x.kind≠14:=by
  refine ⟨fun e=>?_,fun e=>?_,fun e=>?_⟩<;>(unfold z01 at h;simp [e,z0q] at h)
theorem yd9 (u:Un) (f:Fl):∀ (l:List Nd) (deep deep':Int) (w w':Wh) (all:List Int),deep'<=deep->Cx13 w w' (cnL 13 l)->Cx14 w w' (cnL 14 l)->vPre u f deep w all l=true->vPre u f deep' w' all l=true
  | [],_,_,_,_,_,_,_,_,_=>rfl
  | x::r,deep,deep',w,w',all,hd,h13,h14,hv=>by
    simp only [vPre,Bool.and_eq_true] at hv ⊢
    simp only [cnL] at h13 h14
    refine ⟨⟨⟨?_,y68 u f x deep deep' w w' all hd (fun e=>absurd e (zh8 (by simpa using hv.1.2)).1) (h13.part oM0) (h14.part oM0) hv.1.1.2⟩,hv.1.2⟩,yd9 u f r deep deep' w w' _ hd (h13.part oM0) (h14.part oM0) hv.2⟩
    have:=hv.1.1.1
    simp only [Bool.not_eq_true',decide_eq_false_iff_not] at this ⊢
    omega
theorem y3o {u:Un} {f:Fl} {deep:Int} {w:Wh} {all:List Int} {x:Nd} (hv:z2r u f deep w all x=true) (hc:z01 x=true):x.outs=[]:=by
  have hb:=z19 u f deep _ all hv
  have ok:zb2 x=true->x.outs=[]:=fun h=>by
    unfold zb2 at h
    rw [hc] at h
    simp only [Bool.not_true,Bool.or_false,beq_iff_eq] at h
    exact List.eq_nil_of_length_eq_zero oM0
  by_cases h10:x.kind=10
  ·obtain ⟨a,b,hk⟩:=z2k hb h10
   rw [z3w u f deep w all hb h10 hk] at hv
   simp only [Bool.and_eq_true] at hv
   exact ok hv.1.2
  by_cases h11:x.kind=11
  ·obtain ⟨a,hk⟩:=z1m hb h11
   rw [z28 u f deep w all hb h11 hk] at hv
   simp only [Bool.and_eq_true] at hv
   exact ok hv.1.2
  have e10:(x.kind==10)=false:=by simpa using h10
  have e11:(x.kind==11)=false:=by simpa using h11
  rw [z11 u f deep w all hb e10 e11] at hv
  have hE:z0q x.kind=true:=by
    unfold z01 at hc
    simpa only [e10,e11,Bool.false_and,Bool.false_eq_true,if_false] using hc
  have hk:x.kind=12∨x.kind=13∨x.kind=14∨x.kind=15:=by
    simp only [z0q,Bool.or_eq_true,Bool.and_eq_true,beq_iff_eq,decide_eq_true_eq] at hE
    omega
  have hz:∀ b:Bool,SForm.ok ⟨b,none⟩ f.types x.outs=true->x.outs=[]:=fun b h=>by
    simp only [SForm.ok,Bool.and_eq_true,beq_iff_eq] at h
    exact List.eq_nil_of_length_eq_zero oM0
  unfold z38 at hv
  rcases hk with e | e | e | e<;>(simp only [e] at hv;exact hz _ hv)
theorem y43 {x:Nd} (h:z01 x=true->x.outs=[]):z81 x=x:=by
  unfold z81
  split
  ·rename_i hc
   cases x
   simp only [Nd.outs] at h
   rw [h hc];rfl
  rfl
mutual
theorem tidyN (u:Un) (f:Fl):∀ (x:Nd) (deep:Int) (w:Wh) (all:List Int),z2r u f deep w all x=true->tdN x=x
  | .mk kind op n name args outs params ks,deep,w,all,hv=>by
    have hb:=z19 u f deep _ all hv
    have fin:tdK ks=ks->tdN (.mk kind op n name args outs params ks) = .mk kind op n name args outs params ks:=fun h=>by
      unfold tdN
      rw [h]
      exact y43 fun hc=>y3o hv hc
    apply fin
    by_cases h10:kind=10
    ·obtain ⟨a,b,hk⟩:=z2k hb h10
     rw [z3w u f deep w all hb h10 hk] at hv
     simp only [Bool.and_eq_true,z2t] at hv
     simp only [Nd.kids] at hk
     match ks,hk with
     | [a',b'],hk =>
       cases hk
       simp only [tdK,yj7 u f a _ _ _ hv.1.1.1.2.2,yj7 u f b _ _ _ hv.1.1.2.2]
    by_cases h11:kind=11
    ·obtain ⟨a,hk⟩:=z1m hb h11
     rw [z28 u f deep w all hb h11 hk] at hv
     simp only [Bool.and_eq_true,z2t] at hv
     simp only [Nd.kids] at hk
     match ks,hk with
     | [a'],hk =>
       cases hk
       simp only [tdK,yj7 u f a _ _ _ hv.1.1.2.2]
    have e10:(kind==10)=false:=by simpa using h10
    have e11:(kind==11)=false:=by simpa using h11
    have hk0:ks=[]:=z94 hb e10 e11
    rw [hk0];simp [tdK]
theorem yj7 (u:Un) (f:Fl):∀ (l:List Nd) (deep:Int) (w:Wh) (all:List Int),vGo u f deep w all l=true->tdL l=l
  | [],_,_,_,_=>by simp [tdL]
  | x::r,deep,w,all,hv=>by
    simp only [vGo,Bool.and_eq_true,beq_iff_eq] at hv
    have h1:=tidyN u f x deep w all hv.1.1.2
    have h2:=yj7 u f r deep w _ hv.2
    unfold tdL
    rw [h1,h2]
    cases hc:z01 x with
    | false=>simp
    | true =>
      rw [hc] at hv
      have:r=[]:=by
        have:=hv.1.2
        cases r with
        | nil=>rfl
        | cons _ _=>simp at this
      simp [this]
end
theorem Rel.mono {tys all all':List Int} {to:TT} (h:Rel tys to all all') (c:List Int):Rel tys to all (all'++c):=fun v hv h0 h1=>(h v hv h0 h1).mono c
theorem z3v:∀ (l m:List Int) (to:TT) (v:Int),v∉l->aGet v (z0k l m to)=aGet v to
  | [],_,_,_,_=>by simp [z0k]
  | _::_,[],_,_,_=>by simp [z0k]
  | a::l,t::m,to,v,h=>by
    simp only [List.mem_cons,not_or] at h
    simp only [z0k]
    rw [z3v l m _ v h.2,zc5,if_neg h.1]
theorem zx7 {tys all':List Int}:∀ (l m:List Int) (to:TT),l.Nodup->l.length=m.length->z0u tys all' m (l.map fun v=>tys.getD v.toNat 0)=true->∀ v∈l,∃ t,aGet v (z0k l m to)=some t/\z5t tys all' t (tys.getD v.toNat 0)=true
  | [],_,_,_,_,_,v,hv=>by simp at hv
  | _::_,[],_,_,hl,_,_,_=>by simp at hl
  | a::l,t::m,to,hn,hl,h,v,hv=>by
    simp only [List.map_cons,z0u,Bool.and_eq_true] at h
    obtain ⟨hn1,hn2⟩:=List.nodup_cons.1 hn
    simp only [z0k]
    rcases List.mem_cons.1 hv with rfl | hv
    ·exact ⟨t,by rw [z3v l m _ v hn1,zc5,if_pos rfl],h.1⟩
    exact zx7 l m _ hn2 (by simpa using hl) h.2 v hv
theorem yk1 {tys l:List Int} (h:inR tys.length l):r8of tys l=l.map fun v=>tys.getD v.toNat 0:=by
  unfold r8of
  rw [if_pos]
  rw [List.all_eq_true]
  intro v hv
  simp only [z6k,Bool.and_eq_true,decide_eq_true_eq]
  exact h v hv
theorem z3n {tys all l to:List Int} (hr:inR tys.length to) (h:z02 tys all l (r8of tys to)=true):l.length=to.length:=by
  rw [yk1 hr] at h
  unfold z02 at h
  simp only [Bool.and_eq_true,List.length_map,beq_iff_eq] at h
  omega
theorem zf1 {tys all all' l m:List Int} {to:TT} (hty:∀ v:Int,0<=v->v<tys.length->tys.getD v.toNat 0≠0) (hr:Rel tys to all all') (hn:l.Nodup) (hin:inR tys.length l) (h:z02 tys all' m (r8of tys l)=true):Rel tys (z0k l m to) (all++l) all':=fun v hv h0 h1=>by
  have hl:=z3n hin h
  rw [yk1 hin] at h
  unfold z02 at h
  simp only [Bool.and_eq_true] at h
  by_cases hm:v∈l
  ·obtain ⟨t,h2,h3⟩:=zx7 l m to hn hl.symm h.2 v hm
   obtain ⟨u1,u2,u3,u4⟩:=zt3.1 h3
   have e:z0o (z0k l m to) v=t:=by unfold z0o;rw [h2];rfl
   rw [e]
   exact ⟨u1,u2,u3,u4.resolve_left (hty v h0 h1)⟩
  have e:z0o (z0k l m to) v=z0o to v:=by unfold z0o;rw [z3v l m to v hm]
  rw [e]
  refine hr v ?_ h0 h1
  rw [List.contains_append,Bool.or_eq_true] at hv
  exact hv.resolve_right fun hc=>hm (List.contains_iff_mem.1 hc)
def HT (f:Fl):Prop:=∀ v:Int,0<=v->v<f.types.length->f.types.getD v.toNat 0≠0
theorem z4j {A B:List Nd} (h:B≠[]):z0h (A++B)=z0h B:=by unfold z0h;rw [zz7 h]
theorem zt9 {A B:List Nd} (h:B≠[]):z18 (A++B)=z18 B:=by unfold z18;rw [zz7 h]
theorem z3e (x:Nd):z0h [x]=x.kind:=rfl
theorem zz8 {l:List Nd} (h:l≠[]):∃ x∈l,l.getLast? = some x:=by
  cases hg:l.getLast? with
  | none=>exact absurd (List.getLast?_eq_none_iff.1 hg) h
  | some x=>exact ⟨x,List.mem_of_getLast? hg,rfl⟩
theorem zz6 {l:List Nd} (h:∀ y∈l,z01 y=false):z18 l=false:=by
  by_cases e:l=[]
  ·subst e;rfl
  obtain ⟨x,hx,hg⟩:=zz8 e
  unfold z18
  rw [hg];exact h x hx
theorem ye0 {u:Un} {f:Fl} {deep:Int} {w:Wh}:∀ {l:List Nd} {all:List Int},vPre u f deep w all l=true->∀ y∈l,z01 y=false
  | x::r,all,h,y,hy=>by
    simp only [vPre,Bool.and_eq_true] at h
    rcases List.mem_cons.1 hy with rfl | hy
    ·simpa using h.1.2
    exact ye0 h.2 y hy
theorem y6c {u:Un} {f:Fl} {deep:Int} {w:Wh} {M out:List Nd} {all:List Int} (h:vPre u f deep w all M=true) (ho:z18 out=false):z18 (out++M)=false:=by
  by_cases e:M=[]
  ·subst e;simpa using ho
  rw [zt9 e];exact zz6 (ye0 h)
theorem ya7 {u:Un} {f:Fl} {deep:Int} {w:Wh}:∀ {l:List Nd} {all:List Int},vGo u f deep w all l=true->∀ y∈l,∃ s,z2r u f deep w s y=true
  | x::r,all,h,y,hy=>by
    simp only [vGo,Bool.and_eq_true] at h
    rcases List.mem_cons.1 hy with rfl | hy
    ·exact ⟨_,h.1.1.2⟩
    exact ya7 h.2 y hy
theorem zz2 {u:Un} {f:Fl} {deep:Int} {w:Wh} {e:Nd}:∀ {A:List Nd} {all:List Int},vGo u f deep w all (A++[e])=true->vPre u f deep w all A=true/\z2r u f deep w (all++A.flatMap Nd.outs) e=true
  | [],all,h=>by
    simp only [List.nil_append,vGo,Bool.and_eq_true] at h
    exact ⟨rfl,by simpa using h.1.1.2⟩
  | x::r,all,h=>by
    simp only [List.cons_append,vGo,Bool.and_eq_true] at h
    obtain ⟨h1,h2⟩:=zz2 h.2
    have hc:z01 x=false:=by
      have:=h.1.2
      cases r<;>simpa using this
    simp only [vPre,Bool.and_eq_true,List.flatMap_cons]
    exact ⟨⟨⟨h.1.1,by rw [hc];rfl⟩,h1⟩,by rw [<- List.append_assoc];exact h2⟩
theorem form12 {u:Un} {f:Fl} {x:Nd} {s:List Int} {w:Wh} (h:x.kind=12):z38 u f x s w=⟨w.If&&z02 f.types s x.args w.Yield,none⟩:=by unfold z38;simp [h]
theorem form14 {u:Un} {f:Fl} {x:Nd} {s:List Int} {w:Wh} (h:x.kind=14):z38 u f x s w=⟨w.Loop&&z02 f.types s x.args w.Left,none⟩:=by unfold z38;simp [h]
theorem y67 {u:Un} {f:Fl} {deep:Int} {w:Wh} {s:List Int} {x:Nd} (h:z2r u f deep w s x=true) (hk:x.kind=12):w.If=true/\z02 f.types s x.args w.Yield=true:=by
  rw [z11 u f deep w s (z19 u f deep w s h) (by simp [hk]) (by simp [hk]),form12 hk] at h
  simp only [SForm.ok,Bool.and_eq_true] at h
  exact h.1
theorem node14 {u:Un} {f:Fl} {deep:Int} {w:Wh} {s:List Int} {x:Nd} (h:z2r u f deep w s x=true) (hk:x.kind=14):z02 f.types s x.args w.Left=true:=by
  rw [z11 u f deep w s (z19 u f deep w s h) (by simp [hk]) (by simp [hk]),form14 hk] at h
  simp only [SForm.ok,Bool.and_eq_true] at h
  exact h.1.2
theorem no12 {u:Un} {f:Fl} {deep:Int} {w:Wh} {l:List Nd} {all:List Int} (hw:w.If=false) (h:vGo u f deep w all l=true):∀ y∈l,y.kind≠12:=fun y hy e=>by
  obtain ⟨s,hs⟩:=ya7 h y hy
  have:=(y67 hs e).1
  rw [hw] at this;cases this
theorem za7:∀ {l:List Nd} {k:Int},k=13∨k=14->z0h l=k->1<=cnL k l:=fun {l k} hk h=>by
  have hne:l≠[]:=by intro e;subst e;simp [z0h] at h;omega
  obtain ⟨x,hx,hg⟩:=zz8 hne
  have e:l=l.dropLast++[x]:=by
    have:=List.dropLast_concat_getLast hne
    rw [List.getLast?_eq_some_getLast hne] at hg
    rw [Option.some.inj hg] at this
    exact this.symm
  unfold z0h at h
  rw [hg] at h
  rw [e,z7c]
  simp only [cnL,z7y]
  rw [if_pos (by simpa using h)]
  omega
theorem za8 {l:List Nd} (hne:l≠[]):∃ A e,l=A++[e]/\l.dropLast=A/\z0h l=e.kind/\z30 l=e.args:=by
  obtain ⟨x,hx,hg⟩:=zz8 hne
  have e:l=l.dropLast++[x]:=by
    have:=List.dropLast_concat_getLast hne
    rw [List.getLast?_eq_some_getLast hne] at hg
    rw [Option.some.inj hg] at this
    exact this.symm
  exact ⟨l.dropLast,x,e,rfl,by unfold z0h;rw [hg],by unfold z30;rw [hg]⟩
def zz4:List (List Nd)->Bool
  | [a,b]=>z2e a b
  | _=>false
def y7n:List (List Nd)->Bool
  | [a]=>!a.isEmpty&&z27 a
  | _=>false
mutual
def fiN:Nd->Bool
  | .mk kind _ _ _ _ _ _ ks=>!(kind==10&&zz4 ks) && !(kind==11&&y7n ks)&&fiK ks
def fiL:List Nd->Bool
  | []=>true
  | x::r=>fiN x&&fiL r
def fiK:List (List Nd)->Bool
  | []=>true
  | l::r=>fiL l&&fiK r
end
theorem y5n (x:Nd):fiN x=(!(x.kind==10&&zz4 x.kids) && !(x.kind==11&&y7n x.kids)&&fiK x.kids):=by cases x;simp only [fiN,Nd.kind,Nd.kids]
theorem y3q:∀ a b:List Nd,fiL (a++b)=(fiL a&&fiL b)
  | [],b=>by simp [fiL]
  | x::r,b=>by simp only [List.cons_append,fiL,y3q r b,Bool.and_assoc]
structure TPost (u:Un) (f:Fl) (deep:Int) (w:Wh) (all':List Int) (to:TT) (l N:List Nd) (to':TT):Prop where
  run:∀ out,z18 out=false->trR out to l=(out++N,to')
  good:∀ out,z18 out=false->gdR out to l=true
  valid:vGo u f deep w all' N=true
  ne:N≠[]
  l12:z0h N=12↔z0h l=12
  l14:z0h N=14↔z0h l=14
  cn:∀ k,k=13∨k=14->cnL k N=cnL k l
  keys:∀ v,v∉dL l->aGet v to'=aGet v to
  fine:fiL N=true
theorem TPost.raw {u:Un} {f:Fl} {deep:Int} {w:Wh} {all':List Int} {to to':TT} {l N:List Nd} (h:TPost u f deep w all' to l N to'):trR [] to l=(N,to'):=by
  have:=h.run [] rfl;simpa using this
theorem TPost.tr {u:Un} {f:Fl} {deep:Int} {w:Wh} {all':List Int} {to to':TT} {l N:List Nd} (h:TPost u f deep w all' to l N to'):trL to l=(N,to'):=by
  unfold trL
  rw [h.raw]
  simp only [yj7 u f N deep w all' h.valid]
def TP (u:Un) (f:Fl) (l:List Nd):Prop:=∀ (deep:Int) (w:Wh) (all all':List Int) (to:TT),HT f->l≠[]->(dL l).Nodup->(∀ v∈dL l,all.contains v=false)->(∀ v∈dL l,aGet v to=none) ->
  Rel f.types to all all'->vGo u f deep w all l=true->∃ N to',TPost u f deep w all' to l N to'
structure NPost (u:Un) (f:Fl) (deep:Int) (w:Wh) (all all':List Int) (to:TT) (x:Nd) (M:List Nd) (to':TT):Prop where
  run:trN to x=(M,to')
  good:gdN to x=true
  keys:∀ v,v∉dN x->aGet v to'=aGet v to
  cn:∀ k,k=13∨k=14->cnL k M=cnN k x
  fine:fiL M=true
  post:(z01 x=true/\vGo u f deep w all' M=true/\M≠[]/\(z0h M=12↔x.kind=12)/\(z0h M=14↔x.kind=14)) ∨
    (z01 x=false/\vPre u f deep w all' M=true/\Rel f.types to' (all++x.outs) (all'++M.flatMap Nd.outs))
theorem zp6 {u:Un} {f:Fl} {deep:Int} {w:Wh} {all all':List Int} {to to':TT} {x y:Nd} (hd:¬ deep > 100) (run:trN to x=([y],to')) (good:gdN to x=true) (keys:∀ v,v∉dN x->aGet v to'=aGet v to)
    (cn:∀ k,k=13∨k=14->cnN k y=cnN k x) (hf:fiN y=true) (hv:z2r u f deep w all' y=true) (hc:z01 y=z01 x) (hk:y.kind=x.kind) (ho:y.outs=x.outs) (hr:Rel f.types to' (all++x.outs) (all'++x.outs)):NPost u f deep w all all' to x [y] to':=by
  refine ⟨run,good,keys,fun k h=>by simp only [cnL,cn k h,Nat.add_zero],by simp only [fiL,hf,Bool.and_true],?_⟩
  cases hx:z01 x with
  | true =>
    refine .inl ⟨rfl,?_,by simp,by rw [z3e,hk],by rw [z3e,hk]⟩
    simp only [vGo,Bool.and_eq_true,hc,hx,hv]
    simp [hd]
  | false =>
    refine .inr ⟨rfl,?_,by simpa [ho] using hr⟩
    simp only [vPre,Bool.and_eq_true,hc,hx,hv]
    simp [hd]
theorem z8b {x:Nd} {a b:List Nd} (hk:x.kind=10) (h:x.kids=[a,b]):z01 x=(z1b a != 12&&z1b b != 12):=by
  unfold z01;rw [hk,h];rfl
theorem z4f {x:Nd} {a:List Nd} (hk:x.kind=11) (h:x.kids=[a]):z01 x = !z0r a:=by
  unfold z01;rw [hk,h];rfl
theorem z7n (l:List Nd):z1b l=12↔z0h l=12:=by
  unfold z1b z0h
  cases l.getLast? with
  | none=>simp
  | some x =>
    dsimp only
    by_cases h:x.kind=12
    ·simp [h,z0q]
    by_cases h2:z0q x.kind=true
    ·rw [if_pos h2]
    rw [if_neg h2]
    constructor
    ·intro e;cases e
    intro e;exact absurd e h
theorem y20 {a b:List Nd} (h:z0h a=12↔z0h b=12):(z1b a != 12)=(z1b b != 12):=by
  have h2:=(z7n a).trans (h.trans (z7n b).symm)
  by_cases e:z1b a=12
  ·rw [e,h2.1 e]
  have e2:¬ z1b b=12:=fun q=>e (h2.2 q)
  have a1:(z1b a != 12)=true:=bne_iff_ne.2 e
  have b1:(z1b b != 12)=true:=bne_iff_ne.2 e2
  rw [a1,b1]
theorem yc0 {a b:List Nd} (h:cnL 14 a=cnL 14 b):z0r a=z0r b:=by rw [z3q,z3q,h]
theorem if_t (u:Un) (f:Fl) (x:Nd) (ih:∀ q∈x.kids,TP u f q) (deep:Int) (w:Wh) (all all':List Int) (to:TT) (hty:HT f) (hd:¬ deep > 100) (hnd:(dN x).Nodup) (hall:∀ v∈dN x,all.contains v=false) (hto:∀ v∈dN x,aGet v to=none)
    (hr:Rel f.types to all all') (hv:z2r u f deep w all x=true) (h10:x.kind=10):∃ M to',NPost u f deep w all all' to x M to':=by
  have hb:=z19 u f deep _ all hv
  obtain ⟨a,b,hk⟩:=z2k hb h10
  rw [z3w u f deep w all hb h10 hk] at hv
  simp only [Bool.and_eq_true] at hv
  have hdn:dN x=dL a++(dL b++x.outs):=dN_if hb h10 hk
  rw [hdn] at hnd hall hto
  obtain ⟨n1,n2,n3⟩:=List.nodup_append.1 hnd
  obtain ⟨n4,n5,n6⟩:=List.nodup_append.1 n2
  have hva:=hv.1.1.1.2
  have hvb:=hv.1.1.2
  simp only [z2t,Bool.and_eq_true] at hva hvb
  obtain ⟨Na,to1,pa⟩:=ih a (by rw [hk];simp) (deep+1) (w1 w f x) all all' to hty (by intro e;subst e;simp at hva) n1 (fun v hv=>hall v (by simp [hv])) (fun v hv=>hto v (by simp [hv])) hr hva.2
  have hrb:Rel f.types to1 all all':=hr.congr fun v hv=>pa.keys v fun hm=>by
    have:=hall v (by simp [hm]);rw [hv] at this;cases this
  obtain ⟨Nb,to2,pb⟩:=ih b (by rw [hk];simp) (deep+1) (w1 w f x) all all' to1 hty (by intro e;subst e;simp at hvb) n4 (fun v hv=>hall v (by simp [hv])) (fun v hv=>(pa.keys v fun hm=>n3 v hm v (by simp [hv]) rfl).trans (hto v (by simp [hv]))) hrb hvb.2
  have hrc:Rel f.types to2 all all':=hrb.congr fun v hv=>pb.keys v fun hm=>by
    have:=hall v (by simp [hm]);rw [hv] at this;cases this
  have hks:trKs to x.kids=([Na,Nb],to2):=by
    rw [hk,z3m,pa.tr,z3m,pb.tr];rfl
  have hgk:gdKs to x.kids=true:=by
    rw [hk]
    simp only [gdKs,pa.good [] rfl,pa.raw,pb.good [] rfl,Bool.and_true]
  have hkeys:∀ v,v∉dN x->aGet v to2=aGet v to:=fun v hv=>by
    rw [hdn] at hv
    simp only [List.mem_append,not_or] at hv
    rw [pb.keys v hv.2.1,pa.keys v hv.1]
  have h10b:(x.kind==10)=true:=by simp [h10]
  have h11b:(x.kind==11)=false:=by simp [h10]
  have hcx:∀ k,k=13∨k=14->cnN k x=cnL k Na+cnL k Nb:=fun k hk2=>by
    rw [z7y,if_neg (by rw [h10];rcases hk2 with rfl | rfl<;>decide),if_pos h10b,hk,pa.cn k hk2,pb.cn k hk2]
    simp [cnK]
  have hrun:=z9y to x
  rw [if_neg (by simp [h11b]),if_pos h10b] at hrun
  have hkk:(trA to x).kids=x.kids:=rfl
  unfold z6v at hrun
  rw [hkk,hks] at hrun
  have hgood:gdN to x=(true&&true&&(!z2e Na Nb||decide (x.outs.length<=(z6z Na).length))):=by
    rw [y1r,if_neg (by simp [h11b]),if_pos h10b,hgk,hks,hk];rfl
  by_cases hid:z2e Na Nb=true
  ·rw [if_pos (show z2e (kid0 [Na,Nb]) (kid1 [Na,Nb])=true from hid)] at hrun
   match hNa:Na,hNb:Nb,hid with
   | [ya],[yb],hid =>
     subst hNa hNb
     simp only [z2e,Bool.and_eq_true,beq_iff_eq] at hid
     obtain ⟨s,hya⟩:=ya7 pa.valid ya (.head _)
     have hva2:=pa.valid
     simp only [vGo,Bool.and_eq_true] at hva2
     have hty2:=(y67 hva2.1.1.2 hid.1.1).2
     have hin:inR f.types.length x.outs:=z1k hv.2
     have hlen:=z3n hin hty2
     have hca:cnN 13 ya=0/\cnN 14 ya=0/\cnN 13 yb=0/\cnN 14 yb=0:=by
       refine ⟨?_,?_,?_,?_⟩<;>(rw [z7y];simp [hid.1.1,hid.1.2])
     refine ⟨[],z0k x.outs ya.args to2,hrun,?_,fun v hv=>?_,fun k hk2=>?_,rfl,.inr ⟨?_,rfl,?_⟩⟩
     ·rw [hgood]
      rw [Bool.true_and,Bool.true_and,Bool.or_eq_true]
      exact .inr (decide_eq_true (show x.outs.length<=ya.args.length by omega))
     ·rw [z3v _ _ _ v (fun hm=>hv (by rw [hdn];simp [hm]))]
      exact hkeys v hv
     ·rw [hcx k hk2]
      rcases hk2 with rfl | rfl<;>simp [cnL,hca]
     ·rw [z8b h10 hk]
      have:z1b a=12:=(z7n a).2 (pa.l12.1 (by rw [z3e];exact hid.1.1))
      rw [this];rfl
     simpa using zf1 hty hrc n5 hin hty2
  have hid2:z2e Na Nb=false:=by simpa using hid
  rw [if_neg (show ¬ z2e (kid0 [Na,Nb]) (kid1 [Na,Nb])=true from hid)] at hrun
  have hvo:(z21 f.types x.outs (zer x.outs))=true:=hv.2
  have hcl:z01 (.mk x.kind x.op x.n x.name (x.args.map (z0o to)) x.outs x.params [Na,Nb])=z01 x:=by
    rw [z8b h10 hk,z8b (x:=.mk x.kind x.op x.n x.name (x.args.map (z0o to)) x.outs x.params [Na,Nb]) h10 rfl,y20 pa.l12,y20 pb.l12]
  refine ⟨[.mk x.kind x.op x.n x.name (x.args.map (z0o to)) x.outs x.params [Na,Nb]],to2,zp6 hd hrun ?_ hkeys (fun k hk2=>?_) ?_ ?_ hcl rfl rfl ?_⟩
  ·rw [hgood,hid2];rfl
  ·rw [hcx k hk2]
   show cnN k (.mk x.kind x.op x.n x.name (x.args.map (z0o to)) x.outs x.params [Na,Nb])=_
   unfold cnN
   rw [if_neg (by rw [h10];rcases hk2 with rfl | rfl<;>decide),if_pos h10b]
   simp [cnK]
  ·rw [y5n]
   show (!(x.kind==10&&z2e Na Nb) && !(x.kind==11&&false)&&fiK [Na,Nb])=true
   rw [hid2]
   simp only [fiK,pa.fine,pb.fine,Bool.and_false,Bool.and_true,Bool.not_false]
  ·have hb2:z12 (.mk x.kind x.op x.n x.name (x.args.map (z0o to)) x.outs x.params [Na,Nb])=true:=by
     have:=hb
     cases x
     simp only [Nd.kids] at hk
     subst hk
     exact this
   rw [z3w u f deep w all' hb2 h10 rfl]
   simp only [Bool.and_eq_true,z2t]
   have hne:∀ {N:List Nd},N≠[]->(!N.isEmpty)=true:=fun {N} h=>by cases N with | nil=>exact absurd rfl h | cons _ _=>rfl
   refine ⟨⟨⟨⟨zf7 hr hv.1.1.1.1,hne pa.ne,pa.valid⟩,hne pb.ne,pb.valid⟩,?_⟩,hvo⟩
   have:=hv.1.2
   unfold zb2 at this ⊢
   rw [hcl];exact this
  exact hrc.outs fun v hv=>by
    rw [pb.keys v fun hm=>n6 v hm v hv rfl,pa.keys v fun hm=>n3 v hm v (by simp [hv]) rfl]
    exact hto v (by simp [hv])
theorem loop_t (u:Un) (f:Fl) (x:Nd) (ih:∀ q∈x.kids,TP u f q) (deep:Int) (w:Wh) (all all':List Int) (to:TT) (hty:HT f) (hd:¬ deep > 100) (hnd:(dN x).Nodup) (hall:∀ v∈dN x,all.contains v=false) (hto:∀ v∈dN x,aGet v to=none)
    (hr:Rel f.types to all all') (hv:z2r u f deep w all x=true) (h11:x.kind=11):∃ M to',NPost u f deep w all all' to x M to':=by
  have hb:=z19 u f deep _ all hv
  obtain ⟨a,hk⟩:=z1m hb h11
  rw [z28 u f deep w all hb h11 hk] at hv
  simp only [Bool.and_eq_true] at hv
  have hdn:dN x=x.params++(dL a++x.outs):=zy6 hk
  rw [hdn] at hnd hall hto
  obtain ⟨n1,n2,n3⟩:=List.nodup_append.1 hnd
  obtain ⟨n4,n5,n6⟩:=List.nodup_append.1 n2
  have hva:=hv.1.1.2
  simp only [z2t,Bool.and_eq_true] at hva
  have hne:a≠[]:=by intro e;subst e;simp at hva
  have hinp:inR f.types.length x.params:=z1k hv.1.1.1.2
  have hino:inR f.types.length x.outs:=z1k hv.2
  have htp:z02 f.types all' (x.args.map (z0o to)) (r8of f.types x.params)=true:=zf7 hr hv.1.1.1.1
  have hpl:x.args.length=x.params.length:=z3n hinp hv.1.1.1.1
  have h11b:(x.kind==11)=true:=by simp [h11]
  have h10b:(x.kind==10)=false:=by simp [h11]
  have hda:∀ v∈dL a,(all++x.params).contains v=false:=fun v hm=>by
    rw [List.contains_append,hall v (by simp [hm]),Bool.false_or,<- Bool.not_eq_true,List.contains_iff_mem]
    exact fun hp=>n3 v hp v (by simp [hm]) rfl
  have hcx:∀ k,k=13∨k=14->cnN k x=0:=fun k hk2=>by
    rw [z7y,if_neg (by rw [h11];rcases hk2 with rfl | rfl<;>decide),if_neg (by simp [h10b])]
  have hrun:=z9y to x
  rw [if_pos h11b] at hrun
  unfold z91 at hrun
  rw [show (trA to x).kids=x.kids from rfl,show (trA to x).params=x.params from rfl,show (trA to x).outs=x.outs from rfl,show (trA to x).args=x.args.map (z0o to) from rfl,hk] at hrun
  have hgood:=y1r to x
  rw [if_pos h11b,hk,show (trA to x).args=x.args.map (z0o to) from rfl] at hgood
  have hpd:decide (x.params.length<=x.args.length)=true:=decide_eq_true oM0
  rw [hpd] at hgood
  by_cases ho:z27 a=true
  ·rw [if_pos (show z27 (kid0 [a])=true from ho)] at hrun hgood
   have hr1:Rel f.types (z0k x.params (x.args.map (z0o to)) to) (all++x.params) all':=zf1 hty hr n1 hinp htp
   obtain ⟨Na,to2,pa⟩:=ih a (by rw [hk];simp) (deep+1) (w2 f x) (all++x.params) all' (z0k x.params (x.args.map (z0o to)) to) hty hne n4 hda
     (fun v hm=>(z3v _ _ _ v fun hp=>n3 v hp v (by simp [hm]) rfl).trans (hto v (by simp [hm]))) hr1 hva.2
   have hks:trKs (z0k x.params (x.args.map (z0o to)) to) [a]=([Na],to2):=by rw [z3m,pa.tr];rfl
   have hgk:gdKs (z0k x.params (x.args.map (z0o to)) to) [a]=true:=by simp only [gdKs,pa.good [] rfl,Bool.and_true]
   rw [hks] at hrun hgood
   rw [hgk] at hgood
   have hkeys:∀ v,v∉x.params->v∉dL a->aGet v to2=aGet v to:=fun v h1 h2=>by rw [pa.keys v h2,z3v _ _ _ v h1]
   have hr2:Rel f.types to2 all all':=hr.congr fun v hv=>hkeys v (fun hm=>by have:=hall v (by simp [hm]);rw [hv] at this;cases this) fun hm=>by
     have:=hall v (by simp [hm]);rw [hv] at this;cases this
   simp only [z27,Bool.and_eq_true,Bool.or_eq_true,beq_iff_eq] at ho
   have c13:cnL 13 Na=0:=by rw [pa.cn 13 (.inl rfl)];exact ho.1
   have hnb:(!(kid0 ([Na],to2).1).isEmpty)=true:=by
     show (!Na.isEmpty)=true
     cases hN:Na with
     | nil=>exact absurd hN pa.ne
     | cons _ _=>rfl
   rw [hnb] at hgood
   by_cases hl:z0h Na=14
   ·have hlb:(z0h (kid0 ([Na],to2).1)==14)=true:=by show (z0h Na==14)=true;simp [hl]
    rw [if_pos hlb] at hrun
    obtain ⟨A,e,hA,hA2,hA3,hA4⟩:=za8 pa.ne
    have hla:=pa.l14.1 hl
    have h1:=za7 (.inr rfl) hla
    have c14:cnL 14 a=1:=by omega
    have hek:e.kind=14:=by rw [<- hA3];exact hl
    have ce:cnN 14 e=1:=by rw [z7y];simp [hek]
    have cA:cnL 14 A=0:=by
      have h2:=pa.cn 14 (.inr rfl)
      rw [hA,z7c] at h2
      simp only [cnL,ce] at h2
      omega
    have cA13:cnL 13 A=0:=by
      rw [hA,z7c] at c13
      omega
    have hsp:=pa.valid
    rw [hA] at hsp
    obtain ⟨s1,s2⟩:=zz2 hsp
    have hte:=node14 s2 hek
    have hlen:=z3n hino hte
    have hfA:fiL A=true:=by
      have:=pa.fine
      rw [hA,y3q,Bool.and_eq_true] at this
      exact this.1
    refine ⟨A,z0k x.outs e.args to2,?_,?_,fun v hv=>?_,fun k hk2=>?_,hfA,.inr ⟨?_,?_,?_⟩⟩
    ·rw [hrun]
     show (Na.dropLast,z0k x.outs (z30 Na) to2)=_
     rw [hA2,hA4]
    ·rw [hgood]
     have hlb2:(z0h (kid0 ([Na],to2).1) != 14)=false:=by rw [bne,hlb];rfl
     rw [hlb2]
     simp only [List.length_cons,List.length_nil,Bool.false_or,Bool.true_and]
     exact decide_eq_true (show x.outs.length<=(z30 Na).length by rw [hA4];omega)
    ·rw [hdn] at hv
     simp only [List.mem_append,not_or] at hv
     rw [z3v _ _ _ v hv.2.2]
     exact hkeys v hv.1 hv.2.1
    ·rw [hcx k hk2]
     rcases hk2 with rfl | rfl
     ·exact cA13
     exact cA
    ·rw [z4f h11 hk,z3q,c14];rfl
    ·exact yd9 u f A (deep+1) deep (w2 f x) w all' oM0 (.inl cA13) (.inl cA) s1
    exact zf1 hty (hr2.mono _) n5 hino hte
   have hlb:(z0h (kid0 ([Na],to2).1)==14)=false:=by show (z0h Na==14)=false;simp [hl]
   rw [if_neg (by rw [hlb];simp)] at hrun
   have hla:z0h a≠14:=fun h=>hl (pa.l14.2 h)
   have c14:cnL 14 a=0:=by
     rcases ho.2 with h | h
     ·exact h
     exact absurd h.2 hla
   have c14':cnL 14 Na=0:=by rw [pa.cn 14 (.inr rfl)];exact c14
   have hno:=no12 (w:=w2 f x) rfl pa.valid
   obtain ⟨A,e,hA,hA2,hA3,hA4⟩:=za8 pa.ne
   refine ⟨Na,to2,hrun,?_,fun v hv=>?_,fun k hk2=>?_,pa.fine,.inl ⟨?_,?_,pa.ne,⟨fun h=>?_,fun h=>?_⟩,⟨fun h=>absurd h hl,fun h=>?_⟩⟩⟩
   ·rw [hgood]
    have hlb2:(z0h (kid0 ([Na],to2).1) != 14)=true:=by rw [bne,hlb];rfl
    rw [hlb2];rfl
   ·rw [hdn] at hv
    simp only [List.mem_append,not_or] at hv
    exact hkeys v hv.1 hv.2.1
   ·rw [hcx k hk2]
    rcases hk2 with rfl | rfl
    ·exact c13
    exact c14'
   ·rw [z4f h11 hk,z3q,c14];rfl
   ·exact y1s u f Na (deep+1) deep (w2 f x) w all' oM0 (fun y hy e=>absurd e (hno y hy)) (.inl c13) (.inl c14') pa.valid
   ·rw [hA3] at h
    exact absurd h (hno e (by rw [hA];simp))
   ·rw [h11] at h;cases h
   rw [h11] at h;cases h
  rw [if_neg (show ¬ z27 (kid0 [a])=true from ho)] at hrun hgood
  have hrp:Rel f.types to (all++x.params) (all'++x.params):=hr.outs fun v hv=>hto v (by simp [hv])
  obtain ⟨Na,to2,pa⟩:=ih a (by rw [hk];simp) (deep+1) (w2 f x) (all++x.params) (all'++x.params) to hty hne n4 hda (fun v hm=>hto v (by simp [hm])) hrp hva.2
  have hks:trKs to [a]=([Na],to2):=by rw [z3m,pa.tr];rfl
  have hgk:gdKs to [a]=true:=by simp only [gdKs,pa.good [] rfl,Bool.and_true]
  rw [hks] at hrun
  rw [hgk] at hgood
  have hr2:Rel f.types to2 all all':=hr.congr fun v hv=>pa.keys v fun hm=>by
    have:=hall v (by simp [hm]);rw [hv] at this;cases this
  have hcl:z01 (.mk x.kind x.op x.n x.name (x.args.map (z0o to)) x.outs x.params [Na])=z01 x:=by
    rw [z4f h11 hk,z4f (x:=.mk x.kind x.op x.n x.name (x.args.map (z0o to)) x.outs x.params [Na]) h11 rfl,yc0 (pa.cn 14 (.inr rfl))]
  refine ⟨[.mk x.kind x.op x.n x.name (x.args.map (z0o to)) x.outs x.params [Na]],to2,zp6 hd hrun (by rw [hgood];rfl) (fun v hv=>?_) (fun k hk2=>?_) ?_ ?_ hcl rfl rfl ?_⟩
  ·rw [hdn] at hv
   simp only [List.mem_append,not_or] at hv
   exact pa.keys v hv.2.1
  ·rw [hcx k hk2]
   show cnN k (.mk x.kind x.op x.n x.name (x.args.map (z0o to)) x.outs x.params [Na])=_
   unfold cnN
   rw [if_neg (by rw [h11];rcases hk2 with rfl | rfl<;>decide),if_neg (by simp [h10b])]
  ·have hoN:z27 Na=false:=by
     have:z27 Na=z27 a:=by
       unfold z27
       rw [pa.cn 13 (.inl rfl),pa.cn 14 (.inr rfl)]
       by_cases h:z0h Na=14
       ·rw [h,pa.l14.1 h]
       have h2:¬ z0h a=14:=fun q=>h (pa.l14.2 q)
       rw [beq_eq_false_iff_ne.2 h,beq_eq_false_iff_ne.2 h2]
     rw [this];simpa using ho
   rw [y5n]
   show (!(x.kind==10&&false) && !(x.kind==11&&(!Na.isEmpty&&z27 Na))&&fiK [Na])=true
   rw [hoN]
   simp only [fiK,pa.fine,Bool.and_false,Bool.and_true,Bool.not_false]
  ·have hb2:z12 (.mk x.kind x.op x.n x.name (x.args.map (z0o to)) x.outs x.params [Na])=true:=by
     have:=hb
     cases x
     simp only [Nd.kids] at hk
     subst hk
     exact this
   rw [z28 u f deep w all' hb2 h11 rfl]
   simp only [Bool.and_eq_true,z2t]
   have hnb:(!Na.isEmpty)=true:=by
     cases hN:Na with
     | nil=>exact absurd hN pa.ne
     | cons _ _=>rfl
   refine ⟨⟨⟨⟨htp,hv.1.1.1.2⟩,hnb,pa.valid⟩,?_⟩,hv.2⟩
   have:=hv.1.2
   unfold zb2 at this ⊢
   rw [hcl];exact this
  exact hr2.outs fun v hv=>by
    rw [pa.keys v fun hm=>n6 v hm v hv rfl]
    exact hto v (by simp [hv])
theorem y69 (u:Un) (f:Fl) (x:Nd) (ih:∀ q∈x.kids,TP u f q) (deep:Int) (w:Wh) (all all':List Int) (to:TT) (hty:HT f) (hd:¬ deep > 100) (hnd:(dN x).Nodup) (hall:∀ v∈dN x,all.contains v=false) (hto:∀ v∈dN x,aGet v to=none)
    (hr:Rel f.types to all all') (hv:z2r u f deep w all x=true):∃ M to',NPost u f deep w all all' to x M to':=by
  by_cases h10:x.kind=10
  ·exact if_t u f x ih deep w all all' to hty hd hnd hall hto hr hv h10
  by_cases h11:x.kind=11
  ·exact loop_t u f x ih deep w all all' to hty hd hnd hall hto hr hv h11
  have hb:=z19 u f deep _ all hv
  have e10:(x.kind==10)=false:=by simpa using h10
  have e11:(x.kind==11)=false:=by simpa using h11
  rw [z11 u f deep w all hb e10 e11] at hv
  have hrun:=z9y to x
  rw [if_neg (by simp [e11]),if_neg (by simp [e10])] at hrun
  have hgood:=y1r to x
  rw [if_neg (by simp [e11]),if_neg (by simp [e10])] at hgood
  have hb2:z12 (trA to x)=true:=by cases x;exact hb
  have hfi:fiN (trA to x)=true:=by
    rw [y5n,show (trA to x).kind=x.kind from rfl,show (trA to x).kids=x.kids from rfl,e10,e11,z94 hb e10 e11];rfl
  refine ⟨_,_,zp6 hd hrun hgood (fun _ _=>rfl) (fun k _=>by cases x;rfl) hfi ?_ (by cases x;rfl) rfl rfl (hr.outs fun v hv=>hto v (by rw [zn8];simp [hv]))⟩
  rw [z11 u f deep w all' hb2 e10 e11]
  exact yi1 (x:=x) rfl rfl rfl rfl rfl hr hv
theorem go_t (u:Un) (f:Fl):∀ (l:List Nd),(∀ x∈l,∀ q∈x.kids,TP u f q)->TP u f l
  | [],_=>fun _ _ _ _ _ _ h=>absurd rfl h
  | [x],ih=>fun deep w all all' to hty _ hnd hall hto hr hv=>by
    simp only [vGo,Bool.and_eq_true,beq_iff_eq,List.isEmpty_nil] at hv
    have hd:¬ deep > 100:=by simpa using hv.1.1.1
    have hdl:dL [x]=dN x:=by simp [dL]
    rw [hdl] at hnd hall hto
    obtain ⟨M,to',p⟩:=y69 u f x (ih x (.head _)) deep w all all' to hty hd hnd hall hto hr hv.1.1.2
    rcases p.post with ⟨c1,c2,c3,c4,c5⟩ | ⟨c1,_⟩
    ·refine ⟨M,to',⟨fun out ho=>?_,fun out ho=>?_,c2,c3,c4.trans (by rw [z3e]),c5.trans (by rw [z3e]),fun k hk=>by rw [p.cn k hk];simp [cnL],fun v hv=>p.keys v (by rwa [hdl] at hv),p.fine⟩⟩
     ·simp only [trR,p.run]
      split<;>rfl
     simp only [gdR,p.good,Bool.or_true,Bool.and_true]
    rw [hv.1.2] at c1;cases c1
  | x::y::r,ih=>fun deep w all all' to hty _ hnd hall hto hr hv=>by
    unfold vGo at hv
    simp only [Bool.and_eq_true,beq_iff_eq,List.isEmpty_cons] at hv
    have hd:¬ deep > 100:=by simpa using hv.1.1.1
    have hdl:dL (x::y::r)=dN x++dL (y::r):=by rw [dL]
    rw [hdl] at hnd hall hto
    obtain ⟨n1,n2,n3⟩:=List.nodup_append.1 hnd
    obtain ⟨M,to',p⟩:=y69 u f x (ih x (.head _)) deep w all all' to hty hd n1 (fun v hv=>hall v (by simp [hv])) (fun v hv=>hto v (by simp [hv])) hr hv.1.1.2
    rcases p.post with ⟨c1,_⟩ | ⟨c1,c2,c3⟩
    ·rw [hv.1.2] at c1;cases c1
    obtain ⟨N,to2,q⟩:=go_t u f (y::r) (fun z hz=>ih z (.tail _ hz)) deep w (all++x.outs) (all'++M.flatMap Nd.outs) to' hty sI0 n2 (fun v hm=>by
      rw [List.contains_append,hall v (by simp [hm]),Bool.false_or,<- Bool.not_eq_true,List.contains_iff_mem]
      exact fun ho=>n3 v (by rw [zn8];simp [ho]) v hm rfl) (fun v hm=>(p.keys v fun hn=>n3 v hn v hm rfl).trans (hto v (by simp [hm]))) c3 hv.2
    have hop:∀ out,z18 out=false->z18 (out++(trN to x).1)=false:=fun out ho=>by rw [p.run];exact y6c c2 ho
    refine ⟨M++N,to2,⟨fun out ho=>?_,fun out ho=>?_,go_app u f deep w M N all' q.ne c2 q.valid,fun e=>q.ne (List.append_eq_nil_iff.1 e).2,?_,?_,fun k hk=>?_,fun v hv=>?_,by rw [y3q,p.fine,q.fine];rfl⟩⟩
    ·have h1:=hop out ho
     rw [trR,if_neg (by rw [h1];simp),p.run]
     rw [p.run] at h1
     rw [q.run _ h1,List.append_assoc]
    ·have h1:=hop out ho
     rw [gdR,p.good,Bool.true_and,h1,Bool.false_or]
     rw [p.run] at h1 ⊢
     exact q.good _ h1
    ·rw [z4j q.ne,show x::y::r=[x]++(y::r) from rfl,z4j sI0];exact q.l12
    ·rw [z4j q.ne,show x::y::r=[x]++(y::r) from rfl,z4j sI0];exact q.l14
    ·rw [z7c,p.cn k hk,q.cn k hk];simp [cnL]
    rw [hdl] at hv
    simp only [List.mem_append,not_or] at hv
    rw [q.keys v hv.2,p.keys v hv.1]
theorem zf4 (u:Un) (f:Fl):∀ (N:Nat) (l:List Nd),SizeOf.sizeOf l<N->TP u f l
  | 0,_,h=>absurd h (Nat.not_lt_zero _)
  | N+1,l,hN=>go_t u f l fun x hx q hq=>zf4 u f N q (Nat.lt_of_lt_of_le (z5k hx rfl hq) (Nat.le_of_lt_succ hN))
theorem y9x {u:Un} {f:Fl} (h:z2j u f=true):HT f:=fun v h0 h1=>by
  unfold z2j at h
  simp only [Bool.and_eq_true] at h
  have ht:=h.1.2
  rw [List.all_eq_true] at ht
  have hlt:v.toNat<f.types.length:=by omega
  have:=ht (f.types[v.toNat]) (List.getElem_mem hlt)
  rw [List.getD_eq_getElem?_getD,List.getElem?_eq_getElem hlt]
  simp only [Option.getD_some]
  intro e
  rw [e] at this
  simp at this
theorem zc7 {u:Un} {f:Fl} (hF:z2j u f=true):∃ N to',TPost u f 1 z1d (iota f.params.toNat) [] f.body N to':=by
  have h:=zd1 hF
  have hp:=z7d hF
  have hv:=h.1
  simp only [z2t,Bool.and_eq_true] at hv
  exact zf4 u f _ f.body (Nat.lt_succ_self _) 1 z1d (iota f.params.toNat) (iota f.params.toNat) [] (y9x hF) (by intro e;rw [e] at hv;simp at hv) h.2.1 (fun v hm=>by
    have:=h.2.2 v hm
    cases hc:(iota f.params.toNat).contains v with
    | false=>rfl
    | true=>rw [zo4 hp hc] at this;cases this) (fun _ _=>rfl) (fun v hv v0 v1=>⟨hv,v0,v1,rfl⟩) hv.2
theorem y7f (x:Nd):List.Sublist (dN (z81 x)) (dN x):=by
  unfold z81
  split
  ·rw [zn8,zn8]
   exact (List.Sublist.refl _).append ((List.Sublist.refl _).append (List.nil_sublist _))
  exact .refl _
mutual
theorem yj6:∀ x:Nd,List.Sublist (dN (tdN x)) (dN x)
  | .mk kind op n name args outs params ks=>by
    unfold tdN
    refine (y7f _).trans ?_
    simp only [dN]
    exact (List.Sublist.refl _).append ((yj5 ks).append (List.Sublist.refl _))
theorem y0w:∀ l:List Nd,List.Sublist (dL (tdL l)) (dL l)
  | []=>.refl _
  | x::r=>by
    unfold tdL
    split
    ·simp only [dL,List.append_nil]
     exact (yj6 x).trans (List.sublist_append_left _ _)
    simp only [dL]
    exact (yj6 x).append (y0w r)
theorem yj5:∀ ks:List (List Nd),List.Sublist (dK (tdK ks)) (dK ks)
  | []=>.refl _
  | l::r=>by
    simp only [tdK,dK]
    exact (y0w l).append (yj5 r)
end
theorem kid0_sub:∀ K:List (List Nd),List.Sublist (dL (kid0 K)) (dK K)
  | []=>by simp [kid0,dL,dK]
  | l::r=>by simp only [kid0,dK,List.getElem?_cons_zero,Option.getD_some];exact List.sublist_append_left _ _
theorem zj1:∀ l:List Nd,List.Sublist (dL l.dropLast) (dL l)
  | []=>.refl _
  | [x]=>List.nil_sublist _
  | x::y::r=>by
    rw [List.dropLast_cons_cons]
    simp only [dL]
    exact (List.Sublist.refl _).append (zj1 (y::r))
mutual
theorem yk0:∀ (x:Nd) (to:TT),List.Sublist (dL (trN to x).1) (dN x)
  | .mk kind op n name args outs params ks,to=>by
    have one:∀ K:List (List Nd),List.Sublist (dK K) (dK ks)->List.Sublist (dL [.mk kind op n name (args.map (z0o to)) outs params K]) (dN (.mk kind op n name args outs params ks)):=fun K h=>by
      simp only [dL,dN,List.append_nil]
      exact (List.Sublist.refl _).append (h.append (List.Sublist.refl _))
    have inn:∀ L:List Nd,List.Sublist (dL L) (dK ks)->List.Sublist (dL L) (dN (.mk kind op n name args outs params ks)):=fun L h=>by
      simp only [dN]
      exact (h.trans (List.sublist_append_left _ _)).trans (List.sublist_append_right _ _)
    unfold trN
    split
    ·split
     ·have h:=(kid0_sub _).trans (zm8 ks (z0k params (args.map (z0o to)) to))
      split
      ·exact inn _ ((zj1 _).trans h)
      exact inn _ h
     exact one _ (zm8 ks to)
    split
    ·split
     ·exact List.nil_sublist _
     exact one _ (zm8 ks to)
    exact one _ (.refl _)
theorem y56:∀ (l out:List Nd) (to:TT),List.Sublist (dL (trR out to l).1) (dL out++dL l)
  | [],out,to=>by simp [trR,dL]
  | x::r,out,to=>by
    have h1:=yk0 x to
    unfold trR
    split
    ·simp only [y9k,dL]
     exact (List.Sublist.refl _).append (h1.trans (List.sublist_append_left _ _))
    refine (y56 r _ _).trans ?_
    simp only [y9k,dL,List.append_assoc]
    exact (List.Sublist.refl _).append (h1.append (List.Sublist.refl _))
theorem zm8:∀ (ks:List (List Nd)) (to:TT),List.Sublist (dK (trKs to ks).1) (dK ks)
  | [],_=>by simp [trKs,dK]
  | l::r,to=>by
    have h:=(y0w (trR [] to l).1).trans (y56 l [] to)
    simp only [trKs,dK]
    exact (by simpa [dL] using h:List.Sublist _ (dL l)).append (zm8 r _)
end
mutual
theorem wt_tdN:∀ x:Nd,wtN (tdN x)<=wtN x
  | .mk kind op n name args outs params ks=>by
    have hk:=wt_tdK ks
    unfold tdN z81
    split
    ·simp only [wtN,Nd.name,Nd.args,Nd.params,Nd.kids,List.length_nil];omega
    simp only [wtN];omega
theorem y3g:∀ l:List Nd,(tdL l).length+wtL (tdL l)<=l.length+wtL l
  | []=>Nat.le_refl _
  | x::r=>by
    have h1:=wt_tdN x
    have h2:=y3g r
    unfold tdL
    split
    ·simp only [List.length_cons,List.length_nil,wtL];omega
    simp only [List.length_cons,wtL];omega
theorem wt_tdK:∀ ks:List (List Nd),wtK (tdK ks)<=wtK ks
  | []=>Nat.le_refl _
  | l::r=>by
    have h1:=y3g l
    have h2:=wt_tdK r
    simp only [tdK,wtK];omega
end
theorem wt_kid0:∀ K:List (List Nd),(kid0 K).length+wtL (kid0 K)<=wtK K
  | []=>by simp [kid0,wtL,wtK]
  | l::r=>by simp only [kid0,wtK,List.getElem?_cons_zero,Option.getD_some];omega
theorem zt5:∀ l:List Nd,l.dropLast.length+wtL l.dropLast<=l.length+wtL l
  | []=>Nat.le_refl _
  | [x]=>by simp [wtL]
  | x::y::r=>by
    have h:=zt5 (y::r)
    rw [List.dropLast_cons_cons]
    simp only [List.length_cons,wtL] at h ⊢
    omega
mutual
theorem wt_trN:∀ (x:Nd) (to:TT),(trN to x).1.length+wtL (trN to x).1<=1+wtN x
  | .mk kind op n name args outs params ks,to=>by
    unfold trN
    split
    ·split
     ·have h1:=y19 ks (z0k params (args.map (z0o to)) to)
      have h2:=wt_kid0 (trKs (z0k params (args.map (z0o to)) to) ks).1
      have h3:=zt5 (kid0 (trKs (z0k params (args.map (z0o to)) to) ks).1)
      split
      ·simp only [wtN];omega
      simp only [wtN];omega
     have h1:=y19 ks to
     simp only [wtL,wtN,List.length_cons,List.length_nil,List.length_map];omega
    split
    ·split
     ·simp [wtL]
     have h1:=y19 ks to
     simp only [wtL,wtN,List.length_cons,List.length_nil,List.length_map];omega
    simp only [wtL,wtN,List.length_cons,List.length_nil,List.length_map];omega
theorem y6x:∀ (l out:List Nd) (to:TT),(trR out to l).1.length+wtL (trR out to l).1<=out.length+wtL out+(l.length+wtL l)
  | [],out,to=>by simp [trR,wtL]
  | x::r,out,to=>by
    have h1:=wt_trN x to
    have h2:=y6x r (out++(trN to x).1) (trN to x).2
    rw [List.length_append,z7w] at h2
    unfold trR
    split
    ·simp only [List.length_append,z7w,List.length_cons,wtL];omega
    simp only [List.length_cons,wtL];omega
theorem y19:∀ (ks:List (List Nd)) (to:TT),wtK (trKs to ks).1<=wtK ks
  | [],_=>by simp [trKs]
  | l::r,to=>by
    have h1:=y6x l [] to
    have h2:=y3g (trR [] to l).1
    have h3:=y19 r (trR [] to l).2
    simp only [List.length_nil,wtL] at h1
    simp only [trKs,wtK]
    omega
end
theorem zw4 (l:List Nd):z37 (trB l)<=z37 l:=by
  have h1:=y6x l [] []
  have h2:=y3g (trR [] [] l).1
  simp only [List.length_nil,wtL] at h1
  unfold z37 trB trL
  dsimp only
  omega
mutual
theorem y55 (u:Un) (f:Fl):∀ (x:Nd) (deep:Int) (w:Wh) (all:List Int),z2r u f deep w all x=true->y0y x=true
  | .mk kind op n name args outs params ks,deep,w,all,hv=>by
    have hb:=z19 u f deep _ all hv
    by_cases h10:kind=10
    ·obtain ⟨a,b,hk⟩:=z2k hb h10
     rw [z3w u f deep _ all hb h10 hk] at hv
     simp only [Bool.and_eq_true,z2t] at hv
     simp only [Nd.kids] at hk
     match ks,hk with
     | [a',b'],hk =>
       cases hk
       subst h10
       simp only [y0y,y34,Bool.and_eq_true,Bool.and_true]
       exact ⟨⟨rfl,rfl⟩,⟨hv.1.1.1.2.1,z6i u f a _ _ _ hv.1.1.1.2.2⟩,hv.1.1.2.1,z6i u f b _ _ _ hv.1.1.2.2⟩
    by_cases h11:kind=11
    ·obtain ⟨a,hk⟩:=z1m hb h11
     rw [z28 u f deep _ all hb h11 hk] at hv
     simp only [Bool.and_eq_true,z2t] at hv
     have hpl:args.length=params.length:=z3n (z1k hv.1.1.1.2) hv.1.1.1.1
     simp only [Nd.kids] at hk
     match ks,hk with
     | [a'],hk =>
       cases hk
       subst h11
       simp only [y0y,y34,Bool.and_eq_true,Bool.and_true]
       exact ⟨⟨rfl,by rw [hpl];simp⟩,hv.1.1.2.1,z6i u f a _ _ _ hv.1.1.2.2⟩
    have e10:(kind==10)=false:=by simpa using h10
    have e11:(kind==11)=false:=by simpa using h11
    have hk0:ks=[]:=z94 hb e10 e11
    subst hk0
    simp only [y0y,y34,bne,e10,e11,Bool.not_false,Bool.true_or,Bool.and_true]
theorem z6i (u:Un) (f:Fl):∀ (l:List Nd) (deep:Int) (w:Wh) (all:List Int),vGo u f deep w all l=true->zk9 l=true
  | [],_,_,_,_=>rfl
  | x::r,deep,w,all,hv=>by
    simp only [vGo,Bool.and_eq_true] at hv
    simp only [zk9,Bool.and_eq_true]
    exact ⟨y55 u f x deep w all hv.1.1.2,z6i u f r deep w _ hv.2⟩
end
def trGood (l:List Nd):Prop:=zk9 l=true/\gdR [] [] l=true
theorem y8i {u:Un} (h:(z53 u).1=0):∀ f∈u.flows,trGood f.body:=by
  rw [zi5] at h
  intro f hf
  have hF:=((z4r u).1 h).2 f hf
  have hb:=(zd1 hF).1
  simp only [z2t,Bool.and_eq_true] at hb
  obtain ⟨N,to',p⟩:=zc7 hF
  exact ⟨z6i u f f.body 1 _ _ hb.2,p.good [] rfl⟩
theorem zu6 {u:Un} (h:(z1a u).1=0):z1a (z42 trB u)=(0,0) :=
  check_m trB h fun f hf hB=>by
    obtain ⟨N,to',p⟩:=zc7 (((z4r u).1 h).2 f hf)
    have e:trB f.body=N:=by unfold trB;rw [p.tr]
    refine ⟨?_,?_⟩
    ·rw [e]
     simp only [z2t,Bool.and_eq_true]
     refine ⟨?_,p.valid⟩
     cases hN:N with
     | nil=>exact absurd hN p.ne
     | cons _ _=>rfl
    have hs:List.Sublist (dL (trB f.body)) (dL f.body):=by
      have:=(y0w (trR [] [] f.body).1).trans (y56 f.body [] [])
      show List.Sublist (dL (tdL (trR [] [] f.body).1)) (dL f.body)
      simpa [dL] using this
    exact ⟨hB.2.1.sublist hs,fun v hv=>hB.2.2 v (hs.subset hv)⟩
def y33 (u:Un):Bool:=u.flows.all fun f=>fiL f.body
theorem y7t (u:Un):y33 (z68 trB u).1=true:=by
  by_cases h:(z1a u).1=0
  ·rw [z69 trB h]
   unfold y33
   rw [List.all_eq_true]
   intro g hg
   obtain ⟨f,hf,rfl⟩:=List.mem_map.1 (show g∈u.flows.map (z48 trB) from hg)
   obtain ⟨N,to',p⟩:=zc7 (((z4r u).1 h).2 f hf)
   have e:trB f.body=N:=by unfold trB;rw [p.tr]
   show fiL (trB f.body)=true
   rw [e];exact p.fine
  rw [zw7 trB h]
  rfl
theorem EqT.stand:∀ {l m p:List Int} {to:TT} {S a a2 b:List Int},EqT to S a b->l.Nodup->(∀ v∈l,v∉S)->l.length=m.length->mOf b m=some p->mSet a l p=some a2->EqT (z0k l m to) (S++l) a2 b
  | [],m,p,to,S,a,a2,b,h,_,_,_,_,h2=>by
    cases h2
    have:z0k [] m to=to:=by cases m<;>rfl
    rw [this,List.append_nil];exact h
  | v::l,[],_,_,_,_,_,_,_,_,_,hl,_,_=>by simp at hl
  | v::l,t::m,p,to,S,a,a2,b,h,hn,hs,hl,h1,h2=>by
    obtain ⟨y,p',a1,rfl,g1,g2⟩:=z8g h2
    simp only [mOf,Option.bind_eq_some_iff,Option.map_eq_some_iff] at h1
    obtain ⟨y',e1,q,e2,e3⟩:=h1
    obtain ⟨rfl,rfl⟩:=List.cons.inj e3
    obtain ⟨n1,n2⟩:=List.nodup_cons.1 hn
    have h3:EqT (aPut v t to) (S++[v]) a1 b:=by
      intro x hx
      rw [zd4 g1]
      by_cases e:x=v
      ·subst e
       rw [if_pos rfl]
       have:z0o (aPut x t to) x=t:=by unfold z0o;rw [zc5,if_pos rfl];rfl
       rw [this,e1]
      rw [if_neg e]
      have:z0o (aPut v t to) x=z0o to x:=by unfold z0o;rw [zc5,if_neg e]
      rw [this]
      exact h x ((List.mem_append.1 hx).resolve_right fun hh=>e (List.mem_singleton.1 hh))
    have h4:=EqT.stand h3 n2 (fun w hw hm=>by
      rcases List.mem_append.1 hm with hm | hm
      · exact hs w (.tail _ hw) hm
      · exact n1 (List.mem_singleton.1 hm ▸ hw)) (by simpa using hl) e2 g2
    rw [List.append_assoc] at h4
    exact h4
def LA (u:Un) (f:Fl) (l:List Nd):Prop:=∀ (deep:Int) (w:Wh) (all all':List Int) (to:TT) (N:List Nd) (to':TT),HT f->l≠[]->New f (dL l) all all' to->vGo u f deep w all l=true->TPost u f deep w all' to l N to' ->
  ∀ (K:List KF) (t0:TT) (S0 S1:List Int) (y nx lv:Bool),Ends t0 to S0 S1 all->(K=[]∨(cnL 13 l=0/\cnL 14 l=0/\w.If=false))->(cnL 13 l≠0->nx=true)->(cnL 14 l≠0->lv=true)->(z0h l=12->y=true) ->
  LRel 0 0 (EqT to all) l K N (TEnd t0 S0 S1 y nx lv)
def LB (u:Un) (f:Fl) (l:List Nd):Prop:=∀ (deep:Int) (w:Wh) (all all':List Int) (to:TT) (N:List Nd) (to':TT),HT f->l≠[]->New f (dL l) all all' to->vGo u f deep w all l=true->TPost u f deep w all' to l N to' ->
  ∀ (g:KF) (K:List KF) (R':List Nd) (t0:TT) (S0 S1:List Int) (y nx lv:Bool) (tX:TT) (SX:List Int),Ends t0 to S0 S1 all->z0h l=g.k->(g.k=12∨g.k=14)->cnL 13 l=0->(cnL 14 l=0∨(g.k=14/\cnL 14 l=1)) ->
  (∀ a b p a2,EqT to' all a b->mOf b (z30 N)=some p->mSet a g.outs p=some a2->EqT tX SX a2 b)->LRel 0 0 (EqT tX SX) g.rest K R' (TEnd t0 S0 S1 y nx lv)->LRel 0 0 (EqT to all) l (g::K) (N.dropLast++R') (TEnd t0 S0 S1 y nx lv)
def NR (u:Un) (f:Fl) (x:Nd):Prop:=∀ (deep:Int) (w:Wh) (all all':List Int) (to:TT) (M:List Nd) (to':TT),HT f->New f (dN x) all all' to->z2r u f deep w all x=true->NPost u f deep w all all' to x M to' ->
  ∀ (r:List Nd) (K:List KF) (R':List Nd) (t0:TT) (S0 S1:List Int) (y nx lv:Bool),Ends t0 to S0 S1 all->(K=[]∨(cnN 13 x=0/\cnN 14 x=0))->(cnN 13 x≠0->nx=true)->(cnN 14 x≠0->lv=true)->(x.kind=12->K=[]/\y=true) ->
  (z01 x=false->LRel 0 0 (EqT to' (all++x.outs)) r K R' (TEnd t0 S0 S1 y nx lv))->(z01 x=true->r=[]/\R'=[])->LRel 0 0 (EqT to all) (x::r) K (M++R') (TEnd t0 S0 S1 y nx lv)
theorem rest_r {J:VR} {r:List Nd} {K:List KF} {R':List Nd} {E:ER} {x:Nd} (hL:z01 x=false->LRel 0 0 J r K R' E):LRel 0 0 (fun a b=>z01 x=false/\J a b) r K R' E:=by
  cases hc:z01 x with
  | true=>exact .dead fun _ _ h=>by cases h.1
  | false=>exact .weak (fun _ _ h=>h.2) (hL hc)
theorem if_r (u:Un) (f:Fl) (x:Nd) (ih:∀ q∈x.kids,LA u f q/\LB u f q) (h10:x.kind=10):NR u f x:=by
  intro deep w all all' to M to' hty nw hv p r K R' t0 S0 S1 y nx lv he hK h13 h14 _ hL hC
  have hb:=z19 u f deep _ all hv
  obtain ⟨a,b,hk⟩:=z2k hb h10
  rw [z3w u f deep w all hb h10 hk] at hv
  simp only [Bool.and_eq_true] at hv
  have hdn:dN x=dL a++(dL b++x.outs):=dN_if hb h10 hk
  have hva:=hv.1.1.1.2
  have hvb:=hv.1.1.2
  simp only [z2t,Bool.and_eq_true] at hva hvb
  have hna:a≠[]:=by intro e;subst e;simp at hva
  have hnb:b≠[]:=by intro e;subst e;simp at hvb
  obtain ⟨n1,n2,n3⟩:=List.nodup_append.1 (hdn ▸ nw.nd)
  obtain ⟨n4,n5,n6⟩:=List.nodup_append.1 n2
  have ma:∀ v∈dL a,v∈dN x:=fun v h=>by rw [hdn];simp [h]
  have mb:∀ v∈dL b,v∈dN x:=fun v h=>by rw [hdn];simp [h]
  have mo:∀ v∈x.outs,v∈dN x:=fun v h=>by rw [hdn];simp [h]
  have nwa:=nw.sub n1 ma
  obtain ⟨Na,to1,pa⟩:=zf4 u f _ a (Nat.lt_succ_self _) (deep+1) (w1 w f x) all all' to hty hna n1 nwa.fa nwa.ft nw.rel hva.2
  have k1:∀ v∈all,aGet v to1=aGet v to:=fun v hv'=>pa.keys v fun hm=>nw.na (ma v hm) hv'
  have nwb:New f (dL b) all all' to1:=(nw.sub n4 mb).to k1 fun v hm=>pa.keys v fun h=>n3 v h v (by simp [hm]) rfl
  obtain ⟨Nb,to2,pb⟩:=zf4 u f _ b (Nat.lt_succ_self _) (deep+1) (w1 w f x) all all' to1 hty hnb n4 nwb.fa nwb.ft nwb.rel hvb.2
  have k2:∀ v∈all,aGet v to2=aGet v to1:=fun v hv'=>pb.keys v fun hm=>nw.na (mb v hm) hv'
  have k3:∀ v∈all,z0o to2 v=z0o to v:=fun v hv'=>z5u ((k2 v hv').trans (k1 v hv'))
  have hks:trKs to x.kids=([Na,Nb],to2):=by rw [hk,z3m,pa.tr,z3m,pb.tr];rfl
  have hrun:=z9y to x
  rw [if_neg (by simp [h10]),if_pos (by simp [h10]),p.run] at hrun
  unfold z6v at hrun
  rw [show (trA to x).kids=x.kids from rfl,hks] at hrun
  have hcx:∀ k,k=13∨k=14->cnN k x=cnL k a+cnL k b:=fun k hk2=>by
    rw [z7y,if_neg (by rw [h10];rcases hk2 with rfl | rfl<;>decide),if_pos (by simp [h10]),hk]
    simp [cnK]
  have hse:=z1y hv.1.1.1.1
  have hino:inR f.types.length x.outs:=z1k hv.2
  by_cases hid:z2e Na Nb=true
  ·rw [if_pos (show z2e (kid0 [Na,Nb]) (kid1 [Na,Nb])=true from hid)] at hrun
   match hNa:Na,hNb:Nb,hid with
   | [ya],[yb],hid =>
     subst hNa hNb
     simp only [z2e,Bool.and_eq_true,beq_iff_eq] at hid
     have la:z0h a=12:=pa.l12.1 (by rw [z3e];exact hid.1.1)
     have lb:z0h b=12:=pb.l12.1 (by rw [z3e];exact hid.1.2)
     have cy:∀ (y:Nd) k,y.kind=12->k=13∨k=14->cnL k [y]=0:=fun y k e hk2=>by
       simp only [cnL,z7y,e]
       rcases hk2 with rfl | rfl<;>rfl
     have ca:∀ k,k=13∨k=14->cnL k a=0:=fun k hk2=>(pa.cn k hk2).symm.trans (cy ya k hid.1.1 hk2)
     have cb:∀ k,k=13∨k=14->cnL k b=0:=fun k hk2=>(pb.cn k hk2).symm.trans (cy yb k hid.1.2 hk2)
     obtain ⟨rfl,rfl⟩:=Prod.mk.inj hrun.symm
     have cl:z01 x=false:=by rw [z8b h10 hk,(z7n a).2 la];rfl
     have hva2:=pa.valid
     simp only [vGo,Bool.and_eq_true] at hva2
     have hlen:=z3n hino (y67 hva2.1.1.2 hid.1.1).2
     have hst:∀ tt,(∀ v∈all,z0o tt v=z0o to2 v)->∀ a b p a2,EqT tt all a b->mOf b ya.args=some p->mSet a x.outs p=some a2->EqT (z0k x.outs ya.args to2) (all++x.outs) a2 b:=fun tt ht a b p a2 hI g1 g2 =>
       EqT.stand (hI.sub fun v hv=>⟨hv,ht v hv⟩) n5 (fun v hv hm=>nw.na (mo v hv) hm) hlen.symm g1 g2
     refine .fork h10 hk ?_ ?_
     ·exact (ih a (by rw [hk];simp)).2 (deep+1) (w1 w f x) all all' to [ya] to1 hty hna nwa hva.2 pa ⟨12,x.outs,r⟩ K R' t0 S0 S1 y nx lv _ _ he la (.inl rfl) (ca 13 (.inl rfl)) (.inl (ca 14 (.inr rfl)))
        (hst to1 fun v hv=>(z5u (k2 v hv)).symm) (hL cl)
     refine .weak (fun a b hI=>hI.sub fun v hv=>⟨hv,(z5u (k1 v hv)).symm⟩) ((ih b (by rw [hk];simp)).2 (deep+1) (w1 w f x) all all' to1 [yb] to2 hty hnb nwb hvb.2 pb ⟨12,x.outs,r⟩ K R' t0 S0 S1 y nx lv _ _ (he.step (fun _ h=>h) k1) lb (.inl rfl) (cb 13 (.inl rfl)) (.inl (cb 14 (.inr rfl)))
       (fun a b p a2 hI g1 g2=>hst to2 (fun _ _=>rfl) a b p a2 hI (by rw [hid.2];exact g1) g2) (hL cl))
  rw [if_neg (show ¬ z2e (kid0 [Na,Nb]) (kid1 [Na,Nb])=true from hid)] at hrun
  obtain ⟨rfl,rfl⟩:=Prod.mk.inj hrun.symm
  have hy:∀ q,(q=a∨q=b)->z0h q=12->(!z01 x)=true:=fun q hq e=>by
    rw [z8b h10 hk]
    rcases hq with rfl | rfl<;>rw [(z7n q).2 e]<;>simp
  have hn:∀ q k,k=13∨k=14->(q=a∨q=b)->cnL k q≠0->(cnN k x != 0)=true:=fun q k hk2 hq e=>by
    have:=hcx k hk2
    rw [bne_iff_ne]
    rcases hq with rfl | rfl<;>omega
  refine .ite (J:=fun a b=>z01 x=false/\EqT to2 (all++x.outs) a b) (E2:=TEnd to all S1 (!z01 x) (cnN 13 x != 0) (cnN 14 x != 0)) h10 h10 hk rfl (fun a b p p' hI g g'=>?_) ?_ ?_ (fun n p p' a b he2=>?_) (rest_r hL)
  ·have e:=hI.mof hse
   rw [g] at e
   have e2:mOf b (x.args.map (z0o to))=some p':=g'
   rw [e] at e2
   rw [Option.some.inj e2]
  ·exact (ih a (by rw [hk];simp)).1 (deep+1) (w1 w f x) all all' to Na to1 hty hna nwa hva.2 pa [] to all S1 _ _ _ ⟨fun v hv=>⟨hv,rfl⟩,fun v hv=>⟨(he.s1 v hv).1,rfl⟩⟩ (.inl rfl) (hn a 13 (.inl rfl) (.inl rfl)) (hn a 14 (.inr rfl) (.inl rfl)) (hy a (.inl rfl))
  ·exact .weak (fun a b hI=>hI.sub fun v hv=>⟨hv,(z5u (k1 v hv)).symm⟩) ((ih b (by rw [hk];simp)).1 (deep+1) (w1 w f x) all all' to1 Nb to2 hty hnb nwb hvb.2 pb [] to all S1 _ _ _ ⟨fun v hv=>⟨hv,z5u (k1 v hv)⟩,fun v hv=>⟨(he.s1 v hv).1,z5u (k1 v (he.s1 v hv).1)⟩⟩ (.inl rfl) (hn b 13 (.inl rfl) (.inr rfl)) (hn b 14 (.inr rfl) (.inr rfl)) (hy b (.inr rfl)))
  rcases he2 with ⟨rfl,hy2,rfl,hI⟩ | ⟨rfl,hy2,rfl,hI⟩ | ⟨rfl,hy2,rfl,hI⟩ | ⟨rfl,rfl⟩
  ·refine .inl ⟨rfl,fun a2 b2 g g'=>⟨by simpa using hy2,EqT.sets (hI.sub fun v hv=>⟨hv,(k3 v hv).symm⟩) g g' (fun v hv hm=>?_) fun v hv=>?_⟩⟩
   ·rw [k3 v hv] at hm
    exact nw.stv v hv _ (mo _ hm) rfl
   rw [pb.keys v fun hm=>n6 v hm v hv rfl,pa.keys v fun hm=>n3 v hm v (by simp [hv]) rfl]
   exact nw.ft v (mo v hv)
  ·have h0:=bne_iff_ne.1 hy2
   exact .inr ⟨by decide,by decide,.inl (hK.resolve_right fun h=>h0 h.1),.inr (.inl ⟨rfl,h13 h0,rfl,hI.sub fun v hv=>⟨hv,(he.s1 v hv).2⟩⟩)⟩
  ·have h0:=bne_iff_ne.1 hy2
   exact .inr ⟨by decide,by decide,.inl (hK.resolve_right fun h=>h0 h.2),.inr (.inr (.inl ⟨rfl,h14 h0,rfl,hI.sub fun v hv=>⟨hv,(he.s1 v hv).2⟩⟩))⟩
  exact .inr ⟨by decide,by decide,.inr rfl,.inr (.inr (.inr ⟨rfl,rfl⟩))⟩
theorem loop_r (u:Un) (f:Fl) (x:Nd) (ih:∀ q∈x.kids,LA u f q/\LB u f q) (h11:x.kind=11):NR u f x:=by
  intro deep w all all' to M to' hty nw hv p r K R' t0 S0 S1 y nx lv he hK h13 h14 _ hL hC
  have hb:=z19 u f deep _ all hv
  obtain ⟨a,hk⟩:=z1m hb h11
  rw [z28 u f deep w all hb h11 hk] at hv
  simp only [Bool.and_eq_true] at hv
  have hdn:dN x=x.params++(dL a++x.outs):=zy6 hk
  have hva:=hv.1.1.2
  simp only [z2t,Bool.and_eq_true] at hva
  have hne:a≠[]:=by intro e;subst e;simp at hva
  obtain ⟨n1,n2,n3⟩:=List.nodup_append.1 (hdn ▸ nw.nd)
  obtain ⟨n4,n5,n6⟩:=List.nodup_append.1 n2
  have mp:∀ v∈x.params,v∈dN x:=fun v h=>by rw [hdn];simp [h]
  have ma:∀ v∈dL a,v∈dN x:=fun v h=>by rw [hdn];simp [h]
  have mo:∀ v∈x.outs,v∈dN x:=fun v h=>by rw [hdn];simp [h]
  have hinp:inR f.types.length x.params:=z1k hv.1.1.1.2
  have hino:inR f.types.length x.outs:=z1k hv.2
  have htp:z02 f.types all' (x.args.map (z0o to)) (r8of f.types x.params)=true:=zf7 nw.rel hv.1.1.1.1
  have hpl:x.args.length=x.params.length:=z3n hinp hv.1.1.1.1
  have hse:=z1y hv.1.1.1.1
  have hda:∀ v∈dL a,(all++x.params).contains v=false:=fun v hm=>by
    rw [List.contains_append,nw.fa v (ma v hm),Bool.false_or,<- Bool.not_eq_true,List.contains_iff_mem]
    exact fun hp=>n3 v hp v (by simp [hm]) rfl
  have hinr:inR f.types.length (all++x.params):=fun v hv=>by
    rcases List.mem_append.1 hv with h | h
    ·exact nw.inr v h
    exact hinp v h
  have hrun:=z9y to x
  rw [if_pos (by simp [h11]),p.run] at hrun
  unfold z91 at hrun
  rw [show (trA to x).kids=x.kids from rfl,show (trA to x).params=x.params from rfl,show (trA to x).outs=x.outs from rfl,show (trA to x).args=x.args.map (z0o to) from rfl,hk] at hrun
  by_cases ho:z27 a=true
  ·rw [if_pos (show z27 (kid0 [a])=true from ho)] at hrun
   have hr1:Rel f.types (z0k x.params (x.args.map (z0o to)) to) (all++x.params) all':=zf1 hty nw.rel n1 hinp htp
   have nwa:New f (dL a) (all++x.params) all' (z0k x.params (x.args.map (z0o to)) to) :=
     ⟨n4,hda,fun v hm=>nw.fb v (ma v hm),fun v hm=>(z3v _ _ _ v fun hp=>n3 v hp v (by simp [hm]) rfl).trans (nw.ft v (ma v hm)),hr1,hinr⟩
   obtain ⟨Na,to2,pa⟩:=zf4 u f _ a (Nat.lt_succ_self _) (deep+1) (w2 f x) (all++x.params) all' (z0k x.params (x.args.map (z0o to)) to) hty hne n4 hda nwa.ft hr1 hva.2
   have hks:trKs (z0k x.params (x.args.map (z0o to)) to) [a]=([Na],to2):=by rw [z3m,pa.tr];rfl
   rw [hks] at hrun
   have k1:∀ v∈all,aGet v (z0k x.params (x.args.map (z0o to)) to)=aGet v to:=fun v hv=>z3v _ _ _ v fun hp=>nw.na (mp v hp) hv
   have ent:∀ a b p a2,EqT to all a b->mOf a x.args=some p->mSet a x.params p=some a2->EqT (z0k x.params (x.args.map (z0o to)) to) (all++x.params) a2 b:=fun a b p a2 hI g g2 =>
     hI.stand n1 (fun v hv hm=>nw.na (mp v hv) hm) (by simp [hpl]) (by rw [hI.mof hse];exact g) g2
   simp only [z27,Bool.and_eq_true,Bool.or_eq_true,beq_iff_eq] at ho
   have heA:Ends t0 (z0k x.params (x.args.map (z0o to)) to) S0 S1 (all++x.params):=he.step (fun v hv=>List.mem_append_left _ hv) k1
   by_cases hl:z0h Na=14
   ·have hlb:(z0h (kid0 ([Na],to2).1)==14)=true:=by show (z0h Na==14)=true;simp [hl]
    rw [if_pos hlb] at hrun
    obtain ⟨rfl,rfl⟩:=Prod.mk.inj hrun.symm
    have hla:=pa.l14.1 hl
    have h1:=za7 (.inr rfl) hla
    have c14:cnL 14 a=1:=by omega
    have cl:z01 x=false:=by rw [z4f h11 hk,z3q,c14];rfl
    obtain ⟨A,e,hA,hA2,hA3,hA4⟩:=za8 pa.ne
    have hsp:=pa.valid
    rw [hA] at hsp
    obtain ⟨s1,s2⟩:=zz2 hsp
    have hlen:=z3n hino (node14 s2 (by rw [<- hA3];exact hl))
    refine .once h11 hk ent ((ih a (by rw [hk];simp)).2 (deep+1) (w2 f x) (all++x.params) all' _ Na to2 hty hne nwa hva.2 pa ⟨14,x.outs,r⟩ K R' t0 S0 S1 y nx lv _ _ heA hla (.inr rfl) ho.1 (.inr ⟨rfl,c14⟩) (fun a b p a2 hI g1 g2=>?_) (hL cl))
    exact EqT.stand (hI.sub fun v hv=>⟨List.mem_append_left _ hv,rfl⟩) n5 (fun v hv hm=>nw.na (mo v hv) hm) (show x.outs.length=(z30 Na).length by rw [hA4];exact hlen.symm) g1 g2
   have hlb:(z0h (kid0 ([Na],to2).1)==14)=false:=by show (z0h Na==14)=false;simp [hl]
   rw [if_neg (by rw [hlb];simp)] at hrun
   obtain ⟨rfl,rfl⟩:=Prod.mk.inj hrun.symm
   have hla:z0h a≠14:=fun h=>hl (pa.l14.2 h)
   have c14:cnL 14 a=0:=by
     rcases ho.2 with h | h
     ·exact h
     exact absurd h.2 hla
   have cl:z01 x=true:=by rw [z4f h11 hk,z3q,c14];rfl
   obtain ⟨rfl,rfl⟩:=hC cl
   rw [List.append_nil]
   refine .once h11 hk ent ((ih a (by rw [hk];simp)).1 (deep+1) (w2 f x) (all++x.params) all' _ Na to2 hty hne nwa hva.2 pa _ t0 S0 S1 y nx lv heA (.inr ⟨ho.1,c14,rfl⟩) (fun h=>absurd ho.1 h) (fun h=>absurd c14 h) fun h=>?_)
   have:=y3z hva.2 ((z7n a).2 h)
   cases this
  rw [if_neg (show ¬ z27 (kid0 [a])=true from ho)] at hrun
  have hrp:Rel f.types to (all++x.params) (all'++x.params):=nw.rel.outs fun v hv=>nw.ft v (mp v hv)
  have nwa:New f (dL a) (all++x.params) (all'++x.params) to:=⟨n4,hda,fun v hm hh=>by
    rcases List.mem_append.1 hh with h | h
    · exact nw.fb v (ma v hm) h
    · exact n3 v h v (by simp [hm]) rfl,fun v hm=>nw.ft v (ma v hm),hrp,hinr⟩
  obtain ⟨Na,to2,pa⟩:=zf4 u f _ a (Nat.lt_succ_self _) (deep+1) (w2 f x) (all++x.params) (all'++x.params) to hty hne n4 hda nwa.ft hrp hva.2
  have hks:trKs to [a]=([Na],to2):=by rw [z3m,pa.tr];rfl
  rw [hks] at hrun
  obtain ⟨rfl,rfl⟩:=Prod.mk.inj hrun.symm
  have k2:∀ v∈all,z0o to2 v=z0o to v:=fun v hv=>z5u (pa.keys v fun hm=>nw.na (ma v hm) hv)
  have hcl:z01 x = !z0r a:=z4f h11 hk
  have sp:∀ a b p a2 b2,EqT to all a b->mSet a x.params p=some a2->mSet b x.params p=some b2->EqT to (all++x.params) a2 b2:=fun a b p a2 b2 hI g g' =>
    hI.sets g g' (fun v hv hm=>nw.stv v hv _ (mp _ hm) rfl) fun v hv=>nw.ft v (mp v hv)
  refine .loop (I2:=EqT to (all++x.params)) (J:=fun a b=>z01 x=false/\EqT to2 (all++x.outs) a b) (E2:=TEnd to [] all false true (cnL 14 a != 0)) h11 h11 hk rfl (fun a b p p' a2 b2 hI g g' t t'=>?_) ?_ (fun n p p' a b he2=>?_) (rest_r hL)
  ·have e:=hI.mof hse
   rw [g] at e
   have e2:mOf b (x.args.map (z0o to))=some p':=g'
   rw [e] at e2
   obtain rfl:=Option.some.inj e2
   exact sp _ _ _ _ _ hI t t'
  ·exact (ih a (by rw [hk];simp)).1 (deep+1) (w2 f x) (all++x.params) (all'++x.params) to Na to2 hty hne nwa hva.2 pa [] to [] all false true _ ⟨fun v hv=>by simp at hv,fun v hv=>⟨List.mem_append_left _ hv,rfl⟩⟩ (.inl rfl) (fun _=>rfl) (fun h=>bne_iff_ne.2 h) fun h=>by
     have:=y3z hva.2 ((z7n a).2 h)
     cases this
  rcases he2 with ⟨_,hy2,_⟩ | ⟨rfl,hy2,rfl,hI⟩ | ⟨rfl,hy2,rfl,hI⟩ | ⟨rfl,rfl⟩
  ·cases hy2
  ·exact .inr (.inr ⟨rfl,fun a2 b2 g g'=>sp _ _ _ _ _ hI g g'⟩)
  ·refine .inr (.inl ⟨rfl,fun a2 b2 g g'=>⟨by rw [hcl,z3q,hy2];rfl,EqT.sets (hI.sub fun v hv=>⟨hv,(k2 v hv).symm⟩) g g' (fun v hv hm=>?_) fun v hv=>?_⟩⟩)
   ·rw [k2 v hv] at hm
    exact nw.stv v hv _ (mo _ hm) rfl
   rw [pa.keys v fun hm=>n6 v hm v hv rfl]
   exact nw.ft v (mo v hv)
  exact .inl ⟨rfl,.inr (.inr (.inr ⟨rfl,rfl⟩))⟩
theorem lst_cons {x:Nd} {l:List Nd} (h:l≠[]):z1b (x::l)=z1b l:=by
  cases l with
  | nil=>exact absurd rfl h
  | cons y r=>simp [z1b,List.getLast?_cons_cons]
theorem last_one (x:Nd):z1b [x]=if z0q x.kind then x.kind else 0:=by simp [z1b]
def NEnd (w:Wh) (x:Nd) (r:Rres):Prop:=(r.1.1=0/\z01 x=false)∨EOk w (x.kind==12) (z20 x) r
def LTot (u:Un) (n:Nat) (B M:Int) (d:Nat):Prop:=∀ f deep w seen l a s,l≠[]->vGo u f deep w seen l=true->a.length=f.types.length->Inv n B M s->3*s.fuel+1<=(d:Int) ->
  ∃ r,z1s u d l a s=some r/\Inv n B M r.2.2/\(Live r.2.2->r.2.2.fuel<s.fuel/\EOk w (z1b l==12) (z0r l) r)
def PTot (u:Un) (n:Nat) (B M:Int) (d:Nat):Prop:=∀ f deep x q seen a p s,x.kids=[q]->q≠[]->vGo u f deep (w2 f x) seen q=true->inR f.types.length x.params->inR f.types.length x.outs->p.length=x.params.length->a.length=f.types.length->Inv n B M s->3*s.fuel+2<=(d:Int) ->
  ∃ r,z36 u d x a p s=some r/\Inv n B M r.2.2/\(Live r.2.2->(r.1.1=0/\z0r q=true)∨(r.1.1=15/\r.1.2.length=1))
def CTot (u:Un) (n:Nat) (B M:Int) (d:Nat):Prop:=∀ k p s,0<=k->(∃ g,u.flows[k.toNat]? = some g/\(p.length:Int)=g.params)->Inv n B M s->3*s.fuel+2<=(d:Int)->∃ r,z3r u d k p s=some r/\Inv n B M r.2
def STot (u:Un) (n:Nat) (B M:Int) (d:Nat):Prop:=∀ x p s,SumOk u x p.length->InvS n B M s->3*s.fuel+3<=(d:Int)->∃ r,mSum u d x p s=some r/\Inv n B M r.2
theorem node_tot {u:Un} {n:Nat} {B M:Int} (hB:B<=4611686018427387903) (hv:∀ g∈u.flows,VF u g) {d:Nat} (i1:LTot u n B M d) (i2:PTot u n B M d) (i4:STot u n B M d)
    {f:Fl} {deep:Int} {w:Wh} {seen:List Int} {x:Nd} {a:List Int} {s:Rs} (hx:z2r u f deep w seen x=true) (ha:a.length=f.types.length) (hl:Live s) (hi:Inv n B M s) (hf:1<=s.fuel) (hd:3*s.fuel+1<=((d+1:Nat):Int)) :
    ∃ p r,mOf a x.args=some p/\z4t (z1s u d) (z36 u d) (mSum u d) x p a (dec s)=some r/\Inv n B M r.2.2/\(Live r.2.2->r.2.2.fuel<s.fuel/\NEnd w x r):=by
  have hb:=z19 u f deep w seen hx
  have hiS:InvS n B M (dec s):=⟨(z44 hi.ok hf).1,(z44 hi.ok hf).2,by have:=hi.out;show (s.out.length:Int)+(s.fuel - 1)+1<=M;omega,hi.ar⟩
  have hi1:Inv n B M (dec s):=⟨hiS.ok,by have:=hiS.out;omega,hiS.ar⟩
  have hdf:(dec s).fuel=s.fuel - 1:=rfl
  have ne:∀ {i:Int},x.kind≠i->(x.kind==i)=false:=fun h=>beq_eq_false_iff_ne.2 h
  by_cases h10:x.kind=10
  ·obtain ⟨q0,q1,hk⟩:=z2k hb h10
   rw [z3w u f deep w seen hb h10 hk] at hx
   simp only [Bool.and_eq_true,z2t] at hx
   obtain ⟨⟨⟨⟨v1,v2⟩,v3⟩,v4⟩,v5⟩:=hx
   obtain ⟨t1,t2⟩:=zf6 v1
   have hou:=z1k v5
   obtain ⟨p,hp,hpl⟩:=y02 (a:=a) (l:=x.args) (by rw [ha];exact t2)
   obtain ⟨c,hc⟩:=zj5 (p:=p) (i:=0) (by rw [hpl,t1];decide)
   have hq:∃ q,x.kids[if c != 0 then 0 else 1]? = some q/\q≠[]/\vGo u f (deep+1) (w1 w f x) seen q=true/\(q=q0∨q=q1):=by
     rw [hk]
     by_cases hc0:(c != 0)=true
     ·rw [if_pos hc0];exact ⟨q0,rfl,by simpa using v2.1,v2.2,.inl rfl⟩
     rw [if_neg hc0];exact ⟨q1,rfl,by simpa using v3.1,v3.2,.inr rfl⟩
   obtain ⟨q,hq1,hq2,hq3,hq4⟩:=hq
   obtain ⟨r2,g1,g2,g3⟩:=i1 f (deep+1) (w1 w f x) seen q a (dec s) hq2 hq3 ha hi1 (by rw [hdf];omega)
   have hlen:=z70 g1
   have hlv:z0r q=true->z20 x=true:=fun h=>by
     rw [z3h,h10,hk]
     rcases hq4 with rfl | rfl<;>simp [z2q,h]
   have hcl:z1b q=12->z01 x=false:=fun h=>by
     rcases hq4 with rfl | rfl<;>simp [z01,h10,hk,kid0,kid1,h]
   by_cases hov:z0z r2.2.2=true
   ·refine ⟨p,r2,hp,?_,g2,fun h=>by rw [z0t h] at hov;cases hov⟩
    unfold z4t
    simp only [h10,show ((10:Int)==1)=false from rfl,show ((10:Int)==2)=false from rfl,show ((10:Int)==12)=false from rfl,show ((10:Int)==13)=false from rfl,show ((10:Int)==14)=false from rfl,show ((10:Int)==15)=false from rfl,show ((10:Int)==10)=true from rfl,Bool.or_self,Bool.false_eq_true,if_false,if_true,hc,Option.bind_some,hq1,g1,hov,Bool.not_true,Bool.false_and]
   have hov':z0z r2.2.2=false:=by simpa using hov
   have hL2:=z6q.1 hov'
   obtain ⟨e1,e2⟩:=g3 hL2
   by_cases h12:r2.1.1=12
   ·rcases e2 with ⟨_,e3,_,e4⟩ | ⟨e3,_⟩ | ⟨e3,_⟩ | ⟨e3,_⟩
    ·rw [show (w1 w f x).Yield=r8of f.types x.outs from rfl,zm1 hou] at e4
     obtain ⟨a2,h2⟩:=zl7 (l:=x.outs) (p:=r2.1.2) (a:=r2.2.1) (by rw [hlen,ha];exact hou) e4
     refine ⟨p,((0,[]),a2,r2.2.2),hp,?_,g2,fun _=>⟨by show r2.2.2.fuel<s.fuel;have:=hdf;omega,.inl ⟨rfl,hcl (by simpa using e3)⟩⟩⟩
     unfold z4t
     simp only [h10,show ((10:Int)==1)=false from rfl,show ((10:Int)==2)=false from rfl,show ((10:Int)==12)=false from rfl,show ((10:Int)==13)=false from rfl,show ((10:Int)==14)=false from rfl,show ((10:Int)==15)=false from rfl,show ((10:Int)==10)=true from rfl,Bool.or_self,Bool.false_eq_true,if_false,if_true,hc,Option.bind_some,hq1,g1,hov',h12,Bool.not_false,Bool.true_and,show ((12:Int)==12)=true from rfl,h2,Option.map_some]
    ·rw [h12] at e3;exact absurd e3 dC0
    ·rw [h12] at e3;exact absurd e3 dC0
    rw [h12] at e3;exact absurd e3 dC0
   refine ⟨p,r2,hp,?_,g2,fun _=>⟨by have:=hdf;omega,.inr ?_⟩⟩
   ·unfold z4t
    have hc12:(!false&&r2.1.1==12)=false:=by simpa using h12
    simp only [h10,show ((10:Int)==1)=false from rfl,show ((10:Int)==2)=false from rfl,show ((10:Int)==12)=false from rfl,show ((10:Int)==13)=false from rfl,show ((10:Int)==14)=false from rfl,show ((10:Int)==15)=false from rfl,show ((10:Int)==10)=true from rfl,Bool.or_self,Bool.false_eq_true,if_false,if_true,hc,Option.bind_some,hq1,g1,hov',hc12]
   rcases e2 with ⟨e3,_⟩ | e3 | ⟨e3,e4,e5⟩ | e3
   ·exact absurd e3 h12
   ·exact .inr (.inl e3)
   ·exact .inr (.inr (.inl ⟨e3,hlv e4,e5⟩))
   exact .inr (.inr (.inr e3))
  by_cases h11:x.kind=11
  ·obtain ⟨q,hk⟩:=z1m hb h11
   rw [z28 u f deep w seen hb h11 hk] at hx
   simp only [Bool.and_eq_true,z2t] at hx
   obtain ⟨⟨⟨⟨v1,v2⟩,v3⟩,v4⟩,v5⟩:=hx
   obtain ⟨t1,t2⟩:=zf6 v1
   have hpi:=z1k v2
   rw [zm1 hpi] at t1
   obtain ⟨p,hp,hpl⟩:=y02 (a:=a) (l:=x.args) (by rw [ha];exact t2)
   obtain ⟨r,g1,g2,g3⟩:=i2 f (deep+1) x q _ a p (dec s) hk (by simpa using v3.1) v3.2 hpi (z1k v5) (by rw [hpl,t1]) ha hi1 (by rw [hdf];omega)
   refine ⟨p,r,hp,?_,g2,fun hL=>⟨?_,?_⟩⟩
   ·unfold z4t
    simp only [h11,show ((11:Int)==1)=false from rfl,show ((11:Int)==2)=false from rfl,show ((11:Int)==12)=false from rfl,show ((11:Int)==13)=false from rfl,show ((11:Int)==14)=false from rfl,show ((11:Int)==15)=false from rfl,show ((11:Int)==10)=false from rfl,show ((11:Int)==11)=true from rfl,Bool.or_self,Bool.false_eq_true,if_false,if_true,g1]
   ·have:=(zc9 hB g1 hi1.ok).fuel;omega
   rcases g3 hL with ⟨e1,e2⟩ | ⟨e1,e2⟩
   ·exact .inl ⟨e1,by simp [z01,h11,hk,kid0,e2]⟩
   exact .inr (.inr (.inr (.inr ⟨e1,e2⟩)))
  rw [z11 u f deep w seen hb (ne h10) (ne h11)] at hx
  obtain ⟨s1,s2,s3,s4,s12,s13,s14,s15⟩:=smp_ok hv hx
  obtain ⟨p,hp,hpl⟩:=y02 (a:=a) (l:=x.args) (by rw [ha];exact s2)
  have cl:z01 x=z0q x.kind:=by unfold z01;rw [ne h10,ne h11];rfl
  by_cases h1:x.kind=1∨x.kind=2
  ·have ho:=s4 h1
   obtain ⟨o,os,he⟩:∃ o os,x.outs=o::os:=by cases hxo:x.outs with
     | nil=>exact absurd hxo ho
     | cons o os=>exact ⟨o,os,rfl⟩
   obtain ⟨a2,h2⟩:=y0q (a:=a) (i:=o) (y:=x.n) (by rw [ha];exact s1 o (by rw [he];exact .head _))
   refine ⟨p,((0,[]),a2,dec s),hp,?_,hi1,fun _=>⟨by show s.fuel - 1<s.fuel;omega,.inl ⟨rfl,?_⟩⟩⟩
   ·unfold z4t
    rw [if_pos (by rcases h1 with h1 | h1<;>rw [h1]<;>rfl),he]
    simp only [List.getElem?_cons_zero,Option.bind_some,h2,Option.map_some]
   rw [cl];rcases h1 with h1 | h1<;>rw [h1]<;>rfl
  have n1:(x.kind==1||x.kind==2)=false:=by rw [Bool.or_eq_false_iff];exact ⟨ne fun h=>h1 (.inl h),ne fun h=>h1 (.inr h)⟩
  by_cases hE:12<=x.kind/\x.kind<=15
  ·refine ⟨p,((x.kind,p),a,dec s),hp,?_,hi1,fun _=>⟨by show s.fuel - 1<s.fuel;omega,.inr ?_⟩⟩
   ·unfold z4t
    rw [n1,if_neg dC0,if_pos (by rcases (show x.kind=12∨x.kind=13∨x.kind=14∨x.kind=15 by omega) with e | e | e | e<;>rw [e]<;>rfl)]
   rcases (show x.kind=12∨x.kind=13∨x.kind=14∨x.kind=15 by omega) with e | e | e | e
   ·exact .inl ⟨e,by rw [e];rfl,(s12 e).1,by rw [<- (s12 e).2];exact hpl⟩
   ·exact .inr (.inl ⟨e,by rw [<- s13 e];exact hpl⟩)
   ·exact .inr (.inr (.inl ⟨e,by rw [z3h,e];rfl,by rw [<- s14 e];exact hpl⟩))
   exact .inr (.inr (.inr ⟨e,by rw [<- s15 e];exact hpl⟩))
  have n2:(x.kind==12||x.kind==13||x.kind==14||x.kind==15)=false:=by simp;omega
  obtain ⟨q,g1,g2⟩:=i4 x p (dec s) (by rw [hpl];exact s3) hiS (by rw [hdf];omega)
  have hfq:=(y3p hB g1 hiS.ok hiS.ok1).fuel
  have cl0:z01 x=false:=by rw [cl];simp [z0q];omega
  have hnode:∀ r1,(if !z0z q.2&&decide (0<x.outs.length) then (x.outs[0]?).bind fun o=>(setV a o q.1).map fun v'=>(((0,[]),v',q.2):Rres) else some ((0,[]),a,q.2))=some r1->z4t (z1s u d) (z36 u d) (mSum u d) x p a (dec s)=some r1:=fun r1 h=>by
    unfold z4t
    rw [n1,n2,ne h10,ne h11]
    simp only [Bool.false_eq_true,if_false,g1,Option.bind_some]
    exact h
  by_cases hov:(!z0z q.2&&decide (0<x.outs.length))=true
  ·obtain ⟨o,os,he⟩:∃ o os,x.outs=o::os:=by cases hxo:x.outs with
     | nil=>rw [hxo] at hov;simp at hov
     | cons o os=>exact ⟨o,os,rfl⟩
   obtain ⟨a2,h2⟩:=y0q (a:=a) (i:=o) (y:=q.1) (by rw [ha];exact s1 o (by rw [he];exact .head _))
   exact ⟨p,((0,[]),a2,q.2),hp,hnode _ (by rw [if_pos hov,he];simp [h2]),g2,fun _=>⟨by show q.2.fuel<s.fuel;omega,.inl ⟨rfl,cl0⟩⟩⟩
  exact ⟨p,((0,[]),a,q.2),hp,hnode _ (if_neg hov),g2,fun _=>⟨by show q.2.fuel<s.fuel;omega,.inl ⟨rfl,cl0⟩⟩⟩
theorem list_tot {u:Un} {n:Nat} {B M:Int} (hB:B<=4611686018427387903) (hv:∀ g∈u.flows,VF u g) {d:Nat} (i1:LTot u n B M d) (i2:PTot u n B M d) (i4:STot u n B M d):LTot u n B M (d+1):=by
  intro f deep w seen l a s hne hg ha hi hd
  cases l with
  | nil=>exact absurd rfl hne
  | cons x l =>
    cases hov:z0z s with
    | true =>
      have:z85 s=(false,s):=by unfold z85;rw [hov];rfl
      refine ⟨((0,[]),a,s),by rw [z1s,this],hi,fun h=>by rw [z0t h] at hov;cases hov⟩
    | false =>
      have hl:=z6q.1 hov
      unfold vGo at hg
      simp only [Bool.and_eq_true,beq_iff_eq] at hg
      obtain ⟨⟨⟨_,v2⟩,v3⟩,v4⟩:=hg
      rcases zx8 hB hi.ok hl with ⟨hf,hs⟩ | ⟨hf,hs⟩
      ·refine ⟨((0,[]),a,gone s),by rw [z1s,hs],⟨hi.ok,hi.out,hi.ar⟩,fun h=>?_⟩
       have:=h.1
       cases this
      obtain ⟨p,r1,g1,g2,g3,g4⟩:=node_tot hB hv i1 i2 i4 v2 ha hl hi hf hd
      have hlen:r1.2.1.length=a.length:=y25 (fun _ _ _ _ h=>(zh4 u d).1 _ _ _ _ h) (fun _ _ _ _ _ h=>(zh4 u d).2 _ _ _ _ _ h) g2
      by_cases hov1:z0z r1.2.2=true
      ·exact ⟨r1,by rw [z1s,hs];simp only [g1,Option.bind_some,g2,hov1,Bool.true_or,if_true],g3,fun h=>by rw [z0t h] at hov1;cases hov1⟩
      have hov1':z0z r1.2.2=false:=by simpa using hov1
      obtain ⟨f1,f2⟩:=g4 (z6q.1 hov1')
      by_cases hk0:r1.1.1=0
      ·have hc:z01 x=false:=by
         rcases f2 with ⟨_,h⟩ | ⟨h,_⟩ | ⟨h,_⟩ | ⟨h,_⟩ | ⟨h,_⟩
         ·exact h
         all_goals rw [hk0] at h;exact absurd h dC0
       have hlne:l≠[]:=by rw [hc] at v3;intro e;rw [e] at v3;cases v3
       obtain ⟨r,q1,q2,q3⟩:=i1 f deep w _ l r1.2.1 r1.2.2 hlne v4 (by rw [hlen,ha]) g3 (by have:=hi.ok.1;omega)
       refine ⟨r,by rw [z1s,hs];simp only [g1,Option.bind_some,g2,hov1',hk0,Bool.false_or,show ((0:Int) != 0)=false from rfl,Bool.false_eq_true,if_false,q1],q2,fun h=>?_⟩
       obtain ⟨z1,z2⟩:=q3 h
       refine ⟨by omega,?_⟩
       rw [lst_cons hlne]
       rcases z2 with z | z | ⟨z1,z2,z3⟩ | z
       ·exact .inl z
       ·exact .inr (.inl z)
       ·exact .inr (.inr (.inl ⟨z1,by simp [z0r,z2],z3⟩))
       exact .inr (.inr (.inr z))
      have hk1:(false||r1.1.1 != 0)=true:=by simpa using hk0
      refine ⟨r1,by rw [z1s,hs];simp only [g1,Option.bind_some,g2,hov1',hk1,if_true],g3,fun _=>⟨f1,?_⟩⟩
      rcases f2 with ⟨h,_⟩ | ⟨z1,z2,z3,z4⟩ | z | ⟨z1,z2,z3⟩ | z
      ·exact absurd h hk0
      ·have hxk:x.kind=12:=by simpa using z2
       have hc:z01 x=true:=by unfold z01;rw [hxk];rfl
       have hl0:l=[]:=by rw [hc] at v3;cases l with
         | nil=>rfl
         | cons y r=>cases v3
       refine .inl ⟨z1,?_,z3,z4⟩
       rw [hl0,last_one,hxk];rfl
      ·exact .inr (.inl z)
      ·exact .inr (.inr (.inl ⟨z1,by simp [z0r,z2],z3⟩))
      exact .inr (.inr (.inr z))
theorem loop_tot {u:Un} {n:Nat} {B M:Int} {d:Nat} (i1:LTot u n B M d) (i2:PTot u n B M d):PTot u n B M (d+1):=by
  intro f deep x q seen a p s hk hq hg hpi hoi hp ha hi hd
  obtain ⟨a2,h2⟩:=zl7 (l:=x.params) (p:=p) (a:=a) (by rw [ha];exact hpi) hp
  obtain ⟨r1,g1,g2,g3⟩:=i1 f deep (w2 f x) seen q a2 s hq hg (by rw [z4e h2,ha]) hi oM0
  have hlen:=(z70 g1).trans (z4e h2)
  have hk0:x.kids[0]? = some q:=by rw [hk];rfl
  by_cases hov:z0z r1.2.2=true
  ·exact ⟨r1,by rw [z36,h2];simp only [Option.bind_some,hk0,g1,hov,Bool.true_or,if_true],g2,fun h=>by rw [z0t h] at hov;cases hov⟩
  have hov':z0z r1.2.2=false:=by simpa using hov
  obtain ⟨f1,f2⟩:=g3 (z6q.1 hov')
  rcases f2 with ⟨_,_,h,_⟩ | ⟨z1,z2⟩ | ⟨z1,z2,z3⟩ | ⟨z1,z2⟩
  ·cases h
  ·rw [show (w2 f x).Next=r8of f.types x.params from rfl,zm1 hpi] at z2
   obtain ⟨r,q1,q2,q3⟩:=i2 f deep x q seen r1.2.1 r1.1.2 r1.2.2 hk hq hg hpi hoi z2 (by rw [hlen,ha]) g2 oM0
   exact ⟨r,by rw [z36,h2];simp only [Option.bind_some,hk0,g1,hov',z1,Bool.false_or,show ((13:Int)==15)=false from rfl,show ((13:Int)==14)=false from rfl,Bool.false_eq_true,if_false,q1],q2,q3⟩
  ·rw [show (w2 f x).Left=r8of f.types x.outs from rfl,zm1 hoi] at z3
   obtain ⟨a3,h3⟩:=zl7 (l:=x.outs) (p:=r1.1.2) (a:=r1.2.1) (by rw [hlen,ha];exact hoi) z3
   exact ⟨((0,[]),a3,r1.2.2),by rw [z36,h2];simp only [Option.bind_some,hk0,g1,hov',z1,Bool.false_or,show ((14:Int)==15)=false from rfl,show ((14:Int)==14)=true from rfl,Bool.false_eq_true,if_false,if_true,h3,Option.map_some],g2,fun _=>.inl ⟨rfl,z2⟩⟩
  exact ⟨r1,by rw [z36,h2];simp only [Option.bind_some,hk0,g1,hov',z1,Bool.false_or,show ((15:Int)==15)=true from rfl,if_true],g2,fun _=>.inr ⟨z1,z2⟩⟩
theorem call_tot {u:Un} {n:Nat} {B M:Int} (hv:∀ g∈u.flows,VF u g) {d:Nat} (i1:LTot u n B M d):CTot u n B M (d+1):=by
  rintro k p s hk ⟨g,hg,hp⟩ hi hd
  obtain ⟨v1,v2,v3,v4⟩:=hv g (List.mem_of_getElem? hg)
  simp only [z2t,Bool.and_eq_true] at v1
  have hpl:p.length<=g.types.length:=by omega
  obtain ⟨r1,g1,g2,_⟩:=i1 g 1 z1d _ g.body (p++List.replicate (g.types.length - p.length) 0) s (by simpa using v1.1) v1.2 (by simp;omega) hi oM0
  have e:z3r u (d+1) k p s=(if z0z r1.2.2 then some (0,r1.2.2) else some (r1.1.2.headD 0,r1.2.2)):=by
    rw [z3r,if_pos hk,hg,Option.bind_some,if_pos ⟨hpl,by omega⟩,g1,Option.bind_some]
  rw [e]
  split
  ·exact ⟨_,rfl,g2⟩
  exact ⟨_,rfl,g2⟩
theorem yj8 {u:Un} {n:Nat} {B M:Int} (hB:B<=4611686018427387903) (hM:M<=1073741824) (hn:n=u.arrays.length) (hv:∀ g∈u.flows,VF u g):∀ d,LTot u n B M d/\PTot u n B M d/\CTot u n B M d/\STot u n B M d
  | 0=>⟨fun f deep w seen l a s _ _ _ hi hd=>by have:=hi.ok.1;omega,fun f deep x q seen a p s _ _ _ _ _ _ _ hi hd=>by have:=hi.ok.1;omega,fun k p s _ _ hi hd=>by have:=hi.ok.1;omega,fun x p s _ hi hd=>by have:=hi.ok.1;omega⟩
  | d+1=>by
    obtain ⟨i1,i2,i3,i4⟩:=yj8 hB hM hn hv d
    exact ⟨list_tot hB hv i1 i2 i4,loop_tot i1 i2,call_tot hv i1,fun x p s hx hi hd=>sum_tot hB hM hn hv i3 x p s hx hi hd⟩
def G (m:Bool) (N k w:Nat) (F F':Int):Prop:=if m then F<=F'+k else F'*(N+1)+w<=F
theorem g_mul (F':Int) (N:Nat):(F' - 1)*((N:Int)+1)=F'*(N+1) - N - 1:=by rw [Int.sub_mul];omega
theorem G.step {m:Bool} {N k w:Nat} {F F':Int} (h:G m N k w F F') (hw:1<=w):G m N k (N+1) (F - 1) (F' - 1):=by
  unfold G at h ⊢
  cases m with
  | true=>simp only [if_true] at h ⊢;omega
  | false =>
    simp only [Bool.false_eq_true,if_false] at h ⊢
    rw [g_mul];generalize F'*((N:Int)+1)=P at h ⊢;omega
theorem G.weak {m:Bool} {N k w k2 w2:Nat} {F F':Int} (h:G m N k w F F') (hk:k<=k2) (hw:w2<=w):G m N k2 w2 F F':=by
  unfold G at h ⊢
  cases m with
  | true=>simp only [if_true] at h ⊢;omega
  | false=>simp only [Bool.false_eq_true,if_false] at h ⊢;omega
theorem G.left {m:Bool} {N k w:Nat} {F F':Int} (h:G m N k (w+1) F F'):G m N k w (F - 1) F':=by
  unfold G at h ⊢
  cases m with
  | true=>simp only [if_true] at h ⊢;omega
  | false=>simp only [Bool.false_eq_true,if_false] at h ⊢;omega
theorem G.pay {m:Bool} {N k w:Nat} {F F':Int} (h:G m N (k+1) (w+1) F F'):G m N k w (F - 1) F':=by
  unfold G at h ⊢
  cases m with
  | true=>simp only [if_true] at h ⊢;omega
  | false=>simp only [Bool.false_eq_true,if_false] at h ⊢;omega
theorem G.right {m:Bool} {N k w:Nat} {F F':Int} (h:G m N k w F F'):G m N (k+1) w F (F' - 1):=by
  unfold G at h ⊢
  cases m with
  | true=>simp only [if_true] at h ⊢;omega
  | false =>
    simp only [Bool.false_eq_true,if_false] at h ⊢
    rw [g_mul];generalize F'*((N:Int)+1)=P at h ⊢;omega
structure Alike (s s':Rs):Prop where
  l:Live s
  l':Live s'
  ins:s'.ins=s.ins
  ar:s'.ar=s.ar
  out:s'.out=s.out
  code:s'.code=s.code
structure RelR (m:Bool) (N k w c:Nat) (s s':Rs):Prop where
  al:Alike s s'
  g:G m N k w s.fuel s'.fuel
  co:s'.cost<=s.cost+c
structure Halt (m:Bool) (s s':Rs):Prop where
  st:s.st≠0
  st':s'.st=s.st
  sp:s.spent=false
  sp':s'.spent=false
  out:s'.out=s.out
  code:s'.code=s.code
  co:s'.cost<=s.cost
  fu:m=true->s.fuel<=s'.fuel
def Cut (m:Bool) (s s':Rs):Prop:=if m then s.spent=true/\s.st=0/\s.out <+: s'.out else s'.spent=true/\s'.st=0/\s'.out <+: s.out
inductive RR (m:Bool) (N:Nat) (E:ER) (r r':Rres):Prop
  | ok:r'.1.1=r.1.1->E r.1.1 r.1.2 r'.1.2 r.2.1 r'.2.1->RelR m N 0 (N+1) 0 r.2.2 r'.2.2->RR m N E r r'
  | halt:Halt m r.2.2 r'.2.2->RR m N E r r'
  | cut:Cut m r.2.2 r'.2.2->RR m N E r r'
inductive RC (m:Bool) (N:Nat) (q q':Int × Rs):Prop
  | ok:q'.1=q.1->RelR m N 0 (N+1) 0 q.2 q'.2->RC m N q q'
  | halt:Halt m q.2 q'.2->RC m N q q'
  | cut:Cut m q.2 q'.2->RC m N q q'
theorem Halt.over {m:Bool} {s s':Rs} (h:Halt m s s'):z0z s=true/\z0z s'=true:=by
  have h1:=h.st
  have h2:=h.st'
  unfold z0z
  rw [h2]
  have:(s.st != 0)=true:=by simpa using h1
  rw [this,Bool.or_true,Bool.or_true]
  exact ⟨rfl,rfl⟩
section
section
variable {u v:Un} {D:Nat} {B:Int} {m:Bool} {N:Nat}
theorem zu3 {k w c:Nat} {E:ER} {s s':Rs} {a:List Int} {r r':Rres} (h:RelR m N k w c s s') (hw:1<=w) (hf:s.fuel<1) (h0:0<=s'.fuel) (ho:s'.out <+: r'.2.2.out) (hr:r=((0,[]),a,gone s)):RR m N E r r':=by
  subst hr
  cases m with
  | true=>exact .cut (by unfold Cut;rw [if_pos rfl];exact ⟨rfl,h.al.l.2,by show s.out <+: _;rw [<- h.al.out];exact ho⟩)
  | false =>
    have:=h.g
    unfold G at this
    simp only [Bool.false_eq_true,if_false] at this
    have h2:0<=s'.fuel*((N:Int)+1):=Int.mul_nonneg h0 oM0
    omega
theorem poor (hB:B<=4611686018427387903) {k c:Nat} {I:VR} {l:List Nd} {K:List KF} {l':List Nd} {E:ER} (h:LRel k c I l K l' E) :
    ∀ (D:Nat) (a:List Int) (s:Rs) (r:Rres),KRun u D l K a s r->Oks B s->Live s->l≠[]->s.fuel<=k->r.2.2.spent=true/\r.2.2.st=0/\r.2.2.out=s.out:=by
  have G0:∀ {s:Rs} {a:List Int} {r:Rres},Live s->r=((0,[]),a,gone s)->r.2.2.spent=true/\r.2.2.st=0/\r.2.2.out=s.out:=fun hl e=>by subst e;exact ⟨rfl,hl.2,rfl⟩
  have Z:∀ {D:Nat} {l:List Nd} {K:List KF} {a:List Int} {s:Rs} {r:Rres},KRun u D l K a s r->Oks B s->Live s->l≠[]->s.fuel<=(0:Nat)->r.2.2.spent=true/\r.2.2.st=0/\r.2.2.out=s.out:=by
    intro D l K a s r hk ho hl hn hf
    cases l with
    | nil=>exact absurd rfl hn
    | cons x l =>
      rcases zk6 hB hk ho hl with ⟨_,e⟩ | ⟨e,_⟩
      ·exact G0 hl e
      exact absurd hf (by simp;omega)
  have ne:∀ {k c:Nat} {I:VR} {l:List Nd} {K:List KF} {l':List Nd} {E:ER} {f:Int},LRel k c I l K l' E->1<=f->f<=k->l≠[]:=by
    intro k c I l K l' E f h h1 h2 e
    have:=LRel.nil h e
    subst this
    simp at h2;omega
  induction h with
  | dead _=>exact fun _ _ _ _=>Z
  | weak _ _ ih=>exact ih
  | both hx _ _ _ hL ih =>
    intro D a s r hk ho hl hn hf
    rcases y1u hB hx hk ho hl with ⟨_,e⟩ | ⟨e,a2,_,h2⟩
    ·exact G0 hl e
    have t:=ih _ _ _ _ h2 (zj7 ho e) (y00 (z5o hl)) (ne hL e hf) (by show s.fuel - 1<=_;omega)
    exact t
  | skip hx _ hL ih =>
    intro D a s r hk ho hl hn hf
    rcases y1u hB hx hk ho hl with ⟨_,e⟩ | ⟨e,a2,_,h2⟩
    ·exact G0 hl e
    have t:=ih _ _ _ _ h2 (zj7 ho e) (y00 (z5o hl)) (ne hL e hf) (by show s.fuel - 1<=_;omega)
    exact t
  | paid hx _ hne hL ih =>
    intro D a s r hk ho hl hn hf
    rcases y1u hB hx hk ho hl with ⟨_,e⟩ | ⟨e,a2,_,h2⟩
    ·exact G0 hl e
    have t:=ih _ _ _ _ h2 (zj7 ho e) (y00 (z5o hl)) hne (by show s.fuel - 1<=_;omega)
    exact t
  | add _ _ _ _ ih =>
    intro D a s r hk ho hl hn hf
    exact ih _ _ _ _ hk ho hl hn oM0
  | eff=>exact fun _ _ _ _=>Z
  | ite=>exact fun _ _ _ _=>Z
  | ender=>exact fun _ _ _ _=>Z
  | loop hx _ hq _ _ hL _ _ ih _ =>
    intro D a s r hk ho hl hn hf
    rcases zk6 hB hk ho hl with ⟨_,e⟩ | ⟨e,d1,p,r1,_,_,h3,h4⟩
    ·exact G0 hl e
    have h5:=z5y h3 (by rw [hx];rfl)
    have ho1:=(z44 ho e).1
    obtain ⟨d2,v2,q2,r2,rfl,_,g2,g3,g4⟩:=z4k h5
    rw [hq] at g2
    obtain rfl:=Option.some.inj g2
    have h6:=ih d2 v2 (dec s) r2 ⟨d2,r2,Nat.le_refl _,g3,by split<;>rfl⟩ ho1 (z5o hl) (ne hL e hf) (by show s.fuel - 1<=_;omega)
    have hov:z0z r2.2.2=true:=by unfold z0z;rw [h6.1];rfl
    rw [hov] at g4
    cases g4
    rcases h4 with ⟨_,h4⟩ | ⟨h4,_⟩ | ⟨h4,_⟩
    ·subst h4;exact h6
    ·rw [z0t h4] at hov;cases hov
    rw [z0t h4] at hov;cases hov
  | once hx hq _ hL ih =>
    intro D a s r hk ho hl hn hf
    rcases y2e hB hx hq hk ho hl with ⟨_,e⟩ | ⟨e,p,a2,_,_,h2⟩
    ·exact G0 hl e
    have t:=ih _ _ _ _ h2 (z44 ho e).1 (z5o hl) (ne hL e hf) (by show s.fuel - 1<=_;omega)
    exact t
  | leave hy hy2 _ hL ih =>
    intro D a s r hk ho hl hn hf
    rcases zw0 hB hy hy2 hk ho hl with ⟨_,e⟩ | ⟨e,p,a2,_,_,h2⟩
    ·exact G0 hl e
    have t:=ih _ _ _ _ h2 (z44 ho e).1 (z5o hl) (ne hL e hf) (by show s.fuel - 1<=_;omega)
    exact t
  | fork hx hq hL0 hL1 ih0 ih1 =>
    intro D a s r hk ho hl hn hf
    rcases y1o hB hx hq hk ho hl with ⟨_,e⟩ | ⟨e,q,hq',h2⟩
    ·exact G0 hl e
    rcases hq' with rfl | rfl
    ·have t:=ih0 _ _ _ _ h2 (z44 ho e).1 (z5o hl) (ne hL0 e hf) (by show s.fuel - 1<=_;omega)
     exact t
    have t:=ih1 _ _ _ _ h2 (z44 ho e).1 (z5o hl) (ne hL1 e hf) (by show s.fuel - 1<=_;omega)
    exact t
theorem y8u {k w c:Nat} {I:VR} {l:List Nd} {K:List KF} {l':List Nd} {E:ER} {a b:List Int} {s s':Rs} {r r':Rres} (hB:B<=4611686018427387903) (hL:LRel k c I l K l' E) (hn:l≠[]) (hk:KRun u D l K a s r) (ho:Oks B s)
    (h:RelR m N k w c s s') (hf:s'.fuel<1) (hr:r'=((0,[]),b,gone s')):RR m N E r r':=by
  subst hr
  refine .cut ?_
  unfold Cut
  cases m with
  | true =>
    rw [if_pos rfl]
    have hg:=h.g
    unfold G at hg
    simp only [if_true] at hg
    obtain ⟨h1,h2,h3⟩:=poor hB hL _ _ _ _ hk ho h.al.l hn oM0
    exact ⟨h1,h2,by rw [h3];show s.out <+: s'.out;rw [h.al.out];exact List.prefix_refl _⟩
  | false =>
    rw [if_neg dC0]
    refine ⟨rfl,h.al.l'.2,?_⟩
    show s'.out <+: _
    rw [h.al.out]
    exact hk.out hB ho
def upd (s:Rs) (ins:List Int) (ar:List (List Int)) (st:Int) (out:List Int):Rs:={ bmp s with ins:=ins,ar:=ar,st:=st,out:=out }
theorem yj0 {d d':Nat} {x x':Nd} {p:List Int} {s s':Rs} {q q':Int × Rs} (hk:x'.kind=x.kind) (hop:x'.op=x.op) (hnm:x'.name=x.name) (h7:x.kind≠7) (hA:v.arrays=u.arrays)
    (hB:B<=4611686018427387903) (ho:Oks B s) (ho':Oks B s') (hal:Alike s s') (h:mSum u d x p s=some q) (h':mSum v d' x' p s'=some q') :
    q'.1=q.1/\∃ ins ar st out,q.2=upd s ins ar st out/\q'.2=upd s' ins ar st out:=by
  obtain ⟨d,rfl⟩:=z6o h
  obtain ⟨d',rfl⟩:=z6o h'
  have e:=zj0 hB ho
  have e':=zj0 hB ho'
  obtain ⟨hl,hl',i1,i2,i3,i4⟩:=hal
  have U:bmp s=upd s s.ins s.ar s.st s.out:=rfl
  have U':bmp s'=upd s' s.ins s.ar s.st s.out:=by unfold upd bmp;rw [<- i1,<- i2,<- i3,hl.2,<- hl'.2]
  have ne:∀ {i:Int},x.kind≠i->(x.kind==i)=false:=fun h=>beq_eq_false_iff_ne.2 h
  have ne':∀ {i:Int},x.kind≠i->(x'.kind==i)=false:=fun h=>beq_eq_false_iff_ne.2 (by rw [hk];exact h)
  by_cases k3:x.kind=3
  ·obtain ⟨a0,g1,rfl⟩:=z98 h (beq_iff_eq.2 k3)
   obtain ⟨a0',g1',rfl⟩:=z98 h' (beq_iff_eq.2 (hk.trans k3))
   rw [g1] at g1';cases g1'
   rw [e,e',hop];exact ⟨rfl,_,_,_,_,U,U'⟩
  by_cases k4:x.kind=4
  ·obtain ⟨a0,a1,g1,g2,rfl⟩:=z99 h (beq_iff_eq.2 k4)
   obtain ⟨a0',a1',g1',g2',rfl⟩:=z99 h' (beq_iff_eq.2 (hk.trans k4))
   rw [g1] at g1';cases g1'
   rw [g2] at g2';cases g2'
   rw [e,e',hop]
   refine ⟨rfl,?_⟩
   cases (mTwo x.op a0 a1).2 with
   | true=>exact ⟨_,_,_,_,U,U'⟩
   | false=>exact ⟨s.ins,s.ar,2,s.out,rfl,by show ({ bmp s' with st:=2 }:Rs)=_;rw [U'];rfl⟩
  have cell:∀ (k n:Int) (q q':Bool × Rs),z8f (bmp s) k n=some q->z8f (bmp s') k n=some q'->q'.1=q.1/\((q.1=false->q.2=upd s s.ins s.ar 3 s.out/\q'.2=upd s' s.ins s.ar 3 s.out)):=by
    intro k n q q' g g'
    rw [U'] at g'
    unfold z8f at g g'
    have S:({ upd s' s.ins s.ar s.st s.out with st:=3 }:Rs)=upd s' s.ins s.ar 3 s.out:=rfl
    split at g
    ·rename_i c1
     rw [if_pos c1] at g'
     cases g;cases g'
     exact ⟨rfl,fun _=>⟨rfl,S⟩⟩
    rename_i c1
    rw [if_neg c1] at g'
    split at g
    ·rename_i c2
     rw [if_pos c2] at g'
     obtain ⟨row,r1,r2⟩:=Option.bind_eq_some_iff.1 g
     obtain ⟨row',r1',r2'⟩:=Option.bind_eq_some_iff.1 g'
     have:s.ar[k.toNat]? = some row:=r1
     have h2:s.ar[k.toNat]? = some row':=r1'
     rw [this] at h2;cases h2
     split at r2
     ·rename_i c3
      rw [if_pos c3] at r2'
      cases r2;cases r2'
      exact ⟨rfl,fun _=>⟨rfl,S⟩⟩
     rename_i c3
     rw [if_neg c3] at r2'
     cases r2;cases r2'
     exact ⟨rfl,fun h=>by cases h⟩
    cases g
  by_cases k5:x.kind=5
  ·obtain ⟨a0,b,t,g1,g2,g3⟩:=z74 h k5
   obtain ⟨a0',b',t',g1',g2',g3'⟩:=z74 h' (hk.trans k5)
   rw [g1] at g1';cases g1'
   rw [e] at g2 g3
   rw [e'] at g2' g3'
   rw [hA,hnm] at g2' g3'
   obtain ⟨c1,c2⟩:=cell _ _ _ _ g2 g2'
   have c1:b'=b:=c1
   subst c1
   rcases g3 with ⟨rfl,rfl⟩ | ⟨rfl,row,y,h4,h5,rfl⟩
   ·rcases g3' with ⟨_,rfl⟩ | ⟨h0,_⟩
    ·obtain ⟨c3,c4⟩:=c2 rfl
     exact ⟨rfl,_,_,_,_,c3,c4⟩
    cases h0
   rcases g3' with ⟨h0,_⟩ | ⟨_,row',y',h4',h5',rfl⟩
   ·cases h0
   rw [U'] at h4'
   have e1:s.ar[(z0e x.name u.arrays 0).toNat]? = some row:=h4
   have e2:s.ar[(z0e x.name u.arrays 0).toNat]? = some row':=h4'
   rw [e1] at e2;cases e2
   rw [h5] at h5';cases h5'
   exact ⟨rfl,_,_,_,_,U,U'⟩
  by_cases k6:x.kind=6
  ·obtain ⟨a0,b,t,g1,g2,g3⟩:=z65 h k6
   obtain ⟨a0',b',t',g1',g2',g3'⟩:=z65 h' (hk.trans k6)
   rw [g1] at g1';cases g1'
   rw [e] at g2 g3
   rw [e'] at g2' g3'
   rw [hA,hnm] at g2' g3'
   obtain ⟨c1,c2⟩:=cell _ _ _ _ g2 g2'
   have c1:b'=b:=c1
   subst c1
   rcases g3 with ⟨rfl,rfl⟩ | ⟨rfl,row,y,h4,h5,rfl⟩
   ·rcases g3' with ⟨_,rfl⟩ | ⟨h0,_⟩
    ·obtain ⟨c3,c4⟩:=c2 rfl
     exact ⟨rfl,_,_,_,_,c3,c4⟩
    cases h0
   rcases g3' with ⟨h0,_⟩ | ⟨_,row',y',h4',h5',rfl⟩
   ·cases h0
   rw [U'] at h4'
   have e1:s.ar[(z0e x.name u.arrays 0).toNat]? = some row:=h4
   have e2:s.ar[(z0e x.name u.arrays 0).toNat]? = some row':=h4'
   rw [e1] at e2;cases e2
   rw [h5] at h5';cases h5'
   refine ⟨rfl,s.ins,s.ar.set (z0e x.name u.arrays 0).toNat (row.set a0.toNat y),s.st,s.out,rfl,?_⟩
   rw [U'];rfl
  by_cases k9:x.kind=9
  ·obtain ⟨a0,g1,_,rfl⟩:=z75 h (beq_iff_eq.2 k9)
   obtain ⟨a0',g1',_,rfl⟩:=z75 h' (beq_iff_eq.2 (hk.trans k9))
   rw [g1] at g1';cases g1'
   rw [e,e',U',i3]
   exact ⟨rfl,s.ins,s.ar,s.st,s.out++[a0],rfl,rfl⟩
  by_cases k8:x.kind=8
  ·have R1:=z8j h (beq_iff_eq.2 k8)
   have R2:=z8j h' (beq_iff_eq.2 (hk.trans k8))
   rw [e] at R1
   rw [e',U',i1] at R2
   rcases R1 with ⟨c1,rfl⟩ | ⟨y,z,c1,rfl⟩
   ·rcases R2 with ⟨c2,rfl⟩ | ⟨y',z',c2,rfl⟩
    ·exact ⟨rfl,s.ins,s.ar,4,s.out,rfl,rfl⟩
    rw [c1] at c2;cases c2
   rcases R2 with ⟨c2,rfl⟩ | ⟨y',z',c2,rfl⟩
   ·rw [c1] at c2;cases c2
   rw [c1] at c2;cases c2
   exact ⟨rfl,z,s.ar,s.st,s.out,rfl,rfl⟩
  obtain rfl:=z8i h (ne k3) (ne k4) (ne k5) (ne k6) (ne h7) (ne k9) (ne k8)
  obtain rfl:=z8i h' (ne' k3) (ne' k4) (ne' k5) (ne' k6) (ne' h7) (ne' k9) (ne' k8)
  rw [e,e'];exact ⟨rfl,_,_,_,_,U,U'⟩
end
end
section
def HCall (u v:Un) (D:Nat) (B:Int) (m:Bool) (N:Nat):Prop:=∀ e e' k p s s' q q',e<D->z3r u e k p s=some q->z3r v e' k p s'=some q'->Oks B s->Oks B s'->RelR m N 0 (N+1) 0 s s'->RC m N q q'
inductive RN (m:Bool) (N:Nat) (J:VR) (F:Int->Prop) (E:ER) (r r':Rres):Prop
  | go:r.1.1=0->r'.1.1=0->RelR m N 0 (N+1) 0 r.2.2 r'.2.2->J r.2.1 r'.2.1->RN m N J F E r r'
  | fin:r.1.1≠0->r'.1.1=r.1.1->F r.1.1->RelR m N 0 (N+1) 0 r.2.2 r'.2.2->E r.1.1 r.1.2 r'.1.2 r.2.1 r'.2.1->RN m N J F E r r'
  | halt:Halt m r.2.2 r'.2.2->RN m N J F E r r'
  | cut:Cut m r.2.2 r'.2.2->RN m N J F E r r'
theorem z60 {s:Rs} (h:s.spent=true):z0z s=true:=by unfold z0z;rw [h];rfl
section
variable {u v:Un} {D:Nat} {B:Int} {m:Bool} {N:Nat}
theorem RelR.weak {k w c k2 w2 c2:Nat} {s s':Rs} (h:RelR m N k w c s s') (hk:k<=k2) (hw:w2<=w) (hc:c<=c2):RelR m N k2 w2 c2 s s':=⟨h.al,h.g.weak hk hw,by have:=h.co;omega⟩
theorem RelR.dec {k w c:Nat} {s s':Rs} (h:RelR m N k w c s s') (hw:1<=w):RelR m N k (N+1) c (dec s) (dec s'):=⟨⟨h.al.l,h.al.l',h.al.ins,h.al.ar,h.al.out,h.al.code⟩,h.g.step hw,h.co⟩
theorem sum_sim (hB:B<=4611686018427387903) (hA:v.arrays=u.arrays) (hP:∀ name,z04 name v.flows 0=z04 name u.flows 0) (HC:HCall u v D B m N) {d d':Nat} (hd:d<=D) {x x':Nd} {p:List Int} {s s':Rs} {q q':Int × Rs}
    (hk:x'.kind=x.kind) (hop:x'.op=x.op) (hnm:x'.name=x.name) (h:mSum u d x p s=some q) (h':mSum v d' x' p s'=some q') (ho:Oks B s) (ho':Oks B s') (ho1:s.cost+s.fuel+1<=B) (ho1':s'.cost+s'.fuel+1<=B)
    (hr:RelR m N 0 (N+1) 0 s s'):RC m N q q':=by
  by_cases k7:x.kind=7
  ·obtain ⟨d,rfl⟩:=z6o h
   obtain ⟨d',rfl⟩:=z6o h'
   have g:=z8h h (beq_iff_eq.2 k7)
   have g':=z8h h' (beq_iff_eq.2 (hk.trans k7))
   rw [zj0 hB ho] at g
   rw [zj0 hB ho',hnm,hP] at g'
   have hb:∀ {s:Rs},Oks B s->s.cost+s.fuel+1<=B->Oks B (bmp s):=fun {s} ho ho1=>⟨ho.1,by have:=ho.2.1;show 0<=s.cost+1;omega,by show s.cost+1+s.fuel<=B;omega⟩
   refine HC _ _ _ _ _ _ _ _ oM0 g g' (hb ho ho1) (hb ho' ho1') ⟨⟨hr.al.l,hr.al.l',hr.al.ins,hr.al.ar,hr.al.out,hr.al.code⟩,hr.g,?_⟩
   have:=hr.co
   show s'.cost+1<=s.cost+1+(0:Nat);omega
  obtain ⟨h1,ins,ar,st,out,h2,h3⟩:=yj0 hk hop hnm k7 hA hB ho ho' hr.al h h'
  have hco:q'.2.cost<=q.2.cost:=by rw [h2,h3];have:=hr.co;show s'.cost+1<=s.cost+1;omega
  by_cases hst:st=0
  ·subst hst
   refine .ok h1 ⟨?_,?_,by simpa using hco⟩
   ·rw [h2,h3];exact ⟨⟨hr.al.l.1,rfl⟩,⟨hr.al.l'.1,rfl⟩,rfl,rfl,rfl,hr.al.code⟩
   rw [h2,h3];exact hr.g
  refine .halt ⟨by rw [h2];exact hst,by rw [h2,h3];rfl,by rw [h2];exact hr.al.l.1,by rw [h3];exact hr.al.l'.1,by rw [h2,h3];rfl,by rw [h2,h3];exact hr.al.code,hco,fun hm=>?_⟩
  have:=hr.g
  unfold G at this
  rw [if_pos hm] at this
  rw [h2,h3];show s.fuel<=s'.fuel;simpa using this
theorem ze4 {l:List Nd} {K:List KF} {r1 r:Rres} (h:KNext u D l K r1 r) (ho:z0z r1.2.2=true):r=r1:=by
  rcases h with ⟨_,h⟩ | ⟨h,_⟩ | ⟨h,_⟩
  ·exact h
  ·rw [z0t h] at ho;cases ho
  rw [z0t h] at ho;cases ho
theorem y07 (hB:B<=4611686018427387903) {D':Nat} {J:VR} {F:Int->Prop} {E:ER} {l l':List Nd} {K:List KF} {r1 r1' r r':Rres} (h:KNext u D l K r1 r) (h':KNext v D' l' [] r1' r') (ho:Oks B r1.2.2) (ho':Oks B r1'.2.2)
    (hR:RN m N J F E r1 r1') (hF:∀ n,F n->K=[]∨n=15) (hN:lsz l+ksz K<=N)
    (ih:∀ (D':Nat) (a b:List Int) (s s':Rs) (r r':Rres),KRun u D l K a s r->KRun v D' l' [] b s' r'->Oks B s->Oks B s'->RelR m N 0 (lsz l+ksz K) 0 s s'->lsz l+ksz K<=N->J a b->RR m N E r r'):RR m N E r r':=by
  cases hR with
  | go e e' hr hJ =>
    rcases h with ⟨h,_⟩ | ⟨_,h,_⟩ | ⟨_,_,h⟩
    ·rw [z0t hr.al.l] at h;cases h
    ·exact absurd e h
    rcases h' with ⟨h',_⟩ | ⟨_,h',_⟩ | ⟨_,_,h'⟩
    ·rw [z0t hr.al.l'] at h';cases h'
    ·exact absurd e' h'
    exact ih _ _ _ _ _ _ _ h h' ho ho' (hr.weak (Nat.le_refl _) oM0 (Nat.le_refl _)) hN hJ
  | fin e e' hf hr hE =>
    rcases h with ⟨h,_⟩ | ⟨_,_,h⟩ | ⟨_,h,_⟩
    ·rw [z0t hr.al.l] at h;cases h
    ·rcases h' with ⟨h',_⟩ | ⟨_,_,h'⟩ | ⟨_,h',_⟩
     ·rw [z0t hr.al.l'] at h';cases h'
     ·obtain rfl:r'=r1':=h'
      have hr1:r=r1:=by
        rcases hF _ hf with rfl | k15
        ·exact h
        cases K with
        | nil=>exact h
        | cons f K=>unfold KFin at h;rw [if_pos k15] at h;exact h
      subst hr1
      exact .ok e' hE hr
     exact absurd (e'.symm.trans h') e
    exact absurd h e
  | halt hh =>
    obtain ⟨o1,o2⟩:=hh.over
    rw [ze4 h o1,ze4 h' o2]
    exact .halt hh
  | cut hc =>
    refine .cut ?_
    unfold Cut at hc ⊢
    cases m with
    | true =>
      simp only [if_true] at hc ⊢
      rw [ze4 h (z60 hc.1)]
      exact ⟨hc.1,hc.2.1,hc.2.2.trans (h'.out hB ho')⟩
    | false =>
      simp only [Bool.false_eq_true,if_false] at hc ⊢
      rw [ze4 h' (z60 hc.1)]
      exact ⟨hc.1,hc.2.1,hc.2.2.trans (h.out hB ho)⟩
theorem y2j (hB:B<=4611686018427387903) {d:Nat} {x:Nd} {r1 r:Rres} (ho:Oks B r1.2.2)
    (h:(if z0z r1.2.2||r1.1.1==15 then some r1 else if r1.1.1==14 then (mSet r1.2.1 x.outs r1.1.2).map fun v=>((0,[]),v,r1.2.2) else z36 u d x r1.2.1 r1.1.2 r1.2.2)=some r):r1.2.2.out <+: r.2.2.out/\(z0z r1.2.2=true->r=r1):=by
  split at h
  ·cases h;exact ⟨List.prefix_refl _,fun _=>rfl⟩
  rename_i hn
  refine ⟨?_,fun ho=>absurd (by rw [ho];rfl) hn⟩
  split at h
  ·obtain ⟨v3,_,rfl⟩:=Option.map_eq_some_iff.1 h
   exact List.prefix_refl _
  exact (zc9 hB h ho).out
theorem y61 (hB:B<=4611686018427387903) {k c:Nat} {I2 J:VR} {E E2:ER} {x x':Nd} {q q':List Nd} (hq:x.kids=[q]) (hq':x'.kids=[q']) (hN:lsz q<=N)
    (ih:∀ (D':Nat) (a b:List Int) (s s':Rs) (r r':Rres),KRun u D q [] a s r->KRun v D' q' [] b s' r'->Oks B s->Oks B s'->RelR m N k (lsz q+ksz []) c s s'->lsz q+ksz []<=N->I2 a b->RR m N E2 r r')
    (hE:∀ n p p' a b,E2 n p p' a b->(n=15/\E 15 p p' a b)∨(n=14/\∀ a2 b2,mSet a x.outs p=some a2->mSet b x'.outs p'=some b2->J a2 b2)∨(n=13/\∀ a2 b2,mSet a x.params p=some a2->mSet b x'.params p'=some b2->I2 a2 b2)) :
    ∀ (d d':Nat) (a b p p':List Int) (s s':Rs) (r r':Rres),d<=D->z36 u d x a p s=some r->z36 v d' x' b p' s'=some r'->Oks B s->Oks B s'->RelR m N k (lsz q) c s s' ->
      (∀ a2 b2,mSet a x.params p=some a2->mSet b x'.params p'=some b2->I2 a2 b2)->RN m N J (fun n=>n=15) E r r'
  | 0,_,_,_,_,_,_,_,_,_,_,h,_,_,_,_,_=>by simp [z36] at h
  | d+1,d',a,b,p,p',s,s',r,r',hd,h,h',ho,ho',hr,hI=>by
    obtain ⟨d1,v2,q2,r1,e,g1,g2,g3,g4⟩:=z4k h
    obtain ⟨d1',v2',q2',r1',e',g1',g2',g3',g4'⟩:=z4k h'
    obtain rfl:d1=d:=by omega
    rw [hq] at g2
    rw [hq'] at g2'
    obtain rfl:=Option.some.inj g2
    obtain rfl:=Option.some.inj g2'
    have R:=ih d1' v2 v2' s s' r1 r1' ⟨d1,r1,by omega,g3,by split<;>rfl⟩ ⟨d1',r1',Nat.le_refl _,g3',by split<;>rfl⟩ ho ho' hr hN (hI _ _ g1 g1')
    have o1:=(z6m hB g3 ho).ok
    have o1':=(z6m hB g3' ho').ok
    have W:=y2j hB o1 g4
    have W':=y2j hB o1' g4'
    cases R with
    | halt hh =>
      obtain ⟨t1,t2⟩:=hh.over
      rw [W.2 t1,W'.2 t2]
      exact .halt hh
    | cut hc =>
      refine .cut ?_
      unfold Cut at hc ⊢
      cases m with
      | true =>
        simp only [if_true] at hc ⊢
        rw [W.2 (z60 hc.1)]
        exact ⟨hc.1,hc.2.1,hc.2.2.trans W'.1⟩
      | false =>
        simp only [Bool.false_eq_true,if_false] at hc ⊢
        rw [W'.2 (z60 hc.1)]
        exact ⟨hc.1,hc.2.1,hc.2.2.trans W.1⟩
    | ok ek eE hr2 =>
      rw [z0t hr2.al.l] at g4
      rw [z0t hr2.al.l',ek] at g4'
      obtain ⟨⟨n,pp⟩,va,sa⟩:=r1
      obtain ⟨⟨n',pp'⟩,vb,sb⟩:=r1'
      obtain rfl:n'=n:=ek
      rcases hE _ _ _ _ _ eE with ⟨rfl,h15⟩ | ⟨rfl,h14⟩ | ⟨rfl,h13⟩
      ·cases g4;cases g4'
       exact .fin (show (15:Int)≠0 by decide) rfl rfl hr2 h15
      ·obtain ⟨w,g5,rfl⟩:=Option.map_eq_some_iff.1 g4
       obtain ⟨w',g5',rfl⟩:=Option.map_eq_some_iff.1 g4'
       exact .go rfl rfl hr2 (h14 _ _ g5 g5')
      exact y61 hB hq hq' hN ih hE d1 d1' va vb pp pp' sa sb r r' oM0 g4 g4' o1 o1' (hr2.weak (Nat.zero_le _) oM0 (Nat.zero_le _)) h13
end
end
section
section
variable {u v:Un} {D:Nat} {B:Int} {m:Bool} {N:Nat}
theorem z8m (x:Nd):1<=nsz x:=by rw [zw5];omega
theorem yh7 {x:Nd} {q:Int × Rs} {a:List Int} {r1:Rres} (hl:Live q.2)
    (h:(if !z0z q.2&&decide (0<x.outs.length) then (x.outs[0]?).bind fun o=>(setV a o q.1).map fun v'=>((0,[]),v',q.2) else some ((0,[]),a,q.2))=some r1):∃ a2,setO x.outs a q.1 a2/\r1=((0,[]),a2,q.2):=by
  rw [z0t hl] at h
  cases ho:x.outs with
  | nil=>rw [ho] at h;cases h;exact ⟨a,rfl,rfl⟩
  | cons o os =>
    rw [ho] at h
    simp only [Bool.not_false,Bool.true_and,List.length_cons,Nat.zero_lt_succ,decide_true,if_true,List.getElem?_cons_zero,Option.bind_some,Option.map_eq_some_iff] at h
    obtain ⟨a2,h1,rfl⟩:=h
    exact ⟨a2,h1,rfl⟩
theorem y28 {x:Nd} {q:Int × Rs} {a:List Int} {r1:Rres}
    (h:(if !z0z q.2&&decide (0<x.outs.length) then (x.outs[0]?).bind fun o=>(setV a o q.1).map fun v'=>((0,[]),v',q.2) else some ((0,[]),a,q.2))=some r1):r1.2.2=q.2:=by
  split at h
  ·simp only [Option.bind_eq_some_iff,Option.map_eq_some_iff] at h
   obtain ⟨o,_,v',_,rfl⟩:=h
   rfl
  cases h;rfl
theorem sound (hB:B<=4611686018427387903) (hA:v.arrays=u.arrays) (hP:∀ name,z04 name v.flows 0=z04 name u.flows 0) (HC:HCall u v D B m N)
    {k c:Nat} {I:VR} {l:List Nd} {K:List KF} {l':List Nd} {E:ER} (h:LRel k c I l K l' E) :
    ∀ (D':Nat) (a b:List Int) (s s':Rs) (r r':Rres),KRun u D l K a s r->KRun v D' l' [] b s' r'->Oks B s->Oks B s'->RelR m N k (lsz l+ksz K) c s s'->lsz l+ksz K<=N->I a b->RR m N E r r':=by
  induction h with
  | dead hd=>intro D' a b s s' r r' h h' ho ho' hr hN hI;exact absurd hI (hd a b)
  | weak hw _ ih=>intro D' a b s s' r r' h h' ho ho' hr hN hI;exact ih D' a b s s' r r' h h' ho ho' hr hN (hw a b hI)
  | @both k c I J x x' l K l' E hx hx' hcc hJ hL ih =>
    intro D' a b s s' r r' h h' ho ho' hr hN hI
    have hs:=z8m x
    have ez:lsz (x::l)=nsz x+lsz l:=rfl
    rcases y1u hB hx h ho hr.al.l with ⟨hf,e⟩ | ⟨hf,a2,ha,hk⟩
    ·exact zu3 hr oM0 hf ho'.1 (h'.out hB ho') e
    rcases y1u hB hx' h' ho' hr.al.l' with ⟨hf',e'⟩ | ⟨hf',b2,hb,hk'⟩
    ·exact y8u hB (LRel.both hx hx' hcc hJ hL) (List.cons_ne_nil _ _) h ho hr hf' e'
    have h2:=hr.dec oM0
    refine ih D' a2 b2 _ _ r r' hk hk' (zj7 ho hf) (zj7 ho' hf') ⟨⟨h2.al.l,h2.al.l',h2.al.ins,h2.al.ar,h2.al.out,h2.al.code⟩,h2.g.weak (Nat.le_refl _) oM0,?_⟩ oM0 (hJ _ _ _ _ hI ha hb)
    have:=hr.co
    show s'.cost+(hc x':Int)<=s.cost+(hc x:Int)+(c:Int);omega
  | @skip k c I J x l K l' E hx hJ hL ih =>
    intro D' a b s s' r r' h h' ho ho' hr hN hI
    have hs:=z8m x
    have ez:lsz (x::l)=nsz x+lsz l:=rfl
    rcases y1u hB hx h ho hr.al.l with ⟨hf,e⟩ | ⟨hf,a2,ha,hk⟩
    ·exact zu3 hr oM0 hf ho'.1 (h'.out hB ho') e
    refine ih D' a2 b _ _ r r' hk h' (zj7 ho hf) ho' ⟨⟨hr.al.l,hr.al.l',hr.al.ins,hr.al.ar,hr.al.out,hr.al.code⟩,(hr.g.weak (Nat.le_refl _) (w2:=lsz l+ksz K+1) oM0).left,?_⟩ oM0 (hJ _ _ _ hI ha)
    have:=hr.co
    show s'.cost<=s.cost+(hc x:Int)+(c:Int);omega
  | @paid k c I J x l K l' E hx hJ hne hL ih =>
    intro D' a b s s' r r' h h' ho ho' hr hN hI
    have hs:=z8m x
    have ez:lsz (x::l)=nsz x+lsz l:=rfl
    rcases y1u hB hx h ho hr.al.l with ⟨hf,e⟩ | ⟨hf,a2,ha,hk⟩
    ·exact zu3 hr oM0 hf ho'.1 (h'.out hB ho') e
    refine ih D' a2 b _ _ r r' hk h' (zj7 ho hf) ho' ⟨⟨hr.al.l,hr.al.l',hr.al.ins,hr.al.ar,hr.al.out,hr.al.code⟩,(hr.g.weak (Nat.le_refl _) (w2:=lsz l+ksz K+1) oM0).pay,?_⟩ oM0 (hJ _ _ _ hI ha)
    have:=hr.co
    show s'.cost<=s.cost+(hc x:Int)+(c:Int);omega
  | @add k c I J x' l K l' E hx' hne hJ hL ih =>
    intro D' a b s s' r r' h h' ho ho' hr hN hI
    rcases y1u hB hx' h' ho' hr.al.l' with ⟨hf',e'⟩ | ⟨hf',b2,hb,hk'⟩
    ·exact y8u hB (LRel.add hx' hne hJ hL) hne h ho hr hf' e'
    refine ih D' a b2 _ _ r r' h hk' ho (zj7 ho' hf') ⟨⟨hr.al.l,hr.al.l',hr.al.ins,hr.al.ar,hr.al.out,hr.al.code⟩,hr.g.right,?_⟩ hN (hJ _ _ _ hI hb)
    have:=hr.co
    show s'.cost+(hc x':Int)<=s.cost+((c+hc x':Nat):Int);omega
  | @eff I J x x' l K l' E hk hkk hop hnm hlen hp hJ hL ih =>
    intro D' a b s s' r r' h h' ho ho' hr hN hI
    have hs:=z8m x
    have ez:lsz (x::l)=nsz x+lsz l:=rfl
    rcases zk6 hB h ho hr.al.l with ⟨hf,e⟩ | ⟨hf,d1,p,r1,hd,g1,g2,g3⟩
    ·exact zu3 hr oM0 hf ho'.1 (h'.out hB ho') e
    rcases zk6 hB h' ho' hr.al.l' with ⟨hf',e'⟩ | ⟨hf',d1',p',r1',hd',g1',g2',g3'⟩
    ·exact y8u hB (LRel.eff hk hkk hop hnm hlen hp hJ hL) (List.cons_ne_nil _ _) h ho hr hf' e'
    obtain ⟨k1,k2,k10,k11,k12,k13,k14,k15⟩:=hk
    have ne:∀ {i:Int},x.kind≠i->(x.kind==i)=false:=fun h=>beq_eq_false_iff_ne.2 h
    have ne':∀ {i:Int},x.kind≠i->(x'.kind==i)=false:=fun h=>beq_eq_false_iff_ne.2 (by rw [hkk];exact h)
    obtain ⟨q,t1,t2⟩:=z73 g2 (by rw [ne k1,ne k2];rfl) (by rw [ne k12,ne k13,ne k14,ne k15];rfl) (ne k10) (ne k11)
    obtain ⟨q',t1',t2'⟩:=z73 g2' (by rw [ne' k1,ne' k2];rfl) (by rw [ne' k12,ne' k13,ne' k14,ne' k15];rfl) (ne' k10) (ne' k11)
    have hpp:=hp _ _ _ _ hI g1 g1'
    subst hpp
    have h2:=hr.dec oM0
    obtain ⟨o1,o2⟩:=z44 ho hf
    obtain ⟨o1',o2'⟩:=z44 ho' hf'
    have e1:r1.2.2=q.2:=y28 t2
    have e1':r1'.2.2=q'.2:=y28 t2'
    have R:RN m N J (fun n=>K=[]∨n=15) E r1 r1':=by
      cases sum_sim hB hA hP HC oM0 hkk hop hnm t1 t1' o1 o1' o2 o2' h2 with
      | ok hv hrel =>
        obtain ⟨a2,s1,rfl⟩:=yh7 hrel.al.l t2
        obtain ⟨b2,s2,rfl⟩:=yh7 hrel.al.l' t2'
        rw [hv] at s2
        exact .go rfl rfl hrel (hJ _ _ _ _ _ hI s1 s2)
      | halt hh=>exact .halt (by rw [e1,e1'];exact hh)
      | cut hh=>exact .cut (by rw [e1,e1'];exact hh)
    exact y07 hB g3 g3' (by rw [e1];exact (y3p hB t1 o1 o2).ok) (by rw [e1'];exact (y3p hB t1' o1' o2').ok) R (fun _ h=>h) oM0 ih
  | @ite I J E2 x x' q0 q1 q0' q1' l K l' E hk hk' hq hq' hp hL0 hL1 hE hL ih0 ih1 ih =>
    intro D' a b s s' r r' h h' ho ho' hr hN hI
    have hs:=z8m x
    have ez:lsz (x::l)=nsz x+lsz l:=rfl
    have ezx:nsz x=1+(lsz q0+(lsz q1+0)):=by rw [zw5,hq];rfl
    rcases zk6 hB h ho hr.al.l with ⟨hf,e⟩ | ⟨hf,d1,p,r1,hd,g1,g2,g3⟩
    ·exact zu3 hr oM0 hf ho'.1 (h'.out hB ho') e
    rcases zk6 hB h' ho' hr.al.l' with ⟨hf',e'⟩ | ⟨hf',d1',p',r1',hd',g1',g2',g3'⟩
    ·exact y8u hB (LRel.ite hk hk' hq hq' hp hL0 hL1 hE hL) (List.cons_ne_nil _ _) h ho hr hf' e'
    have hpp:=hp _ _ _ _ hI g1 g1'
    obtain ⟨a0,q,r2,t1,t2,t3,t4⟩:=zd8 g2 (by rw [hk];rfl)
    obtain ⟨a0',q',r2',t1',t2',t3',t4'⟩:=zd8 g2' (by rw [hk'];rfl)
    rw [t1,t1'] at hpp
    obtain rfl:=Option.some.inj hpp
    have h2:=hr.dec oM0
    obtain ⟨o1,o2⟩:=z44 ho hf
    obtain ⟨o1',o2'⟩:=z44 ho' hf'
    have R2:RR m N E2 r2 r2':=by
      rw [hq] at t2
      rw [hq'] at t2'
      by_cases c0:(a0' != 0)=true
      ·rw [if_pos c0] at t2 t2'
       obtain rfl:q0=q:=by simpa using t2
       obtain rfl:q0'=q':=by simpa using t2'
       exact ih0 d1' a b _ _ r2 r2' ⟨d1,r2,by omega,t3,by split<;>rfl⟩ ⟨d1',r2',Nat.le_refl _,t3',by split<;>rfl⟩ o1 o1' (h2.weak (Nat.le_refl _) (by simp [ksz];omega) (Nat.le_refl _)) (by simp [ksz];omega) hI
      rw [if_neg c0] at t2 t2'
      obtain rfl:q1=q:=by simpa using t2
      obtain rfl:q1'=q':=by simpa using t2'
      exact ih1 d1' a b _ _ r2 r2' ⟨d1,r2,by omega,t3,by split<;>rfl⟩ ⟨d1',r2',Nat.le_refl _,t3',by split<;>rfl⟩ o1 o1' (h2.weak (Nat.le_refl _) (by simp [ksz];omega) (Nat.le_refl _)) (by simp [ksz];omega) hI
    have x1:=(z6m hB t3 o1).ok
    have x1':=(z6m hB t3' o1').ok
    have SS:∀ {x:Nd} {r2 r1:Rres},(if !z0z r2.2.2&&r2.1.1==12 then (mSet r2.2.1 x.outs r2.1.2).map fun v'=>(((0,[]),v',r2.2.2):Rres) else some r2)=some r1->r1.2.2=r2.2.2:=by
      intro x r2 r1 h
      split at h
      ·obtain ⟨w,_,rfl⟩:=Option.map_eq_some_iff.1 h;rfl
      cases h;rfl
    have e1:=SS t4
    have e1':=SS t4'
    have R:RN m N J (fun n=>K=[]∨n=15) E r1 r1':=by
      cases R2 with
      | halt hh=>exact .halt (by rw [e1,e1'];exact hh)
      | cut hh=>exact .cut (by rw [e1,e1'];exact hh)
      | ok ek eE hr2 =>
        rw [z0t hr2.al.l] at t4
        rw [z0t hr2.al.l',ek] at t4'
        obtain ⟨⟨n,pp⟩,va,sa⟩:=r2
        obtain ⟨⟨n',pp'⟩,vb,sb⟩:=r2'
        obtain rfl:n'=n:=ek
        rcases hE _ _ _ _ _ eE with ⟨rfl,h12⟩ | ⟨n12,n0,hKn,hEE⟩
        ·obtain ⟨w,g5,rfl⟩:=Option.map_eq_some_iff.1 t4
         obtain ⟨w',g5',rfl⟩:=Option.map_eq_some_iff.1 t4'
         exact .go rfl rfl hr2 (h12 _ _ g5 g5')
        have c:(!false&&n'==12)=false:=by simpa using n12
        simp only [c] at t4 t4'
        cases t4;cases t4'
        exact .fin n0 rfl hKn hr2 hEE
    exact y07 hB g3 g3' (by rw [e1];exact x1) (by rw [e1'];exact x1') R (fun _ h=>h) oM0 ih
  | @loop k c I I2 J E2 x x' q q' l K l' E hk hk' hq hq' hI2 hL2 hE hL ih2 ih =>
    intro D' a b s s' r r' h h' ho ho' hr hN hI
    have hs:=z8m x
    have ez:lsz (x::l)=nsz x+lsz l:=rfl
    have ezx:nsz x=1+(lsz q+0):=by rw [zw5,hq];rfl
    rcases zk6 hB h ho hr.al.l with ⟨hf,e⟩ | ⟨hf,d1,p,r1,hd,g1,g2,g3⟩
    ·exact zu3 hr oM0 hf ho'.1 (h'.out hB ho') e
    rcases zk6 hB h' ho' hr.al.l' with ⟨hf',e'⟩ | ⟨hf',d1',p',r1',hd',g1',g2',g3'⟩
    ·exact y8u hB (LRel.loop hk hk' hq hq' hI2 hL2 hE hL) (List.cons_ne_nil _ _) h ho hr hf' e'
    have t:=z5y g2 (by rw [hk];rfl)
    have t':=z5y g2' (by rw [hk'];rfl)
    have h2:=hr.dec oM0
    obtain ⟨o1,_⟩:=z44 ho hf
    obtain ⟨o1',_⟩:=z44 ho' hf'
    have R:=y61 hB hq hq' oM0 ih2 hE d1 d1' a b p p' _ _ r1 r1' oM0 t t' o1 o1' (h2.weak (Nat.le_refl _) oM0 (Nat.le_refl _)) fun a2 b2=>hI2 a b p p' a2 b2 hI g1 g1'
    exact y07 hB g3 g3' (zc9 hB t o1).ok (zc9 hB t' o1').ok R (fun n hn=>.inr hn) oM0 ih
  | @ender I x x' l K l' E h1 h2 hkk hKn hE =>
    intro D' a b s s' r r' h h' ho ho' hr hN hI
    have hs:=z8m x
    have ez:lsz (x::l)=nsz x+lsz l:=rfl
    rcases zg6 hB h1 h2 h ho hr.al.l with ⟨hf,e⟩ | ⟨hf,p,g1,g2⟩
    ·exact zu3 hr oM0 hf ho'.1 (h'.out hB ho') e
    rcases zg6 hB (by rw [hkk];exact h1) (by rw [hkk];exact h2) h' ho' hr.al.l' with ⟨hf',e'⟩ | ⟨hf',p',g1',g2'⟩
    ·exact y8u (l':=x'::l') hB (LRel.ender h1 h2 hkk hKn hE) (List.cons_ne_nil _ _) h ho hr hf' e'
    obtain rfl:r'=((x'.kind,p'),b,dec s'):=g2'
    obtain rfl:r=((x.kind,p),a,dec s):=by
      rcases hKn with rfl | k15
      ·exact g2
      cases K with
      | nil=>exact g2
      | cons f K=>unfold KFin at g2;rw [show (((x.kind,p),a,dec s):Rres).1.1=15 from k15,if_pos rfl] at g2;exact g2
    exact .ok hkk (hE _ _ _ _ hI g1 g1') (hr.dec oM0)
  | @once k c I J x q l K l' E hk hq hJ hL ih =>
    intro D' a b s s' r r' h h' ho ho' hr hN hI
    have ez:lsz (x::l)=nsz x+lsz l:=rfl
    have ezx:nsz x=1+(lsz q+0):=by rw [zw5,hq];rfl
    have ek:ksz (⟨14,x.outs,l⟩::K)=lsz l+ksz K:=rfl
    rcases y2e hB hk hq h ho hr.al.l with ⟨hf,e⟩ | ⟨hf,p,a2,g1,g2,g3⟩
    ·exact zu3 hr oM0 hf ho'.1 (h'.out hB ho') e
    exact ih D' a2 b _ _ r r' g3 h' (z44 ho hf).1 ho' ⟨⟨hr.al.l,hr.al.l',hr.al.ins,hr.al.ar,hr.al.out,hr.al.code⟩,(hr.g.weak (Nat.le_refl _) (w2:=lsz q+(lsz l+ksz K)+1) oM0).left,hr.co⟩ oM0 (hJ _ _ _ _ hI g1 g2)
  | @leave k c I J y l f K l' E hk hk2 hJ hL ih =>
    intro D' a b s s' r r' h h' ho ho' hr hN hI
    have hs:=z8m y
    have ez:lsz (y::l)=nsz y+lsz l:=rfl
    have ek:ksz (f::K)=lsz f.rest+ksz K:=rfl
    rcases zw0 hB hk hk2 h ho hr.al.l with ⟨hf,e⟩ | ⟨hf,p,a2,g1,g2,g3⟩
    ·exact zu3 hr oM0 hf ho'.1 (h'.out hB ho') e
    exact ih D' a2 b _ _ r r' g3 h' (z44 ho hf).1 ho' ⟨⟨hr.al.l,hr.al.l',hr.al.ins,hr.al.ar,hr.al.out,hr.al.code⟩,(hr.g.weak (Nat.le_refl _) (w2:=lsz f.rest+ksz K+1) oM0).left,hr.co⟩ oM0 (hJ _ _ _ _ hI g1 g2)
  | @fork k c I x q0 q1 l K l' E hk hq hL0 hL1 ih0 ih1 =>
    intro D' a b s s' r r' h h' ho ho' hr hN hI
    have ez:lsz (x::l)=nsz x+lsz l:=rfl
    have ezx:nsz x=1+(lsz q0+(lsz q1+0)):=by rw [zw5,hq];rfl
    have ek:ksz (⟨12,x.outs,l⟩::K)=lsz l+ksz K:=rfl
    rcases y1o hB hk hq h ho hr.al.l with ⟨hf,e⟩ | ⟨hf,q,hq',g3⟩
    ·exact zu3 hr oM0 hf ho'.1 (h'.out hB ho') e
    rcases hq' with rfl | rfl
    ·exact ih0 D' a b _ _ r r' g3 h' (z44 ho hf).1 ho' ⟨⟨hr.al.l,hr.al.l',hr.al.ins,hr.al.ar,hr.al.out,hr.al.code⟩,(hr.g.weak (Nat.le_refl _) (w2:=lsz q+(lsz l+ksz K)+1) oM0).left,hr.co⟩ oM0 hI
    exact ih1 D' a b _ _ r r' g3 h' (z44 ho hf).1 ho' ⟨⟨hr.al.l,hr.al.l',hr.al.ins,hr.al.ar,hr.al.out,hr.al.code⟩,(hr.g.weak (Nat.le_refl _) (w2:=lsz q+(lsz l+ksz K)+1) oM0).left,hr.co⟩ oM0 hI
def EF:ER:=fun _ p p' _ _=>p'.headD 0=p.headD 0
def FRel (N:Nat) (f g:Fl):Prop:=g.types.length=f.types.length/\lsz f.body<=N/\LRel 0 0 (fun a b=>a=b/\a.length=f.types.length) f.body [] g.body EF
theorem y1e (hB:B<=4611686018427387903) (hA:v.arrays=u.arrays) (hP:∀ name,z04 name v.flows 0=z04 name u.flows 0)
    (hF:∀ (i:Nat) f g,u.flows[i]? = some f->v.flows[i]? = some g->FRel N f g):∀ D,HCall u v D B m N
  | 0=>fun e _ _ _ _ _ _ _ h=>absurd h (Nat.not_lt_zero e)
  | D+1=>by
    intro e e' k p s s' q q' he h h' ho ho' hr
    have HC:=y1e hB hA hP hF D
    obtain ⟨d1,f,r1,rfl,hk,hf,hl1,_,h1,rfl⟩:=z5x h
    obtain ⟨d1',g,r1',rfl,_,hg,hl1',_,h1',rfl⟩:=z5x h'
    obtain ⟨ht,hsz,hL⟩:=hF _ _ _ hf hg
    have R:=sound hB hA hP HC hL d1' _ _ s s' r1 r1' ⟨d1,r1,by omega,h1,by split<;>rfl⟩ ⟨d1',r1',Nat.le_refl _,h1',by split<;>rfl⟩ ho ho' (hr.weak (Nat.le_refl _) (by simp [ksz];omega) (Nat.le_refl _)) (by simp [ksz];omega) ⟨by rw [ht],by simp;omega⟩
    cases R with
    | ok ek eE hr2 =>
      refine .ok ?_ hr2
      rw [z0t hr2.al.l,z0t hr2.al.l']
      exact eE
    | halt hh=>exact .halt hh
    | cut hc=>exact .cut hc
end
end
section
variable {P:Program} {c:Cx} {fr:Fr} {hp:Hp} {Q:Exit->Fr->Heap'->Prop}
def ISub (x y:IV):Prop:=∀ F ρ σ w v,RepI F ρ σ w x v->RepI F ρ σ w y v
theorem ISub.refl (x:IV):ISub x x:=fun _ _ _ _ _ h=>h
theorem ISub.pv {p q:PV} (h:PSub p q):ISub (.pv p) (.pv q):=fun _ _ _ _ _ hv=>z90 h hv
def ISubs:List IV->List IV->Prop
  | [],[]=>True
  | x::xs,y::ys=>ISub x y/\ISubs xs ys
  | _,_=>False
theorem ISubs.length:∀ {xs ys:List IV},ISubs xs ys->xs.length=ys.length
  | [],[],_=>rfl
  | _::_,_::_,h=>congrArg (· + 1) (ISubs.length h.2)
theorem ISubs.at:∀ {xs ys:List IV},ISubs xs ys->∀ {j:Nat} {y:IV},ys[j]? = some y->∃ x,xs[j]? = some x/\ISub x y
  | [],[],_,_,_,hj=>by simp at hj
  | x::xs,y::ys,h,0,y',hj=>by simp at hj;subst hj;exact ⟨x,rfl,h.1⟩
  | x::xs,y::ys,h,j+1,y',hj=>by simpa using ISubs.at h.2 (by simpa using hj)
theorem All.subBox {ρ:Loc} {w:World} {a:Act} {k:Nat} {cs cs':List IV} (h:All c ρ (look hp) w fr a) (hk:look hp k=some (.box cs)) (hs:ISubs cs cs') (hR:¬ c.R k):All c ρ (look ((k,some (.box cs'))::hp)) w fr a:=by
  cases hρ:ρ k with
  | none=>obtain ⟨s,hs⟩:=h.rel.real k _ hk hρ;cases hs
  | some bc =>
    obtain ⟨b,cc⟩:=bc
    obtain ⟨o,ho,hro⟩:=h.rel.obj k b cc hρ
    rw [hk] at ho;cases ho
    refine h.write hρ hk trivial hR rfl rfl rfl rfl (fun _ _=>rfl) fun hI _=>?_
    cases hro with
    | box _ e a' u h1 h2 h3 h4 =>
      refine .box _ e a' u h1 (hs.length ▸ h2) (fun j x hj=>?_) fun j x hj=>?_
      ·obtain ⟨x0,h5,_⟩:=hs.at hj
       exact h3 j x0 h5
      obtain ⟨x0,h5,h6⟩:=hs.at hj
      exact h6 _ _ _ _ _ (hI _ _ (h4 j x0 h5))
theorem Tr.subBox {x:Code} {k:Nat} {cs:List IV} (cs':List IV) (hk:look hp k=some (.box cs)) (hs:ISubs cs cs') (hR:¬ c.R k) (h:Tr P c x fr (look ((k,some (.box cs'))::hp)) Q):Tr P c x fr (look hp) Q :=
  fun _ w a ha=>h _ w a (ha.subBox hk hs hR)
theorem ok_max {R1:Nat->Prop} {o:Oper} {σ:Heap'} {t:TypeId} {x y:Operand} {k:IntKind} {m n:Int} (ho:o.op = .call { callee:=.builtin .max,args:=#[x,y],argTypes:=#[t,t] }) (hx:fr.ev x=some (.pv (.val (.int k m)))) (hy:fr.ev y=some (.pv (.val (.int k n)))) :
    OkV P c R1 o fr σ (.pv (.val (.int k (if m<n then n else m)))):=by
  intro ρ w a h
  refine ⟨.int k (if m<n then n else m),fun w2 _=>?_,z31 _⟩
  simp [execOp,ho,z0v h hx,z0v h hy,resolve,invoke,builtin,Builtin.max_,Builtin.max2]
end
section
def sw (a b k:Nat):Nat:=bif Nat.beq k a then b else bif Nat.beq k b then a else k
theorem sw_sw (a b k:Nat):sw a b (sw a b k)=k:=by
  unfold sw
  by_cases h1:k=a
  ·subst h1
   have e1:Nat.beq k k=true:=Nat.beq_refl k
   simp only [e1,cond_true]
   by_cases h2:b=k
   ·subst h2;simp
   have e2:Nat.beq b k=false:=z25 h2
   have e3:Nat.beq b b=true:=Nat.beq_refl b
   simp [e2,e3]
  have e1:Nat.beq k a=false:=z25 h1
  simp only [e1,cond_false]
  by_cases h2:k=b
  ·subst h2
   simp
  have e2:Nat.beq k b=false:=z25 h2
  simp [e1,e2]
mutual
def IV.ren (p:Nat->Nat):IV->IV
  | .pv x=>.pv x
  | .ptr k off=>.ptr (p k) off
  | .sl k len=>.sl (p k) len
  | .rpt k len off=>.rpt (p k) len off
  | .bs k n=>.bs (p k) n
  | .mp k=>.mp (p k)
  | .agg cs=>.agg (renL p cs)
  | .tup cs=>.tup (renL p cs)
  | .fn f xs ys=>.fn f (renL p xs) (renL p ys)
def renL (p:Nat->Nat):List IV->List IV
  | []=>[]
  | x::r=>x.ren p::renL p r
end
theorem zm2 (p:Nat->Nat):∀ xs:List IV,renL p xs=xs.map (IV.ren p)
  | []=>rfl
  | x::r=>by simp [renL,zm2 p r]
theorem z54 {p:Nat->Nat} {xs:List IV} {j:Nat} {c:IV} (h:(renL p xs)[j]? = some c):∃ x,xs[j]? = some x/\c=x.ren p:=by
  rw [zm2,List.getElem?_map,Option.map_eq_some_iff] at h
  obtain ⟨x,h1,rfl⟩:=h
  exact ⟨x,h1,rfl⟩
theorem z9g (p:Nat->Nat) (xs:List IV):(renL p xs).length=xs.length:=by rw [zm2,List.length_map]
def HO.ren (p:Nat->Nat):HO->HO
  | .box cs=>.box (renL p cs)
  | .row s els=>.row s els
  | .map es=>.map es
def renP (p:Nat->Nat) (l:List (Nat × HO)):List (Nat × HO):=l.map fun x=>(p x.1,x.2.ren p)
section
variable {p:Nat->Nat} (hp:∀ k,p (p k)=k) {F:Nat->Prop} {ρ:Loc} {σ σ':Heap'} {w:World}
include hp
theorem zq3 {b:Nat}:owned F (fun k=>ρ (p k)) b↔owned F ρ b:=by
  constructor
  ·rintro (h | ⟨k,c,h⟩)
   ·exact .inl h
   exact .inr ⟨p k,c,h⟩
  rintro (h | ⟨k,c,h⟩)
  ·exact .inl h
  exact .inr ⟨p k,c,by show ρ (p (p k))=_;rw [hp];exact h⟩
theorem y0i (hσ:∀ k,σ' (p k)=(σ k).map (HO.ren p)) {x:IV} {v:Value} (h:RepI F ρ σ w x v):RepI F (fun k=>ρ (p k)) σ' w (x.ren p) v:=by
  induction h with
  | pv q v h=>exact .pv q v (h.own fun b hb=>(zq3 hp).1 hb)
  | ptr k off v h =>
    refine .ptr _ off v fun cs' h'=>?_
    rw [hσ,Option.map_eq_some_iff] at h'
    obtain ⟨o,h1,h2⟩:=h'
    cases o with
    | box cs=>obtain ⟨b,c,h3,h4⟩:=h cs h1;exact ⟨b,c,by rw [hp];exact h3,h4⟩
    | row=>cases h2
    | map=>cases h2
  | sl k len v h =>
    refine .sl _ len v fun s els h'=>?_
    rw [hσ,Option.map_eq_some_iff] at h'
    obtain ⟨o,h1,h2⟩:=h'
    cases o with
    | row s' els'=>cases h2;rw [hp];exact h _ _ h1
    | box=>cases h2
    | map=>cases h2
  | rpt k len off v h =>
    refine .rpt _ len off v fun s els h'=>?_
    rw [hσ,Option.map_eq_some_iff] at h'
    obtain ⟨o,h1,h2⟩:=h'
    cases o with
    | row s' els'=>cases h2;rw [hp];exact h _ _ h1
    | box=>cases h2
    | map=>cases h2
  | bs k n v h =>
    refine .bs _ n v fun cs' h'=>?_
    rw [hσ,Option.map_eq_some_iff] at h'
    obtain ⟨o,h1,h2⟩:=h'
    cases o with
    | box cs=>obtain ⟨b,c,h3,h4⟩:=h cs h1;exact ⟨b,c,by rw [hp];exact h3,h4⟩
    | row=>cases h2
    | map=>cases h2
  | mp k v h =>
    refine .mp _ v fun es h'=>?_
    rw [hσ,Option.map_eq_some_iff] at h'
    obtain ⟨o,h1,h2⟩:=h'
    cases o with
    | map es'=>cases h2;rw [hp];exact h _ h1
    | row=>cases h2
    | box=>cases h2
  | agg cs vs u hl hv _ ih =>
    refine .agg _ vs u (by rw [z9g];exact hl) (fun j c hj=>?_) fun j c hj=>?_
    ·obtain ⟨x,h1,rfl⟩:=z54 hj;exact hv j x h1
    obtain ⟨x,h1,rfl⟩:=z54 hj;exact ih j x h1
  | tup cs vs u hl hv _ ih =>
    refine .tup _ vs u (by rw [z9g];exact hl) (fun j c hj=>?_) fun j c hj=>?_
    ·obtain ⟨x,h1,rfl⟩:=z54 hj;exact hv j x h1
    obtain ⟨x,h1,rfl⟩:=z54 hj;exact ih j x h1
  | fn f xs ys vs ws u t hl hv _ hl' hv' _ ih ih' =>
    refine .fn f _ _ vs ws u t (by rw [z9g];exact hl) (fun j c hj=>?_) (fun j c hj=>?_) (by rw [z9g];exact hl') (fun j c hj=>?_) fun j c hj=>?_
    ·obtain ⟨x,h1,rfl⟩:=z54 hj;exact hv j x h1
    ·obtain ⟨x,h1,rfl⟩:=z54 hj;exact ih j x h1
    ·obtain ⟨x,h1,rfl⟩:=z54 hj;exact hv' j x h1
    obtain ⟨x,h1,rfl⟩:=z54 hj;exact ih' j x h1
mutual
theorem ye4:∀ x:IV,(x.ren p).ren p=x
  | .pv _=>rfl
  | .ptr k off=>by simp only [IV.ren,hp]
  | .sl k len=>by simp only [IV.ren,hp]
  | .rpt k len off=>by simp only [IV.ren,hp]
  | .bs k n=>by simp only [IV.ren,hp]
  | .mp k=>by simp only [IV.ren,hp]
  | .agg cs=>by simp only [IV.ren,z78 cs]
  | .tup cs=>by simp only [IV.ren,z78 cs]
  | .fn f xs ys=>by simp only [IV.ren,z78 xs,z78 ys]
theorem z78:∀ xs:List IV,renL p (renL p xs)=xs
  | []=>rfl
  | x::r=>by simp only [renL,ye4 x,z78 r]
end
theorem HO.ren_ren (o:HO):(o.ren p).ren p=o:=by cases o<;>simp [HO.ren,z78 hp]
theorem repO_ren (hσ:∀ k,σ' (p k)=(σ k).map (HO.ren p)) {b c:Nat} {o:HO} (h:RepO F ρ σ w b c o):RepO F (fun k=>ρ (p k)) σ' w b c (o.ren p):=by
  cases h with
  | box cs e a u h1 h2 h3 h4 =>
    refine .box _ e a u h1 (by rw [z9g];exact h2) (fun j x hj=>?_) fun j x hj=>?_
    ·obtain ⟨y,h5,rfl⟩:=z54 hj;exact h3 j y h5
    obtain ⟨y,h5,rfl⟩:=z54 hj;exact y0i hp hσ (h4 j y h5)
  | row s els a u h1 h2 h3 h4 h5 h6 h7=>exact .row s els a u h1 h2 h3 h4 h5 h6 fun i el hi j x hj=>(h7 i el hi j x hj).own fun b hb=>(zq3 hp).1 hb
  | map es a t u h1 h2 h3 h4=>exact .map es a t u h1 h2 h3 fun i k q hi=>(h4 i k q hi).own fun b hb=>(zq3 hp).1 hb
theorem y6g (hσ:∀ k,σ' (p k)=(σ k).map (HO.ren p)) (h:RelH F ρ σ w):RelH F (fun k=>ρ (p k)) σ' w where
  inj k k' b c c' h1 h2:=by
    have:=h.inj _ _ _ _ _ h1 h2
    rw [<- hp k,this,hp]
  apart k b c h1:=h.apart _ _ _ h1
  old:=h.old
  obj k b c h1:=by
    obtain ⟨o,h2,h3⟩:=h.obj _ _ _ h1
    refine ⟨o.ren p,?_,repO_ren hp hσ h3⟩
    have:=hσ (p k)
    rw [hp,h2] at this
    exact this
  real k o h1 h2:=by
    have h3:=hσ (p k)
    rw [hp,h1] at h3
    obtain ⟨o',h4,h5⟩:=Option.map_eq_some_iff.1 h3.symm
    obtain ⟨s,rfl⟩:=h.real _ _ h4 h2
    exact ⟨s,h5.symm⟩
end
theorem yk3 {p:Nat->Nat} (hp:∀ k,p (p k)=k) {F R:Nat->Prop} {ρ ρ1:Loc} {σ σ1 τ τ1:Heap'} {w w':World} (hσ:∀ k,τ (p k)=(σ k).map (HO.ren p)) (hσ1:∀ k,τ1 (p k)=(σ1 k).map (HO.ren p)) (t:Trans F R ρ σ w ρ1 σ1 w') :
    Trans F (fun k=>R (p k)) (fun k=>ρ (p k)) τ w (fun k=>ρ1 (p k)) τ1 w' where
  os:=t.os
  tape:=t.tape
  output:=t.output
  size:=t.size
  blk b hb h:=t.blk b hb fun k c hk=>by
    have:=h (p k) c (by rw [hp];exact hk)
    rwa [hp] at this
  own k b c h hb:=t.own _ b c h hb
  box k cs cs' h h':=by
    have e:=hσ (p k);have e':=hσ1 (p k)
    rw [hp,h] at e;rw [hp,h'] at e'
    obtain ⟨o,h1,h2⟩:=Option.map_eq_some_iff.1 e.symm
    obtain ⟨o',h3,h4⟩:=Option.map_eq_some_iff.1 e'.symm
    cases o with
    | box cs0=>cases o' with
      | box cs1=>exact t.box _ _ _ h1 h3
      | row=>cases h4
      | map=>cases h4
    | row=>cases h2
    | map=>cases h2
  map k cs cs' h h':=by
    have e:=hσ (p k);have e':=hσ1 (p k)
    rw [hp,h] at e;rw [hp,h'] at e'
    obtain ⟨o,h1,h2⟩:=Option.map_eq_some_iff.1 e.symm
    obtain ⟨o',h3,h4⟩:=Option.map_eq_some_iff.1 e'.symm
    cases o with
    | map cs0=>cases o' with
      | map cs1=>exact t.map _ _ _ h1 h3
      | row=>cases h4
      | box=>cases h4
    | row=>cases h2
    | box=>cases h2
  row k s s' els els' h h' hl:=by
    have e:=hσ (p k);have e':=hσ1 (p k)
    rw [hp,h] at e;rw [hp,h'] at e'
    obtain ⟨o,h1,h2⟩:=Option.map_eq_some_iff.1 e.symm
    obtain ⟨o',h3,h4⟩:=Option.map_eq_some_iff.1 e'.symm
    cases o with
    | row s0 cs0=>cases o' with
      | row s1 cs1=>cases h2;cases h4;exact t.row _ _ _ _ _ h1 h3 hl
      | map=>cases h4
      | box=>cases h4
    | map=>cases h2
    | box=>cases h2
  grow k s s' els els' h h':=by
    have e:=hσ (p k);have e':=hσ1 (p k)
    rw [hp,h] at e;rw [hp,h'] at e'
    obtain ⟨o,h1,h2⟩:=Option.map_eq_some_iff.1 e.symm
    obtain ⟨o',h3,h4⟩:=Option.map_eq_some_iff.1 e'.symm
    cases o with
    | row s0 cs0=>cases o' with
      | row s1 cs1=>cases h2;cases h4;exact t.grow _ _ _ _ _ h1 h3
      | map=>cases h4
      | box=>cases h4
    | map=>cases h2
    | box=>cases h2
  kindB k cs' h':=by
    have e':=hσ1 (p k);have e:=hσ (p k)
    rw [hp,h'] at e';rw [hp] at e
    obtain ⟨o',h3,h4⟩:=Option.map_eq_some_iff.1 e'.symm
    cases o' with
    | box cs1 =>
      rcases t.kindB _ _ h3 with h5 | ⟨cs,h5⟩
      ·rw [h5] at e;exact .inl e
      rw [h5] at e;exact .inr ⟨_,e⟩
    | row=>cases h4
    | map=>cases h4
  kindM k cs' h':=by
    have e':=hσ1 (p k);have e:=hσ (p k)
    rw [hp,h'] at e';rw [hp] at e
    obtain ⟨o',h3,h4⟩:=Option.map_eq_some_iff.1 e'.symm
    cases o' with
    | map cs1 =>
      rcases t.kindM _ _ h3 with h5 | ⟨cs,h5⟩
      ·rw [h5] at e;exact .inl e
      rw [h5] at e;exact .inr ⟨_,e⟩
    | row=>cases h4
    | box=>cases h4
  kindR k s cs' h':=by
    have e':=hσ1 (p k);have e:=hσ (p k)
    rw [hp,h'] at e';rw [hp] at e
    obtain ⟨o',h3,h4⟩:=Option.map_eq_some_iff.1 e'.symm
    cases o' with
    | row s1 cs1 =>
      cases h4
      rcases t.kindR _ _ _ h3 with h5 | ⟨cs,h5⟩
      ·rw [h5] at e;exact .inl e
      rw [h5] at e;exact .inr ⟨_,e⟩
    | map=>cases h4
    | box=>cases h4
theorem beq_ren {p:Nat->Nat} (hp:∀ k,p (p k)=k) (a k:Nat):Nat.beq (p a) (p k)=Nat.beq a k:=by
  by_cases h:a=k
  ·subst h;simp
  rw [z25 h,z25 fun e=>h (by rw [<- hp a,e,hp])]
theorem z97 {p:Nat->Nat} (hp:∀ k,p (p k)=k):∀ (l:List (Nat × HO)) (k:Nat),look (up (renP p l)) (p k)=(look (up l) k).map (HO.ren p)
  | [],_=>rfl
  | (a,o)::r,k=>by
    simp only [renP,up,List.map_cons,look]
    rw [beq_ren hp]
    cases Nat.beq a k with
    | true=>rfl
    | false=>exact z97 hp r k
theorem SC.ren {P:Program} {p:Nat->Nat} (hp:∀ k,p (p k)=k) {f:FuncId} {args:List IV} {pre post:List (Nat × HO)} {R:Nat->Prop} {r:IV} (h:SC P f args pre R r post):SC P f (renL p args) (renP p pre) (fun k=>R (p k)) (r.ren p) (renP p post):=by
  intro F ρ w vs hrel hargs
  have hb:∀ (l:List (Nat × HO)) (k:Nat),look (up l) (p k)=(look (up (renP p l)) k).map (HO.ren p):=by
    intro l k
    have:=z97 hp l (p k)
    rw [hp] at this
    rw [this]
    cases look (up l) (p k) with
    | none=>rfl
    | some o=>exact congrArg some (HO.ren_ren hp o).symm
  have h1:RelH F (fun k=>ρ (p k)) (look (up pre)) w:=y6g hp (hb pre) hrel
  have h2:RepL F (fun k=>ρ (p k)) (look (up pre)) w args vs:=by
    refine ⟨by rw [<- hargs.1,z9g],fun j x hj=>?_⟩
    obtain ⟨v,h3,h4⟩:=hargs.2 j (x.ren p) (by rw [zm2,List.getElem?_map,hj];rfl)
    have h5:=y0i hp (hb pre) h4
    rw [ye4 hp] at h5
    exact ⟨v,h3,h5⟩
  refine Calls.mono (h F _ w vs h1 h2) fun e w' hq=>?_
  obtain ⟨ρ',v,h3,h4,h5,h6⟩:=hq
  refine ⟨fun k=>ρ' (p k),v,h3,y0i hp (z97 hp post) h4,y6g hp (z97 hp post) h5,?_⟩
  have:=yk3 hp (z97 hp pre) (z97 hp post) h6
  simpa only [hp] using this
theorem SC.sw {P:Program} {f:FuncId} {args:List IV} {pre post:List (Nat × HO)} {R:Nat->Prop} {r:IV} (a b:Nat) (h:SC P f args pre R r post):SC P f (renL (sw a b) args) (renP (sw a b) pre) (fun k=>R (Proofs.YtekdhljpmflboaaGreat.sw a b k)) (r.ren (Proofs.YtekdhljpmflboaaGreat.sw a b)) (renP (Proofs.YtekdhljpmflboaaGreat.sw a b) post):=h.ren (sw_sw a b)
end
section
variable {P:Program} {c:Cx} {R1:Nat->Prop} {o:Oper} {fr:Fr} {hp:Hp} {σ:Heap'} {Q:Exit->Fr->Heap'->Prop}
theorem Names.one {Q:Nat->Prop} {x:IV} (h:Names Q x):∃ k,Q k/\Names (· = k) x:=by
  induction h with
  | ptr h=>exact ⟨_,h,.ptr rfl⟩
  | sl h=>exact ⟨_,h,.sl rfl⟩
  | rpt h=>exact ⟨_,h,.rpt rfl⟩
  | bs h=>exact ⟨_,h,.bs rfl⟩
  | mp h=>exact ⟨_,h,.mp rfl⟩
  | agg hc _ ih=>obtain ⟨k,h1,h2⟩:=ih;exact ⟨k,h1,.agg hc h2⟩
  | tup hc _ ih=>obtain ⟨k,h1,h2⟩:=ih;exact ⟨k,h1,.tup hc h2⟩
  | fn1 hc _ ih=>obtain ⟨k,h1,h2⟩:=ih;exact ⟨k,h1,.fn1 hc h2⟩
  | fn2 hc _ ih=>obtain ⟨k,h1,h2⟩:=ih;exact ⟨k,h1,.fn2 hc h2⟩
open Classical in
theorem SC.stepN {ns:List Nat} {f:FuncId} {args:List IV} {pre post:List (Nat × HO)} {R:Nat->Prop} {r:IV} {hp:Hp} {ρ:Loc} {w:World} {a:Act} {vs:List Value} (hsc:SC P f args pre R r post)
    (h:All c ρ (look hp) w fr a) (hargs:RepL c.F ρ (look hp) w args vs) (hpre:∀ k o,look (up pre) k=some o->look hp k=some o) (hdom:post.map (·.1)=ns++pre.map (·.1)) (hσ0:∀ k∈ns,look hp k=none) (hc0:∀ k∈ns,c.σ k=none) (hfr0:∀ k∈ns,nmFr k fr=false) (hhp0:∀ k∈ns,nmHp k hp=false)
    (hR:∀ k,c.R k->look (up pre) k=none∨R k) (hr:only (post.map (·.1)) r=true) (hpost:z2u (post.map (·.1)) post=true) :
    Calls P f vs.toArray w fun e w'=>∃ ρ' v,e = .returned v/\All c ρ' (look (up post++hp)) w' fr a/\RepI c.F ρ' (look (up post++hp)) w' r v:=by
  have hd:∀ k,look (up post) k=none↔look (up pre) k=none/\k∉ns:=fun k=>by
    rw [z1f,z1f,hdom,List.mem_append,not_or]
    exact And.comm
  have hpp:∀ k,look (up post) k≠none->look hp k≠none->look (up pre) k≠none:=fun k e e1 e2=>by
    by_cases e3:k∈ns
    ·exact e1 (hσ0 k e3)
    exact e ((hd k).2 ⟨e2,e3⟩)
  let ρ1:Loc:=fun k=>if look (up pre) k=none then none else ρ k
  let F1:Nat->Prop:=fun b=>c.F b∨∃ k cc,ρ k=some (b,cc)/\look (up pre) k=none
  have h1in:∀ k,look (up pre) k≠none -> ρ1 k = ρ k:=fun k hk=>if_neg hk
  have h1out:∀ k,look (up pre) k=none -> ρ1 k=none:=fun k hk=>if_pos hk
  have h1:∀ k l,ρ1 k=some l->look (up pre) k≠none /\ ρ k=some l:=fun k l hk=>by
    by_cases e:look (up pre) k=none
    ·rw [h1out k e] at hk;cases hk
    exact ⟨e,(h1in k e) ▸ hk⟩
  have hown1:∀ b,owned F1 ρ1 b->owned c.F ρ b:=fun b hb=>by
    rcases hb with (hb | ⟨k,cc,hk,_⟩) | ⟨k,cc,hk⟩
    ·exact .inl hb
    ·exact .inr ⟨k,cc,hk⟩
    exact .inr ⟨k,cc,(h1 k _ hk).2⟩
  have hconv:∀ x:IV,¬ Names (fun k=>¬ ∀ o,look (up pre) k=some o->look hp k=some o /\ ρ1 k = ρ k) x:=fun x hx=>by
    obtain ⟨k,hk⟩:=hx.some
    exact hk fun o ho=>⟨hpre k o ho,h1in k (by simp [ho])⟩
  have hrel1:RelH F1 ρ1 (look (up pre)) w:=by
    refine ⟨fun k k' b cc cc' hk hk'=>h.rel.inj k k' b cc cc' (h1 _ _ hk).2 (h1 _ _ hk').2,fun k b cc hk hb=>?_,fun b hb=>?_,fun k b cc hk=>?_,fun k o hk hρ=>?_⟩
    ·rcases hb with hb | ⟨k',cc',hk',hn⟩
     ·exact h.rel.apart k b cc (h1 _ _ hk).2 hb
     obtain rfl:=h.rel.inj _ _ _ _ _ (h1 _ _ hk).2 hk'
     exact (h1 _ _ hk).1 hn
    ·rcases hb with hb | ⟨k',cc',hk',_⟩
     ·exact h.rel.old b hb
     exact h.rel.lt hk'
    ·obtain ⟨hne,hk2⟩:=h1 _ _ hk
     obtain ⟨o1,ho1,ho2⟩:=h.rel.obj k b cc hk2
     cases hl:look (up pre) k with
     | none=>exact absurd hl hne
     | some o2 =>
       rw [hpre k o2 hl] at ho1;cases ho1
       exact ⟨_,rfl,ho2.conv hown1 fun x _=>hconv x⟩
    rw [h1in k (by simp [hk])] at hρ
    exact h.rel.real k o (hpre k o hk) hρ
  refine (hsc F1 ρ1 w vs hrel1 ⟨hargs.1,fun j x hj=>?_⟩).mono ?_
  ·obtain ⟨v,hv,hx⟩:=hargs.2 j x hj
   exact ⟨v,hv,hx.conv hown1 (hconv x)⟩
  rintro e w' ⟨ρ2,v,rfl,hv,hrel2,t⟩
  let ρ':Loc:=fun k=>if look (up post) k=none then ρ k else ρ2 k
  have h2in:∀ k,look (up post) k≠none -> ρ' k = ρ2 k:=fun k hk=>if_neg hk
  have h2out:∀ k,look (up post) k=none -> ρ' k = ρ k:=fun k hk=>if_pos hk
  have h2none:∀ k,look (up post) k=none -> ρ2 k=none:=fun k hk=>by
    cases h3:ρ2 k with
    | none=>rfl
    | some l =>
      obtain ⟨o1,ho1,_⟩:=hrel2.obj k l.1 l.2 h3
      rw [hk] at ho1;cases ho1
  have hσin:∀ k,look (up post) k≠none->look (up post++hp) k=look (up post) k:=fun k hk=>by
    rw [z29]
    cases h3:look (up post) k with
    | none=>exact absurd h3 hk
    | some o=>rfl
  have hσout:∀ k,look (up post) k=none->look (up post++hp) k=look hp k:=fun k hk=>by
    rw [z29,hk];rfl
  have hown2:∀ b,owned c.F ρ' b->owned F1 ρ2 b:=fun b hb=>by
    rcases hb with hb | ⟨k,cc,hk⟩
    ·exact .inl (.inl hb)
    by_cases e:look (up post) k=none
    ·rw [h2out k e] at hk;exact .inl (.inr ⟨k,cc,hk,((hd k).1 e).1⟩)
    rw [h2in k e] at hk;exact .inr ⟨k,cc,hk⟩
  have hconv2:∀ x:IV,only (post.map (·.1)) x=true -> ¬ Names (fun k=>¬ ∀ o,look (up post++hp) k=some o->look (up post) k=some o /\ ρ' k = ρ2 k) x:=fun x hx hn=>by
    refine zh7 hx (hn.imp fun k hk hmem=>hk fun o ho=>?_)
    have hne:look (up post) k≠none:=fun e=>(z1f.1 e) hmem
    rw [hσin k hne] at ho
    exact ⟨ho,h2in k hne⟩
  have T:Trans c.F (fun k=>look (up pre) k=none∨R k) ρ (look hp) w ρ' (look (up post++hp)) w':=by
    refine ⟨t.os,t.tape,t.output,t.size,fun b hb hall=>t.blk b hb fun k cc hk=>?_,fun k b cc hk hb=>?_,fun k cs cs' e1 e2=>?_,fun k cs cs' e1 e2=>?_,fun k s s' els els' e1 e2 hl=>?_,fun k s s' els els' e1 e2=>?_,fun k cs' e2=>?_,fun k cs' e2=>?_,fun k s els' e2=>?_⟩
    ·obtain ⟨hne,hk2⟩:=h1 _ _ hk
     exact (hall k cc hk2).resolve_left hne
    ·by_cases e:look (up post) k=none
     ·rwa [h2out k e] at hk
     rw [h2in k e] at hk;exact (h1 _ _ (t.own k b cc hk hb)).2
    all_goals by_cases e:look (up post) k=none
    ·exact h2out k e
    ·cases h3:look (up pre) k with
     | none=>exact absurd h3 (hpp k e (by simp [e1]))
     | some o =>
       rw [hpre k o h3] at e1;cases e1
       rw [hσin k e] at e2
       rw [h2in k e,t.box k _ _ h3 e2,h1in k (by simp [h3])]
    ·exact h2out k e
    ·cases h3:look (up pre) k with
     | none=>exact absurd h3 (hpp k e (by simp [e1]))
     | some o =>
       rw [hpre k o h3] at e1;cases e1
       rw [hσin k e] at e2
       rw [h2in k e,t.map k _ _ h3 e2,h1in k (by simp [h3])]
    ·exact h2out k e
    ·cases h3:look (up pre) k with
     | none=>exact absurd h3 (hpp k e (by simp [e1]))
     | some o =>
       rw [hpre k o h3] at e1;cases e1
       rw [hσin k e] at e2
       rw [h2in k e,t.row k _ _ _ _ h3 e2 hl,h1in k (by simp [h3])]
    ·rw [hσout k e,e1] at e2;cases e2;exact Nat.le_refl _
    ·cases h3:look (up pre) k with
     | none=>exact absurd h3 (hpp k e (by simp [e1]))
     | some o =>
       rw [hpre k o h3] at e1;cases e1
       rw [hσin k e] at e2
       exact t.grow k _ _ _ _ h3 e2
    ·rw [hσout k e] at e2;exact .inr ⟨_,e2⟩
    ·rw [hσin k e] at e2
     rcases t.kindB k _ e2 with h3 | ⟨cs,h3⟩
     ·by_cases e3:k∈ns
      ·exact .inl (hσ0 k e3)
      exact absurd ((hd k).2 ⟨h3,e3⟩) e
     exact .inr ⟨cs,hpre k _ h3⟩
    ·rw [hσout k e] at e2;exact .inr ⟨_,e2⟩
    ·rw [hσin k e] at e2
     rcases t.kindM k _ e2 with h3 | ⟨cs,h3⟩
     ·by_cases e3:k∈ns
      ·exact .inl (hσ0 k e3)
      exact absurd ((hd k).2 ⟨h3,e3⟩) e
     exact .inr ⟨cs,hpre k _ h3⟩
    ·rw [hσout k e] at e2;exact .inr ⟨_,e2⟩
    rw [hσin k e] at e2
    rcases t.kindR k _ _ e2 with h3 | ⟨cs,h3⟩
    ·by_cases e3:k∈ns
     ·exact .inl (hσ0 k e3)
     exact absurd ((hd k).2 ⟨h3,e3⟩) e
    exact .inr ⟨cs,hpre k _ h3⟩
  have hnone:∀ k,(look hp k=none/\look (up post++hp) k≠none)->k∈ns:=fun k hk=>by
    by_cases e:look (up post) k=none
    ·rw [hσout k e] at hk;exact absurd hk.1 hk.2
    refine Classical.byContradiction fun e3=>?_
    have e4:look (up pre) k≠none:=fun h3=>e ((hd k).2 ⟨h3,e3⟩)
    cases h3:look (up pre) k with
    | none=>exact e4 h3
    | some o=>rw [hpre k o h3] at hk;cases hk.1
  have hnn:∀ x:IV,(∀ k∈ns,nm k x=false) -> ¬ Names (fun k=>look hp k=none/\look (up post++hp) k≠none) x:=fun x hx hn=>by
    obtain ⟨k,hk,hk2⟩:=(hn.imp hnone).one
    have:=hx k hk
    rw [zl9 hk2] at this;cases this
  refine ⟨ρ',v,rfl,h.step T hR ⟨fun k k' b cc cc' hk hk'=>?_,fun k b cc hk hb=>?_,fun b hb=>Nat.lt_of_lt_of_le (h.rel.old b hb) t.size,fun k b cc hk=>?_,fun k o hk hρ=>?_⟩ (fun k e1 e2=>hc0 k (hnone k ⟨e1,e2⟩)) fun _ x hx=>hnn x fun k hk=>ze2 (hfr0 k hk) hx,hv.conv hown2 (hconv2 r hr)⟩
  ·by_cases e:look (up post) k=none<;>by_cases e':look (up post) k'=none
   ·rw [h2out k e] at hk;rw [h2out k' e'] at hk';exact h.rel.inj _ _ _ _ _ hk hk'
   ·rw [h2out k e] at hk;rw [h2in k' e'] at hk'
    exact absurd (.inr ⟨k,cc,hk,((hd k).1 e).1⟩) (hrel2.apart _ _ _ hk')
   ·rw [h2in k e] at hk;rw [h2out k' e'] at hk'
    exact absurd (.inr ⟨k',cc',hk',((hd k').1 e').1⟩) (hrel2.apart _ _ _ hk)
   rw [h2in k e] at hk;rw [h2in k' e'] at hk';exact hrel2.inj _ _ _ _ _ hk hk'
  ·by_cases e:look (up post) k=none
   ·rw [h2out k e] at hk;exact h.rel.apart _ _ _ hk hb
   rw [h2in k e] at hk;exact hrel2.apart _ _ _ hk (.inl hb)
  ·by_cases e:look (up post) k=none
   ·rw [h2out k e] at hk
    obtain ⟨o1,ho1,ho2⟩:=h.rel.obj k b cc hk
    refine ⟨o1,(hσout k e).trans ho1,ho2.keep T (t.blk b (h.rel.lt hk) fun k' cc' hk'=>?_) fun x ⟨cs,h3,h4⟩=>hnn x fun k hk=>by subst h3;exact z5e (z8l (hhp0 k hk) ho1) h4⟩
    obtain ⟨hne,hk2⟩:=h1 _ _ hk'
    obtain rfl:=h.rel.inj _ _ _ _ _ hk hk2
    exact absurd ((hd _).1 e).1 hne
   rw [h2in k e] at hk
   obtain ⟨o1,ho1,ho2⟩:=hrel2.obj k b cc hk
   refine ⟨o1,(hσin k e).trans ho1,ho2.conv hown2 fun x ⟨cs,h3,h4⟩=>hconv2 x ?_⟩
   subst h3
   exact z5a (z5z hpost (z16 ho1)) h4
  by_cases e:look (up post) k=none
  ·rw [hσout k e] at hk;rw [h2out k e] at hρ;exact h.rel.real k o hk hρ
  rw [hσin k e] at hk;rw [h2in k e] at hρ;exact hrel2.real k o hk hρ
theorem yd0 {ns:List Nat} {f:FuncId} {os:Array Operand} {tys:Array TypeId} {xs args:List IV} {pre post:List (Nat × HO)} {R:Nat->Prop} {r:IV} {hp:Hp} (hsc:SC P f args pre R r post) (hf:z0f P f)
    (ho:o.op = .call { callee:=.value (.func f),args:=os,argTypes:=tys }) (hx:evs fr os.toList=some xs) (hs:Subs (look hp) xs args) (hpre:∀ k o,look (up pre) k=some o->look hp k=some o) (hdom:post.map (·.1)=ns++pre.map (·.1)) (hσ0:∀ k∈ns,look hp k=none) (hc0:∀ k∈ns,c.σ k=none) (hfr0:∀ k∈ns,nmFr k fr=false) (hhp0:∀ k∈ns,nmHp k hp=false)
    (hR:∀ k,c.R k->look (up pre) k=none∨R k) (hr:only (post.map (·.1)) r=true) (hpost:z2u (post.map (·.1)) post=true):Ok P c o fr (look hp) r (look (up post++hp)):=by
  intro ρ w a K Q h hK
  obtain ⟨fn,hfn,hname,hbody⟩:=hf
  have hargs:=hs _ _ _ _ (z8c h hx)
  have hrun:(execOp a.eval o).run P w = .ok (.enter f (os.toList.map a.eval).toArray) w:=by
    have hcall:(callFunc f (os.toList.map a.eval).toArray).run P w = .ok (.enter f (os.toList.map a.eval).toArray) w:=by
      unfold callFunc
      simp only [Sem.run_bind]
      show (Result.andThen (.ok P w) _)=_
      simp only [Result.andThen_ok,hfn,hname,hbody]
      rfl
    simp only [execOp,ho,resolve,Act.eval,Deferred.ofValue,Sem.run_bind,Sem.run_pure,Result.andThen_ok,invoke]
    rw [<- hcall]
    congr 2
    apply Array.ext'
    simp
  unfold Oper.wp
  rw [hrun,Oper.upon_enter]
  refine (hsc.stepN h hargs hpre hdom hσ0 hc0 hfr0 hhp0 hR hr hpost).mono ?_
  rintro e w' ⟨ρ',v,rfl,h1,h2⟩
  exact hK ρ' w' v h1 h2
structure K5 (P:Program) (t:TypeId) (f0 f1 f2 f3 f4:Field):Prop where
  hu:P.underlying t=some (.struct #[f0,f1,f2,f3,f4])
  hs:P.stoodInHeld t=false
  t0:P.underlying f0.type=some (.int .i64)
  t1:P.underlying f1.type=some (.int .i64)
  t2:P.underlying f2.type=some (.int .i64)
  t3:P.underlying f3.type=some (.int .i64)
  t4:P.underlying f4.type=some (.int .i64)
  n0:f0.name ≠ "_"
  n1:f1.name ≠ "_"
  n2:f2.name ≠ "_"
  n3:f3.name ≠ "_"
  n4:f4.name ≠ "_"
  o0:f0.offset=0
  o1:f1.offset=1
  o2:f2.offset=2
  o3:f3.offset=3
  o4:f4.offset=4
section
variable {kt:TypeId} {f0 f1 f2 f3 f4:Field}
end
end
section
variable {P:Program} {c:Cx} {o:Oper} {fr:Fr} {hp:Hp}
theorem All.flatRow {ρ:Loc} {w:World} {a:Act} (h:All c ρ (look hp) w fr a) {x:Operand} {k n:Nat} {s:RT} {els:List (List PV)} (hx:fr.ev x=some (.sl k n)) (hk:look hp k=some (.row s els)) (hn:els.length=n) (hone:∀ el∈els,∀ x∈el,x.one=true) :
    FlatV (owned c.F ρ) w s.n els (a.eval x):=by
  rcases h.row hx hk hn with ⟨b,cc,r,u,hv,hρ,h3,h4,hc,hcm,hwe,hcells,hu⟩ | ⟨hv,hρ,hnil⟩
  ·have key:∀ q,q<els.length*s.n->∃ el x,els[q / s.n]? = some el/\el.length=s.n/\el[q % s.n]? = some x/\x.one=true:=fun q hq=>by
     obtain ⟨h1,h2,h3⟩:=zy9 hq
     have he:=hwe _ (List.getElem_mem h1)
     exact ⟨els[q / s.n],els[q / s.n][q % s.n]'oM0,List.getElem?_eq_getElem h1,he,List.getElem?_eq_getElem _,hone _ (List.getElem_mem h1) _ (List.getElem_mem _)⟩
   refine ⟨some ⟨b,0,none⟩,cc,u,by rw [hv,hn],fun _=>⟨_,rfl,fun j y hj=>?_⟩,fun y hy=>?_,hu⟩
   ·have hq:j<els.length*s.n:=by have:=(List.getElem?_eq_some_iff.1 hj).1;simpa using this
    obtain ⟨el,x,h1,h2,h5,_⟩:=key j hq
    have hy:y=u (j / s.n) (j % s.n):=by simpa [hq] using hj.symm
    have:=hcells _ el h1 _ x h5
    rw [Addr.add_mid,hy,z4q h3,Nat.zero_add,<- this,(zy9 hq).2.2]
   obtain ⟨q,hq,rfl⟩:=List.mem_map.1 hy
   obtain ⟨el,x,h1,h2,h5,h6⟩:=key q (by simpa using hq)
   exact (hu _ el h1 _ x h5).one h6
  subst hnil
  exact ⟨none,0,fun _ _=>undef,by simpa using hv,fun hne=>absurd rfl hne,fun y hy=>by simp at hy,fun i el hi=>by simp at hi⟩
theorem z5p {t:TypeId} {x y:Operand} {k n k2 n2 by_:Nat} {s:RT} {els news:List (List PV)} (ho:o.op = .call { callee:=.builtin .append,args:=#[x,y],argTypes:=#[t,t] }) (hx:fr.ev x=some (.sl k n)) (hy:fr.ev y=some (.sl k2 n2))
    (hk:look hp k=some (.row s els)) (hn:els.length=n) (hk2:look hp k2=some (.row s news)) (hn2:news.length=n2) (hR:¬ c.R k) (ht:P.underlying t=some (.slice s.e)) (hi:(P.info? s.e).map (fun i=>(i.size,i.bytes,(i.zero.map fun z=>z.cells.size)))=some (s.n,by_,some s.n)) (hs:0<s.n)
    (hw:∀ el∈news,el.length=s.n) (hone:∀ el∈news,∀ x∈el,x.one=true) (hmax:n+news.length<=maxLen) (hb:(n+news.length)*by_<=140737488355328) :
    Ok P c o fr (look hp) (.sl k (n+news.length)) (look ((k,some (.row s (els++news)))::hp)) :=
  z9u ho hx (fun ρ w a h=>h.flatRow hy hk2 hn2 hone) hk hn hR ht hi hs hw hmax hb
theorem z9s {t e:TypeId} {len s:Nat} {parts:Array (Nat × Operand)} {xs:List (Nat × IV)} {z:Value} {out:List IV} {ρ:Loc} {w:World} {a:Act} (h:All c ρ (look hp) w fr a) (ho:o.op = .buildSlice t len parts) (hx:z3z fr parts.toList=some xs)
    (hu:P.underlying t=some (.slice e)) (hz:((P.info? e).bind (·.zero))=some z) (hs:(P.info? e).map (·.size)=some s) (hzs:z.cells.size=s) (hpos:Nat.ble 1 s=true) (hsmall:Nat.ble (len*s) (2 ^ 24)=true)
    (hf:z56 (fun i=>some (i*s,s)) (zb8 z len) xs=some out) (hfirm:z45 (look hp) xs) :
    ∃ vs,z5l c.F ρ (look hp) w out vs/\out.length=len*s/\(execOp a.eval o).run P w = .ok (.value (.slice (some ⟨w.heap.size,0,none⟩) len len)) (w.alloc (.cells vs e)):=by
  have hpos':0<s:=Nat.le_of_ble_eq_true hpos
  have hsmall':=Nat.le_of_ble_eq_true hsmall
  have hzv:(zeroValue e).run P w = .ok z w:=by
    cases hq:P.info? e with
    | none=>simp [hq] at hz
    | some i=>simp [hq] at hz;simp [zeroValue,typeInfo,hq,hz]
  obtain ⟨hl,hv⟩:=z63 h hx
  obtain ⟨hrl,hrg⟩:=zr3 (z:=z) oM0 len
  have hrep:z5l c.F ρ (look hp) w (zb8 z len) ((Array.range (len*s)).map (z.cells[· % z.cells.size]!)):=by
    refine ⟨by simp [hrl,hzs],fun j x hj=>?_⟩
    have hjl:j<len*s:=by have:=(List.getElem?_eq_some_iff.1 hj).1;rw [hrl,hzs] at this;exact this
    rw [hrg j x hj]
    exact ⟨_,by simp [hjl],z31 _⟩
  have hlenfill:out.length=len*s:=by
    have:∀ (ps:List (Nat × IV)) (cs out:List IV),z56 (fun i=>some (i*s,s)) cs ps=some out->out.length=cs.length:=by
      intro ps
      induction ps with
      | nil=>intro cs out h;cases h;rfl
      | cons p r ih =>
        intro cs out h
        simp only [z56] at h
        cases hc:Nat.beq (z6y p.2).length s&&Nat.ble (p.1*s+s) cs.length with
        | false=>rw [hc] at h;cases h
        | true =>
          rw [hc] at h
          simp only [Bool.and_eq_true] at hc
          have h1:=Nat.eq_of_beq_eq_true hc.1
          have h2:=Nat.le_of_ble_eq_true hc.2
          rw [ih _ _ h,z8r oM0]
    rw [this _ _ _ hf,hrl,hzs]
  obtain ⟨vs,h1,h2⟩:=zd0 hrep hl (fun j i x hj=>by
    obtain ⟨v,h3,h4⟩:=hv j i x hj
    exact ⟨v,h3,h4,hfirm _ (List.mem_of_getElem? hj)⟩) hf
  have hparts:(parts.map fun (i,x)=>(i,a.eval x)).toList=parts.toList.map fun p=>(p.1,a.eval p.2):=by simp
  have hrun:(execOp a.eval o).run P w = .ok (.value (.slice (some ⟨w.heap.size,0,none⟩) len len)) (w.alloc (.cells vs e)):=by
    have hnr:(newRow e vs).run P w = .ok ⟨w.heap.size,0,none⟩ (w.alloc (.cells vs e)):=rfl
    simp only [execOp,ho,Instr.buildSlice,Sem.run_bind,run_underlying hu,z1p hs,Result.andThen_ok]
    rw [if_neg oM0]
    by_cases h0:len*s=0
    ·have h1':Instr.fill (fun i=>some (i*s,s)) ((Array.range (len*s)).map ((#[]:Array Value)[· % (#[]:Array Value).size]!)) (List.map (fun p=>(p.fst,a.eval p.snd)) parts.toList)=some vs:=by
       have e1:∀ f:Nat->Value,(Array.range (len*s)).map f = #[]:=fun f=>by rw [h0];simp
       rw [e1] at h1 ⊢
       exact h1
     simp only [if_pos h0,Sem.run_bind,Sem.run_pure,Result.andThen_ok,hparts]
     rw [h1']
     simp only [Sem.run_bind,hnr,Result.andThen_ok]
     rfl
    simp only [if_neg h0,Sem.run_bind,Sem.run_pure,Result.andThen_ok,hzv,hparts]
    rw [h1]
    simp only [Sem.run_bind,hnr,Result.andThen_ok]
    rfl
  exact ⟨vs,h2,hlenfill,hrun⟩
theorem z82 {k:Nat} {t e:TypeId} {len s:Nat} {parts:Array (Nat × Operand)} {xs:List (Nat × IV)} {z:Value} {out:List IV} {ps:List PV} (ho:o.op = .buildSlice t len parts) (hx:z3z fr parts.toList=some xs)
    (hu:P.underlying t=some (.slice e)) (hz:((P.info? e).bind (·.zero))=some z) (hs:(P.info? e).map (·.size)=some s) (hzs:z.cells.size=s) (hpos:Nat.ble 1 s=true) (hsmall:Nat.ble (len*s) (2 ^ 24)=true)
    (hf:z56 (fun i=>some (i*s,s)) (zb8 z len) xs=some out) (hfirm:z45 (look hp) xs) (hps:z6b out=some ps) (hσ:look hp k=none) (hc:c.σ k=none) (hfr:nmFr k fr=false) (hhp:nmHp k hp=false) :
    Ok P c o fr (look hp) (.sl k len) (look ((k,some (.row ⟨e,s⟩ (z0c s len ps)))::hp)):=by
  intro ρ w a K Q h hK
  have hpos':0<s:=Nat.le_of_ble_eq_true hpos
  have hsmall':=Nat.le_of_ble_eq_true hsmall
  obtain ⟨vs,h2,hlenfill,hrun⟩:=z9s h ho hx hu hz hs hzs hpos hsmall hf hfirm
  unfold Oper.wp
  rw [hrun]
  obtain ⟨hpl,hpg⟩:=z77 hps
  have hel:∀ i el,(z0c s len ps)[i]? = some el->el.length=s/\∀ j x,el[j]? = some x->ps[i*s+j]? = some x:=fun i el hi=>zg3 s len ps i el hi oM0
  have hcl:=z5m s len ps
  have hlm:len<=maxLen:=by simp only [maxLen];have:len<=len*s:=Nat.le_mul_of_pos_right _ hpos';omega
  refine hK (z1q ρ k (some (w.heap.size,len))) _ _ (h.alloc hσ hc hfr hhp len _ _ fun _ keep=>?_) (.sl _ _ _ fun s' els' h'=>?_)
  ·refine .row ⟨e,s⟩ _ vs (fun i j=>vs.getD (i*s+j) undef) (z39 w _) (by have:=h2.1;simp only;omega) oM0 hlm (fun el hel'=>?_) (fun i el hi j x hj=>?_) fun i el hi j x hj=>?_
   ·obtain ⟨i,hi⟩:=List.getElem?_of_mem hel'
    exact (hel i el hi).1
   ·obtain ⟨h5,h6⟩:=hel i el hi
    obtain ⟨v,h7,_⟩:=h2.2 _ _ (hpg _ _ (h6 j x hj))
    simp [Array.getD_eq_getD_getElem?,h7]
   obtain ⟨h5,h6⟩:=hel i el hi
   obtain ⟨v,h7,h8⟩:=h2.2 _ _ (hpg _ _ (h6 j x hj))
   simp only [Array.getD_eq_getD_getElem?,h7,Option.getD_some]
   cases h8 with
   | pv _ _ h8=>exact keep _ _ h8
  rw [z35] at h';cases h'
  exact ⟨by omega,fun _=>.inl ⟨w.heap.size,len,z0d,rfl⟩⟩
def nilP:PV->PV
  | .val (.slice none 0 0)=>.seq []
  | x=>x
theorem nilP_sub (x:PV):PSub x (nilP x):=by
  unfold nilP
  split
  ·exact PSub.nil
  exact PSub.refl _
theorem y27:∀ cs:List PV,PSubs cs (cs.map nilP)
  | []=>trivial
  | x::r=>⟨nilP_sub x,y27 r⟩
theorem z15 (cs:List PV):PSub (.agg cs) (.agg (cs.map nilP)):=PSub.agg (y27 cs)
end
section
variable {P:Program} {c:Cx} {R1:Nat->Prop} {o:Oper} {fr:Fr} {hp:Hp} {σ:Heap'} {Q:Exit->Fr->Heap'->Prop}
theorem All.bs {ρ:Loc} {w:World} {a:Act} (h:All c ρ (look hp) w fr a) {x:Operand} {k n:Nat} {cs:List IV} (hx:fr.ev x=some (.bs k n)) (hk:look hp k=some (.box cs)) :
    ∃ (b cc cap:Nat) (e:TypeId) (r:Array Value) (u:Nat->Value),a.eval x = .slice (some ⟨b,0,none⟩) n cap/\n<=cap/\cap<=maxLen /\ ρ k=some (b,cc)/\w.heap[b]? = some (.cells r e (0,0))/\cs.length<=r.size/\(∀ j x,cs[j]? = some x->r[j]? = some (u j))/\∀ j x,cs[j]? = some x->RepI c.F ρ (look hp) w x (u j):=by
  have hr:=h.ev hx
  generalize hv:a.eval x=v at hr
  cases hr with
  | bs _ _ _ hh =>
    obtain ⟨b,cc,hρ,cap,h8,h9,rfl⟩:=hh cs hk
    obtain ⟨o1,h1,h2⟩:=h.rel.obj k b cc hρ
    rw [hk] at h1;cases h1
    obtain ⟨e,r,u,h3,h4,h5,h6⟩:=h2.inv_box
    exact ⟨b,cc,cap,e,r,u,rfl,h8,h9,hρ,h3,h4,h5,h6⟩
theorem y49 {t e:TypeId} {x y:Operand} {k n i:Nat} {m:Int} {kk:IntKind} {cs:List IV} (ho:o.op = .indexAddr t x y) (hx:fr.ev x=some (.bs k n)) (hy:fr.ev y=some (.pv (.val (.int kk m)))) (hk:look hp k=some (.box cs))
    (hu:P.underlying t=some (.slice e)) (he:(P.info? e).map (·.size)=some 1) (hi:i<n) (hm:m=i):OkV P c R1 o fr (look hp) (.ptr k i):=by
  subst hm
  intro ρ w a h
  obtain ⟨b,cc,cap,e',r,u,hv,_,_,hρ,_⟩:=h.bs hx hk
  refine ⟨.pointer (some ⟨b,i,none⟩),fun w2 _=>?_,.ptr _ _ _ fun cs' h'=>⟨b,cc,hρ,rfl⟩⟩
  simp [execOp,ho,hv,z0v h hy,Instr.indexAt,Sem.run_bind,asIntOf,run_underlying hu,hi,z1p he,Addr.add_mid]
theorem zq0 {k:Nat} {t e:TypeId} {len s:Nat} {parts:Array (Nat × Operand)} {xs:List (Nat × IV)} {z:Value} {out:List IV} (ho:o.op = .buildSlice t len parts) (hx:z3z fr parts.toList=some xs)
    (hu:P.underlying t=some (.slice e)) (hz:((P.info? e).bind (·.zero))=some z) (hs:(P.info? e).map (·.size)=some s) (hzs:z.cells.size=s) (hpos:Nat.ble 1 s=true) (hsmall:Nat.ble (len*s) (2 ^ 24)=true)
    (hf:z56 (fun i=>some (i*s,s)) (zb8 z len) xs=some out) (hfirm:z45 (look hp) xs) (hn:nm.nms k out=false) (hσ:look hp k=none) (hc:c.σ k=none) (hfr:nmFr k fr=false) (hhp:nmHp k hp=false) :
    Ok P c o fr (look hp) (.bs k len) (look ((k,some (.box out))::hp)):=by
  intro ρ w a K Q h hK
  have hpos':0<s:=Nat.le_of_ble_eq_true hpos
  have hsmall':=Nat.le_of_ble_eq_true hsmall
  obtain ⟨vs,h2,hlenfill,hrun⟩:=z9s h ho hx hu hz hs hzs hpos hsmall hf hfirm
  unfold Oper.wp
  rw [hrun]
  have hlm:len<=maxLen:=by simp only [maxLen];have:len<=len*s:=Nat.le_mul_of_pos_right _ hpos';omega
  refine hK (z1q ρ k (some (w.heap.size,len))) _ _ (h.alloc hσ hc hfr hhp len _ _ fun keep _=>?_) (.bs _ _ _ fun cs' h'=>⟨w.heap.size,len,z0d,len,Nat.le_refl _,hlm,rfl⟩)
  refine .box _ e vs (fun j=>vs.getD j undef) (z39 w _) (Nat.le_of_eq h2.1.symm) (fun j x hj=>?_) fun j x hj=>?_
  ·obtain ⟨v,h7,_⟩:=h2.2 _ _ hj
   simp [Array.getD_eq_getD_getElem?,h7]
  obtain ⟨v,h7,h8⟩:=h2.2 _ _ hj
  simp only [Array.getD_eq_getD_getElem?,h7,Option.getD_some]
  exact keep _ _ h8 (z5e hn (List.mem_of_getElem? hj))
theorem y2b {t:TypeId} {x y:Operand} {k k2 n by_:Nat} {e:TypeId} {cs:List IV} (ho:o.op = .call { callee:=.builtin .append,args:=#[x,y],argTypes:=#[t,t] }) (hx:fr.ev x=some (.pv (.val (.slice none 0 0)))) (hy:fr.ev y=some (.bs k2 n)) (hk2:look hp k2=some (.box cs)) (hn:cs.length=n) (h0:0<n)
    (ht:P.underlying t=some (.slice e)) (hi:(P.info? e).map (fun i=>(i.size,i.bytes,(i.zero.map fun z=>z.cells.size)))=some (1,by_,some 1)) (hmax:n<=maxLen) (hb:n*by_<=140737488355328) (hnm:nm.nms k cs=false)
    (hσ:look hp k=none) (hc:c.σ k=none) (hfr:nmFr k fr=false) (hhp:nmHp k hp=false) :
    Ok P c o fr (look hp) (.bs k n) (look ((k,some (.box cs))::hp)):=by
  intro ρ w a K Q h hK
  cases hq:P.info? e with
  | none=>simp [hq] at hi
  | some i =>
    have hsz:i.size=1:=by simp [hq] at hi;exact hi.1
    have hby:i.bytes=by_:=by simp [hq] at hi;exact hi.2.1
    obtain ⟨z,hz,hzs⟩:∃ z,i.zero=some z/\z.cells.size=1:=by simp [hq] at hi;exact hi.2.2
    simp only [maxLen] at hmax
    obtain ⟨b,cc,cap,e',r,u,hv,_,_,hρ,hbk,hlen,hcell,hrep⟩:=h.drew.bs hy hk2
    have hge:=grownCap_ge w n 0 e
    have hcm:=grownCap_le_maxLen w n 0 e (by simp only [maxLen];omega)
    have hL:((List.range n).map u).length=n*i.size:=by simp [hsz]
    have hcl:∀ j y,((List.range n).map u)[j]? = some y->w.cell? ((⟨b,0,none⟩:Addr).add j)=some y:=fun j y hj=>by
      rw [Addr.add_mid,Nat.zero_add,z4q (w:=w) hbk]
      have hj':j<n:=by have:=(List.getElem?_eq_some_iff.1 hj).1;simpa using this
      have e1:u j=y:=by simpa [hj'] using hj
      have h5:cs[j]? = some (cs[j]'oM0):=List.getElem?_eq_getElem oM0
      rw [hcell j _ h5,e1]
    have hr:=run_append_nil (P:=P) w t o.type e i z ht hq hz ⟨b,0,none⟩ n cap _ hL hcl h0 oM0 (by rw [hby];omega)
    refine Lib.wp_append_run w x y t t ho _ _ (z0v h hx) hv _ _ hr ?_
    refine hK (z1q ρ k (some (w.heap.size,grownCap w n 0 e))) _ _ (h.drew.alloc hσ hc hfr hhp (grownCap w n 0 e) _ _ fun keep _=>?_) (.bs _ _ _ fun cs' h'=>⟨w.heap.size,_,z0d,_,hge,hcm,rfl⟩)
    refine .box _ e _ u (z39 _ _) (by simp;omega) (fun j x hj=>?_) fun j x hj=>keep _ _ (hrep j x hj) (z5e hnm (List.mem_of_getElem? hj))
    have hj':j<n:=by have:=(List.getElem?_eq_some_iff.1 hj).1;omega
    rw [Array.getElem?_append_left (by simpa using hj')]
    simp [hj']
theorem y0c {t:TypeId} {x y:Operand} {n by_:Nat} {s:RT} {z:Value} {σ:Heap'} (ho:o.op = .makeSlice t x y) (hx:fr.ev x=some (.pv (.val (.int .i64 n)))) (hy:fr.ev y=some (.pv (.val (.int .i64 n))))
    (hu:P.underlying t=some (.slice s.e)) (hz:((P.info? s.e).bind (·.zero))=some z) (hi:(P.info? s.e).map (fun i=>(i.size,i.bytes))=some (s.n,by_)) (hzs:z.cells.size=s.n) (hpos:0<s.n) (hn:n<2 ^ 63) (hb:by_*n<=281474976710656) :
    Ok P c o fr σ (.pv (.seq (List.replicate n (z.cells.toList.map .val)))) σ:=by
  intro ρ w a K Q h hK
  cases hq:P.info? s.e with
  | none=>simp [hq] at hi
  | some i =>
    have hsz:i.size=s.n:=by simp [hq] at hi;exact hi.1
    have hby:i.bytes=by_:=by simp [hq] at hi;exact hi.2
    have hiz:i.zero=some z:=by simpa [hq] using hz
    have hwrap:IntKind.i64.wrap (n:Int)=n:=IntWalk.i64_in _ oM0
    have hrun:(execOp a.eval o).run P w = .ok (.value (.slice (some ⟨w.heap.size,0,none⟩) n n)) (w.alloc (.cells ((Array.range (n*s.n)).map (z.cells[· % z.cells.size]!)) s.e)):=by
      have hnr:∀ r,(newRow s.e r).run P w = .ok ⟨w.heap.size,0,none⟩ (w.alloc (.cells r s.e)):=fun _=>rfl
      have hti:(typeInfo s.e).run P w = .ok i w:=by simp [typeInfo,hq]
      have hso:(sizeOf s.e).run P w = .ok s.n w:=z1p (by simp [hq,hsz]) w
      have hzv:(zeroValue s.e).run P w = .ok z w:=by simp [zeroValue,typeInfo,hq,hiz]
      have h2:(by_:Int)*n<=281474976710656:=by
        have:((by_*n:Nat):Int)<=281474976710656:=by omega
        rwa [Int.natCast_mul] at this
      simp only [execOp,ho,Instr.makeSlice,Sem.run_bind,run_underlying hu,Result.andThen_ok,z0v h hx,z0v h hy,asInt,asIntOf,Sem.run_pure,hti,hwrap,hby]
      rw [if_neg (by simpa using h2)]
      simp only [Sem.run_bind,zr5,Result.andThen_ok,hso,Int.toNat_natCast]
      by_cases h0:n*s.n=0
      ·rw [if_pos h0]
       simp only [Sem.run_bind,Sem.run_pure,Result.andThen_ok,hnr]
       have e1:∀ f g:Nat->Value,(Array.range (n*s.n)).map f=(Array.range (n*s.n)).map g:=fun f g=>by rw [h0];simp
       rw [e1 _ (z.cells[· % z.cells.size]!)]
      rw [if_neg h0]
      simp only [Sem.run_bind,Sem.run_pure,Result.andThen_ok,hzv,hnr]
    unfold Oper.wp
    rw [hrun]
    obtain ⟨h3,keep⟩:=h.push (.cells ((Array.range (n*s.n)).map (z.cells[· % z.cells.size]!)) s.e)
    refine hK ρ _ _ h3 (.pv _ _ ?_)
    have hll:(List.replicate n (z.cells.toList.map PV.val)).length=n:=by simp
    have hbig:by_*n<=281474976710656:=hb
    have:RepP (owned c.F ρ) (w.alloc (.cells ((Array.range (n*s.n)).map (z.cells[· % z.cells.size]!)) s.e)) (.seq (List.replicate n (z.cells.toList.map .val))) (.slice (some ⟨w.heap.size,0,none⟩) (List.replicate n (z.cells.toList.map PV.val)).length n):=by
      refine .seq _ _ n w.heap.size 0 (fun _ j=>z.cells[j]!) (fun _=>rfl) (fun _=>⟨h.fresh,by simp⟩) sI0 (by simp only [maxLen];omega) (fun i el hi j x hj=>?_) fun i el hi j x hj=>?_
      ·have hel:=List.eq_of_mem_replicate (List.mem_of_getElem? hi)
       have hin:i<n:=by have:=(List.getElem?_eq_some_iff.1 hi).1;simpa using this
       subst hel
       have hjs:j<s.n:=by have:=(List.getElem?_eq_some_iff.1 hj).1;simp [hzs] at this;exact this
       have hlt:i*s.n+j<n*s.n:=by
         have:(i+1)*s.n<=n*s.n:=Nat.mul_le_mul_right _ oM0
         rw [Nat.add_mul] at this;omega
       rw [z4q (z39 w _)]
       simp [hlt,hzs,Nat.mod_eq_of_lt hjs]
      have hel:=List.eq_of_mem_replicate (List.mem_of_getElem? hi)
      subst hel
      simp only [List.getElem?_map,Option.map_eq_some_iff,Array.getElem?_toList] at hj
      obtain ⟨v,hv,rfl⟩:=hj
      have:z.cells[j]! = v:=by
        have hlt:=(Array.getElem?_eq_some_iff.1 hv).1
        simp [hlt] at hv ⊢
        exact hv
      rw [this]
      exact .val v
    rwa [hll] at this
end
section
variable {P:Program} {o:Oper} {fr fr2:Fr} {hp hp2:Hp} {Rl:List Nat}
inductive TI where
  | int (k:IntKind)
  | bool
  | str
  | slice (e:Nat)
  | struct (fs:List (Nat × Nat))
  | arr (len e:Nat)
  | map (k e:Nat)
  | one
inductive ZV where
  | int (k:IntKind)
  | bool
  | str
  | slice
  | map
  | ptr
  | fn
  | iface
def ZV.val:ZV->Value
  | .int k=>.int k 0
  | .bool=>.bool false
  | .str=>.string ⟨#[]⟩
  | .slice=>.slice none 0 0
  | .map=>.map none
  | .ptr=>.pointer none
  | .fn=>.nilFunc
  | .iface=>.nilIface
def ZV.isB:ZV->Value->Bool
  | .int k,.int k' n=>k'==k&&n==0
  | .bool,.bool b=>!b
  | .str,.string s=>s.data.isEmpty
  | .slice,.slice none 0 0=>true
  | .map,.map none=>true
  | .ptr,.pointer none=>true
  | .fn,.nilFunc=>true
  | .iface,.nilIface=>true
  | _,_=>false
theorem ZV.isB_ok {z:ZV} {v:Value} (h:z.isB v=true):v=z.val:=by
  unfold ZV.isB at h
  split at h
  · simp only [Bool.and_eq_true,beq_iff_eq] at h;simp [ZV.val,h.1,h.2]
  · simp only [Bool.not_eq_true'] at h;subst h;rfl
  · rename_i s
    have:s.data = #[]:=by simpa using h
    cases s;simp_all [ZV.val]
  all_goals first | rfl | cases h
structure TE where
  i:TI
  n:Nat
  b:Nat
  z:List ZV
def TI.row:TI->Bool
  | .struct _=>true
  | .arr ..=>true
  | _=>false
def TI.is:TI->TypeDesc->Prop
  | .int k,d=>d = .int k
  | .bool,d=>d = .bool
  | .str,d=>d = .string
  | .slice e,d=>d = .slice e
  | .struct fs,d=>∃ a,d = .struct a/\a.toList.map (fun f=>(f.offset,f.type))=fs
  | .arr len e,d=>d = .array len e
  | .map k e,d=>d = .map k e
  | .one,d=>d.isRow=false
def TI.isB:TI->TypeDesc->Bool
  | .int k,.int k'=>k'==k
  | .bool,.bool=>true
  | .str,.string=>true
  | .slice e,.slice e'=>Nat.beq e' e
  | .struct fs,.struct a=>a.toList.map (fun f=>(f.offset,f.type))==fs
  | .arr len e,.array len' e'=>Nat.beq len' len&&Nat.beq e' e
  | .map k e,.map k' e'=>Nat.beq k' k&&Nat.beq e' e
  | .one,d=>!d.isRow
  | _,_=>false
theorem TI.isB_ok {i:TI} {d:TypeDesc} (h:i.isB d=true):i.is d:=by
  unfold TI.isB at h
  split at h
  · simp only [beq_iff_eq] at h;simp [TI.is,h]
  · rfl
  · rfl
  · simp [TI.is,Nat.eq_of_beq_eq_true h]
  · exact ⟨_,rfl,by simpa using h⟩
  · simp only [Bool.and_eq_true] at h;simp [TI.is,Nat.eq_of_beq_eq_true h.1,Nat.eq_of_beq_eq_true h.2]
  · simp only [Bool.and_eq_true] at h;simp [TI.is,Nat.eq_of_beq_eq_true h.1,Nat.eq_of_beq_eq_true h.2]
  · simpa [TI.is] using h
  · cases h
theorem TI.is_row {i:TI} {d:TypeDesc} (h:i.is d):d.isRow=i.row:=by
  cases i with
  | struct fs=>obtain ⟨a,rfl,_⟩:=h;rfl
  | one=>exact h
  | _=>cases h;rfl
def zsB:List ZV->List Value->Bool
  | [],[]=>true
  | z::r,v::s=>z.isB v&&zsB r s
  | _,_=>false
theorem zsB_ok:∀ {l:List ZV} {m:List Value},zsB l m=true->m=l.map ZV.val
  | [],[],_=>rfl
  | z::r,v::s,h=>by
    simp only [zsB,Bool.and_eq_true] at h
    rw [ZV.isB_ok h.1,zsB_ok h.2];rfl
def TE.zv (e:TE):Value:=match e.i.row with
  | true=>.agg (e.z.map ZV.val).toArray
  | false=>(e.z.headD .bool).val
def TE.zB (e:TE) (v:Value):Bool:=match e.i.row with
  | true=>match v with
    | .agg cs=>zsB e.z cs.toList
    | _=>false
  | false=>match e.z with
    | [z]=>z.isB v
    | _=>false
theorem TE.zB_ok {e:TE} {v:Value} (h:e.zB v=true):v=e.zv/\v.cells.toList=e.z.map ZV.val:=by
  unfold TE.zB at h
  unfold TE.zv
  split at h
  · rename_i hr
    split at h
    · rename_i cs
      have:=zsB_ok h
      exact ⟨by simp [<- this],this⟩
    · cases h
  · rename_i hr
    split at h
    · rename_i z hz
      obtain rfl:=ZV.isB_ok h
      rw [hz]
      exact ⟨rfl,by cases z<;>rfl⟩
    · cases h
def teB (P:Program) (t:Nat) (e:TE):Bool :=
  (match P.underlying t with
    | some d=>e.i.isB d
    | none=>false) &&
  (match P.info? t with
    | some i=>Nat.beq i.size e.n&&Nat.beq i.bytes e.b&&(match e.z with
      | []=>true
      | _=>Nat.beq e.z.length e.n&&(match i.zero with
        | some z=>e.zB z
        | none=>false))
    | none=>false)
section
variable {t:Nat} {e:TE}
theorem z4c (h:teB P t e=true):∃ d,P.underlying t=some d/\e.i.is d:=by
  unfold teB at h
  simp only [Bool.and_eq_true] at h
  replace h:=h.1
  split at h
  · rename_i d hd;exact ⟨d,hd,TI.isB_ok h⟩
  · cases h
theorem zs8 (h:teB P t e=true):∃ i,P.info? t=some i/\i.size=e.n/\i.bytes=e.b/\(e.z≠[]->e.z.length=e.n/\i.zero=some e.zv/\e.zv.cells.toList=e.z.map ZV.val):=by
  unfold teB at h
  simp only [Bool.and_eq_true] at h
  replace h:=h.2
  split at h
  · rename_i i hi
    simp only [Bool.and_eq_true] at h
    refine ⟨i,hi,Nat.eq_of_beq_eq_true h.1.1,Nat.eq_of_beq_eq_true h.1.2,fun hz=>?_⟩
    have h2:=h.2
    split at h2
    · rename_i h0;exact absurd h0 hz
    · simp only [Bool.and_eq_true] at h2
      have h3:=h2.2
      split at h3
      · rename_i z hz
        obtain ⟨rfl,h4⟩:=TE.zB_ok h3
        exact ⟨Nat.eq_of_beq_eq_true h2.1,hz,h4⟩
      · cases h3
  · cases h
theorem z2g (h:teB P t e=true):(P.info? t).map (·.size)=some e.n:=by
  obtain ⟨i,hi,h1,_⟩:=zs8 h
  simp [hi,h1]
theorem te_by (h:teB P t e=true):(P.info? t).map (fun i=>(i.size,i.bytes))=some (e.n,e.b):=by
  obtain ⟨i,hi,h1,h2,_⟩:=zs8 h
  simp [hi,h1,h2]
theorem z6h (h:teB P t e=true) (hz:e.z≠[]):(P.info? t).bind (·.zero)=some e.zv:=by
  obtain ⟨i,hi,_,_,h2⟩:=zs8 h
  simp [hi,(h2 hz).2.1]
theorem z55 (h:teB P t e=true) (hz:e.z≠[]):e.zv.cells.toList=e.z.map ZV.val/\e.zv.cells.size=e.n:=by
  obtain ⟨i,hi,_,_,h2⟩:=zs8 h
  refine ⟨(h2 hz).2.2,?_⟩
  rw [<- Array.length_toList,(h2 hz).2.2,List.length_map]
  exact (h2 hz).1
theorem te_app (h:teB P t e=true) (hz:e.z≠[]):(P.info? t).map (fun i=>(i.size,i.bytes,(i.zero.map fun z=>z.cells.size)))=some (e.n,e.b,some e.n):=by
  obtain ⟨i,hi,h1,h2,h3⟩:=zs8 h
  simp [hi,h1,h2,(h3 hz).2.1,(z55 h hz).2]
end
structure TB (P:Program) where
  ti:Nat->Option TE
  tok:∀ t e,ti t=some e->teB P t e=true
  fn:Nat->Bool
  fok:∀ f,fn f=true->z0f P f
  mx:P.follows .mixedOrders=true
def tFind:List (Nat × TE)->Nat->Option TE
  | [],_=>none
  | (k,e)::r,t=>match Nat.beq k t with
    | true=>some e
    | false=>tFind r t
def tAll (P:Program):List (Nat × TE)->Bool
  | []=>true
  | (k,e)::r=>teB P k e&&tAll P r
theorem y6o:∀ {l:List (Nat × TE)} {t:Nat} {e:TE},tAll P l=true->tFind l t=some e->teB P t e=true
  | [],_,_,_,h=>by cases h
  | (k,e')::r,t,e,h1,h=>by
    simp only [tAll,Bool.and_eq_true] at h1
    simp only [tFind] at h
    split at h
    · rename_i hb
      obtain rfl:=Nat.eq_of_beq_eq_true hb
      cases h;exact h1.1
    · exact y6o h1.2 h
def entB (P:Program) (f:Nat):Bool:=match P.funcs[f]? with
  | some fn=>!(fn.name == "runtime.NumGoroutine") && !fn.body.isNone
  | none=>false
theorem entB_ok {f:Nat} (h:entB P f=true):z0f P f:=by
  unfold entB at h
  split at h
  · rename_i fn hf
    simp only [Bool.and_eq_true,Bool.not_eq_true'] at h
    exact ⟨fn,hf,h.1,h.2⟩
  · cases h
def nIn (k:Nat):List Nat->Bool
  | []=>false
  | j::r=>match Nat.beq j k with
    | true=>true
    | false=>nIn k r
theorem z50 {k:Nat}:∀ {l:List Nat},nIn k l=true↔k∈l
  | []=>by simp [nIn]
  | j::r=>by
    simp only [nIn,List.mem_cons]
    split
    · rename_i h;simp [Nat.eq_of_beq_eq_true h]
    · rename_i h
      have:k≠j:=fun e=>by subst e;simp at h
      simp [this,z50]
theorem z2o {k:Nat} {l:List Nat} (h:nIn k l=false):k∉l:=fun hm=>by rw [z50.2 hm] at h;cases h
def y1i (P:Program):List Nat->Bool
  | []=>true
  | f::r=>entB P f&&y1i P r
theorem y1j {f:Nat}:∀ {l:List Nat},y1i P l=true->nIn f l=true->z0f P f
  | [],_,h=>by cases h
  | g::r,h1,h=>by
    simp only [y1i,Bool.and_eq_true] at h1
    simp only [nIn] at h
    split at h
    · rename_i hb;obtain rfl:=Nat.eq_of_beq_eq_true hb;exact entB_ok h1.1
    · exact y1j h1.2 h
def mkTB (P:Program) (l:List (Nat × TE)) (q:List Nat) (h:tAll P l=true) (h2:y1i P q=true) (mx:P.follows .mixedOrders=true):TB P where
  ti t:=tFind l t
  tok _ _ ht:=y6o h ht
  fn f:=nIn f q
  fok _ hf:=y1j h2 hf
  mx:=mx
structure Stp where
  x:IV
  wr:Hp
  rd:List Nat
  nw:List Nat
def agr (fr2 fr:Fr) (l:List Nat):Prop:=∀ t∈l,fr2.get t=fr.get t
def agh (hp2 hp:Hp) (l:List Nat):Prop:=∀ k∈l,look hp2 k=look hp k
def frsh (k:Nat) (fr:Fr) (hp:Hp):Bool:=match nmFr k fr with
  | true=>false
  | false=>match nmHp k hp with
    | true=>false
    | false=>match look hp k with
      | none=>true
      | some _=>false
theorem z40 {k:Nat} (h:frsh k fr hp=true):nmFr k fr=false/\nmHp k hp=false/\look hp k=none:=by
  unfold frsh at h
  split at h
  · cases h
  · rename_i h1
    split at h
    · cases h
    · rename_i h2
      split at h
      · rename_i h3;exact ⟨h1,h2,h3⟩
      · cases h
def yi6 (l:List Operand):List Nat:=l.flatMap fun
  | .tmp t=>[t]
  | _=>[]
def z17 (op:Op):List Nat:=yi6 op.operands.toList
theorem agr.evO {l:List Operand} (h:agr fr2 fr (yi6 l)) {y:Operand} (hy:y∈l):fr2.ev y=fr.ev y:=by
  cases y with
  | tmp t=>exact h t (List.mem_flatMap.2 ⟨.tmp t,hy,List.mem_singleton.2 rfl⟩)
  | _=>rfl
theorem agr.ev {op:Op} (h:agr fr2 fr (z17 op)) {y:Operand} {x:IV} (hx:fr.ev y=some x) (hy:y∈op.operands.toList):fr2.ev y=some x:=(h.evO hy).trans hx
theorem agr.evs {op:Op} (h:agr fr2 fr (z17 op)):∀ {os:List Operand} {xs:List IV},evs fr os=some xs->(∀ y∈os,y∈op.operands.toList)->evs fr2 os=some xs
  | [],xs,hx,_=>hx
  | y::r,xs,hx,hy=>by
    simp only [Go.Proofs.YtekdhljpmflboaaGreat.evs] at hx ⊢
    split at hx
    · rename_i a b h1 h2
      rw [h.ev h1 (hy y (.head _)),h.evs h2 fun z hz=>hy z (.tail _ hz)]
      exact hx
    · cases hx
theorem agr.evParts {op:Op} (h:agr fr2 fr (z17 op)):∀ {ps:List (Nat × Operand)} {xs:List (Nat × IV)},z3z fr ps=some xs->(∀ y∈ps,y.2∈op.operands.toList)->z3z fr2 ps=some xs
  | [],xs,hx,_=>hx
  | (i,y)::r,xs,hx,hy=>by
    simp only [Go.Proofs.YtekdhljpmflboaaGreat.z3z] at hx ⊢
    split at hx
    · rename_i a b h1 h2
      rw [h.ev h1 (hy (i,y) (.head _)),h.evParts h2 fun z hz=>hy z (.tail _ hz)]
      exact hx
    · cases hx
theorem agh.at {rd:List Nat} (h:agh hp2 hp rd) {k:Nat} {ob:Option HO} (hk:look hp k=ob) (hm:k∈rd):look hp2 k=ob:=(h k hm).trans hk
def OkF (P:Program) (Rl:List Nat) (o:Oper) (fr:Fr) (hp:Hp) (s:Stp):Prop :=
  ∀ (c:Cx) fr2 hp2,(∀ k,c.R k->k∈Rl)->(∀ k∈s.nw,c.σ k=none)->agr fr2 fr (z17 o.op)->agh hp2 hp s.rd->(∀ k∈s.nw,frsh k fr2 hp2=true)->Ok P c o fr2 (look hp2) s.x (look (s.wr++hp2))
theorem OkF.pure {x:IV} {rd:List Nat} (h:∀ (c:Cx) (R1:Nat->Prop) fr2 hp2,agr fr2 fr (z17 o.op)->agh hp2 hp rd->(∀ k∈rd,R1 k)->OkV P c R1 o fr2 (look hp2) x):OkF P Rl o fr hp ⟨x,[],rd,[]⟩ :=
  fun c fr2 hp2 _ _ ha hh _=>(h c (fun _=>True) fr2 hp2 ha hh fun _ _=>trivial).ok
inductive VAny (P:Program) (Rl:List Nat) (o:Oper) (fr:Fr) (hp:Hp) (K:Stp->Prop):Prop
  | mk {s:Stp} (h:OkF P Rl o fr hp s) (k:K s)
def Does (P:Program) (Rl:List Nat) (o:Oper) (fr:Fr) (hp:Hp) (K:Stp->Prop):Prop:=∃ s,K s/\OkF P Rl o fr hp s
def frcI:List IV->(List IV->Prop)->Prop
  | [],K=>K []
  | x::r,K=>frcI r fun l=>K (x::l)
theorem z5c:∀ {l:List IV} {K:List IV->Prop},frcI l K->K l
  | [],_,h=>h
  | _::r,K,h=>z5c (l:=r) (K:=fun l=>K (_::l)) h
def frcP:List PV->(List PV->Prop)->Prop
  | [],K=>K []
  | x::r,K=>frcP r fun l=>K (x::l)
theorem z6x:∀ {l:List PV} {K:List PV->Prop},frcP l K->K l
  | [],_,h=>h
  | _::r,K,h=>z6x (l:=r) (K:=fun l=>K (_::l)) h
def bsel (b:Bool) (A B:Prop):Prop:=match b with
  | true=>A
  | false=>B
theorem z00 {b:Bool} {A B:Prop} (ht:b=true->A) (hf:b=false->B):bsel b A B:=by
  cases b with
  | true=>exact ht rfl
  | false=>exact hf rfl
def vev (fr:Fr) (y:Operand) (K:IV->Prop):Prop:=match fr.ev y with
  | some x=>K x
  | none=>False
theorem z1i {y:Operand} {K:IV->Prop} (h:vev fr y K):∃ x,fr.ev y=some x/\K x:=by
  unfold vev at h
  split at h
  · rename_i x hx;exact ⟨x,hx,h⟩
  · exact h.elim
def vti (T:TB P) (t:Nat) (K:TE->Prop):Prop:=match T.ti t with
  | some e=>K e
  | none=>False
theorem z1z {T:TB P} {t:Nat} {K:TE->Prop} (h:vti T t K):∃ e,teB P t e=true/\K e:=by
  unfold vti at h
  split at h
  · rename_i e he;exact ⟨e,T.tok _ _ he,h⟩
  · exact h.elim
def vbox (hp:Hp) (k:Nat) (K:List IV->Prop):Prop:=match look hp k with
  | some (.box cs)=>K cs
  | _=>False
theorem z4z {k:Nat} {K:List IV->Prop} (h:vbox hp k K):∃ cs,look hp k=some (.box cs)/\K cs:=by
  unfold vbox at h
  split at h
  · rename_i cs hk;exact ⟨cs,hk,h⟩
  · exact h.elim
def vrow (hp:Hp) (k:Nat) (K:RT->List (List PV)->Prop):Prop:=match look hp k with
  | some (.row s els)=>K s els
  | _=>False
theorem z6j {k:Nat} {K:RT->List (List PV)->Prop} (h:vrow hp k K):∃ s els,look hp k=some (.row s els)/\K s els:=by
  unfold vrow at h
  split at h
  · rename_i s els hk;exact ⟨s,els,hk,h⟩
  · exact h.elim
def vmap (hp:Hp) (k:Nat) (K:List (Value × PV)->Prop):Prop:=match look hp k with
  | some (.map es)=>K es
  | _=>False
theorem y14 {k:Nat} {K:List (Value × PV)->Prop} (h:vmap hp k K):∃ es,look hp k=some (.map es)/\K es:=by
  unfold vmap at h
  split at h
  · rename_i es hk;exact ⟨es,hk,h⟩
  · exact h.elim
def z2c (b:Bool) (A:Prop):Prop:=match b with
  | true=>A
  | false=>False
theorem z0i {b:Bool} {A:Prop} (h:z2c b A):b=true/\A:=by
  unfold z2c at h
  split at h
  · exact ⟨rfl,h⟩
  · exact h.elim
def vopt {α:Type} (x:Option α) (K:α -> Prop):Prop:=match x with
  | some a=>K a
  | none=>False
theorem z0y {α:Type} {x:Option α} {K:α -> Prop} (h:vopt x K):∃ a,x=some a/\K a:=by
  unfold vopt at h
  split at h
  · exact ⟨_,rfl,h⟩
  · exact h.elim
def ze0:IV->List Nat
  | .pv _=>[]
  | .ptr k _=>[k]
  | .sl k _=>[k]
  | .rpt k _ _=>[k]
  | .bs k _=>[k]
  | .mp k=>[k]
  | _=>[]
def y8t (hp:Hp) (z:IV) (A:Prop):Prop:=match z with
  | .pv p=>z2c p.one A
  | .ptr k _=>vbox hp k fun _=>A
  | .sl k n=>vrow hp k fun _ els=>els.length=n/\A
  | .bs k _=>vbox hp k fun _=>A
  | .mp k=>vmap hp k fun _=>A
  | .fn ..=>A
  | _=>False
theorem zm9 {z:IV} {A:Prop} (h:y8t hp z A):A/\∀ hp2,agh hp2 hp (ze0 z)->z.firm (look hp2):=by
  unfold y8t at h
  split at h
  · obtain ⟨h1,h2⟩:=z0i h;exact ⟨h2,fun _ _=>h1⟩
  · obtain ⟨cs,h1,h2⟩:=z4z h;exact ⟨h2,fun hp2 hh=>⟨cs,hh.at h1 (.head _)⟩⟩
  · obtain ⟨s,els,h1,h2,h3⟩:=z6j h;exact ⟨h3,fun hp2 hh=>⟨s,els,hh.at h1 (.head _),h2⟩⟩
  · obtain ⟨cs,h1,h2⟩:=z4z h;exact ⟨h2,fun hp2 hh=>⟨cs,hh.at h1 (.head _)⟩⟩
  · obtain ⟨cs,h1,h2⟩:=y14 h;exact ⟨h2,fun hp2 hh=>⟨cs,hh.at h1 (.head _)⟩⟩
  · exact ⟨h,fun _ _=>trivial⟩
  · exact h.elim
def ym2 (hp:Hp):List IV->Prop->Prop
  | [],A=>A
  | z::r,A=>y8t hp z (ym2 hp r A)
theorem y3f:∀ {l:List IV} {A:Prop},ym2 hp l A->A/\∀ hp2,agh hp2 hp (l.flatMap ze0)->∀ z∈l,z.firm (look hp2)
  | [],A,h=>⟨h,fun _ _ z hz=>by cases hz⟩
  | z::r,A,h=>by
    obtain ⟨h1,h2⟩:=zm9 h
    obtain ⟨h3,h4⟩:=y3f h1
    refine ⟨h3,fun hp2 hh y hy=>?_⟩
    simp only [List.flatMap_cons] at hh
    rcases List.mem_cons.1 hy with rfl | hy
    · exact h2 hp2 fun k hk=>hh k (List.mem_append_left _ hk)
    · exact h4 hp2 (fun k hk=>hh k (List.mem_append_right _ hk)) y hy
end
end Go.Proofs.YtekdhljpmflboaaGreat
