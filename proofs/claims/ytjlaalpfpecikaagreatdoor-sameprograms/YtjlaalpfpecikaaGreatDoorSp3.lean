/- PART 3 of 9 of a proof: see the last part. -/
import Derived.Test.YtjlaalpfpecikaaGreatDoorSp2
set_option maxRecDepth 20000
set_option maxHeartbeats 8000000
set_option linter.unusedSimpArgs false
set_option linter.unusedVariables false
set_option linter.unusedSectionVars false
namespace Go.Proofs.YtjlaalpfpecikaaGreatDoor
open Go
mutual
theorem z4e(u:Un)(f:Fl):∀(x:Nd)(deep:Int)(w:Wh)(all:List Int),z85 u f deep w all x=true->y32 x=true
 |.mk kind op n name args outs params ks,deep,w,all,hv=>by
  have hb:=z2s u f deep _ all hv
  by_cases h10:kind=10
  ·obtain⟨a,b,hk⟩:=z3h hb h10;rw[z6l u f deep _ all hb h10 hk]at hv;simp only[A0,z4p]at hv;simp only[Nd.kids]at hk
   match ks,hk with
   |[a',b'],hk =>
    cases hk
    subst h10;simp only[y32,zu0,A0,Cd];exact⟨⟨⟨rfl,rfl⟩,rfl⟩,z83 u f a _ _ _ hv.1.1.1.2.2,z83 u f b _ _ _ hv.1.1.2.2⟩
  by_cases h11:kind=11
  ·obtain⟨a,hk⟩:=z25 hb h11;rw[z4q u f deep _ all hb h11 hk]at hv;simp only[A0,z4p]at hv;simp only[Nd.kids]at hk
   match ks,hk with
   |[a'],hk =>
    cases hk
    subst h11;simp only[y32,zu0,A0,Cd];exact⟨⟨⟨rfl,rfl⟩,rfl⟩,z83 u f a _ _ _ hv.1.1.2.2⟩
  have e10:(kind==10)=false:=by simpa using h10
  have e11:(kind==11)=false:=by simpa using h11
  rw[z1e u f deep _ all hb e10 e11]at hv;have hk0:ks=[]:=z66 hb e10 e11;subst hk0;simp only[y32,zu0,Cd,A0];refine⟨⟨?_,?_⟩,?_⟩
  ·cases hK:stK kind with
   |false=>rfl
   |true =>
    obtain⟨v,ho,_⟩:=zz8 (x:=.mk kind op n name args outs params []) hK hv;simp only[Nd.outs]at ho;rw[ho];rfl
  ·by_cases h3:kind=3
   ·subst h3;have ht:=(show(z2w op&&z07 f.types all args [(z0h op).1]&&z62 f.types outs [(z0h op).2])=true from hv);simp only[A0,z07,At,A3,A6]at ht;simp;omega
   ·simp[h3]
  ·by_cases h4:kind=4
   ·subst h4;have ht:=(show(z3o op&&z07 f.types all args [(z0h op).1,(z0h op).1]&&f.types.getD (args.getD 0 0).toNat 0==f.types.getD (args.getD 1 0).toNat 0&&z62 f.types outs [(z0h op).2])=true from hv);simp only[A0,z07,At,A3,A6]at ht;simp;omega
   ·simp[h4]
theorem z83(u:Un)(f:Fl):∀(l:List Nd)(deep:Int)(w:Wh)(all:List Int),vGo u f deep w all l=true->zu1 l=true
 |[],_,_,_,_=>rfl
 |x::r,deep,w,all,hv=>by
  simp only[vGo,A0]at hv;simp only[zu1,A0];exact⟨z4e u f x deep w all hv.1.1.2,z83 u f r deep w _ hv.2⟩
end
def EP(u:Un)(f:Fl)(l:List Nd):Prop:=∀(deep:Int)(w:Wh)(all all':List Int)(tb:Tb)(to:TT),(dL l).Nodup->(∀v∈dL l,all.contains v=false)->(∀v∈dL l,aGet v to=none) ->
 Rel f.types to all all'->TabOk f.types tb all'->vGo u f deep w all l=true->vGo u f deep w all' (z0f tb to l).1=true
theorem EP.list{u:Un}{f:Fl}{l:List Nd}(hh:EP u f l){deep:Int}{w:Wh}{all all':List Int}{tb:Tb}{to:TT}(h1:(dL l).Nodup)(h2:∀v∈dL l,all.contains v=false)(h3:∀v∈dL l,aGet v to=none)
 (hr:Rel f.types to all all') (ht:TabOk f.types tb all') (hv:z4p u f deep w all l=true):z4p u f deep w all' (z0f tb to l).1=true:=by
 simp only[z4p,A0]at hv⊢;refine⟨?_,hh deep w all all' tb to h1 h2 h3 hr ht hv.2⟩;have hne:l≠[]:=by intro e;subst e;simp at hv
 obtain⟨h1,_⟩:=z5d tb to hv.2 hne
 cases hq:(z0f tb to l).1 with
 |nil=>exact A9 hq h1
 |cons _ _=>rfl
def NodeE(u:Un)(f:Fl)(deep:Int)(w:Wh)(all all':List Int)(tb:Tb)(to:TT)(x:Nd):Prop :=
 ((z0r tb to x).1=[]/\z04 x=false/\Rel f.types (z0r tb to x).2.2 (all++x.outs) all'/\TabOk f.types (z0r tb to x).2.1 all') ∨
 ∃y,(z0r tb to x).1=[y]/\z85 u f deep w all' y=true/\z04 y=z04 x/\y.outs=x.outs/\Rel f.types (z0r tb to x).2.2 (all++x.outs) (all'++x.outs)/\TabOk f.types (z0r tb to x).2.1 (all'++x.outs)
theorem zz5{tb:Tb}{to:TT}{x:Nd}(h:z1m x=true):z1m (z19 tb to x)=true:=by
 cases x with
 |mk kind op n name args outs params ks=>exact((yb5 (y4x ks tb to)).trans (show z1m (.mk kind op n name (args.map (z10 to)) outs params ks)=z1m (.mk kind op n name args outs params ks)from rfl)).trans h
theorem j2v{tys all all':List Int}{to:TT}{v y:Int}(hr:Rel tys to all all')(hy:Vis tys all' y (tys.getD v.toNat 0)):Rel tys (aPut v y to) (all++[v]) all':=λz hz z0 z1=>by
 by_cases e:z=v
 ·subst e;have:z10 (aPut z y to) z=y:=by unfold z10;rw[z3x,A5 rfl];rfl
  rw[this];exact hy
 ·have:z10 (aPut v y to) z=z10 to z:=by unfold z10;rw[z3x,A1 e]
  rw[this];refine hr z ?_ z0 z1;rw[Ck,Bb]at hz;exact hz.resolve_right (by simpa using e)
theorem pure_e(u:Un)(f:Fl)(x:Nd)(deep:Int)(w:Wh)(all all':List Int)(tb:Tb)(to:TT)(hK:stK x.kind=true)(hto:∀v∈x.outs,aGet v to=none)
 (hr:Rel f.types to all all') (ht:TabOk f.types tb all') (hb:z1m x=true) (hv:z85 u f deep w all x=true):NodeE u f deep w all all' tb to x:=by
 have h10:(x.kind==10)=false:=by simp only[stK,Bb,At]at hK;simp;omega
 have h11:(x.kind==11)=false:=by simp only[stK,Bb,At]at hK;simp;omega
 have hk0:x.kids=[]:=z66 hb h10 h11;have e2:(z0n tb to x.kids).2=to:=by rw[hk0];simp[z0n]
 rw[z1e u f deep w all hb h10 h11]at hv;obtain⟨v,ho,v0,v1,vt⟩:=zz8 hK hv;have hy:(z8u u f (z19 tb to x) all' w).ok f.types x.outs=true:=y9n (x:=x) rfl rfl rfl rfl rfl hr hv;have hcl:z04 x=false:=by
  cases hc:z04 x with
  |false=>rfl
  |true=>rw[z9l hc]at hK;cases hK
 have hvn:=hto v (by rw[ho];exact .head _);have hno:(z19 tb to x).outs=x.outs:=rfl;have hnk:(z19 tb to x).kind=x.kind:=rfl;have hnp:(z19 tb to x).op=x.op:=rfl;unfold NodeE;rw[z9i,A5 hK,e2,ho];unfold z76;rw[hno,ho]
 cases hp:z4w tb.nums (z19 tb to x)with
 |some y =>
  obtain⟨k4,vis,t1⟩:=j2q hp hy;refine .inl ⟨rfl,hcl,j2v hr ?_,ht⟩;show Vis f.types all' y (f.types.getD v.toNat 0);rw[vt];have k4':x.kind=4:=k4;have t1':(z0h x.op).2=1:=t1;rw[k4',t1']
  exact vis
 |none =>
  dsimp only;have hkk:=ym4 (z19 tb to x)
  cases hs:aGet (z3t (z19 tb to x)) tb.seen with
  |some y =>
   refine .inl ⟨rfl,hcl,j2v hr ?_,ht⟩;have:=ht _ (yk3 hs);unfold kTy at this;rw[hkk.1,hkk.2,hnk,hnp]at this;show Vis f.types all' y (f.types.getD v.toNat 0);rw[vt]
   exact this
  |none =>
   refine .inr ⟨z19 tb to x,rfl,?_,?_,ho,?_,?_⟩
   ·rw[z1e u f deep w all' (zz5 hb) h10 h11];exact hy
   ·rw[hcl]
    cases hc:z04 (z19 tb to x)with
    |false=>rfl
    |true=>have:=z9l hc;rw[hnk,hK]at this;cases this
   ·exact hr.outs λz hz=>by obtain rfl:=Al.1 hz;exact hvn
   ·intro e he;rcases yk4 he with rfl|he
    ·refine⟨by simp,v0,v1,?_⟩;show _=kTy (z3t (z19 tb to x));unfold kTy;rw[hkk.1,hkk.2,hnk,hnp];exact vt
    ·exact(ht e he).mono _
theorem node_e(u:Un)(f:Fl)(x:Nd)(ih:∀q∈x.kids,EP u f q)(deep:Int)(w:Wh)(all all':List Int)(tb:Tb)(to:TT)(hnd:(dN x).Nodup)(hall:∀v∈dN x,all.contains v=false)(hto:∀v∈dN x,aGet v to=none)
 (hr:Rel f.types to all all') (ht:TabOk f.types tb all') (hv:z85 u f deep w all x=true):NodeE u f deep w all all' tb to x:=by
 have hb:=z2s u f deep _ all hv;have hok:=z4e u f x deep w all hv;rw[y7m]at hnd hall hto;rw[zf7]at hok;simp only[A0]at hok
 by_cases hK:stK x.kind=true
 ·exact pure_e u f x deep w all all' tb to hK (λv hv=>hto v (by simp[hv])) hr ht hb hv
 have hK2:stK x.kind=false:=by simpa using hK
 obtain⟨n1,n2,n3⟩:=Cr.1 hnd;obtain⟨n4,n5,n6⟩:=Cr.1 n2;have hkeys:∀v,v∉dK x.kids->aGet v (z0n tb to x.kids).2=aGet v to:=zk4 x.kids tb to hok.2;have hrel2:Rel f.types (z0n tb to x.kids).2 (all++x.outs) (all'++x.outs):=by
  refine(hr.congr λv hv=>hkeys v λhm=>?_).outs λv hv=>?_
  ·have:=hall v (by simp[hm]);rw[hv]at this;cases this
  ·rw[hkeys v λhm=>n6 v hm v hv rfl];exact hto v (by simp[hv])
 unfold NodeE;rw[z7m tb to x hK2];refine .inr ⟨z19 tb to x,rfl,?_,?_,rfl,hrel2,ht.mono _⟩
 ·by_cases h10:x.kind=10
  ·obtain⟨a,b,hk⟩:=z3h hb h10;rw[z6l u f deep w all hb h10 hk]at hv;simp only[A0]at hv;simp only[hk,dK,Cy]at hall hto n4;obtain⟨m1,m2,m3⟩:=Cr.1 n4;rw[hk]at hok;simp only[zu0,Cd,A0]at hok;have ka:=z6f a tb to hok.2.1;have hva:=hv.1.1.1.2;have hvb:=hv.1.1.2;have ha:=(ih a (by rw[hk];simp)).list m1 (λv hv=>hall v (by simp[hv])) (λv hv=>hto v (by simp[hv])) hr ht hva;have hrb:Rel f.types (z0f tb to a).2.2 all all':=hr.congr λv hv=>ka v λhm=>by
    have:=hall v (by simp[hm]);rw[hv]at this;cases this
   have hbb:=(ih b (by rw[hk];simp)).list m2 (λv hv=>hall v (by simp[hv])) (λv hv=>(ka v λhm=>m3 v hm v hv rfl).trans (hto v (by simp[hv]))) hrb ht hvb;simp only[z4p,A0]at hva hvb;have hla:=(z5d tb to hva.2 (by intro e;simp[e]at hva)).2;have hlb:=(z5d tb (z0f tb to a).2.2 hvb.2 (by intro e;simp[e]at hvb)).2;have hkn:(z19 tb to x).kids=[(z0f tb to a).1,(z0f tb (z0f tb to a).2.2 b).1]:=by
    show(z0n tb to x.kids).1=_;rw[hk];simp[z0n]
   have hc:z04 (z19 tb to x)=z04 x:=by
    unfold z04;rw[hkn,hk,show(z19 tb to x).kind=x.kind from rfl];simp[kid0,kid1,hla,hlb]
   rw[z6l u f deep w all' (zz5 hb) h10 hkn];simp only[A0];exact⟨⟨⟨⟨y2l hr hv.1.1.1.1,ha⟩,hbb⟩,by unfold y63 at hv⊢;rw[hc];exact hv.1.2⟩,hv.2⟩
  ·by_cases h11:x.kind=11
   ·obtain⟨a,hk⟩:=z25 hb h11;rw[z4q u f deep w all hb h11 hk]at hv;simp only[A0]at hv;simp only[hk,dK,Cy]at hall hto n4 n3;have hrp:Rel f.types to (all++x.params) (all'++x.params):=hr.outs λv hv=>hto v (by simp[hv]);have ha:=(ih a (by rw[hk];simp)).list n4 (λv hm=>by
     rw[Ck,hall v (by simp[hm]),Ce,<- Dv,List.contains_iff_mem];exact λhp=>n3 v hp v (by simp[hm]) rfl) (λv hv=>hto v (by simp[hv])) hrp (ht.mono _) hv.1.1.2
    have hkn:(z19 tb to x).kids=[(z0f tb to a).1]:=by
     show(z0n tb to x.kids).1=_;rw[hk];simp[z0n]
    have hc:z04 (z19 tb to x)=z04 x:=by
     unfold z04;rw[hkn,hk,show(z19 tb to x).kind=x.kind from rfl];simp[kid0,z7f]
    rw[z4q u f deep w all' (zz5 hb) h11 hkn];simp only[A0];exact⟨⟨⟨⟨y2l hr hv.1.1.1.1,hv.1.1.1.2⟩,ha⟩,by unfold y63 at hv⊢;rw[hc];exact hv.1.2⟩,hv.2⟩
   ·have e10:(x.kind==10)=false:=by simpa using h10
    have e11:(x.kind==11)=false:=by simpa using h11
    rw[z1e u f deep w all hb e10 e11]at hv;rw[z1e u f deep w all' (zz5 hb) e10 e11];exact y9n (x:=x) rfl rfl rfl rfl rfl hr hv
 ·by_cases h10:x.kind=10
  ·obtain⟨a,b,hk⟩:=z3h hb h10;rw[z6l u f deep w all hb h10 hk]at hv;simp only[A0,z4p]at hv;have hla:=(z5d tb to hv.1.1.1.2.2 (by intro e;simp[e]at hv)).2;have hlb:=(z5d tb (z0f tb to a).2.2 hv.1.1.2.2 (by intro e;simp[e]at hv)).2;unfold z04;rw[show(z19 tb to x).kind=x.kind from rfl,show(z19 tb to x).kids=(z0n tb to x.kids).1 from rfl,hk];simp[z0n,kid0,kid1,hla,hlb]
  ·by_cases h11:x.kind=11
   ·obtain⟨a,hk⟩:=z25 hb h11;unfold z04;rw[show(z19 tb to x).kind=x.kind from rfl,show(z19 tb to x).kids=(z0n tb to x.kids).1 from rfl,hk];simp[z0n,kid0,z7f]
   ·have e10:(x.kind==10)=false:=by simpa using h10
    have e11:(x.kind==11)=false:=by simpa using h11
    unfold z04;rw[show(z19 tb to x).kind=x.kind from rfl];simp only[e10,e11,D2,As,Bv]
theorem go_e(u:Un)(f:Fl):∀(l:List Nd),(∀x∈l,∀q∈x.kids,EP u f q)->EP u f l
 |[],_=>λ_ _ _ _ _ _ _ _ _ _ _ _=>by simp[z0f,vGo]
 |x::r,ih=>λdeep w all all' tb to hnd hall hto hr ht hv=>by
  have hv0:=hv;simp only[vGo,A0]at hv;obtain⟨⟨⟨hd,hx⟩,hc⟩,hrr⟩:=hv;simp only[dL]at hnd hall hto;obtain⟨n1,n2,n3⟩:=Cr.1 hnd;have hkx:=za8 x tb to (z4e u f x deep w all hx);have hall2:∀v∈dL r,(all++x.outs).contains v=false:=λv hm=>by
   rw[Ck,hall v (by simp[hm]),Ce,<- Dv,List.contains_iff_mem];exact λho=>n3 v (by rw[y7m];simp[ho]) v hm rfl
  have hto2:∀v∈dL r,aGet v (z0r tb to x).2.2=none:=λv hm=>(hkx v λhn=>n3 v hn v hm rfl).trans (hto v (by simp[hm]));have IH:=go_e u f r (λz hz=>ih z (.tail _ hz));rw[show(z0f tb to (x::r)).1=(z0r tb to x).1++(z0f (z0r tb to x).2.1 (z0r tb to x).2.2 r).1 by rw[z0f]];rcases node_e u f x (ih x (.head _)) deep w all all' tb to n1 (λv hv=>hall v (by simp[hv])) (λv hv=>hto v (by simp[hv])) hr ht hx with⟨h1,h2,h3,h4⟩|⟨y,h1,h2,h3,h4,h5,h6⟩
  ·rw[h1,Dq];exact IH deep w _ all' _ _ n2 hall2 hto2 h3 h4 hrr
  ·rw[h1,List.singleton_append];simp only[vGo,A0];rw[h3,h4];refine⟨⟨⟨hd,h2⟩,?_⟩,IH deep w _ _ _ _ n2 hall2 hto2 h5 h6 hrr⟩;have he:(z0f (z0r tb to x).2.1 (z0r tb to x).2.2 r).1.isEmpty=r.isEmpty:=by
    cases r with
    |nil=>simp[z0f]
    |cons z r' =>
     obtain⟨g1,_⟩:=z5d (z0r tb to x).2.1 (z0r tb to x).2.2 hrr sI0
     cases hq:(z0f (z0r tb to x).2.1 (z0r tb to x).2.2 (z::r')).1 with
     |nil=>exact A9 hq g1
     |cons _ _=>rfl
   rw[he];exact hc
theorem j15(u:Un)(f:Fl):∀(N:Nat)(l:List Nd),SizeOf.sizeOf l<N->EP u f l
 |0,_,h=>A9 h (An _)
 |N+1,l,hN=>go_e u f l λx hx q hq=>j15 u f N q (Bg (zc7 hx rfl hq) (C7 hN))
theorem y0k{k n:Nat}{v:Int}(hk:k<=n)(h:(iota k).contains v=true):(z5f k n).getD v.toNat false=true:=by
 rw[List.contains_iff_mem]at h;obtain⟨i,hi,rfl⟩:=Bz.1 h;rw[En]at hi;simp only[z5f,Ax];rw[Au (by simpa using hi)];simp[hi]
theorem j0r{u:Un}{f:Fl}(hp:f.params.toNat<=f.types.length)(h:zv0 u f f.body):zv0 u f (stB f.body):=by
 refine⟨(j15 u f _ f.body (Ac _)).list (tb:=⟨[],[]⟩) (to:=[]) h.2.1 (λv hv=>?_) (λ_ _=>rfl) (λv hv v0 v1=>⟨hv,v0,v1,rfl⟩) (λe he=>by simp at he) h.1,?_⟩
 ·have:=h.2.2 v hv
  cases hc:(iota f.params.toNat).contains v with
  |false=>rfl
  |true=>rw[y0k hp hc]at this;cases this
 ·have hs:=zt9 f.body ⟨[],[]⟩ [];exact⟨h.2.1.sublist hs,λv hv=>h.2.2 v (hs.subset hv)⟩
theorem y38{u:Un}(h:(z17 u).1=0):z17 (z3r stB u)=(0,0) :=
 check_m stB h λf hf=>j0r (z9m (((z6m u).1 h).2 f hf))
theorem zu2{u:Un}(h:(z4v u).1=0):∀f∈u.flows,zu1 f.body=true:=by
 rw[z9f]at h;intro f hf;have hb:=(j0q h f hf).1;simp only[z4p,A0]at hb;exact z83 u f f.body 1 _ _ hb.2
def G(m:Bool)(N k w:Nat)(F F':Int):Prop:=if m then F<=F'+k else F'*(N+1)+w<=F
theorem g_mul(F':Int)(N:Nat):(F'-1)*((N:Int)+1)=F'*(N+1)-N-1:=by rw[Int.sub_mul];omega
theorem G.step{m:Bool}{N k w:Nat}{F F':Int}(h:G m N k w F F')(hw:1<=w):G m N k (N+1) (F-1) (F'-1):=by
 unfold G at h⊢
 cases m with
 |true=>simp only[C6]at h⊢;omega
 |false =>
  simp only[As,Bv]at h⊢;rw[g_mul];generalize F'*((N:Int)+1)=P at h⊢;omega
theorem G.weak{m:Bool}{N k w k2 w2:Nat}{F F':Int}(h:G m N k w F F')(hk:k<=k2)(hw:w2<=w):G m N k2 w2 F F':=by
 unfold G at h⊢
 cases m with
 |true=>simp only[C6]at h⊢;omega
 |false=>simp only[As,Bv]at h⊢;omega
theorem G.left{m:Bool}{N k w:Nat}{F F':Int}(h:G m N k (w+1) F F'):G m N k w (F-1) F':=by
 unfold G at h⊢
 cases m with
 |true=>simp only[C6]at h⊢;omega
 |false=>simp only[As,Bv]at h⊢;omega
theorem G.pay{m:Bool}{N k w:Nat}{F F':Int}(h:G m N (k+1) (w+1) F F'):G m N k w (F-1) F':=by
 unfold G at h⊢
 cases m with
 |true=>simp only[C6]at h⊢;omega
 |false=>simp only[As,Bv]at h⊢;omega
theorem G.right{m:Bool}{N k w:Nat}{F F':Int}(h:G m N k w F F'):G m N (k+1) w F (F'-1):=by
 unfold G at h⊢
 cases m with
 |true=>simp only[C6]at h⊢;omega
 |false =>
  simp only[As,Bv]at h⊢;rw[g_mul];generalize F'*((N:Int)+1)=P at h⊢;omega
structure Alike(s s':Rs):Prop where
 l:Live s
 l':Live s'
 ins:s'.ins=s.ins
 ar:s'.ar=s.ar
 out:s'.out=s.out
 code:s'.code=s.code
 rg:Rg s
structure RelR(m:Bool)(N k w c:Nat)(s s':Rs):Prop where
 al:Alike s s'
 g:G m N k w s.fuel s'.fuel
 co:s'.cost<=s.cost+c
structure Halt(m:Bool)(s s':Rs):Prop where
 st:s.st≠0
 st':s'.st=s.st
 sp:s.spent=false
 sp':s'.spent=false
 out:s'.out=s.out
 code:s'.code=s.code
 co:s'.cost<=s.cost
 fu:m=true->s.fuel<=s'.fuel
def Cut(m:Bool)(s s':Rs):Prop:=if m then s.spent=true/\s.st=0/\s.out <+: s'.out else s'.spent=true/\s'.st=0/\s'.out <+: s.out
inductive RR(m:Bool)(N:Nat)(E:ER)(r r':Rres):Prop
 |ok:r'.1.1=r.1.1->E r.1.1 r.1.2 r'.1.2 r.2.1 r'.2.1->RelR m N 0 (N+1) 0 r.2.2 r'.2.2->RR m N E r r'
 |halt:Halt m r.2.2 r'.2.2->RR m N E r r'
 |cut:Cut m r.2.2 r'.2.2->RR m N E r r'
inductive RC(m:Bool)(N:Nat)(q q':Int×Rs):Prop
 |ok:q'.1=q.1->I64 q.1->RelR m N 0 (N+1) 0 q.2 q'.2->RC m N q q'
 |halt:Halt m q.2 q'.2->RC m N q q'
 |cut:Cut m q.2 q'.2->RC m N q q'
theorem Halt.over{m:Bool}{s s':Rs}(h:Halt m s s'):z16 s=true/\z16 s'=true:=by
 have h1:=h.st;have h2:=h.st';unfold z16;rw[h2];have:(s.st != 0)=true:=by simpa using h1
 rw[this,Bk,Bk];exact⟨rfl,rfl⟩
section
section
variable {u v:Un} {D:Nat} {B:Int} {m:Bool} {N:Nat}
theorem y2m{k w c:Nat}{E:ER}{s s':Rs}{a:List Int}{r r':Rres}(h:RelR m N k w c s s')(hw:1<=w)(hf:s.fuel<1)(h0:0<=s'.fuel)(ho:s'.out <+: r'.2.2.out)(hr:r=((0,[]),a,gone s)):RR m N E r r':=by
 subst hr
 cases m with
 |true=>exact .cut (by unfold Cut;rw[A5 rfl];exact⟨rfl,h.al.l.2,by show s.out <+: _;rw[<- h.al.out];exact ho⟩)
 |false =>
  have:=h.g;unfold G at this;simp only[As,Bv]at this;have h2:0<=s'.fuel*((N:Int)+1):=G6 h0 oM0;omega
theorem poor(hB:B<=4611686018427387903){k c:Nat}{I:VR}{l:List Nd}{K:List KF}{l':List Nd}{E:ER}(h:LRel k c I l K l' E) :
 ∀(D:Nat)(a:List Int)(s:Rs)(r:Rres),KRun u D l K a s r->Oks B s->Live s->l≠[]->s.fuel<=k->r.2.2.spent=true/\r.2.2.st=0/\r.2.2.out=s.out:=by
 have G0:∀{s:Rs}{a:List Int}{r:Rres},Live s->r=((0,[]),a,gone s)->r.2.2.spent=true/\r.2.2.st=0/\r.2.2.out=s.out:=λhl e=>by subst e;exact⟨rfl,hl.2,rfl⟩
 have Z:∀{D:Nat}{l:List Nd}{K:List KF}{a:List Int}{s:Rs}{r:Rres},KRun u D l K a s r->Oks B s->Live s->l≠[]->s.fuel<=(0:Nat)->r.2.2.spent=true/\r.2.2.st=0/\r.2.2.out=s.out:=by
  intro D l K a s r hk ho hl hn hf
  cases l with
  |nil=>exact A9 rfl hn
  |cons x l =>
   rcases zr0 hB hk ho hl with⟨_,e⟩|⟨e,_⟩
   ·exact G0 hl e
   ·exact A9 hf (by simp;omega)
 have ne:∀{k c:Nat}{I:VR}{l:List Nd}{K:List KF}{l':List Nd}{E:ER}{f:Int},LRel k c I l K l' E->1<=f->f<=k->l≠[]:=by
  intro k c I l K l' E f h h1 h2 e;have:=LRel.nil h e;subst this;simp at h2;omega
 induction h with
 |dead _=>exact λ_ _ _ _=>Z
 |weak _ _ ih=>exact ih
 |both hx _ _ _ hL ih =>
  intro D a s r hk ho hl hn hf;rcases y7z hB hx hk ho hl with⟨_,e⟩|⟨e,a2,_,h2⟩
  ·exact G0 hl e
  ·have t:=ih _ _ _ _ h2 (zm9 ho e) (y5r (z7a hl)) (ne hL e hf) (by show s.fuel-1<=_;omega)
   exact t
 |skip hx _ hL ih =>
  intro D a s r hk ho hl hn hf;rcases y7z hB hx hk ho hl with⟨_,e⟩|⟨e,a2,_,h2⟩
  ·exact G0 hl e
  ·have t:=ih _ _ _ _ h2 (zm9 ho e) (y5r (z7a hl)) (ne hL e hf) (by show s.fuel-1<=_;omega)
   exact t
 |drop=>exact λ_ _ _ _=>Z
 |paid hx _ hne hL ih =>
  intro D a s r hk ho hl hn hf;rcases y7z hB hx hk ho hl with⟨_,e⟩|⟨e,a2,_,h2⟩
  ·exact G0 hl e
  ·have t:=ih _ _ _ _ h2 (zm9 ho e) (y5r (z7a hl)) hne (by show s.fuel-1<=_;omega)
   exact t
 |add _ _ _ _ ih =>
  intro D a s r hk ho hl hn hf
  exact ih _ _ _ _ hk ho hl hn oM0
 |eff=>exact λ_ _ _ _=>Z
 |ite=>exact λ_ _ _ _=>Z
 |ender=>exact λ_ _ _ _=>Z
 |loop hx _ hq _ _ hL _ _ ih _ =>
  intro D a s r hk ho hl hn hf;rcases zr0 hB hk ho hl with⟨_,e⟩|⟨e,d1,p,r1,_,_,h3,h4⟩
  ·exact G0 hl e
  ·have h5:=z7i h3 (by rw[hx];rfl);have ho1:=(z4r ho e).1;obtain⟨d2,v2,q2,r2,rfl,_,g2,g3,g4⟩:=z5g h5;rw[hq]at g2;obtain rfl:=C0 g2;have h6:=ih d2 v2 (dec s) r2 ⟨d2,r2,Ag _,g3,by split<;>rfl⟩ ho1 (z7a hl) (ne hL e hf) (by show s.fuel-1<=_;omega);have hov:z16 r2.2.2=true:=by unfold z16;rw[h6.1];rfl
   rw[hov]at g4
   cases g4
   rcases h4 with⟨_,h4⟩|⟨h4,_⟩|⟨h4,_⟩
   ·subst h4;exact h6
   iterate 2 ·rw[z0s h4]at hov;cases hov
 |once hx hq _ hL ih =>
  intro D a s r hk ho hl hn hf;rcases y8o hB hx hq hk ho hl with⟨_,e⟩|⟨e,p,a2,_,_,h2⟩
  ·exact G0 hl e
  ·have t:=ih _ _ _ _ h2 (z4r ho e).1 (z7a hl) (ne hL e hf) (by show s.fuel-1<=_;omega)
   exact t
 |leave hy hy2 _ hL ih =>
  intro D a s r hk ho hl hn hf;rcases y3n hB hy hy2 hk ho hl with⟨_,e⟩|⟨e,p,a2,_,_,h2⟩
  ·exact G0 hl e
  ·have t:=ih _ _ _ _ h2 (z4r ho e).1 (z7a hl) (ne hL e hf) (by show s.fuel-1<=_;omega)
   exact t
 |fork hx hq hL0 hL1 ih0 ih1 =>
  intro D a s r hk ho hl hn hf;rcases y7u hB hx hq hk ho hl with⟨_,e⟩|⟨e,q,hq',h2⟩
  ·exact G0 hl e
  ·rcases hq' with rfl|rfl
   ·have t:=ih0 _ _ _ _ h2 (z4r ho e).1 (z7a hl) (ne hL0 e hf) (by show s.fuel-1<=_;omega);exact t
   ·have t:=ih1 _ _ _ _ h2 (z4r ho e).1 (z7a hl) (ne hL1 e hf) (by show s.fuel-1<=_;omega);exact t
theorem j0f{k w c:Nat}{I:VR}{l:List Nd}{K:List KF}{l':List Nd}{E:ER}{a b:List Int}{s s':Rs}{r r':Rres}(hB:B<=4611686018427387903)(hL:LRel k c I l K l' E)(hn:l≠[])(hk:KRun u D l K a s r)(ho:Oks B s)
 (h:RelR m N k w c s s') (hf:s'.fuel<1) (hr:r'=((0,[]),b,gone s')):RR m N E r r':=by
 subst hr;refine .cut ?_;unfold Cut
 cases m with
 |true =>
  rw[A5 rfl];have hg:=h.g;unfold G at hg;simp only[C6]at hg;obtain⟨h1,h2,h3⟩:=poor hB hL _ _ _ _ hk ho h.al.l hn oM0
  exact⟨h1,h2,by rw[h3];show s.out <+: s'.out;rw[h.al.out];exact Cm _⟩
 |false =>
  rw[A1 dC0];refine⟨rfl,h.al.l'.2,?_⟩;show s'.out <+: _;rw[h.al.out];exact hk.out hB ho
def upd(s:Rs)(ins:List Int)(ar:List (List Int))(st:Int)(out:List Int):Rs:={ bmp s with ins:=ins,ar:=ar,st:=st,out:=out }
theorem j56{d d':Nat}{x x':Nd}{p:List Int}{s s':Rs}{q q':Int×Rs}(hk:x'.kind=x.kind)(hop:x'.op=x.op)(hnm:x'.name=x.name)(h7:x.kind≠7)(hA:v.arrays=u.arrays)
 (hB:B<=4611686018427387903) (ho:Oks B s) (ho':Oks B s') (hal:Alike s s') (h:mSum u d x p s=some q) (h':mSum v d' x' p s'=some q') :
 q'.1=q.1/\∃ins ar st out,q.2=upd s ins ar st out/\q'.2=upd s' ins ar st out:=by
 obtain⟨d,rfl⟩:=z6h h;obtain⟨d',rfl⟩:=z6h h';have e:=zk8 hB ho;have e':=zk8 hB ho';obtain⟨hl,hl',i1,i2,i3,i4,_⟩:=hal;have U:bmp s=upd s s.ins s.ar s.st s.out:=rfl;have U':bmp s'=upd s' s.ins s.ar s.st s.out:=by unfold upd bmp;rw[<- i1,<- i2,<- i3,hl.2,<- hl'.2]
 have ne:∀{i:Int},x.kind≠i->(x.kind==i)=false:=λh=>Aa.2 h;have ne':∀{i:Int},x.kind≠i->(x'.kind==i)=false:=λh=>Aa.2 (by rw[hk];exact h)
 by_cases k3:x.kind=3
 ·obtain⟨a0,g1,rfl⟩:=z9r h (At.2 k3);obtain⟨a0',g1',rfl⟩:=z9r h' (At.2 (hk.trans k3));rw[g1]at g1';cases g1'
  rw[e,e',hop];exact⟨rfl,_,_,_,_,U,U'⟩
 by_cases k4:x.kind=4
 ·obtain⟨a0,a1,g1,g2,rfl⟩:=z8a h (At.2 k4);obtain⟨a0',a1',g1',g2',rfl⟩:=z8a h' (At.2 (hk.trans k4));rw[g1]at g1';cases g1'
  rw[g2]at g2';cases g2'
  rw[e,e',hop];refine⟨rfl,?_⟩
  cases(mTwo x.op a0 a1).2 with
  |true=>exact⟨_,_,_,_,U,U'⟩
  |false=>exact⟨s.ins,s.ar,2,s.out,rfl,by show({ bmp s' with st:=2 }:Rs)=_;rw[U'];rfl⟩
 have cell:∀(k n:Int)(q q':Bool×Rs),zc9 (bmp s) k n=some q->zc9 (bmp s') k n=some q'->q'.1=q.1/\((q.1=false->q.2=upd s s.ins s.ar 3 s.out/\q'.2=upd s' s.ins s.ar 3 s.out)):=by
  intro k n q q' g g';rw[U']at g';unfold zc9 at g g';have S:({ upd s' s.ins s.ar s.st s.out with st:=3 }:Rs)=upd s' s.ins s.ar 3 s.out:=rfl;split at g
  ·rename_i c1;rw[A5 c1]at g'
   cases g;cases g'
   exact⟨rfl,λ_=>⟨rfl,S⟩⟩
  ·rename_i c1;rw[A1 c1]at g';split at g
   ·rename_i c2;rw[A5 c2]at g';obtain⟨row,r1,r2⟩:=Ao.1 g;obtain⟨row',r1',r2'⟩:=Ao.1 g';have:s.ar[k.toNat]?=some row:=r1;have h2:s.ar[k.toNat]?=some row':=r1';rw[this]at h2;cases h2
    split at r2
    ·rename_i c3;rw[A5 c3]at r2'
     cases r2;cases r2'
     exact⟨rfl,λ_=>⟨rfl,S⟩⟩
    ·rename_i c3;rw[A1 c3]at r2'
     cases r2;cases r2'
     exact⟨rfl,λh=>by cases h⟩
   ·cases g
 by_cases k5:x.kind=5
 ·obtain⟨a0,b,t,g1,g2,g3⟩:=z7j h k5;obtain⟨a0',b',t',g1',g2',g3'⟩:=z7j h' (hk.trans k5);rw[g1]at g1';cases g1'
  rw[e]at g2 g3;rw[e']at g2' g3';rw[hA,hnm]at g2' g3';obtain⟨c1,c2⟩:=cell _ _ _ _ g2 g2';have c1:b'=b:=c1;subst c1;rcases g3 with⟨rfl,rfl⟩|⟨rfl,row,y,h4,h5,rfl⟩
  ·rcases g3' with⟨_,rfl⟩|⟨h0,_⟩
   ·obtain⟨c3,c4⟩:=c2 rfl;exact⟨rfl,_,_,_,_,c3,c4⟩
   ·cases h0
  ·rcases g3' with⟨h0,_⟩|⟨_,row',y',h4',h5',rfl⟩
   ·cases h0
   ·rw[U']at h4';have e1:s.ar[(z0i x.name u.arrays 0).toNat]?=some row:=h4;have e2:s.ar[(z0i x.name u.arrays 0).toNat]?=some row':=h4';rw[e1]at e2;cases e2
    rw[h5]at h5';cases h5'
    exact⟨rfl,_,_,_,_,U,U'⟩
 by_cases k6:x.kind=6
 ·obtain⟨a0,b,t,g1,g2,g3⟩:=z68 h k6;obtain⟨a0',b',t',g1',g2',g3'⟩:=z68 h' (hk.trans k6);rw[g1]at g1';cases g1'
  rw[e]at g2 g3;rw[e']at g2' g3';rw[hA,hnm]at g2' g3';obtain⟨c1,c2⟩:=cell _ _ _ _ g2 g2';have c1:b'=b:=c1;subst c1;rcases g3 with⟨rfl,rfl⟩|⟨rfl,row,y,h4,h5,rfl⟩
  ·rcases g3' with⟨_,rfl⟩|⟨h0,_⟩
   ·obtain⟨c3,c4⟩:=c2 rfl;exact⟨rfl,_,_,_,_,c3,c4⟩
   ·cases h0
  ·rcases g3' with⟨h0,_⟩|⟨_,row',y',h4',h5',rfl⟩
   ·cases h0
   ·rw[U']at h4';have e1:s.ar[(z0i x.name u.arrays 0).toNat]?=some row:=h4;have e2:s.ar[(z0i x.name u.arrays 0).toNat]?=some row':=h4';rw[e1]at e2;cases e2
    rw[h5]at h5';cases h5'
    refine⟨rfl,s.ins,s.ar.set (z0i x.name u.arrays 0).toNat (row.set a0.toNat y),s.st,s.out,rfl,?_⟩;rw[U'];rfl
 by_cases k9:x.kind=9
 ·obtain⟨a0,g1,_,rfl⟩:=z7k h (At.2 k9);obtain⟨a0',g1',_,rfl⟩:=z7k h' (At.2 (hk.trans k9));rw[g1]at g1';cases g1'
  rw[e,e',U',i3];exact⟨rfl,s.ins,s.ar,s.st,s.out++[a0],rfl,rfl⟩
 by_cases k8:x.kind=8
 ·have R1:=z92 h (At.2 k8);have R2:=z92 h' (At.2 (hk.trans k8));rw[e]at R1;rw[e',U',i1]at R2;rcases R1 with⟨c1,rfl⟩|⟨y,z,c1,rfl⟩
  ·rcases R2 with⟨c2,rfl⟩|⟨y',z',c2,rfl⟩
   ·exact⟨rfl,s.ins,s.ar,4,s.out,rfl,rfl⟩
   ·rw[c1]at c2;cases c2
  ·rcases R2 with⟨c2,rfl⟩|⟨y',z',c2,rfl⟩
   ·rw[c1]at c2;cases c2
   ·rw[c1]at c2;cases c2
    exact⟨rfl,z,s.ar,s.st,s.out,rfl,rfl⟩
 ·obtain rfl:=z91 h (ne k3) (ne k4) (ne k5) (ne k6) (ne h7) (ne k9) (ne k8);obtain rfl:=z91 h' (ne' k3) (ne' k4) (ne' k5) (ne' k6) (ne' h7) (ne' k9) (ne' k8);rw[e,e'];exact⟨rfl,_,_,_,_,U,U'⟩
end
theorem ya6(n:Int):I64 (w64 n):=by
 unfold I64 w64;rw[IntWalk.i64_left];unfold Go.RowKit.wrap64;omega
theorem y3e(b:Bool):I64 (zm4 b):=by cases b<;>simp[I64,zm4]
theorem y8p(op a:Int):I64 (mOne op a):=by
 unfold mOne
 repeat' split
 all_goals first
 |exact ya6 _
 |exact y3e _
 |simp[I64]
theorem j03{a b:Int}(h:I64 a):I64 (a.tmod b):=by
 unfold I64 at h⊢;have hn:=Int.natAbs_tmod a b;have hm:=Nat.mod_le a.natAbs b.natAbs;rcases Int.le_total 0 a with h0|h0
 ·have h1:=Int.tmod_nonneg b h0;omega
 ·have h1:=Int.tmod_nonneg b (a:=-a) oM0;rw[Int.neg_tmod]at h1;omega
theorem yt7{a:Int}{k:Nat}(h:I64 a):I64 (a.fdiv (2 ^ k)):=by
 unfold I64 at h⊢;have hp:(1:Int)<=2 ^ k:=by have:=Int.pow_pos (n:=(2:Int)) (m:=k) dC0;omega
 rw[Int.fdiv_eq_ediv_of_nonneg _ oM0];generalize(2:Int) ^ k=c at hp;refine⟨?_,?_⟩
 ·rcases Int.le_total 0 a with h0|h0
  ·have:=Int.ediv_nonneg h0 (show 0<=c by omega);omega
  ·have h1:a<=a/c:=by
    refine Int.le_ediv_of_mul_le oM0 ?_;have:a*c<=a*1:=Int.mul_le_mul_of_nonpos_left h0 hp;omega
   omega
 ·rcases Int.le_total 0 a with h0|h0
  ·have:=Int.ediv_le_self c h0;omega
  ·have h2:a/c<=0:=by
    have:=Int.ediv_le_ediv (c:=c) oM0 h0;simpa using this
   omega
theorem j1o{c:Prop}[Decidable c]{x y:Int}(hx:I64 x)(hy:I64 y):I64 (if c then x else y):=by
 by_cases h:c
 ·rw[A5 h];exact hx
 ·rw[A1 h];exact hy
theorem j5h{a b:Int}(op:Int)(h:I64 a):I64 (mTwo op a b).1:=by
 have h0:I64 0:=by simp[I64]
 unfold mTwo;simp only[apply_ite Prod.fst]
 repeat' first
 |exact ya6 _
 |exact y3e _
 |exact h0
 |exact j03 h
 |exact yt7 h
 |refine j1o ?_ ?_
theorem P64.at{p:List Int}(h:P64 p){i:Nat}{y:Int}(hy:p[i]?=some y):I64 y:=h y (Af hy)
theorem sum_rg{u:Un}{d:Nat}{x:Nd}{p:List Int}{s:Rs}{q:Int×Rs}(h7:x.kind≠7)(hp:P64 p)(hr:Rg s)(h:mSum u d x p s=some q):I64 q.1/\Rg q.2/\(q.2.st=0->Two x p q.1):=by
 obtain⟨d,rfl⟩:=z6h h;have ne:∀{i:Int},x.kind≠i->(x.kind==i)=false:=λh=>Aa.2 h;have h0:I64 0:=by simp[I64]
 by_cases k3:x.kind=3
 ·obtain⟨a0,g1,rfl⟩:=z9r h (At.2 k3);exact⟨y8p _ _,hr,λ_ k4=>by rw[k3]at k4;exact A9 k4 dC0⟩
 by_cases k4:x.kind=4
 ·obtain⟨a0,a1,g1,g2,rfl⟩:=z8a h (At.2 k4);refine⟨j5h _ (hp.at g1),by dsimp only;split<;>exact hr,λhst _=>⟨a0,a1,g1,g2,?_⟩⟩;dsimp only at hst
  cases hb:(mTwo x.op a0 a1).2 with
  |true=>rw[<- hb]
  |false=>rw[hb,A1 dC0]at hst;exact A9 (show(2:Int)=0 from hst) dC0
 have n4:∀{P:Prop},x.kind=4->P:=λh=>A9 h k4
 by_cases k5:x.kind=5
 ·obtain⟨a0,b,s',_,h2,h3⟩:=z7j h k5;rcases h3 with⟨rfl,rfl⟩|⟨rfl,row,y,h4,h5,rfl⟩
  ·rcases z9p h2 with h4|h4
   ·obtain⟨_,rfl⟩:=Ei h4;exact⟨h0,hr,λ_=>n4⟩
   ·cases(Ei h4).1
  ·exact⟨(hr.2 _ (Af h4)).at h5,hr,λ_=>n4⟩
 by_cases k6:x.kind=6
 ·obtain⟨a0,b,s',_,h2,h3⟩:=z68 h k6;rcases h3 with⟨rfl,rfl⟩|⟨rfl,row,y,h4,h5,rfl⟩
  ·rcases z9p h2 with h4|h4
   ·obtain⟨_,rfl⟩:=Ei h4;exact⟨h0,hr,λ_=>n4⟩
   ·cases(Ei h4).1
  ·refine⟨h0,⟨hr.1,λr hm=>?_⟩,λ_=>n4⟩;rcases D9 hm with hm|rfl
   ·exact hr.2 r hm
   ·intro z hz;rcases D9 hz with hz|rfl
    ·exact hr.2 row (Af h4) z hz
    ·exact hp.at h5
 by_cases k9:x.kind=9
 ·obtain⟨a0,g1,_,rfl⟩:=z7k h (At.2 k9);exact⟨h0,hr,λ_=>n4⟩
 by_cases k8:x.kind=8
 ·rcases z92 h (At.2 k8)with⟨c1,rfl⟩|⟨y,z,c1,rfl⟩
  ·exact⟨h0,hr,λ_=>n4⟩
  ·have h1:=hr.1;rw[c1]at h1;exact⟨h1 y (.head _),⟨λv hv=>h1 v (.tail _ hv),hr.2⟩,λ_=>n4⟩
 ·obtain rfl:=z91 h (ne k3) (ne k4) (ne k5) (ne k6) (ne h7) (ne k9) (ne k8);exact⟨h0,hr,λ_=>n4⟩
end
theorem ys8{a:Int}(h:I64 a):IntKind.i64.wrap (a%2 ^ 64)=a:=by
 unfold I64 at h;rw[IntWalk.i64_left];unfold Go.RowKit.wrap64;omega
theorem yb7{a:Int}(h:I64 a):IntKind.i64.wrap ((BitVec.ofInt IntKind.i64.bits a).toNat:Int)=a:=by
 rw[BitVec.toNat_ofInt];have e:((a%((2 ^ IntKind.i64.bits:Nat):Int)).toNat:Int)=a%2 ^ 64:=by
  have:((2 ^ IntKind.i64.bits:Nat):Int)=2 ^ 64:=by decide
  rw[this];have:=Int.emod_nonneg a (show(2:Int) ^ 64≠0 by decide);omega
 rw[e];exact ys8 h
theorem u64_wrap{a:Int}(h:I64 a):w64 (IntKind.u64.wrap a)=a:=by
 have e:IntKind.u64.wrap a=a%2 ^ 64:=by
  unfold IntKind.wrap;have:IntKind.u64.signed=false:=rfl;rw[this];rfl
 unfold w64;rw[e];exact ys8 h
theorem zp7{a:Int}(h:I64 a):w64 a=a:=D3 a h
theorem y34:min (andI 0 63).toNat IntKind.i64.bits=0:=by decide
theorem yb4:min (andI 0 63).toNat IntKind.u64.bits=0:=by decide
theorem y8w{op m a:Int}(h:z71 op m=true)(ha:I64 a):mTwo op a m=(a,true):=by
 unfold z71 at h;split at h
 ·rename_i ho;simp only[At]at h;subst h;simp only[Bb,At]at ho;rcases ho with(((((rfl|rfl)|rfl)|rfl)|rfl)|rfl)|rfl
  ·show(w64 (a+0),true)=_;rw[Int.add_zero,zp7 ha]
  ·show(w64 (a-0),true)=_;rw[Int.sub_zero,zp7 ha]
  ·show(IntKind.i64.wrap ((BitVec.ofInt IntKind.i64.bits a ||| 0#IntKind.i64.bits).toNat:Int),true)=_;rw[BitVec.or_zero,yb7 ha]
  ·show(IntKind.i64.wrap ((BitVec.ofInt IntKind.i64.bits a ^^^ 0#IntKind.i64.bits).toNat:Int),true)=_;rw[BitVec.xor_zero,yb7 ha]
  ·show(w64 (a*2 ^ min (andI 0 63).toNat IntKind.i64.bits),true)=_;rw[y34,Int.pow_zero,Int.mul_one,zp7 ha]
  ·show(a.fdiv (2 ^ min (andI 0 63).toNat IntKind.i64.bits),true)=_;rw[y34,Int.pow_zero,Int.fdiv_one]
  ·show(w64 ((IntKind.u64.wrap a).fdiv (2 ^ min (andI 0 63).toNat IntKind.u64.bits)),true)=_;rw[yb4,Int.pow_zero,Int.fdiv_one,u64_wrap ha]
 ·split at h
  ·rename_i ho;simp only[At]at h;subst h;simp only[Bb,At]at ho;rcases ho with rfl|rfl
   ·show(w64 (a*1),true)=_;rw[Int.mul_one,zp7 ha]
   ·show(w64 (a.tdiv 1),true)=_;rw[Int.tdiv_one,zp7 ha]
  ·split at h
   ·rename_i ho;simp only[At]at h ho;subst h ho;show(IntKind.i64.wrap ((BitVec.ofInt IntKind.i64.bits a &&& BitVec.ofInt IntKind.i64.bits (-1)).toNat:Int),true)=_;have:BitVec.ofInt IntKind.i64.bits (-1)=BitVec.allOnes IntKind.i64.bits:=by decide
    rw[this,BitVec.and_allOnes,yb7 ha]
   ·cases h
theorem y76{op:Int}(h:z8v op=true)(a b:Int):mTwo op a b=mTwo op b a:=by
 simp only[z8v,Bb,At]at h;rcases h with(((((rfl|rfl)|rfl)|rfl)|rfl)|rfl)|rfl
 ·show(w64 (a+b),true)=(w64 (b+a),true);rw[Int.add_comm]
 ·show(w64 (a*b),true)=(w64 (b*a),true);rw[Int.mul_comm]
 ·show(andI a b,true)=(andI b a,true);unfold andI;rw[BitVec.and_comm]
 ·show(orI a b,true)=(orI b a,true);unfold orI;rw[BitVec.or_comm]
 ·show(xorI a b,true)=(xorI b a,true);unfold xorI;rw[BitVec.xor_comm]
 ·show(zm4 (a==b),true)=(zm4 (b==a),true);rw[show(a==b)=(b==a) by rw[Cn,At,At];exact eq_comm]
 ·show(zm4 (!(a==b)),true)=(zm4 (!(b==a)),true);rw[show(a==b)=(b==a) by rw[Cn,At,At];exact eq_comm]
def KeyE(b:List Int)(k:Ky)(z:Int):Prop:=((k.kind=1∨k.kind=2)/\z=k.n)∨(k.kind=3/\∃a0,getV b k.a=some a0/\z=mOne k.op a0)∨(k.kind=4/\∃a0 a1,getV b k.a=some a0/\getV b k.b=some a1/\mTwo k.op a0 a1=(z,true))
def KeyV(b:List Int)(k:Ky)(y:Int):Prop:=∃z,getV b y=some z/\KeyE b k z
def TabV(tb:Tb)(b:List Int):Prop:=(∀k y,aGet k tb.seen=some y->KeyV b k y)/\∀v m,aGet v tb.nums=some m->getV b v=some m
def TabIn(tb:Tb)(S:List Int):Prop:=(∀k y,aGet k tb.seen=some y->y∈S/\(k.kind=3->k.a∈S)/\(k.kind=4->k.a∈S/\k.b∈S))/\∀v m,aGet v tb.nums=some m->v∈S
def TabLe(t0 t1:Tb):Prop:=(∀k y,aGet k t0.seen=some y->aGet k t1.seen=some y)/\∀v m,aGet v t0.nums=some m->aGet v t1.nums=some m
theorem KeyE.keep{S b b2:List Int}{k:Ky}{z:Int}(h:KeyE b k z)(h3:k.kind=3->k.a∈S)(h4:k.kind=4->k.a∈S/\k.b∈S)(he:∀v∈S,getV b2 v=getV b v):KeyE b2 k z:=by
 rcases h with h2|⟨k3,a0,g,e⟩|⟨k4,a0,a1,g,g',e⟩
 ·exact .inl h2
 ·exact .inr (.inl ⟨k3,a0,(he _ (h3 k3)).trans g,e⟩)
 ·exact .inr (.inr ⟨k4,a0,a1,(he _ (h4 k4).1).trans g,(he _ (h4 k4).2).trans g',e⟩)
theorem TabV.keep{tb:Tb}{S b b2:List Int}(h:TabV tb b)(hi:TabIn tb S)(he:∀v∈S,getV b2 v=getV b v):TabV tb b2 :=
 ⟨λk y hk=>by
  obtain⟨z,h1,h2⟩:=h.1 k y hk;obtain⟨i1,i2,i3⟩:=hi.1 k y hk;exact⟨z,(he y i1).trans h1,h2.keep i2 i3 he⟩,λv m hv=>(he v (hi.2 v m hv)).trans (h.2 v m hv)⟩
theorem TabV.le{t0 t1:Tb}{b:List Int}(h:TabV t1 b)(hl:TabLe t0 t1):TabV t0 b:=⟨λk y hk=>h.1 k y (hl.1 k y hk),λv m hv=>h.2 v m (hl.2 v m hv)⟩
theorem TabIn.mono{tb:Tb}{S T:List Int}(h:TabIn tb S)(hs:∀v∈S,v∈T):TabIn tb T :=
 ⟨λk y hk=>⟨hs _ (h.1 k y hk).1,λe=>hs _ ((h.1 k y hk).2.1 e),λe=>⟨hs _ ((h.1 k y hk).2.2 e).1,hs _ ((h.1 k y hk).2.2 e).2⟩⟩,λv m hv=>hs _ (h.2 v m hv)⟩
theorem TabLe.refl(tb:Tb):TabLe tb tb:=⟨λ_ _ h=>h,λ_ _ h=>h⟩
theorem TabLe.trans{a b c:Tb}(h:TabLe a b)(h':TabLe b c):TabLe a c:=⟨λk y hk=>h'.1 k y (h.1 k y hk),λv m hv=>h'.2 v m (h.2 v m hv)⟩
theorem P64.set{b b2:List Int}{o y:Int}(h:P64 b)(hy:I64 y)(hs:setV b o y=some b2):P64 b2:=by
 unfold setV at hs;split at hs
 ·cases hs
  intro z hz;rcases D9 hz with hz|rfl
  ·exact h z hz
  ·exact hy
 ·cases hs
theorem P64.sets:∀{l p b b2:List Int},P64 b->P64 p->mSet b l p=some b2->P64 b2
 |[],_,_,_,h,_,hs=>by cases hs;exact h
 |i::r,p,b,b2,h,hp,hs=>by
  obtain⟨y,p',b1,rfl,g1,g2⟩:=zd0 hs;exact P64.sets (h.set (hp y (.head _)) g1) (λz hz=>hp z (.tail _ hz)) g2
theorem P64.seto{outs b b2:List Int}{y:Int}(h:P64 b)(hy:I64 y)(hs:setO outs b y b2):P64 b2:=by
 cases outs with
 |nil=>obtain rfl:b2=b:=hs;exact h
 |cons o r=>exact h.set hy hs
theorem y5h{b:List Int}{v y:Int}(h:getV b v=some y):y∈b:=by
 unfold getV at h;split at h
 ·exact Af h
 ·cases h
theorem P64.of{b:List Int}(h:P64 b):∀{l p:List Int},mOf b l=some p->P64 p
 |[],p,e=>by cases e;exact λ_ h=>by simp at h
 |i::r,p,e=>by
  simp only[mOf,Ao,A8]at e;obtain⟨y,e1,q,e2,rfl⟩:=e;intro z hz;rcases Aq.1 hz with rfl|hz
  ·exact h z (y5h e1)
  ·exact P64.of h e2 z hz
theorem y8b{b:List Int}:∀{l p:List Int}{i:Nat}{y:Int},mOf b l=some p->p[i]?=some y->∃v,l[i]?=some v/\getV b v=some y
 |[],p,i,y,e,h=>by cases e;simp at h
 |v::r,p,i,y,e,h=>by
  simp only[mOf,Ao,A8]at e;obtain⟨y0,e1,q,e2,rfl⟩:=e
  cases i with
  |zero=>simp at h;subst h;exact⟨v,rfl,e1⟩
  |succ i=>simp at h;obtain⟨w,g1,g2⟩:=y8b e2 h;exact⟨w,by simpa using g1,g2⟩
theorem at0_D{l:List Int}{v:Int}(h:l[0]?=some v):l.getD 0 0=v:=by rw[Ax,h];rfl
theorem at1_D{l:List Int}{v:Int}(h:l[1]?=some v):l.getD 1 0=v:=by rw[Ax,h];rfl
theorem ym3{x:Nd}{b p:List Int}{z:Int}(hp:mOf b x.args=some p)(hk:x.kind=1∨x.kind=2∨x.kind=3∨x.kind=4) :
 KeyE b (z3t x) z↔(((x.kind=1∨x.kind=2)/\z=x.n)∨(x.kind=3/\∃a0,getV b (x.args.getD 0 0)=some a0/\z=mOne x.op a0)∨(x.kind=4/\∃a0 a1,getV b (x.args.getD 0 0)=some a0/\getV b (x.args.getD 1 0)=some a1/\mTwo x.op a0 a1=(z,true))):=by
 unfold KeyE z3t
 by_cases k3:x.kind=3
 ·rw[A5 (by simp[k3])];dsimp only;constructor
  iterate 2
   ·rintro(⟨h,_⟩|⟨h,e⟩|⟨h,_⟩)
    ·omega
    ·exact .inr (.inl ⟨k3,e⟩)
    ·omega
 rw[A1 (by simpa using k3)]
 by_cases k4:x.kind=4
 ·rw[A5 (by simp[k4])];split
  ·rename_i ht;simp only[A0]at ht;dsimp only;constructor
   iterate 2
    ·rintro(⟨h,_⟩|⟨h,_⟩|⟨_,a0,a1,g,g',e⟩)
     iterate 2 omega
     ·exact .inr (.inr ⟨k4,a1,a0,g',g,by rw[y76 ht.1];exact e⟩)
  ·exact Iff.rfl
 ·rw[A1 (by simpa using k4)];dsimp only;have k12:x.kind=1∨x.kind=2:=by omega
  constructor
  iterate 2
   ·rintro(h|⟨h,_⟩|⟨h,_⟩)
    ·exact .inl h
    iterate 2 omega
theorem j5g{X:Nd}{b p:List Int}{a0 a1:Int}(hp:mOf b X.args=some p)(h0:p[0]?=some a0)(h1:p[1]?=some a1):getV b (X.args.getD 0 0)=some a0/\getV b (X.args.getD 1 0)=some a1:=by
 obtain⟨v0,g0,e0⟩:=y8b hp h0;obtain⟨v1,g1,e1⟩:=y8b hp h1;rw[at0_D g0,at1_D g1];exact⟨e0,e1⟩
theorem yl6{nums:TT}{v:Int}{q:Int->Bool}(h:y31 nums v q=true):∃m,aGet v nums=some m/\q m=true:=by
 unfold y31 at h;split at h
 ·exact⟨_,by assumption,h⟩
 ·cases h
theorem yk9{tb:Tb}{X:Nd}{y:Int}{b p:List Int}(hk:X.kind=1∨X.kind=2∨X.kind=3∨X.kind=4)(hd:z4w tb.nums X=some y∨aGet (z3t X) tb.seen=some y)(hT:TabV tb b)(h64:P64 b)(hp:mOf b X.args=some p) :
 (∀z,zg1 X p=some z->getV b y=some z)/\(X.kind=4->∀a0 a1,p[0]?=some a0->p[1]?=some a1->(mTwo X.op a0 a1).2=true):=by
 have four:X.kind=4->∀z,zg1 X p=some z->∃a0 a1,p[0]?=some a0/\p[1]?=some a1/\(mTwo X.op a0 a1).1=z:=λh4 z hz=>by
  unfold zg1 at hz;rw[A1 oM0,A1 oM0]at hz;simp only[Ao,A8]at hz;obtain⟨a0,h0,a1,h1,h2⟩:=hz;exact⟨a0,a1,h0,h1,h2⟩
 have done:X.kind=4->(∀a0 a1,p[0]?=some a0->p[1]?=some a1->∃z,getV b y=some z/\mTwo X.op a0 a1=(z,true)) ->
  (∀z,zg1 X p=some z->getV b y=some z)/\(X.kind=4->∀a0 a1,p[0]?=some a0->p[1]?=some a1->(mTwo X.op a0 a1).2=true):=λh4 h=>by
  refine⟨λz hz=>?_,λ_ a0 a1 h0 h1=>?_⟩
  ·obtain⟨a0,a1,h0,h1,h2⟩:=four h4 z hz;obtain⟨z',e1,e2⟩:=h a0 a1 h0 h1;rw[e2]at h2;rw[e1,<- h2]
  ·obtain⟨z',e1,e2⟩:=h a0 a1 h0 h1;rw[e2]
 rcases hd with hd|hd
 ·unfold z4w at hd;split at hd
  ·cases hd
  rename_i h4;have h4:X.kind=4:=by simpa using h4
  refine done h4 λa0 a1 h0 h1=>?_;obtain⟨e0,e1⟩:=j5g hp h0 h1;split at hd
  ·rename_i hh
   cases hd
   obtain⟨m,g1,g2⟩:=yl6 hh;have:=hT.2 _ _ g1;rw[e1]at this
   cases this
   exact⟨a0,e0,y8w g2 (h64 a0 (y5h e0))⟩
  ·split at hd
   ·rename_i hh
    cases hd
    obtain⟨m,g1,g2⟩:=yl6 hh;simp only[A0]at g2;have:=hT.2 _ _ g1;rw[e0]at this
    cases this
    exact⟨a1,e1,by rw[y76 g2.1];exact y8w g2.2 (h64 a1 (y5h e1))⟩
   ·cases hd
 ·obtain⟨z',e1,e2⟩:=hT.1 _ _ hd;rcases(ym3 hp hk).1 e2 with⟨k12,rfl⟩|⟨k3,a0,g,rfl⟩|⟨k4,a0,a1,g,g',e⟩
  ·refine⟨λz hz=>?_,λh4=>by omega⟩;unfold zg1 at hz;rw[A5 k12]at hz
   cases hz
   exact e1
  ·refine⟨λz hz=>?_,λh4=>by omega⟩;unfold zg1 at hz;rw[A1 oM0,A5 k3]at hz;obtain⟨c0,h0,rfl⟩:=A8.1 hz;obtain⟨v0,g0,e0⟩:=y8b hp h0;rw[at0_D g0,e0]at g
   cases g
   exact e1
  ·refine done k4 λc0 c1 h0 h1=>?_;obtain⟨q0,q1⟩:=j5g hp h0 h1;rw[q0]at g;cases g
   rw[q1]at g';cases g'
   exact⟨z',e1,e⟩
theorem yc4{l:List Int}{i:Nat}(h:i<l.length):l.getD i 0∈l:=by rw[Ax,Ad h];exact D4 h
theorem key_in{X:Nd}{S:List Int}(ha:∀v∈X.args,v∈S)(h3:X.kind=3->1<=X.args.length)(h4:X.kind=4->2<=X.args.length):((z3t X).kind=3->(z3t X).a∈S)/\((z3t X).kind=4->(z3t X).a∈S/\(z3t X).b∈S):=by
 have hk:=(ym4 X).1;rw[hk];refine⟨λk3=>?_,λk4=>?_⟩
 ·unfold z3t;rw[A5 (by simp[k3])];exact ha _ (yc4 (h3 k3))
 ·have m0:=ha _ (yc4 (show 0<X.args.length by have:=h4 k4;omega));have m1:=ha _ (yc4 (show 1<X.args.length by have:=h4 k4;omega));unfold z3t;rw[A1 (by simp[k4]),A5 (by simp[k4])];split
  ·exact⟨m1,m0⟩
  ·exact⟨m0,m1⟩
def zl9(tb:Tb)(X:Nd)(o:Int):Tb:=⟨aPut (z3t X) o tb.seen,if X.kind==1 then aPut o X.n tb.nums else tb.nums⟩
theorem y41{tb:Tb}{to:TT}{X:Nd}{o:Int}(ho:X.outs=[o]) :
 (∃y,z76 tb to X=(false,tb,aPut o y to)/\(z4w tb.nums X=some y∨aGet (z3t X) tb.seen=some y))∨(z76 tb to X=(true,zl9 tb X o,to)/\aGet (z3t X) tb.seen=none):=by
 unfold z76 zl9;rw[ho]
 cases hp:z4w tb.nums X with
 |some y=>exact .inl ⟨y,rfl,.inl rfl⟩
 |none =>
  cases hs:aGet (z3t X) tb.seen with
  |some y=>exact .inl ⟨y,rfl,.inr rfl⟩
  |none=>exact .inr ⟨rfl,rfl⟩
theorem kept_le{tb:Tb}{X:Nd}{o:Int}{S:List Int}(hi:TabIn tb S)(ho:o∉S)(hs:aGet (z3t X) tb.seen=none):TabLe tb (zl9 tb X o):=by
 refine⟨λk y hk=>?_,λv m hv=>?_⟩
 ·show aGet k (aPut (z3t X) o tb.seen)=some y;rw[z3x];split
  ·rename_i e;subst e;rw[hs]at hk;cases hk
  ·exact hk
 ·show aGet v (if X.kind==1 then aPut o X.n tb.nums else tb.nums)=some m;split
  ·rw[z3x];split
   ·rename_i e;subst e;exact A9 (hi.2 _ _ hv) ho
   ·exact hv
  ·exact hv
theorem kept_in{tb:Tb}{X:Nd}{o:Int}{S:List Int}(hi:TabIn tb S)(ha:∀v∈X.args,v∈S)(h3:X.kind=3->1<=X.args.length)(h4:X.kind=4->2<=X.args.length):TabIn (zl9 tb X o) (S++[o]):=by
 have hm:=hi.mono (T:=S++[o]) λv hv=>Bq _ hv;have mo:o∈S++[o]:=by simp
 refine⟨λk y hk=>?_,λv m hv=>?_⟩
 ·have hk:aGet k (aPut (z3t X) o tb.seen)=some y:=hk;rw[z3x]at hk;split at hk
  ·rename_i e
   cases hk
   subst e;have:=key_in (S:=S++[o]) (λv hv=>Bq _ (ha v hv)) h3 h4;exact⟨mo,this⟩
  ·exact hm.1 k y hk
 ·have hv:aGet v (if X.kind==1 then aPut o X.n tb.nums else tb.nums)=some m:=hv;split at hv
  ·rw[z3x]at hv;split at hv
   ·rename_i e;subst e;exact mo
   ·exact hm.2 v m hv
  ·exact hm.2 v m hv
theorem kept_val{tb:Tb}{X:Nd}{o z:Int}{S b b2 p:List Int}(hk:X.kind=1∨X.kind=2∨X.kind=3∨X.kind=4)(hT:TabV tb b)(hi:TabIn tb S)(ho:o∉S)(ha:∀v∈X.args,v∈S)(h3:X.kind=3->1<=X.args.length)(h4:X.kind=4->2<=X.args.length)
 (hp:mOf b X.args=some p) (hs:setV b o z=some b2) (hz:((X.kind=1∨X.kind=2)/\z=X.n)∨(X.kind=3/\∃a0,p[0]?=some a0/\z=mOne X.op a0)∨(X.kind=4/\∃a0 a1,p[0]?=some a0/\p[1]?=some a1/\mTwo X.op a0 a1=(z,true))):TabV (zl9 tb X o) b2:=by
 have he:∀v∈S,getV b2 v=getV b v:=λv hv=>by
  have hne:v≠o:=λe=>ho (e▸hv);rw[z9n hs,A1 hne]
 have h0:getV b2 o=some z:=by rw[z9n hs,A5 rfl]
 have hold:=hT.keep hi he;refine⟨λk y hk2=>?_,λv m hv=>?_⟩
 ·have hk2:aGet k (aPut (z3t X) o tb.seen)=some y:=hk2;rw[z3x]at hk2;split at hk2
  ·rename_i e
   cases hk2
   subst e;obtain⟨i1,i2⟩:=key_in ha h3 h4;refine⟨z,h0,KeyE.keep ((ym3 hp hk).2 ?_) i1 i2 he⟩;rcases hz with h|⟨k3,a0,g,e⟩|⟨k4,a0,a1,g,g',e⟩
   ·exact .inl h
   ·obtain⟨v0,g0,e0⟩:=y8b hp g;exact .inr (.inl ⟨k3,a0,by rw[at0_D g0];exact e0,e⟩)
   ·obtain⟨q0,q1⟩:=j5g hp g g';exact .inr (.inr ⟨k4,a0,a1,q0,q1,e⟩)
  ·exact hold.1 k y hk2
 ·have hv2:aGet v (if X.kind==1 then aPut o X.n tb.nums else tb.nums)=some m:=hv
  by_cases k1:X.kind=1
  ·rw[A5 (by simp[k1]),z3x]at hv2
   by_cases e:v=o
   ·rw[A5 e]at hv2;rw[e,h0,<- C0 hv2];rcases hz with⟨_,rfl⟩|⟨k3,_⟩|⟨k4,_⟩
    ·rfl
    iterate 2 omega
   ·rw[A1 e]at hv2;exact hold.2 v m hv2
  ·rw[A1 (by simpa using k1)]at hv2;exact hold.2 v m hv2
def IS(to:TT)(S:List Int)(tb:Tb)(a b:List Int):Prop:=EqT to S a b/\P64 b/\TabV tb b
def SE(t0:TT)(S0 S1:List Int)(tb0 tb1:Tb)(y lv:Bool):ER:=λn p p' a b =>
 P64 p/\p'=p/\((n=12/\y=true/\IS t0 S0 tb0 a b)∨(n=13/\IS t0 S1 tb1 a b)∨(n=14/\lv=true/\IS t0 S1 tb1 a b)∨n=15)
theorem IS.sets{to:TT}{S S' l p a b a2 b2:List Int}{tb:Tb}(h:IS to S tb a b)(hp:P64 p)(g:mSet a l p=some a2)(g':mSet b l p=some b2)(hs:∀v∈S,z10 to v∉l)(hl:∀v∈l,aGet v to=none)(hi:TabIn tb S')(hd:∀v∈S',v∉l):IS to (S++l) tb a2 b2 :=
 ⟨h.1.sets g g' hs hl,h.2.1.sets hp g',h.2.2.keep hi λv hv=>zz2 g' (hd v hv)⟩
theorem IS.seto{to:TT}{S S' outs a b a2 b2:List Int}{y:Int}{tb:Tb}(h:IS to S tb a b)(hy:I64 y)(ho:outs.length<=1)(g:setO outs a y a2)(g':setO outs b y b2)(hs:∀v∈S,z10 to v∉outs)(hl:∀v∈outs,aGet v to=none)(hi:TabIn tb S')(hd:∀v∈S',v∉outs):IS to (S++outs) tb a2 b2 :=
 ⟨h.1.seto ho g g' hs hl,h.2.1.seto hy g',h.2.2.keep hi λv hv=>y6x g' (hd v hv)⟩
theorem IS.to{to to':TT}{S S' a b:List Int}{tb tb':Tb}(h:IS to S tb a b)(hc:∀v∈S',v∈S/\z10 to v=z10 to' v)(hl:TabLe tb' tb):IS to' S' tb' a b:=⟨h.1.sub hc,h.2.1,h.2.2.le hl⟩
def n64(n:Int):Bool:=decide (-9223372036854775808<=n)&&decide (n<=9223372036854775807)
mutual
def nIN:Nd->Bool
 |.mk _ _ n _ _ _ _ ks=>n64 n&&nIK ks
def nIL:List Nd->Bool
 |[]=>true
 |x::r=>nIN x&&nIL r
def nIK:List (List Nd)->Bool
 |[]=>true
 |l::r=>nIL l&&nIK r
end
theorem j25(x:Nd):nIN x=(n64 x.n&&nIK x.kids):=by cases x;simp[nIN,Nd.n,Nd.kids]
theorem n64_I{n:Int}(h:n64 n=true):I64 n:=by
 simp only[n64,A0,Ba]at h;exact h
def SNd(u:Un)(f:Fl)(x:Nd):Prop:=∀(deep:Int)(w:Wh)(all all':List Int)(tb:Tb)(to:TT),New f (dN x) all all' to->TabOk f.types tb all'->TabIn tb all'->z85 u f deep w all x=true->nIN x=true ->
 ∀(r R':List Nd)(t0:TT)(S0 S1:List Int)(tb0 tb1:Tb)(y lv:Bool),Ends t0 to S0 S1 all->TabLe tb0 tb->TabLe tb1 tb->(x.kind=12->y=true)->(z2n x=true->lv=true) ->
 (z04 x=false->LRel 0 0 (IS (z0r tb to x).2.2 (all++x.outs) (z0r tb to x).2.1) r [] R' (SE t0 S0 S1 tb0 tb1 y lv))->(z04 x=true->r=[]/\R'=[])->LRel 0 0 (IS to all tb) (x::r) [] ((z0r tb to x).1++R') (SE t0 S0 S1 tb0 tb1 y lv)
def SA(u:Un)(f:Fl)(l:List Nd):Prop:=∀(deep:Int)(w:Wh)(all all':List Int)(tb:Tb)(to:TT),l≠[]->New f (dL l) all all' to->TabOk f.types tb all'->TabIn tb all'->vGo u f deep w all l=true->nIL l=true ->
 ∀(t0:TT)(S0 S1:List Int)(tb0 tb1:Tb)(y lv:Bool),Ends t0 to S0 S1 all->TabLe tb0 tb->TabLe tb1 tb->(z2x l=12->y=true)->(z0m l=true->lv=true)->LRel 0 0 (IS to all tb) l [] (z0f tb to l).1 (SE t0 S0 S1 tb0 tb1 y lv)
theorem yn9{f:Fl}{D all all':List Int}{to:TT}(nw:New f D all all' to){x:Nd}(h:∀v∈x.args,v∈all):∀v∈x.args.map (z10 to),v∈all':=λv hv=>by
 obtain⟨q,hq,rfl⟩:=Bz.1 hv;have h1:=nw.inr q (h q hq);exact List.contains_iff_mem.1 (nw.rel q (List.contains_iff_mem.2 (h q hq)) h1.1 h1.2).1
theorem pure_s(u:Un)(f:Fl)(x:Nd)(hK:stK x.kind=true):SNd u f x:=by
 intro deep w all all' tb to nw hto hi hv hn r R' t0 S0 S1 tb0 tb1 y lv he hl0 hl1 h12 hlv hL hC;have hkk:x.kind=1∨x.kind=2∨x.kind=3∨x.kind=4:=by simp only[stK,Bb,At]at hK;omega
 have hok:=z4e u f x deep w all hv;rw[zf7]at hok;simp only[A0]at hok;have hb:=z2s u f deep _ all hv;have e10:(x.kind==10)=false:=by simp;omega
 have e11:(x.kind==11)=false:=by simp;omega
 have hk0:x.kids=[]:=z66 hb e10 e11;have e2:(z0n tb to x.kids).2=to:=by rw[hk0];simp[z0n]
 have hcl:z04 x=false:=by
  cases hc:z04 x with
  |false=>rfl
  |true=>rw[z9l hc]at hK;cases hK
 rw[z1e u f deep w all hb e10 e11]at hv;obtain⟨a1,ho1,a3,a4,a5⟩:=za7 hv;obtain⟨o,ho,_⟩:=zz8 hK hv;have hLr:=hL hcl;have hod:o∈dN x:=by rw[y7m,ho];simp
 have hoa:o∉all:=nw.na hod;have hob:o∉all':=nw.fb o hod;have hXk:(z19 tb to x).kind=x.kind:=rfl;have hXp:(z19 tb to x).op=x.op:=rfl;have hXo:(z19 tb to x).outs=[o]:=ho;have hXa:(z19 tb to x).args=x.args.map (z10 to):=rfl;have hargs:∀v∈(z19 tb to x).args,v∈all':=yn9 nw a1;have l3:(z19 tb to x).kind=3->1<=(z19 tb to x).args.length:=λh=>by
  have h:x.kind=3:=h;have:=hok.1.1.2;rw[h]at this;rw[hXa,Ab];simpa using this
 have l4:(z19 tb to x).kind=4->2<=(z19 tb to x).args.length:=λh=>by
  have h:x.kind=4:=h;have:=hok.1.2;rw[h]at this;rw[hXa,Ab];simpa using this
 have hof:∀{a b q:List Int},IS to all tb a b->mOf a x.args=some q->mOf b (z19 tb to x).args=some q:=λ{a b q} hI g=>by rw[hXa,hI.1.mof a1];exact g
 have hEv:∀q,zg1 (z19 tb to x) q=zg1 x q:=λq=>rfl;have hm:x.kind≠4->HL x:=λh4=>(a3 (by unfold zh0;rcases hkk with e|e|e|e<;>simp[e]<;>omega)).1;rw[z9i,A5 hK,e2]at hLr⊢;rcases y41 (tb:=tb) (to:=to) hXo with⟨y1,hp,hd⟩|⟨hp,hs⟩
 ·rw[hp,ho]at hLr;rw[hp];show LRel 0 0 (IS to all tb) (x::r) [] R' _;have step:∀a b a2,IS to all tb a b->hRun x a a2->IS (aPut o y1 to) (all++[o]) tb a2 b:=λa b a2 hI ha=>by
   obtain⟨q,z,o1,g1,g2,g3,g4⟩:=ha;rw[ho]at g3;obtain rfl:o=o1:=by simpa using g3
   have hy:=(yk9 (X:=z19 tb to x) hkk hd hI.2.2 hI.2.1 (hof hI g1)).1 z (by rw[hEv];exact g2);refine⟨λv hv=>?_,hI.2.1,hI.2.2⟩;rw[z9n g4]
   by_cases e:v=o
   ·subst e;rw[A5 rfl];have:z10 (aPut v y1 to) v=y1:=by unfold z10;rw[z3x,A5 rfl];rfl
    rw[this];exact hy
   ·rw[A1 e];have:z10 (aPut o y1 to) v=z10 to v:=by unfold z10;rw[z3x,A1 e]
    rw[this];exact hI.1 v ((B3.1 hv).resolve_right λh=>e (Al.1 h))
  by_cases h4:x.kind=4
  ·exact .drop h4 (by rw[ho];simp) (λa b p a0 a1 hI g g0 g1=>(yk9 (X:=z19 tb to x) hkk hd hI.2.2 hI.2.1 (hof hI g)).2 h4 a0 a1 g0 g1) step hLr
  ·exact .skip (hm h4) step hLr
 ·rw[hp,ho]at hLr;rw[hp];show LRel 0 0 (IS to all tb) (x::r) [] (z19 tb to x::R') _;have hso:∀v∈all,z10 to v∉[o]:=λv hv h=>nw.stv v hv o hod (Al.1 h);have hlo:∀v∈[o],aGet v to=none:=λv hv=>nw.ft v (by rw[Al.1 hv];exact hod);have step:∀{a b a2 b2 q:List Int}{z:Int},IS to all tb a b->mOf b (z19 tb to x).args=some q->I64 z->setV a o z=some a2->setV b o z=some b2 ->
   (((z19 tb to x).kind=1∨(z19 tb to x).kind=2)/\z=(z19 tb to x).n)∨((z19 tb to x).kind=3/\∃a0,q[0]?=some a0/\z=mOne (z19 tb to x).op a0)∨((z19 tb to x).kind=4/\∃a0 a1,q[0]?=some a0/\q[1]?=some a1/\mTwo (z19 tb to x).op a0 a1=(z,true)) ->
   IS to (all++[o]) (zl9 tb (z19 tb to x) o) a2 b2:=λ{a b a2 b2 q z} hI g hz g1 g2 hh =>
   ⟨hI.1.seto (outs:=[o]) sI0 g1 g2 hso hlo,hI.2.1.set hz g2,kept_val (X:=z19 tb to x) hkk hI.2.2 hi hob hargs l3 l4 g g2 hh⟩
  by_cases h4:x.kind=4
  ·refine .eff (J:=IS to (all++[o]) (zl9 tb (z19 tb to x) o)) oM0 rfl rfl rfl rfl (λa b p hI g=>hI.2.1.of (hof hI g)) (λa b p p' hI g g'=>?_) (λa b p a2 b2 z hI g hz htw s1 s2=>?_) hLr
   ·rw[hof hI g]at g';exact(C0 g').symm
   ·rw[ho]at s1;rw[hXo]at s2;exact step hI g hz s1 s2 (.inr (.inr ⟨h4,htw h4⟩))
  ·have hHL:=hm h4;have hHL':HL (z19 tb to x):=hHL;refine .both (J:=IS to (all++[o]) (zl9 tb (z19 tb to x) o)) hHL hHL' (Ag _) (λa b a2' b2' hI ha hb2=>?_) hLr;obtain⟨q,z,o1,g1,g2,g3,g4⟩:=ha;obtain⟨q',z',o1',g1',g2',g3',g4'⟩:=hb2;rw[hof hI g1]at g1'
   cases g1'
   rw[hEv,g2]at g2'
   cases g2'
   rw[ho]at g3;obtain rfl:o=o1:=by simpa using g3
   rw[hXo]at g3';obtain rfl:o=o1':=by simpa using g3'
   have hn1:I64 x.n:=by rw[j25,A0]at hn;exact n64_I hn.1
   unfold zg1 at g2
   by_cases k12:x.kind=1∨x.kind=2
   ·rw[A5 k12]at g2
    cases g2
    exact step hI (hof hI g1) hn1 g4 g4' (.inl ⟨k12,rfl⟩)
   ·have k3:x.kind=3:=by omega
    rw[A1 k12,A5 k3]at g2;obtain⟨a0,h0,rfl⟩:=A8.1 g2;exact step hI (hof hI g1) (y8p _ _) g4 g4' (.inr (.inl ⟨k3,a0,h0,rfl⟩))
theorem yn3{x:Nd}{l:List Nd}(h:l≠[]):z2x (x::l)=z2x l:=by
 cases l with
 |nil=>exact A9 rfl h
 |cons y r=>simp[z2x,Ey]
theorem ym5(x:Nd):z2x [x]=if z0y x.kind then x.kind else 0:=by simp[z2x]
def NEnd(w:Wh)(x:Nd)(r:Rres):Prop:=(r.1.1=0/\z04 x=false)∨EOk w (x.kind==12) (z2n x) r
def LTot(u:Un)(n:Nat)(B M:Int)(d:Nat):Prop:=∀f deep w seen l a s,l≠[]->vGo u f deep w seen l=true->a.length=f.types.length->Inv n B M s->3*s.fuel+1<=(d:Int) ->
 ∃r,z2f u d l a s=some r/\Inv n B M r.2.2/\(Live r.2.2->r.2.2.fuel<s.fuel/\EOk w (z2x l==12) (z0m l) r)
def PTot(u:Un)(n:Nat)(B M:Int)(d:Nat):Prop:=∀f deep x q seen a p s,x.kids=[q]->q≠[]->vGo u f deep (w2 f x) seen q=true->inR f.types.length x.params->inR f.types.length x.outs->p.length=x.params.length->a.length=f.types.length->Inv n B M s->3*s.fuel+2<=(d:Int) ->
 ∃r,z3w u d x a p s=some r/\Inv n B M r.2.2/\(Live r.2.2->(r.1.1=0/\z0m q=true)∨(r.1.1=15/\r.1.2.length=1))
def CTot(u:Un)(n:Nat)(B M:Int)(d:Nat):Prop:=∀k p s,0<=k->(∃g,u.flows[k.toNat]?=some g/\(p.length:Int)=g.params)->Inv n B M s->3*s.fuel+2<=(d:Int)->∃r,z4j u d k p s=some r/\Inv n B M r.2
def STot(u:Un)(n:Nat)(B M:Int)(d:Nat):Prop:=∀x p s,SumOk u x p.length->InvS n B M s->3*s.fuel+3<=(d:Int)->∃r,mSum u d x p s=some r/\Inv n B M r.2
theorem node_tot{u:Un}{n:Nat}{B M:Int}(hB:B<=4611686018427387903)(hv:∀g∈u.flows,VF u g){d:Nat}(i1:LTot u n B M d)(i2:PTot u n B M d)(i4:STot u n B M d)
 {f:Fl} {deep:Int} {w:Wh} {seen:List Int} {x:Nd} {a:List Int} {s:Rs} (hx:z85 u f deep w seen x=true) (ha:a.length=f.types.length) (hl:Live s) (hi:Inv n B M s) (hf:1<=s.fuel) (hd:3*s.fuel+1<=((d+1:Nat):Int)) :
 ∃p r,mOf a x.args=some p/\z5o (z2f u d) (z3w u d) (mSum u d) x p a (dec s)=some r/\Inv n B M r.2.2/\(Live r.2.2->r.2.2.fuel<s.fuel/\NEnd w x r):=by
 have hb:=z2s u f deep w seen hx;have hiS:InvS n B M (dec s):=⟨(z4r hi.ok hf).1,(z4r hi.ok hf).2,by have:=hi.out;show(s.out.length:Int)+(s.fuel-1)+1<=M;omega,hi.ar⟩;have hi1:Inv n B M (dec s):=⟨hiS.ok,by have:=hiS.out;omega,hiS.ar⟩;have hdf:(dec s).fuel=s.fuel-1:=rfl;have ne:∀{i:Int},x.kind≠i->(x.kind==i)=false:=λh=>Aa.2 h
 by_cases h10:x.kind=10
 ·obtain⟨q0,q1,hk⟩:=z3h hb h10;rw[z6l u f deep w seen hb h10 hk]at hx;simp only[A0,z4p]at hx;obtain⟨⟨⟨⟨v1,v2⟩,v3⟩,v4⟩,v5⟩:=hx;obtain⟨t1,t2⟩:=zp4 v1;have hou:=z2z v5;obtain⟨p,hp,hpl⟩:=y5s (a:=a) (l:=x.args) (by rw[ha];exact t2);obtain⟨c,hc⟩:=zv5 (p:=p) (i:=0) (by rw[hpl,t1];decide);have hq:∃q,x.kids[if c != 0 then 0 else 1]?=some q/\q≠[]/\vGo u f (deep+1) (w1 w f x) seen q=true/\(q=q0∨q=q1):=by
   rw[hk]
   by_cases hc0:(c != 0)=true
   ·rw[A5 hc0];exact⟨q0,rfl,by simpa using v2.1,v2.2,.inl rfl⟩
   ·rw[A1 hc0];exact⟨q1,rfl,by simpa using v3.1,v3.2,.inr rfl⟩
  obtain⟨q,hq1,hq2,hq3,hq4⟩:=hq;obtain⟨r2,g1,g2,g3⟩:=i1 f (deep+1) (w1 w f x) seen q a (dec s) hq2 hq3 ha hi1 (by rw[hdf];omega);have hlen:=z8x g1;have hlv:z0m q=true->z2n x=true:=λh=>by
   rw[z4a,h10,hk];rcases hq4 with rfl|rfl<;>simp[z39,h]
  have hcl:z2x q=12->z04 x=false:=λh=>by
   rcases hq4 with rfl|rfl<;>simp[z04,h10,hk,kid0,kid1,h]
  by_cases hov:z16 r2.2.2=true
  ·refine⟨p,r2,hp,?_,g2,λh=>by rw[z0s h]at hov;cases hov⟩;unfold z5o;simp only[h10,show((10:Int)==1)=false from rfl,show((10:Int)==2)=false from rfl,show((10:Int)==12)=false from rfl,show((10:Int)==13)=false from rfl,show((10:Int)==14)=false from rfl,show((10:Int)==15)=false from rfl,show((10:Int)==10)=true from rfl,Fz,As,Bv,C6,hc,Bt,hq1,g1,hov,Fv,D2]
  ·have hov':z16 r2.2.2=false:=by simpa using hov
   have hL2:=z8b.1 hov';obtain⟨e1,e2⟩:=g3 hL2
   by_cases h12:r2.1.1=12
   ·rcases e2 with⟨_,e3,_,e4⟩|⟨e3,_⟩|⟨e3,_⟩|⟨e3,_⟩
    ·rw[show(w1 w f x).Yield=r8of f.types x.outs from rfl,zz9 hou]at e4;obtain⟨a2,h2⟩:=zz3 (l:=x.outs) (p:=r2.1.2) (a:=r2.2.1) (by rw[hlen,ha];exact hou) e4;refine⟨p,((0,[]),a2,r2.2.2),hp,?_,g2,λ_=>⟨by show r2.2.2.fuel<s.fuel;have:=hdf;omega,.inl ⟨rfl,hcl (by simpa using e3)⟩⟩⟩;unfold z5o;simp only[h10,show((10:Int)==1)=false from rfl,show((10:Int)==2)=false from rfl,show((10:Int)==12)=false from rfl,show((10:Int)==13)=false from rfl,show((10:Int)==14)=false from rfl,show((10:Int)==15)=false from rfl,show((10:Int)==10)=true from rfl,Fz,As,Bv,C6,hc,Bt,hq1,g1,hov',h12,Dn,B6,show((12:Int)==12)=true from rfl,h2,Da]
    iterate 3 ·rw[h12]at e3;exact A9 e3 dC0
   ·refine⟨p,r2,hp,?_,g2,λ_=>⟨by have:=hdf;omega,.inr ?_⟩⟩
    ·unfold z5o;have hc12:(!false&&r2.1.1==12)=false:=by simpa using h12
     simp only[h10,show((10:Int)==1)=false from rfl,show((10:Int)==2)=false from rfl,show((10:Int)==12)=false from rfl,show((10:Int)==13)=false from rfl,show((10:Int)==14)=false from rfl,show((10:Int)==15)=false from rfl,show((10:Int)==10)=true from rfl,Fz,As,Bv,C6,hc,Bt,hq1,g1,hov',hc12]
    ·rcases e2 with⟨e3,_⟩|e3|⟨e3,e4,e5⟩|e3
     ·exact A9 e3 h12
     ·exact .inr (.inl e3)
     ·exact .inr (.inr (.inl ⟨e3,hlv e4,e5⟩))
     ·exact .inr (.inr (.inr e3))
 by_cases h11:x.kind=11
 ·obtain⟨q,hk⟩:=z25 hb h11;rw[z4q u f deep w seen hb h11 hk]at hx;simp only[A0,z4p]at hx;obtain⟨⟨⟨⟨v1,v2⟩,v3⟩,v4⟩,v5⟩:=hx;obtain⟨t1,t2⟩:=zp4 v1;have hpi:=z2z v2;rw[zz9 hpi]at t1;obtain⟨p,hp,hpl⟩:=y5s (a:=a) (l:=x.args) (by rw[ha];exact t2);obtain⟨r,g1,g2,g3⟩:=i2 f (deep+1) x q _ a p (dec s) hk (by simpa using v3.1) v3.2 hpi (z2z v5) (by rw[hpl,t1]) ha hi1 (by rw[hdf];omega);refine⟨p,r,hp,?_,g2,λhL=>⟨?_,?_⟩⟩
  ·unfold z5o;simp only[h11,show((11:Int)==1)=false from rfl,show((11:Int)==2)=false from rfl,show((11:Int)==12)=false from rfl,show((11:Int)==13)=false from rfl,show((11:Int)==14)=false from rfl,show((11:Int)==15)=false from rfl,show((11:Int)==10)=false from rfl,show((11:Int)==11)=true from rfl,Fz,As,Bv,C6,g1]
  ·have:=(zl0 hB g1 hi1.ok).fuel;omega
  ·rcases g3 hL with⟨e1,e2⟩|⟨e1,e2⟩
   ·exact .inl ⟨e1,by simp[z04,h11,hk,kid0,e2]⟩
   ·exact .inr (.inr (.inr (.inr ⟨e1,e2⟩)))
 rw[z1e u f deep w seen hb (ne h10) (ne h11)]at hx;obtain⟨s1,s2,s3,s4,s12,s13,s14,s15⟩:=smp_ok hv hx;obtain⟨p,hp,hpl⟩:=y5s (a:=a) (l:=x.args) (by rw[ha];exact s2);have cl:z04 x=z0y x.kind:=by unfold z04;rw[ne h10,ne h11];rfl
 by_cases h1:x.kind=1∨x.kind=2
 ·have ho:=s4 h1
  obtain⟨o,os,he⟩:∃o os,x.outs=o::os:=by cases hxo:x.outs with
   |nil=>exact A9 hxo ho
   |cons o os=>exact⟨o,os,rfl⟩
  obtain⟨a2,h2⟩:=y6y (a:=a) (i:=o) (y:=x.n) (by rw[ha];exact s1 o (by rw[he];exact .head _));refine⟨p,((0,[]),a2,dec s),hp,?_,hi1,λ_=>⟨by show s.fuel-1<s.fuel;omega,.inl ⟨rfl,?_⟩⟩⟩
  ·unfold z5o;rw[A5 (by rcases h1 with h1|h1<;>rw[h1]<;>rfl),he];simp only[D5,Bt,h2,Da]
  ·rw[cl];rcases h1 with h1|h1<;>rw[h1]<;>rfl
 have n1:(x.kind==1||x.kind==2)=false:=by rw[Bn];exact⟨ne λh=>h1 (.inl h),ne λh=>h1 (.inr h)⟩
 by_cases hE:12<=x.kind/\x.kind<=15
 ·refine⟨p,((x.kind,p),a,dec s),hp,?_,hi1,λ_=>⟨by show s.fuel-1<s.fuel;omega,.inr ?_⟩⟩
  ·unfold z5o;rw[n1,A1 dC0,A5 (by rcases(show x.kind=12∨x.kind=13∨x.kind=14∨x.kind=15 by omega)with e|e|e|e<;>rw[e]<;>rfl)]
  ·rcases(show x.kind=12∨x.kind=13∨x.kind=14∨x.kind=15 by omega)with e|e|e|e
   ·exact .inl ⟨e,by rw[e];rfl,(s12 e).1,by rw[<- (s12 e).2];exact hpl⟩
   ·exact .inr (.inl ⟨e,by rw[<- s13 e];exact hpl⟩)
   ·exact .inr (.inr (.inl ⟨e,by rw[z4a,e];rfl,by rw[<- s14 e];exact hpl⟩))
   ·exact .inr (.inr (.inr ⟨e,by rw[<- s15 e];exact hpl⟩))
 have n2:(x.kind==12||x.kind==13||x.kind==14||x.kind==15)=false:=by simp;omega
 obtain⟨q,g1,g2⟩:=i4 x p (dec s) (by rw[hpl];exact s3) hiS (by rw[hdf];omega);have hfq:=(yc3 hB g1 hiS.ok hiS.ok1).fuel;have cl0:z04 x=false:=by rw[cl];simp[z0y];omega
 have hnode:∀r1,(if !z16 q.2&&decide (0<x.outs.length)then(x.outs[0]?).bind λo=>(setV a o q.1).map λv'=>(((0,[]),v',q.2):Rres)else some ((0,[]),a,q.2))=some r1->z5o (z2f u d) (z3w u d) (mSum u d) x p a (dec s)=some r1:=λr1 h=>by
  unfold z5o;rw[n1,n2,ne h10,ne h11];simp only[As,Bv,g1,Bt];exact h
 by_cases hov:(!z16 q.2&&decide (0<x.outs.length))=true
 ·obtain⟨o,os,he⟩:∃o os,x.outs=o::os:=by cases hxo:x.outs with
   |nil=>rw[hxo]at hov;simp at hov
   |cons o os=>exact⟨o,os,rfl⟩
  obtain⟨a2,h2⟩:=y6y (a:=a) (i:=o) (y:=q.1) (by rw[ha];exact s1 o (by rw[he];exact .head _));exact⟨p,((0,[]),a2,q.2),hp,hnode _ (by rw[A5 hov,he];simp[h2]),g2,λ_=>⟨by show q.2.fuel<s.fuel;omega,.inl ⟨rfl,cl0⟩⟩⟩
 ·exact⟨p,((0,[]),a,q.2),hp,hnode _ (A1 hov),g2,λ_=>⟨by show q.2.fuel<s.fuel;omega,.inl ⟨rfl,cl0⟩⟩⟩
theorem list_tot{u:Un}{n:Nat}{B M:Int}(hB:B<=4611686018427387903)(hv:∀g∈u.flows,VF u g){d:Nat}(i1:LTot u n B M d)(i2:PTot u n B M d)(i4:STot u n B M d):LTot u n B M (d+1):=by
 intro f deep w seen l a s hne hg ha hi hd
 cases l with
 |nil=>exact A9 rfl hne
 |cons x l =>
  cases hov:z16 s with
  |true =>
   have:zb8 s=(false,s):=by unfold zb8;rw[hov];rfl
   refine⟨((0,[]),a,s),by rw[z2f,this],hi,λh=>by rw[z0s h]at hov;cases hov⟩
  |false =>
   have hl:=z8b.1 hov;unfold vGo at hg;simp only[A0,At]at hg;obtain⟨⟨⟨_,v2⟩,v3⟩,v4⟩:=hg;rcases y50 hB hi.ok hl with⟨hf,hs⟩|⟨hf,hs⟩
   ·refine⟨((0,[]),a,gone s),by rw[z2f,hs],⟨hi.ok,hi.out,hi.ar⟩,λh=>?_⟩;have:=h.1
    cases this
   ·obtain⟨p,r1,g1,g2,g3,g4⟩:=node_tot hB hv i1 i2 i4 v2 ha hl hi hf hd;have hlen:r1.2.1.length=a.length:=y8a (λ_ _ _ _ h=>(zr4 u d).1 _ _ _ _ h) (λ_ _ _ _ _ h=>(zr4 u d).2 _ _ _ _ _ h) g2
    by_cases hov1:z16 r1.2.2=true
    ·exact⟨r1,by rw[z2f,hs];simp only[g1,Bt,g2,hov1,Bf,C6],g3,λh=>by rw[z0s h]at hov1;cases hov1⟩
    ·have hov1':z16 r1.2.2=false:=by simpa using hov1
     obtain⟨f1,f2⟩:=g4 (z8b.1 hov1')
     by_cases hk0:r1.1.1=0
     ·have hc:z04 x=false:=by
       rcases f2 with⟨_,h⟩|⟨h,_⟩|⟨h,_⟩|⟨h,_⟩|⟨h,_⟩
       ·exact h
       all_goals rw[hk0]at h;exact A9 h dC0
      have hlne:l≠[]:=by rw[hc]at v3;intro e;rw[e]at v3;cases v3
      obtain⟨r,q1,q2,q3⟩:=i1 f deep w _ l r1.2.1 r1.2.2 hlne v4 (by rw[hlen,ha]) g3 (by have:=hi.ok.1;omega);refine⟨r,by rw[z2f,hs];simp only[g1,Bt,g2,hov1',hk0,Ce,show((0:Int) != 0)=false from rfl,As,Bv,q1],q2,λh=>?_⟩;obtain⟨z1,z2⟩:=q3 h;refine⟨by omega,?_⟩;rw[yn3 hlne];rcases z2 with z|z|⟨z1,z2,z3⟩|z
      ·exact .inl z
      ·exact .inr (.inl z)
      ·exact .inr (.inr (.inl ⟨z1,by simp[z0m,z2],z3⟩))
      ·exact .inr (.inr (.inr z))
     ·have hk1:(false||r1.1.1 != 0)=true:=by simpa using hk0
      refine⟨r1,by rw[z2f,hs];simp only[g1,Bt,g2,hov1',hk1,C6],g3,λ_=>⟨f1,?_⟩⟩;rcases f2 with⟨h,_⟩|⟨z1,z2,z3,z4⟩|z|⟨z1,z2,z3⟩|z
      ·exact A9 h hk0
      ·have hxk:x.kind=12:=by simpa using z2
       have hc:z04 x=true:=by unfold z04;rw[hxk];rfl
       have hl0:l=[]:=by rw[hc]at v3;cases l with
        |nil=>rfl
        |cons y r=>cases v3
       refine .inl ⟨z1,?_,z3,z4⟩;rw[hl0,ym5,hxk];rfl
      ·exact .inr (.inl z)
      ·exact .inr (.inr (.inl ⟨z1,by simp[z0m,z2],z3⟩))
      ·exact .inr (.inr (.inr z))
theorem loop_tot{u:Un}{n:Nat}{B M:Int}{d:Nat}(i1:LTot u n B M d)(i2:PTot u n B M d):PTot u n B M (d+1):=by
 intro f deep x q seen a p s hk hq hg hpi hoi hp ha hi hd;obtain⟨a2,h2⟩:=zz3 (l:=x.params) (p:=p) (a:=a) (by rw[ha];exact hpi) hp;obtain⟨r1,g1,g2,g3⟩:=i1 f deep (w2 f x) seen q a2 s hq hg (by rw[z54 h2,ha]) hi oM0;have hlen:=(z8x g1).trans (z54 h2);have hk0:x.kids[0]?=some q:=by rw[hk];rfl
 by_cases hov:z16 r1.2.2=true
 ·exact⟨r1,by rw[z3w,h2];simp only[Bt,hk0,g1,hov,Bf,C6],g2,λh=>by rw[z0s h]at hov;cases hov⟩
 ·have hov':z16 r1.2.2=false:=by simpa using hov
  obtain⟨f1,f2⟩:=g3 (z8b.1 hov');rcases f2 with⟨_,_,h,_⟩|⟨z1,z2⟩|⟨z1,z2,z3⟩|⟨z1,z2⟩
  ·cases h
  ·rw[show(w2 f x).Next=r8of f.types x.params from rfl,zz9 hpi]at z2;obtain⟨r,q1,q2,q3⟩:=i2 f deep x q seen r1.2.1 r1.1.2 r1.2.2 hk hq hg hpi hoi z2 (by rw[hlen,ha]) g2 oM0;exact⟨r,by rw[z3w,h2];simp only[Bt,hk0,g1,hov',z1,Ce,show((13:Int)==15)=false from rfl,show((13:Int)==14)=false from rfl,As,Bv,q1],q2,q3⟩
  ·rw[show(w2 f x).Left=r8of f.types x.outs from rfl,zz9 hoi]at z3;obtain⟨a3,h3⟩:=zz3 (l:=x.outs) (p:=r1.1.2) (a:=r1.2.1) (by rw[hlen,ha];exact hoi) z3;exact⟨((0,[]),a3,r1.2.2),by rw[z3w,h2];simp only[Bt,hk0,g1,hov',z1,Ce,show((14:Int)==15)=false from rfl,show((14:Int)==14)=true from rfl,As,Bv,C6,h3,Da],g2,λ_=>.inl ⟨rfl,z2⟩⟩
  ·exact⟨r1,by rw[z3w,h2];simp only[Bt,hk0,g1,hov',z1,Ce,show((15:Int)==15)=true from rfl,C6],g2,λ_=>.inr ⟨z1,z2⟩⟩
theorem call_tot{u:Un}{n:Nat}{B M:Int}(hv:∀g∈u.flows,VF u g){d:Nat}(i1:LTot u n B M d):CTot u n B M (d+1):=by
 rintro k p s hk ⟨g,hg,hp⟩ hi hd;obtain⟨v1,v2,v3,v4⟩:=hv g (Af hg);simp only[z4p,A0]at v1;have hpl:p.length<=g.types.length:=by omega
 obtain⟨r1,g1,g2,_⟩:=i1 g 1 z3z _ g.body (p++List.replicate (g.types.length-p.length) 0) s (by simpa using v1.1) v1.2 (by simp;omega) hi oM0;have e:z4j u (d+1) k p s=(if z16 r1.2.2 then some (0,r1.2.2)else some (r1.1.2.headD 0,r1.2.2)):=by
  rw[z4j,A5 hk,hg,Bt,A5 ⟨hpl,by omega⟩,g1,Bt]
 rw[e];split
 iterate 2 exact⟨_,rfl,g2⟩
theorem j5e{u:Un}{n:Nat}{B M:Int}(hB:B<=4611686018427387903)(hM:M<=1073741824)(hn:n=u.arrays.length)(hv:∀g∈u.flows,VF u g):∀d,LTot u n B M d/\PTot u n B M d/\CTot u n B M d/\STot u n B M d
 |0=>⟨λf deep w seen l a s _ _ _ hi hd=>by have:=hi.ok.1;omega,λf deep x q seen a p s _ _ _ _ _ _ _ hi hd=>by have:=hi.ok.1;omega,λk p s _ _ hi hd=>by have:=hi.ok.1;omega,λx p s _ hi hd=>by have:=hi.ok.1;omega⟩
 |d+1=>by
  obtain⟨i1,i2,i3,i4⟩:=j5e hB hM hn hv d;exact⟨list_tot hB hv i1 i2 i4,loop_tot i1 i2,call_tot hv i1,λx p s hx hi hd=>sum_tot hB hM hn hv i3 x p s hx hi hd⟩
section
def HCall(u v:Un)(D:Nat)(B:Int)(m:Bool)(N:Nat):Prop:=∀e e' k p s s' q q',e<D->P64 p->z4j u e k p s=some q->z4j v e' k p s'=some q'->Oks B s->Oks B s'->RelR m N 0 (N+1) 0 s s'->RC m N q q'
inductive RN(m:Bool)(N:Nat)(J:VR)(F:Int->Prop)(E:ER)(r r':Rres):Prop
 |go:r.1.1=0->r'.1.1=0->RelR m N 0 (N+1) 0 r.2.2 r'.2.2->J r.2.1 r'.2.1->RN m N J F E r r'
 |fin:r.1.1≠0->r'.1.1=r.1.1->F r.1.1->RelR m N 0 (N+1) 0 r.2.2 r'.2.2->E r.1.1 r.1.2 r'.1.2 r.2.1 r'.2.1->RN m N J F E r r'
 |halt:Halt m r.2.2 r'.2.2->RN m N J F E r r'
 |cut:Cut m r.2.2 r'.2.2->RN m N J F E r r'
theorem z7l{s:Rs}(h:s.spent=true):z16 s=true:=by unfold z16;rw[h];rfl
section
variable {u v:Un} {D:Nat} {B:Int} {m:Bool} {N:Nat}
theorem RelR.weak{k w c k2 w2 c2:Nat}{s s':Rs}(h:RelR m N k w c s s')(hk:k<=k2)(hw:w2<=w)(hc:c<=c2):RelR m N k2 w2 c2 s s':=⟨h.al,h.g.weak hk hw,by have:=h.co;omega⟩
theorem RelR.dec{k w c:Nat}{s s':Rs}(h:RelR m N k w c s s')(hw:1<=w):RelR m N k (N+1) c (dec s) (dec s'):=⟨⟨h.al.l,h.al.l',h.al.ins,h.al.ar,h.al.out,h.al.code,h.al.rg⟩,h.g.step hw,h.co⟩
theorem sum_sim(hB:B<=4611686018427387903)(hA:v.arrays=u.arrays)(hP:∀name,z06 name v.flows 0=z06 name u.flows 0)(HC:HCall u v D B m N){d d':Nat}(hd:d<=D){x x':Nd}{p:List Int}{s s':Rs}{q q':Int×Rs}
 (hk:x'.kind=x.kind) (hop:x'.op=x.op) (hnm:x'.name=x.name) (h:mSum u d x p s=some q) (h':mSum v d' x' p s'=some q') (ho:Oks B s) (ho':Oks B s') (ho1:s.cost+s.fuel+1<=B) (ho1':s'.cost+s'.fuel+1<=B)
 (hp:P64 p) (hr:RelR m N 0 (N+1) 0 s s'):RC m N q q':=by
 by_cases k7:x.kind=7
 ·obtain⟨d,rfl⟩:=z6h h;obtain⟨d',rfl⟩:=z6h h';have g:=zd1 h (At.2 k7);have g':=zd1 h' (At.2 (hk.trans k7));rw[zk8 hB ho]at g;rw[zk8 hB ho',hnm,hP]at g';have hb:∀{s:Rs},Oks B s->s.cost+s.fuel+1<=B->Oks B (bmp s):=λ{s} ho ho1=>⟨ho.1,by have:=ho.2.1;show 0<=s.cost+1;omega,by show s.cost+1+s.fuel<=B;omega⟩;refine HC _ _ _ _ _ _ _ _ oM0 hp g g' (hb ho ho1) (hb ho' ho1') ⟨⟨hr.al.l,hr.al.l',hr.al.ins,hr.al.ar,hr.al.out,hr.al.code,hr.al.rg⟩,hr.g,?_⟩;have:=hr.co;show s'.cost+1<=s.cost+1+(0:Nat);omega
 ·have hs:=sum_rg k7 hp hr.al.rg h;obtain⟨h1,ins,ar,st,out,h2,h3⟩:=j56 hk hop hnm k7 hA hB ho ho' hr.al h h';have hco:q'.2.cost<=q.2.cost:=by rw[h2,h3];have:=hr.co;show s'.cost+1<=s.cost+1;omega
  by_cases hst:st=0
  ·subst hst;refine .ok h1 hs.1 ⟨?_,?_,by simpa using hco⟩
   ·rw[h2,h3];exact⟨⟨hr.al.l.1,rfl⟩,⟨hr.al.l'.1,rfl⟩,rfl,rfl,rfl,hr.al.code,by have h:=hs.2.1;rw[h2]at h;exact h⟩
   ·rw[h2,h3];exact hr.g
  ·refine .halt ⟨by rw[h2];exact hst,by rw[h2,h3];rfl,by rw[h2];exact hr.al.l.1,by rw[h3];exact hr.al.l'.1,by rw[h2,h3];rfl,by rw[h2,h3];exact hr.al.code,hco,λhm=>?_⟩;have:=hr.g;unfold G at this;rw[A5 hm]at this;rw[h2,h3];show s.fuel<=s'.fuel;simpa using this
theorem zn0{l:List Nd}{K:List KF}{r1 r:Rres}(h:KNext u D l K r1 r)(ho:z16 r1.2.2=true):r=r1:=by
 rcases h with⟨_,h⟩|⟨h,_⟩|⟨h,_⟩
 ·exact h
 iterate 2 ·rw[z0s h]at ho;cases ho
theorem y5t(hB:B<=4611686018427387903){D':Nat}{J:VR}{F:Int->Prop}{E:ER}{l l':List Nd}{K:List KF}{r1 r1' r r':Rres}(h:KNext u D l K r1 r)(h':KNext v D' l' [] r1' r')(ho:Oks B r1.2.2)(ho':Oks B r1'.2.2)
 (hR:RN m N J F E r1 r1') (hF:∀n,F n->K=[]∨n=15) (hN:lsz l+ksz K<=N)
 (ih:∀(D':Nat)(a b:List Int)(s s':Rs)(r r':Rres),KRun u D l K a s r->KRun v D' l' [] b s' r'->Oks B s->Oks B s'->RelR m N 0 (lsz l+ksz K) 0 s s'->lsz l+ksz K<=N->J a b->RR m N E r r'):RR m N E r r':=by
 cases hR with
 |go e e' hr hJ =>
  rcases h with⟨h,_⟩|⟨_,h,_⟩|⟨_,_,h⟩
  ·rw[z0s hr.al.l]at h;cases h
  ·exact A9 e h
  ·rcases h' with⟨h',_⟩|⟨_,h',_⟩|⟨_,_,h'⟩
   ·rw[z0s hr.al.l']at h';cases h'
   ·exact A9 e' h'
   ·exact ih _ _ _ _ _ _ _ h h' ho ho' (hr.weak (Ag _) oM0 (Ag _)) hN hJ
 |fin e e' hf hr hE =>
  rcases h with⟨h,_⟩|⟨_,_,h⟩|⟨_,h,_⟩
  ·rw[z0s hr.al.l]at h;cases h
  ·rcases h' with⟨h',_⟩|⟨_,_,h'⟩|⟨_,h',_⟩
   ·rw[z0s hr.al.l']at h';cases h'
   ·obtain rfl:r'=r1':=h';have hr1:r=r1:=by
     rcases hF _ hf with rfl|k15
     ·exact h
     ·cases K with
      |nil=>exact h
      |cons f K=>unfold KFin at h;rw[A5 k15]at h;exact h
    subst hr1;exact .ok e' hE hr
   ·exact A9 (e'.symm.trans h') e
  ·exact A9 h e
 |halt hh =>
  obtain⟨o1,o2⟩:=hh.over;rw[zn0 h o1,zn0 h' o2]
  exact .halt hh
 |cut hc =>
  refine .cut ?_;unfold Cut at hc⊢
  cases m with
  |true =>
   simp only[C6]at hc⊢;rw[zn0 h (z7l hc.1)]
   exact⟨hc.1,hc.2.1,hc.2.2.trans (h'.out hB ho')⟩
  |false =>
   simp only[As,Bv]at hc⊢;rw[zn0 h' (z7l hc.1)];exact⟨hc.1,hc.2.1,hc.2.2.trans (h.out hB ho)⟩
theorem y8y(hB:B<=4611686018427387903){d:Nat}{x:Nd}{r1 r:Rres}(ho:Oks B r1.2.2)
 (h:(if z16 r1.2.2||r1.1.1==15 then some r1 else if r1.1.1==14 then(mSet r1.2.1 x.outs r1.1.2).map λv=>((0,[]),v,r1.2.2)else z3w u d x r1.2.1 r1.1.2 r1.2.2)=some r):r1.2.2.out <+: r.2.2.out/\(z16 r1.2.2=true->r=r1):=by
 split at h
 ·cases h;exact⟨Cm _,λ_=>rfl⟩
 ·rename_i hn;refine⟨?_,λho=>A9 (by rw[ho];rfl) hn⟩;split at h
  ·obtain⟨v3,_,rfl⟩:=A8.1 h;exact Cm _
  ·exact(zl0 hB h ho).out
theorem yn2(hB:B<=4611686018427387903){k c:Nat}{I2 J:VR}{E E2:ER}{x x':Nd}{q q':List Nd}(hq:x.kids=[q])(hq':x'.kids=[q'])(hN:lsz q<=N)
 (ih:∀(D':Nat)(a b:List Int)(s s':Rs)(r r':Rres),KRun u D q [] a s r->KRun v D' q' [] b s' r'->Oks B s->Oks B s'->RelR m N k (lsz q+ksz []) c s s'->lsz q+ksz []<=N->I2 a b->RR m N E2 r r')
 (hE:∀n p p' a b,E2 n p p' a b->(n=15/\E 15 p p' a b)∨(n=14/\∀a2 b2,mSet a x.outs p=some a2->mSet b x'.outs p'=some b2->J a2 b2)∨(n=13/\∀a2 b2,mSet a x.params p=some a2->mSet b x'.params p'=some b2->I2 a2 b2)) :
 ∀(d d':Nat)(a b p p':List Int)(s s':Rs)(r r':Rres),d<=D->z3w u d x a p s=some r->z3w v d' x' b p' s'=some r'->Oks B s->Oks B s'->RelR m N k (lsz q) c s s' ->
  (∀a2 b2,mSet a x.params p=some a2->mSet b x'.params p'=some b2->I2 a2 b2)->RN m N J (λn=>n=15) E r r'
 |0,_,_,_,_,_,_,_,_,_,_,h,_,_,_,_,_=>by simp[z3w]at h
 |d+1,d',a,b,p,p',s,s',r,r',hd,h,h',ho,ho',hr,hI=>by
  obtain⟨d1,v2,q2,r1,e,g1,g2,g3,g4⟩:=z5g h;obtain⟨d1',v2',q2',r1',e',g1',g2',g3',g4'⟩:=z5g h';obtain rfl:d1=d:=by omega
  rw[hq]at g2;rw[hq']at g2';obtain rfl:=C0 g2;obtain rfl:=C0 g2';have R:=ih d1' v2 v2' s s' r1 r1' ⟨d1,r1,by omega,g3,by split<;>rfl⟩ ⟨d1',r1',Ag _,g3',by split<;>rfl⟩ ho ho' hr hN (hI _ _ g1 g1');have o1:=(z88 hB g3 ho).ok;have o1':=(z88 hB g3' ho').ok;have W:=y8y hB o1 g4;have W':=y8y hB o1' g4'
  cases R with
  |halt hh =>
   obtain⟨t1,t2⟩:=hh.over;rw[W.2 t1,W'.2 t2]
   exact .halt hh
  |cut hc =>
   refine .cut ?_;unfold Cut at hc⊢
   cases m with
   |true =>
    simp only[C6]at hc⊢;rw[W.2 (z7l hc.1)]
    exact⟨hc.1,hc.2.1,hc.2.2.trans W'.1⟩
   |false =>
    simp only[As,Bv]at hc⊢;rw[W'.2 (z7l hc.1)]
    exact⟨hc.1,hc.2.1,hc.2.2.trans W.1⟩
  |ok ek eE hr2 =>
   rw[z0s hr2.al.l]at g4;rw[z0s hr2.al.l',ek]at g4';obtain⟨⟨n,pp⟩,va,sa⟩:=r1;obtain⟨⟨n',pp'⟩,vb,sb⟩:=r1';obtain rfl:n'=n:=ek;rcases hE _ _ _ _ _ eE with⟨rfl,h15⟩|⟨rfl,h14⟩|⟨rfl,h13⟩
   ·cases g4;cases g4'
    exact .fin (show(15:Int)≠0 by decide) rfl rfl hr2 h15
   ·obtain⟨w,g5,rfl⟩:=A8.1 g4;obtain⟨w',g5',rfl⟩:=A8.1 g4';exact .go rfl rfl hr2 (h14 _ _ g5 g5')
   ·exact yn2 hB hq hq' hN ih hE d1 d1' va vb pp pp' sa sb r r' oM0 g4 g4' o1 o1' (hr2.weak (Aj _) oM0 (Aj _)) h13
end
end
section
section
variable {u v:Un} {D:Nat} {B:Int} {m:Bool} {N:Nat}
theorem z9s(x:Nd):1<=nsz x:=by rw[y3w];omega
theorem j4r{x:Nd}{q:Int×Rs}{a:List Int}{r1:Rres}(hl:Live q.2)
 (h:(if !z16 q.2&&decide (0<x.outs.length)then(x.outs[0]?).bind λo=>(setV a o q.1).map λv'=>((0,[]),v',q.2)else some ((0,[]),a,q.2))=some r1):∃a2,setO x.outs a q.1 a2/\r1=((0,[]),a2,q.2):=by
 rw[z0s hl]at h
 cases ho:x.outs with
 |nil=>rw[ho]at h;cases h;exact⟨a,rfl,rfl⟩
 |cons o os =>
  rw[ho]at h;simp only[Dn,B6,A3,Nat.zero_lt_succ,decide_true,C6,D5,Bt,A8]at h;obtain⟨a2,h1,rfl⟩:=h;exact⟨a2,h1,rfl⟩
theorem y8d{x:Nd}{q:Int×Rs}{a:List Int}{r1:Rres}
 (h:(if !z16 q.2&&decide (0<x.outs.length)then(x.outs[0]?).bind λo=>(setV a o q.1).map λv'=>((0,[]),v',q.2)else some ((0,[]),a,q.2))=some r1):r1.2.2=q.2:=by
 split at h
 ·simp only[Ao,A8]at h;obtain⟨o,_,v',_,rfl⟩:=h;rfl
 ·cases h;rfl
theorem sound(hB:B<=4611686018427387903)(hA:v.arrays=u.arrays)(hP:∀name,z06 name v.flows 0=z06 name u.flows 0)(HC:HCall u v D B m N)
 {k c:Nat} {I:VR} {l:List Nd} {K:List KF} {l':List Nd} {E:ER} (h:LRel k c I l K l' E) :
 ∀(D':Nat)(a b:List Int)(s s':Rs)(r r':Rres),KRun u D l K a s r->KRun v D' l' [] b s' r'->Oks B s->Oks B s'->RelR m N k (lsz l+ksz K) c s s'->lsz l+ksz K<=N->I a b->RR m N E r r':=by
 induction h with
 |dead hd=>intro D' a b s s' r r' h h' ho ho' hr hN hI;exact A9 hI (hd a b)
 |weak hw _ ih=>intro D' a b s s' r r' h h' ho ho' hr hN hI;exact ih D' a b s s' r r' h h' ho ho' hr hN (hw a b hI)
 |@both k c I J x x' l K l' E hx hx' hcc hJ hL ih =>
  intro D' a b s s' r r' h h' ho ho' hr hN hI;have hs:=z9s x;have ez:lsz (x::l)=nsz x+lsz l:=rfl;rcases y7z hB hx h ho hr.al.l with⟨hf,e⟩|⟨hf,a2,ha,hk⟩
  ·exact y2m hr oM0 hf ho'.1 (h'.out hB ho') e
  rcases y7z hB hx' h' ho' hr.al.l' with⟨hf',e'⟩|⟨hf',b2,hb,hk'⟩
  ·exact j0f hB (LRel.both hx hx' hcc hJ hL) (Eo _ _) h ho hr hf' e'
  have h2:=hr.dec oM0;refine ih D' a2 b2 _ _ r r' hk hk' (zm9 ho hf) (zm9 ho' hf') ⟨⟨h2.al.l,h2.al.l',h2.al.ins,h2.al.ar,h2.al.out,h2.al.code,h2.al.rg⟩,h2.g.weak (Ag _) oM0,?_⟩ oM0 (hJ _ _ _ _ hI ha hb);have:=hr.co
  show s'.cost+(hc x':Int)<=s.cost+(hc x:Int)+(c:Int);omega
 |@skip k c I J x l K l' E hx hJ hL ih =>
  intro D' a b s s' r r' h h' ho ho' hr hN hI;have hs:=z9s x;have ez:lsz (x::l)=nsz x+lsz l:=rfl;rcases y7z hB hx h ho hr.al.l with⟨hf,e⟩|⟨hf,a2,ha,hk⟩
  ·exact y2m hr oM0 hf ho'.1 (h'.out hB ho') e
  refine ih D' a2 b _ _ r r' hk h' (zm9 ho hf) ho' ⟨⟨hr.al.l,hr.al.l',hr.al.ins,hr.al.ar,hr.al.out,hr.al.code,hr.al.rg⟩,(hr.g.weak (Ag _) (w2:=lsz l+ksz K+1) oM0).left,?_⟩ oM0 (hJ _ _ _ hI ha);have:=hr.co
  show s'.cost<=s.cost+(hc x:Int)+(c:Int);omega
 |@drop I J x l K l' E h4 hou hok hJ hL ih =>
  intro D' a b s s' r r' h h' ho ho' hr hN hI;have hs:=z9s x;have ez:lsz (x::l)=nsz x+lsz l:=rfl;rcases j11 hB h4 hou (λp a0 a1=>hok a b p a0 a1 hI) h ho hr.al.l with⟨hf,e⟩|⟨hf,a2,ha,hk⟩
  ·exact y2m hr oM0 hf ho'.1 (h'.out hB ho') e
  refine ih D' a2 b _ _ r r' hk h' (zm9 ho hf) ho' ⟨⟨hr.al.l,hr.al.l',hr.al.ins,hr.al.ar,hr.al.out,hr.al.code,hr.al.rg⟩,(hr.g.weak (Ag _) (w2:=lsz l+ksz K+1) oM0).left,?_⟩ oM0 (hJ _ _ _ hI ha);have:=hr.co
  show s'.cost<=s.cost+(hc x:Int)+((0:Nat):Int);omega
 |@paid k c I J x l K l' E hx hJ hne hL ih =>
  intro D' a b s s' r r' h h' ho ho' hr hN hI;have hs:=z9s x;have ez:lsz (x::l)=nsz x+lsz l:=rfl;rcases y7z hB hx h ho hr.al.l with⟨hf,e⟩|⟨hf,a2,ha,hk⟩
  ·exact y2m hr oM0 hf ho'.1 (h'.out hB ho') e
  refine ih D' a2 b _ _ r r' hk h' (zm9 ho hf) ho' ⟨⟨hr.al.l,hr.al.l',hr.al.ins,hr.al.ar,hr.al.out,hr.al.code,hr.al.rg⟩,(hr.g.weak (Ag _) (w2:=lsz l+ksz K+1) oM0).pay,?_⟩ oM0 (hJ _ _ _ hI ha);have:=hr.co
  show s'.cost<=s.cost+(hc x:Int)+(c:Int);omega
 |@add k c I J x' l K l' E hx' hne hJ hL ih =>
  intro D' a b s s' r r' h h' ho ho' hr hN hI;rcases y7z hB hx' h' ho' hr.al.l' with⟨hf',e'⟩|⟨hf',b2,hb,hk'⟩
  ·exact j0f hB (LRel.add hx' hne hJ hL) hne h ho hr hf' e'
  refine ih D' a b2 _ _ r r' h hk' ho (zm9 ho' hf') ⟨⟨hr.al.l,hr.al.l',hr.al.ins,hr.al.ar,hr.al.out,hr.al.code,hr.al.rg⟩,hr.g.right,?_⟩ hN (hJ _ _ _ hI hb);have:=hr.co
  show s'.cost+(hc x':Int)<=s.cost+((c+hc x':Nat):Int);omega
 |@eff I J x x' l K l' E hk hkk hop hnm hlen h64 hp hJ hL ih =>
  intro D' a b s s' r r' h h' ho ho' hr hN hI;have hs:=z9s x;have ez:lsz (x::l)=nsz x+lsz l:=rfl;rcases zr0 hB h ho hr.al.l with⟨hf,e⟩|⟨hf,d1,p,r1,hd,g1,g2,g3⟩
  ·exact y2m hr oM0 hf ho'.1 (h'.out hB ho') e
  rcases zr0 hB h' ho' hr.al.l' with⟨hf',e'⟩|⟨hf',d1',p',r1',hd',g1',g2',g3'⟩
  ·exact j0f hB (LRel.eff hk hkk hop hnm hlen h64 hp hJ hL) (Eo _ _) h ho hr hf' e'
  obtain⟨k1,k2,k10,k11,k12,k13,k14,k15⟩:=hk;have ne:∀{i:Int},x.kind≠i->(x.kind==i)=false:=λh=>Aa.2 h;have ne':∀{i:Int},x.kind≠i->(x'.kind==i)=false:=λh=>Aa.2 (by rw[hkk];exact h);obtain⟨q,t1,t2⟩:=z7q g2 (by rw[ne k1,ne k2];rfl) (by rw[ne k12,ne k13,ne k14,ne k15];rfl) (ne k10) (ne k11);obtain⟨q',t1',t2'⟩:=z7q g2' (by rw[ne' k1,ne' k2];rfl) (by rw[ne' k12,ne' k13,ne' k14,ne' k15];rfl) (ne' k10) (ne' k11);have hpp:=hp _ _ _ _ hI g1 g1';subst hpp;have h2:=hr.dec oM0;obtain⟨o1,o2⟩:=z4r ho hf;obtain⟨o1',o2'⟩:=z4r ho' hf';have e1:r1.2.2=q.2:=y8d t2;have e1':r1'.2.2=q'.2:=y8d t2';have R:RN m N J (λn=>K=[]∨n=15) E r1 r1':=by
   have h64p:=h64 _ _ _ hI g1;have htw:q.2.st=0->Two x p' q.1:=λhst=>by
    by_cases k7:x.kind=7
    ·intro k4;rw[k7]at k4;exact A9 k4 dC0
    ·exact(sum_rg k7 h64p h2.al.rg t1).2.2 hst
   cases sum_sim hB hA hP HC oM0 hkk hop hnm t1 t1' o1 o1' o2 o2' h64p h2 with
   |ok hv hq64 hrel =>
    obtain⟨a2,s1,rfl⟩:=j4r hrel.al.l t2;obtain⟨b2,s2,rfl⟩:=j4r hrel.al.l' t2';rw[hv]at s2
    exact .go rfl rfl hrel (hJ _ _ _ _ _ _ hI g1' hq64 (htw hrel.al.l.2) s1 s2)
   |halt hh=>exact .halt (by rw[e1,e1'];exact hh)
   |cut hh=>exact .cut (by rw[e1,e1'];exact hh)
  exact y5t hB g3 g3' (by rw[e1];exact(yc3 hB t1 o1 o2).ok) (by rw[e1'];exact(yc3 hB t1' o1' o2').ok) R (λ_ h=>h) oM0 ih
 |@ite I J E2 x x' q0 q1 q0' q1' l K l' E hk hk' hq hq' hp hL0 hL1 hE hL ih0 ih1 ih =>
  intro D' a b s s' r r' h h' ho ho' hr hN hI;have hs:=z9s x;have ez:lsz (x::l)=nsz x+lsz l:=rfl;have ezx:nsz x=1+(lsz q0+(lsz q1+0)):=by rw[y3w,hq];rfl
  rcases zr0 hB h ho hr.al.l with⟨hf,e⟩|⟨hf,d1,p,r1,hd,g1,g2,g3⟩
  ·exact y2m hr oM0 hf ho'.1 (h'.out hB ho') e
  rcases zr0 hB h' ho' hr.al.l' with⟨hf',e'⟩|⟨hf',d1',p',r1',hd',g1',g2',g3'⟩
  ·exact j0f hB (LRel.ite hk hk' hq hq' hp hL0 hL1 hE hL) (Eo _ _) h ho hr hf' e'
  have hpp:=hp _ _ _ _ hI g1 g1';obtain⟨a0,q,r2,t1,t2,t3,t4⟩:=zm5 g2 (by rw[hk];rfl);obtain⟨a0',q',r2',t1',t2',t3',t4'⟩:=zm5 g2' (by rw[hk'];rfl);rw[t1,t1']at hpp;obtain rfl:=C0 hpp;have h2:=hr.dec oM0;obtain⟨o1,o2⟩:=z4r ho hf;obtain⟨o1',o2'⟩:=z4r ho' hf';have R2:RR m N E2 r2 r2':=by
   rw[hq]at t2;rw[hq']at t2'
   by_cases c0:(a0' != 0)=true
   ·rw[A5 c0]at t2 t2';obtain rfl:q0=q:=by simpa using t2
    obtain rfl:q0'=q':=by simpa using t2'
    exact ih0 d1' a b _ _ r2 r2' ⟨d1,r2,by omega,t3,by split<;>rfl⟩ ⟨d1',r2',Ag _,t3',by split<;>rfl⟩ o1 o1' (h2.weak (Ag _) (by simp[ksz];omega) (Ag _)) (by simp[ksz];omega) hI
   ·rw[A1 c0]at t2 t2';obtain rfl:q1=q:=by simpa using t2
    obtain rfl:q1'=q':=by simpa using t2'
    exact ih1 d1' a b _ _ r2 r2' ⟨d1,r2,by omega,t3,by split<;>rfl⟩ ⟨d1',r2',Ag _,t3',by split<;>rfl⟩ o1 o1' (h2.weak (Ag _) (by simp[ksz];omega) (Ag _)) (by simp[ksz];omega) hI
  have x1:=(z88 hB t3 o1).ok;have x1':=(z88 hB t3' o1').ok;have SS:∀{x:Nd}{r2 r1:Rres},(if !z16 r2.2.2&&r2.1.1==12 then(mSet r2.2.1 x.outs r2.1.2).map λv'=>(((0,[]),v',r2.2.2):Rres)else some r2)=some r1->r1.2.2=r2.2.2:=by
   intro x r2 r1 h;split at h
   ·obtain⟨w,_,rfl⟩:=A8.1 h;rfl
   ·cases h;rfl
  have e1:=SS t4;have e1':=SS t4';have R:RN m N J (λn=>K=[]∨n=15) E r1 r1':=by
   cases R2 with
   |halt hh=>exact .halt (by rw[e1,e1'];exact hh)
   |cut hh=>exact .cut (by rw[e1,e1'];exact hh)
   |ok ek eE hr2 =>
    rw[z0s hr2.al.l]at t4;rw[z0s hr2.al.l',ek]at t4';obtain⟨⟨n,pp⟩,va,sa⟩:=r2;obtain⟨⟨n',pp'⟩,vb,sb⟩:=r2';obtain rfl:n'=n:=ek;rcases hE _ _ _ _ _ eE with⟨rfl,h12⟩|⟨n12,n0,hKn,hEE⟩
    ·obtain⟨w,g5,rfl⟩:=A8.1 t4;obtain⟨w',g5',rfl⟩:=A8.1 t4';exact .go rfl rfl hr2 (h12 _ _ g5 g5')
    ·have c:(!false&&n'==12)=false:=by simpa using n12
     simp only[c]at t4 t4'
     cases t4;cases t4'
     exact .fin n0 rfl hKn hr2 hEE
  exact y5t hB g3 g3' (by rw[e1];exact x1) (by rw[e1'];exact x1') R (λ_ h=>h) oM0 ih
 |@loop k c I I2 J E2 x x' q q' l K l' E hk hk' hq hq' hI2 hL2 hE hL ih2 ih =>
  intro D' a b s s' r r' h h' ho ho' hr hN hI;have hs:=z9s x;have ez:lsz (x::l)=nsz x+lsz l:=rfl;have ezx:nsz x=1+(lsz q+0):=by rw[y3w,hq];rfl
  rcases zr0 hB h ho hr.al.l with⟨hf,e⟩|⟨hf,d1,p,r1,hd,g1,g2,g3⟩
  ·exact y2m hr oM0 hf ho'.1 (h'.out hB ho') e
  rcases zr0 hB h' ho' hr.al.l' with⟨hf',e'⟩|⟨hf',d1',p',r1',hd',g1',g2',g3'⟩
  ·exact j0f hB (LRel.loop hk hk' hq hq' hI2 hL2 hE hL) (Eo _ _) h ho hr hf' e'
  have t:=z7i g2 (by rw[hk];rfl);have t':=z7i g2' (by rw[hk'];rfl);have h2:=hr.dec oM0;obtain⟨o1,_⟩:=z4r ho hf;obtain⟨o1',_⟩:=z4r ho' hf';have R:=yn2 hB hq hq' oM0 ih2 hE d1 d1' a b p p' _ _ r1 r1' oM0 t t' o1 o1' (h2.weak (Ag _) oM0 (Ag _)) λa2 b2=>hI2 a b p p' a2 b2 hI g1 g1'
  exact y5t hB g3 g3' (zl0 hB t o1).ok (zl0 hB t' o1').ok R (λn hn=>.inr hn) oM0 ih
 |@ender I x x' l K l' E h1 h2 hkk hKn hE =>
  intro D' a b s s' r r' h h' ho ho' hr hN hI;have hs:=z9s x;have ez:lsz (x::l)=nsz x+lsz l:=rfl;rcases zq6 hB h1 h2 h ho hr.al.l with⟨hf,e⟩|⟨hf,p,g1,g2⟩
  ·exact y2m hr oM0 hf ho'.1 (h'.out hB ho') e
  rcases zq6 hB (by rw[hkk];exact h1) (by rw[hkk];exact h2) h' ho' hr.al.l' with⟨hf',e'⟩|⟨hf',p',g1',g2'⟩
  ·exact j0f (l':=x'::l') hB (LRel.ender h1 h2 hkk hKn hE) (Eo _ _) h ho hr hf' e'
  obtain rfl:r'=((x'.kind,p'),b,dec s'):=g2';obtain rfl:r=((x.kind,p),a,dec s):=by
   rcases hKn with rfl|k15
   ·exact g2
   ·cases K with
    |nil=>exact g2
    |cons f K=>unfold KFin at g2;rw[show(((x.kind,p),a,dec s):Rres).1.1=15 from k15,A5 rfl]at g2;exact g2
  exact .ok hkk (hE _ _ _ _ hI g1 g1') (hr.dec oM0)
 |@once k c I J x q l K l' E hk hq hJ hL ih =>
  intro D' a b s s' r r' h h' ho ho' hr hN hI;have ez:lsz (x::l)=nsz x+lsz l:=rfl;have ezx:nsz x=1+(lsz q+0):=by rw[y3w,hq];rfl
  have ek:ksz (⟨14,x.outs,l⟩::K)=lsz l+ksz K:=rfl;rcases y8o hB hk hq h ho hr.al.l with⟨hf,e⟩|⟨hf,p,a2,g1,g2,g3⟩
  ·exact y2m hr oM0 hf ho'.1 (h'.out hB ho') e
  exact ih D' a2 b _ _ r r' g3 h' (z4r ho hf).1 ho' ⟨⟨hr.al.l,hr.al.l',hr.al.ins,hr.al.ar,hr.al.out,hr.al.code,hr.al.rg⟩,(hr.g.weak (Ag _) (w2:=lsz q+(lsz l+ksz K)+1) oM0).left,hr.co⟩ oM0 (hJ _ _ _ _ hI g1 g2)
 |@leave k c I J y l f K l' E hk hk2 hJ hL ih =>
  intro D' a b s s' r r' h h' ho ho' hr hN hI;have hs:=z9s y;have ez:lsz (y::l)=nsz y+lsz l:=rfl;have ek:ksz (f::K)=lsz f.rest+ksz K:=rfl;rcases y3n hB hk hk2 h ho hr.al.l with⟨hf,e⟩|⟨hf,p,a2,g1,g2,g3⟩
  ·exact y2m hr oM0 hf ho'.1 (h'.out hB ho') e
  exact ih D' a2 b _ _ r r' g3 h' (z4r ho hf).1 ho' ⟨⟨hr.al.l,hr.al.l',hr.al.ins,hr.al.ar,hr.al.out,hr.al.code,hr.al.rg⟩,(hr.g.weak (Ag _) (w2:=lsz f.rest+ksz K+1) oM0).left,hr.co⟩ oM0 (hJ _ _ _ _ hI g1 g2)
 |@fork k c I x q0 q1 l K l' E hk hq hL0 hL1 ih0 ih1 =>
  intro D' a b s s' r r' h h' ho ho' hr hN hI;have ez:lsz (x::l)=nsz x+lsz l:=rfl;have ezx:nsz x=1+(lsz q0+(lsz q1+0)):=by rw[y3w,hq];rfl
  have ek:ksz (⟨12,x.outs,l⟩::K)=lsz l+ksz K:=rfl;rcases y7u hB hk hq h ho hr.al.l with⟨hf,e⟩|⟨hf,q,hq',g3⟩
  ·exact y2m hr oM0 hf ho'.1 (h'.out hB ho') e
  rcases hq' with rfl|rfl
  ·exact ih0 D' a b _ _ r r' g3 h' (z4r ho hf).1 ho' ⟨⟨hr.al.l,hr.al.l',hr.al.ins,hr.al.ar,hr.al.out,hr.al.code,hr.al.rg⟩,(hr.g.weak (Ag _) (w2:=lsz q+(lsz l+ksz K)+1) oM0).left,hr.co⟩ oM0 hI
  ·exact ih1 D' a b _ _ r r' g3 h' (z4r ho hf).1 ho' ⟨⟨hr.al.l,hr.al.l',hr.al.ins,hr.al.ar,hr.al.out,hr.al.code,hr.al.rg⟩,(hr.g.weak (Ag _) (w2:=lsz q+(lsz l+ksz K)+1) oM0).left,hr.co⟩ oM0 hI
def EF:ER:=λ_ p p' _ _=>p'.headD 0=p.headD 0/\I64 (p.headD 0)
def FRel(N:Nat)(f g:Fl):Prop:=g.types.length=f.types.length/\lsz f.body<=N/\LRel 0 0 (λa b=>a=b/\a.length=f.types.length/\P64 a) f.body [] g.body EF
theorem y7l(hB:B<=4611686018427387903)(hA:v.arrays=u.arrays)(hP:∀name,z06 name v.flows 0=z06 name u.flows 0)
 (hF:∀(i:Nat) f g,u.flows[i]?=some f->v.flows[i]?=some g->FRel N f g):∀D,HCall u v D B m N
 |0=>λe _ _ _ _ _ _ _ h=>A9 h (An e)
 |D+1=>by
  intro e e' k p s s' q q' he hp h h' ho ho' hr;have HC:=y7l hB hA hP hF D;obtain⟨d1,f,r1,rfl,hk,hf,hl1,_,h1,rfl⟩:=z7h h;obtain⟨d1',g,r1',rfl,_,hg,hl1',_,h1',rfl⟩:=z7h h';obtain⟨ht,hsz,hL⟩:=hF _ _ _ hf hg;have R:=sound hB hA hP HC hL d1' _ _ s s' r1 r1' ⟨d1,r1,by omega,h1,by split<;>rfl⟩ ⟨d1',r1',Ag _,h1',by split<;>rfl⟩ ho ho' (hr.weak (Ag _) (by simp[ksz];omega) (Ag _)) (by simp[ksz];omega) ⟨by rw[ht],by simp;omega,λy hy=>by
   rcases B3.1 hy with hy|hy
   ·exact hp y hy
   ·rw[(List.mem_replicate.1 hy).2];simp[I64]⟩
  cases R with
  |ok ek eE hr2 =>
   refine .ok ?_ ?_ hr2
   ·rw[z0s hr2.al.l,z0s hr2.al.l'];exact eE.1
   ·rw[z0s hr2.al.l]
    exact eE.2
  |halt hh=>exact .halt hh
  |cut hc=>exact .cut hc
end
end
section
variable {P:Program} {c:Cx} {R1:Nat->Prop} {o:Oper} {fr:Fr} {σ:Heap'}
def y58(ns:List Int):ByteArray:=ns.foldl (λr n=>r.push (UInt8.ofNat n.toNat)) ByteArray.empty
def y0b:List (List PV)->Option (List Int)
 |[]=>some []
 |[.val (.int .u8 n)]::r=>match y0b r with
  |some l=>some (n::l)
  |none=>none
 |_=>none
theorem yt1:∀{els:List (List PV)} {ns:List Int},y0b els=some ns->els=ns.map λn=>[.val (.int .u8 n)]:=by
 intro els
 induction els with
 |nil=>intro ns h;cases h;rfl
 |cons x r ih =>
  intro ns h;unfold y0b at h;split at h
  ·rename_i h1;cases h1
  ·rename_i n r' h1
   cases h1
   split at h
   ·rename_i l hl
    cases h
    rw[ih hl];rfl
   ·cases h
  ·cases h
theorem ye0{s t e:TypeId}{x:Operand}{els:List (List PV)}{ns:List Int}(ho:o.op=.convert s t x)(hx:fr.ev x=some (.pv (.seq els)))(hn:y0b els=some ns)
 (hs:P.underlying s=some (.slice e)) (he:P.underlying e=some (.int .u8)) (hd:P.underlying t=some .string):OkV P c R1 o fr σ (.pv (.val (.string (y58 ns)))):=by
 have hels:=yt1 hn;refine λρ w a h=>?_;have hr:=(h.ev hx).inv_seq;generalize hv:a.eval x=v at hr
 cases hr with
 |seq _ ad cap b off u ha hb hl hm hc hrp =>
  refine⟨.string (y58 ns),λw2 h2=>?_,z3c _⟩;have hlen:els.length=(ns.map (Value.int .u8)).length:=by rw[hels];simp
  simp only[execOp,ho,hv,Ai];rw[run_convert_bytes_string w2 s t e ad els.length cap hs he hd]
  cases ad with
  |none =>
   have h0:els=[]:=By λhne=>by cases ha hne
   have hn0:ns=[]:=by rw[h0]at hels;cases ns with|nil=>rfl|cons _ _=>cases hels
   subst hn0
   rfl
  |some ad =>
   have hload:(loadCells ad els.length).run P w2=.ok (ns.map (Value.int .u8)).toArray w2:=by
    rw[hlen];refine run_loadCells_list w2 ad _ λj v hj=>?_;rw[Bc]at hj;obtain⟨n,hn1,rfl⟩:=A8.1 hj;have hej:els[j]?=some [.val (.int .u8 n)]:=by rw[hels,Bc,hn1];rfl
    have hne:els≠[]:=λe=>by rw[e]at hej;cases hej
    have hc2:=hc j _ hej 0 _ rfl;have hr2:=hrp j _ hej 0 _ rfl;have hu:u j 0=.int .u8 n:=by
     generalize u j 0=q at hr2
     cases hr2
     rfl
    rw[hu]at hc2
    cases ha hne
    have hcell:=(Dm (a:=⟨b,off+j*1+0,none⟩) (h2 b (hb hne).2 (.inl (hb hne).1))).trans hc2;rw[show(⟨b,off,none⟩:Addr).add j=⟨b,off+j,none⟩ by cases j<;>simp[Addr.add]];simpa using hcell
   rw[run_bytesToString w2 ad els.length cap ns hload];rfl
end
section
variable {P:Program} {c:Cx} {fr:Fr} {hp:Hp} {Q:Exit->Fr->Heap'->Prop}
theorem ok_max{R1:Nat->Prop}{o:Oper}{σ:Heap'}{t:TypeId}{x y:Operand}{k:IntKind}{m n:Int}(ho:o.op=.call { callee:=.builtin .max,args:=#[x,y],argTypes:=#[t,t] })(hx:fr.ev x=some (.pv (.val (.int k m))))(hy:fr.ev y=some (.pv (.val (.int k n)))) :
 OkV P c R1 o fr σ (.pv (.val (.int k (if m<n then n else m)))):=by
 intro ρ w a h;refine⟨.int k (if m<n then n else m),λw2 _=>?_,z3c _⟩;simp[execOp,ho,z0v h hx,z0v h hy,resolve,invoke,builtin,Builtin.max_,Builtin.max2]
end
section
def sw(a b k:Nat):Nat:=bif Nat.beq k a then b else bif Nat.beq k b then a else k
theorem sw_sw(a b k:Nat):sw a b (sw a b k)=k:=by
 unfold sw
 by_cases h1:k=a
 ·subst h1;have e1:Nat.beq k k=true:=Di k;simp only[e1,E6]
  by_cases h2:b=k
  ·subst h2;simp
  ·have e2:Nat.beq b k=false:=z45 h2;have e3:Nat.beq b b=true:=Di b;simp[e2,e3]
 ·have e1:Nat.beq k a=false:=z45 h1;simp only[e1,D7]
  by_cases h2:k=b
  ·subst h2;simp
  ·have e2:Nat.beq k b=false:=z45 h2;simp[e1,e2]
mutual
def IV.ren(p:Nat->Nat):IV->IV
 |.pv x=>.pv x
 |.ptr k off=>.ptr (p k) off
 |.sl k len=>.sl (p k) len
 |.rpt k len off=>.rpt (p k) len off
 |.sp k n len=>.sp (p k) n len
 |.bs k n=>.bs (p k) n
 |.mp k=>.mp (p k)
 |.tnil k T=>.tnil (p k) T
 |.agg cs=>.agg (renL p cs)
 |.tup cs=>.tup (renL p cs)
 |.fn f xs ys=>.fn f (renL p xs) (renL p ys)
def renL(p:Nat->Nat):List IV->List IV
 |[]=>[]
 |x::r=>x.ren p::renL p r
end
theorem y00(p:Nat->Nat):∀xs:List IV,renL p xs=xs.map (IV.ren p)
 |[]=>rfl
 |x::r=>by simp[renL,y00 p r]
theorem z6i{p:Nat->Nat}{xs:List IV}{j:Nat}{c:IV}(h:(renL p xs)[j]?=some c):∃x,xs[j]?=some x/\c=x.ren p:=by
 rw[y00,Bc,A8]at h;obtain⟨x,h1,rfl⟩:=h;exact⟨x,h1,rfl⟩
theorem zf1(p:Nat->Nat)(xs:List IV):(renL p xs).length=xs.length:=by rw[y00,Ab]
def HO.ren(p:Nat->Nat):HO->HO
 |.box cs=>.box (renL p cs)
 |.row s els=>.row s els
 |.map es=>.map es
def renP(p:Nat->Nat)(l:List (Nat×HO)):List (Nat×HO):=l.map λx=>(p x.1,x.2.ren p)
section
variable {p:Nat->Nat} (hp:∀k,p (p k)=k) {F:Nat->Prop} {ρ:Loc} {σ σ':Heap'} {w:World}
include hp
theorem y1b{b:Nat}:owned F (λk=>ρ (p k)) b↔owned F ρ b:=by
 constructor
 ·rintro(h|⟨k,c,h⟩)
  ·exact .inl h
  ·exact .inr ⟨p k,c,h⟩
 ·rintro(h|⟨k,c,h⟩)
  ·exact .inl h
  ·exact .inr ⟨p k,c,by show ρ (p (p k))=_;rw[hp];exact h⟩
theorem y69(hσ:∀k,σ' (p k)=(σ k).map (HO.ren p)){x:IV}{v:Value}(h:RepI F ρ σ w x v):RepI F (λk=>ρ (p k)) σ' w (x.ren p) v:=by
 induction h with
 |pv q v h=>exact .pv q v (h.own λb hb=>(y1b hp).1 hb)
 |ptr k off v h =>
  refine .ptr _ off v λcs' h'=>?_;rw[hσ,A8]at h';obtain⟨o,h1,h2⟩:=h'
  cases o with
  |box cs=>obtain⟨b,c,h3,h4⟩:=h cs h1;exact⟨b,c,by rw[hp];exact h3,h4⟩
  |row=>cases h2
  |map=>cases h2
 |sl k len v h =>
  refine .sl _ len v λs els h'=>?_;rw[hσ,A8]at h';obtain⟨o,h1,h2⟩:=h'
  cases o with
  |row s' els'=>cases h2;rw[hp];exact h _ _ h1
  |box=>cases h2
  |map=>cases h2
 |sp k n len v h =>
  refine .sp _ n len v λs els h'=>?_;rw[hσ,A8]at h';obtain⟨o,h1,h2⟩:=h'
  cases o with
  |row s' els'=>cases h2;rw[hp];exact h _ _ h1
  |box=>cases h2
  |map=>cases h2
 |rpt k len off v h =>
  refine .rpt _ len off v λs els h'=>?_;rw[hσ,A8]at h';obtain⟨o,h1,h2⟩:=h'
  cases o with
  |row s' els'=>cases h2;rw[hp];exact h _ _ h1
  |box=>cases h2
  |map=>cases h2
 |bs k n v h =>
  refine .bs _ n v λcs' h'=>?_;rw[hσ,A8]at h';obtain⟨o,h1,h2⟩:=h'
  cases o with
  |box cs=>obtain⟨b,c,h3,h4⟩:=h cs h1;exact⟨b,c,by rw[hp];exact h3,h4⟩
  |row=>cases h2
  |map=>cases h2
 |tnil k T v h =>
  refine .tnil _ T v λcs' h'=>?_;rw[hσ,A8]at h';obtain⟨o,h1,h2⟩:=h'
  cases o with
  |box cs=>obtain⟨b,h3,h4⟩:=h cs h1;exact⟨b,by rw[hp];exact h3,h4⟩
  |row=>cases h2
  |map=>cases h2
 |mp k v h =>
  refine .mp _ v λes h'=>?_;rw[hσ,A8]at h';obtain⟨o,h1,h2⟩:=h'
  cases o with
  |map es'=>cases h2;rw[hp];exact h _ h1
  |row=>cases h2
  |box=>cases h2
 |agg cs vs u hl hv _ ih =>
  refine .agg _ vs u (by rw[zf1];exact hl) (λj c hj=>?_) λj c hj=>?_
  ·obtain⟨x,h1,rfl⟩:=z6i hj;exact hv j x h1
  ·obtain⟨x,h1,rfl⟩:=z6i hj;exact ih j x h1
 |tup cs vs u hl hv _ ih =>
  refine .tup _ vs u (by rw[zf1];exact hl) (λj c hj=>?_) λj c hj=>?_
  ·obtain⟨x,h1,rfl⟩:=z6i hj;exact hv j x h1
  ·obtain⟨x,h1,rfl⟩:=z6i hj;exact ih j x h1
 |fn f xs ys vs ws u t hl hv _ hl' hv' _ ih ih' =>
  refine .fn f _ _ vs ws u t (by rw[zf1];exact hl) (λj c hj=>?_) (λj c hj=>?_) (by rw[zf1];exact hl') (λj c hj=>?_) λj c hj=>?_
  ·obtain⟨x,h1,rfl⟩:=z6i hj;exact hv j x h1
  ·obtain⟨x,h1,rfl⟩:=z6i hj;exact ih j x h1
  ·obtain⟨x,h1,rfl⟩:=z6i hj;exact hv' j x h1
  ·obtain⟨x,h1,rfl⟩:=z6i hj;exact ih' j x h1
mutual
theorem j30:∀x:IV,(x.ren p).ren p=x
 |.pv _=>rfl
 |.ptr k off=>by simp only[IV.ren,hp]
 |.sl k len=>by simp only[IV.ren,hp]
 |.rpt k len off=>by simp only[IV.ren,hp]
 |.sp k n len=>by simp only[IV.ren,hp]
 |.bs k n=>by simp only[IV.ren,hp]
 |.mp k=>by simp only[IV.ren,hp]
 |.tnil k T=>by simp only[IV.ren,hp]
 |.agg cs=>by simp only[IV.ren,z9c cs]
 |.tup cs=>by simp only[IV.ren,z9c cs]
 |.fn f xs ys=>by simp only[IV.ren,z9c xs,z9c ys]
theorem z9c:∀xs:List IV,renL p (renL p xs)=xs
 |[]=>rfl
 |x::r=>by simp only[renL,j30 x,z9c r]
end
theorem HO.ren_ren(o:HO):(o.ren p).ren p=o:=by cases o<;>simp[HO.ren,z9c hp]
theorem repO_ren(hσ:∀k,σ' (p k)=(σ k).map (HO.ren p)){b c:Nat}{o:HO}(h:RepO F ρ σ w b c o):RepO F (λk=>ρ (p k)) σ' w b c (o.ren p):=by
 cases h with
 |box cs e a u h1 h2 h3 h4 =>
  refine .box _ e a u h1 (by rw[zf1];exact h2) (λj x hj=>?_) λj x hj=>?_
  ·obtain⟨y,h5,rfl⟩:=z6i hj;exact h3 j y h5
  ·obtain⟨y,h5,rfl⟩:=z6i hj;exact y69 hp hσ (h4 j y h5)
 |row s els a u h1 h2 h3 h4 h5 h6 h7=>exact .row s els a u h1 h2 h3 h4 h5 h6 λi el hi j x hj=>(h7 i el hi j x hj).own λb hb=>(y1b hp).1 hb
 |map es a t u h1 h2 h3 h4=>exact .map es a t u h1 h2 h3 λi k q hi=>(h4 i k q hi).own λb hb=>(y1b hp).1 hb
theorem yo8(hσ:∀k,σ' (p k)=(σ k).map (HO.ren p))(h:RelH F ρ σ w):RelH F (λk=>ρ (p k)) σ' w where
 inj k k' b c c' h1 h2:=by
  have:=h.inj _ _ _ _ _ h1 h2;rw[<- hp k,this,hp]
 apart k b c h1:=h.apart _ _ _ h1
 old:=h.old
 obj k b c h1:=by
  obtain⟨o,h2,h3⟩:=h.obj _ _ _ h1;refine⟨o.ren p,?_,repO_ren hp hσ h3⟩;have:=hσ (p k);rw[hp,h2]at this;exact this
 real k o h1 h2:=by
  have h3:=hσ (p k);rw[hp,h1]at h3;obtain⟨o',h4,h5⟩:=A8.1 h3.symm;obtain⟨s,rfl⟩:=h.real _ _ h4 h2;exact⟨s,h5.symm⟩
end
theorem j5f{p:Nat->Nat}(hp:∀k,p (p k)=k){F R:Nat->Prop}{ρ ρ1:Loc}{σ σ1 τ τ1:Heap'}{w w':World}(hσ:∀k,τ (p k)=(σ k).map (HO.ren p))(hσ1:∀k,τ1 (p k)=(σ1 k).map (HO.ren p))(t:Trans F R ρ σ w ρ1 σ1 w') :
 Trans F (λk=>R (p k)) (λk=>ρ (p k)) τ w (λk=>ρ1 (p k)) τ1 w' where
 os:=t.os
 tape:=t.tape
 output:=t.output
 size:=t.size
 blk b hb h:=t.blk b hb λk c hk=>by
  have:=h (p k) c (by rw[hp];exact hk)
  rwa [hp]at this
 own k b c h hb:=(t.own _ b c h hb).elim .inl λ⟨k0,c0,g,gn⟩=>.inr ⟨p k0,c0,by simp only[hp];exact g,by simp only[hp];exact gn⟩
 box k cs cs' h h':=by
  have e:=hσ (p k);have e':=hσ1 (p k);rw[hp,h]at e;rw[hp,h']at e';obtain⟨o,h1,h2⟩:=A8.1 e.symm;obtain⟨o',h3,h4⟩:=A8.1 e'.symm
  cases o with
  |box cs0=>cases o' with
   |box cs1=>exact t.box _ _ _ h1 h3
   |row=>cases h4
   |map=>cases h4
  |row=>cases h2
  |map=>cases h2
 map k cs cs' h h':=by
  have e:=hσ (p k);have e':=hσ1 (p k);rw[hp,h]at e;rw[hp,h']at e';obtain⟨o,h1,h2⟩:=A8.1 e.symm;obtain⟨o',h3,h4⟩:=A8.1 e'.symm
  cases o with
  |map cs0=>cases o' with
   |map cs1=>exact t.map _ _ _ h1 h3
   |row=>cases h4
   |box=>cases h4
  |row=>cases h2
  |box=>cases h2
 row k s s' els els' h h' hl:=by
  have e:=hσ (p k);have e':=hσ1 (p k);rw[hp,h]at e;rw[hp,h']at e';obtain⟨o,h1,h2⟩:=A8.1 e.symm;obtain⟨o',h3,h4⟩:=A8.1 e'.symm
  cases o with
  |row s0 cs0=>cases o' with
   |row s1 cs1=>cases h2;cases h4;exact t.row _ _ _ _ _ h1 h3 hl
   |map=>cases h4
   |box=>cases h4
  |map=>cases h2
  |box=>cases h2
 grow k s s' els els' h h':=by
  have e:=hσ (p k);have e':=hσ1 (p k);rw[hp,h]at e;rw[hp,h']at e';obtain⟨o,h1,h2⟩:=A8.1 e.symm;obtain⟨o',h3,h4⟩:=A8.1 e'.symm
  cases o with
  |row s0 cs0=>cases o' with
   |row s1 cs1=>cases h2;cases h4;exact t.grow _ _ _ _ _ h1 h3
   |map=>cases h4
   |box=>cases h4
  |map=>cases h2
  |box=>cases h2
 kindB k cs' h':=by
  have e':=hσ1 (p k);have e:=hσ (p k);rw[hp,h']at e';rw[hp]at e;obtain⟨o',h3,h4⟩:=A8.1 e'.symm
  cases o' with
  |box cs1 =>
   rcases t.kindB _ _ h3 with h5|⟨cs,h5⟩
   ·rw[h5]at e;exact .inl e
   ·rw[h5]at e;exact .inr ⟨_,e⟩
  |row=>cases h4
  |map=>cases h4
 kindM k cs' h':=by
  have e':=hσ1 (p k);have e:=hσ (p k);rw[hp,h']at e';rw[hp]at e;obtain⟨o',h3,h4⟩:=A8.1 e'.symm
  cases o' with
  |map cs1 =>
   rcases t.kindM _ _ h3 with h5|⟨cs,h5⟩
   ·rw[h5]at e;exact .inl e
   ·rw[h5]at e;exact .inr ⟨_,e⟩
  |row=>cases h4
  |box=>cases h4
 kindR k s cs' h':=by
  have e':=hσ1 (p k);have e:=hσ (p k);rw[hp,h']at e';rw[hp]at e;obtain⟨o',h3,h4⟩:=A8.1 e'.symm
  cases o' with
  |row s1 cs1 =>
   cases h4
   rcases t.kindR _ _ _ h3 with h5|⟨cs,h5⟩
   ·rw[h5]at e;exact .inl e
   ·rw[h5]at e;exact .inr ⟨_,e⟩
  |map=>cases h4
  |box=>cases h4
theorem beq_ren{p:Nat->Nat}(hp:∀k,p (p k)=k)(a k:Nat):Nat.beq (p a) (p k)=Nat.beq a k:=by
 by_cases h:a=k
 ·subst h;simp
 ·rw[z45 h,z45 λe=>h (by rw[<- hp a,e,hp])]
theorem ze7{p:Nat->Nat}(hp:∀k,p (p k)=k):∀(l:List (Nat×HO)) (k:Nat),look (up (renP p l)) (p k)=(look (up l) k).map (HO.ren p)
 |[],_=>rfl
 |(a,o)::r,k=>by
  simp only[renP,up,B7,look];rw[beq_ren hp]
  cases Nat.beq a k with
  |true=>rfl
  |false=>exact ze7 hp r k
theorem SC.ren{P:Program}{p:Nat->Nat}(hp:∀k,p (p k)=k){f:FuncId}{args:List IV}{pre post:List (Nat×HO)}{R:Nat->Prop}{r:IV}(h:SC P f args pre R r post):SC P f (renL p args) (renP p pre) (λk=>R (p k)) (r.ren p) (renP p post):=by
 intro F ρ w vs hkept hrel hargs;have hb:∀(l:List (Nat×HO)) (k:Nat),look (up l) (p k)=(look (up (renP p l)) k).map (HO.ren p):=by
  intro l k;have:=ze7 hp l (p k);rw[hp]at this;rw[this]
  cases look (up l) (p k)with
  |none=>rfl
  |some o=>exact Ah some (HO.ren_ren hp o).symm
 have h1:RelH F (λk=>ρ (p k)) (look (up pre)) w:=yo8 hp (hb pre) hrel;have h2:RepL F (λk=>ρ (p k)) (look (up pre)) w args vs:=by
  refine⟨by rw[<- hargs.1,zf1],λj x hj=>?_⟩;obtain⟨v,h3,h4⟩:=hargs.2 j (x.ren p) (by rw[y00,Bc,hj];rfl);have h5:=y69 hp (hb pre) h4;rw[j30 hp]at h5;exact⟨v,h3,h5⟩
 refine Calls.mono (h F _ w vs (hkept.mono λb hb=>hb.elim .inl λ⟨k,c,hk⟩=>.inr ⟨p k,c,hk⟩) h1 h2) λe w' hq=>?_;obtain⟨ρ',v,h3,h4,h5,h6⟩:=hq;refine⟨λk=>ρ' (p k),v,h3,y69 hp (ze7 hp post) h4,yo8 hp (ze7 hp post) h5,?_⟩;have:=j5f hp (ze7 hp pre) (ze7 hp post) h6;simpa only[hp]using this
theorem SC.sw{P:Program}{f:FuncId}{args:List IV}{pre post:List (Nat×HO)}{R:Nat->Prop}{r:IV}(a b:Nat)(h:SC P f args pre R r post):SC P f (renL (sw a b) args) (renP (sw a b) pre) (λk=>R (Proofs.YtjlaalpfpecikaaGreatDoor.sw a b k)) (r.ren (Proofs.YtjlaalpfpecikaaGreatDoor.sw a b)) (renP (Proofs.YtjlaalpfpecikaaGreatDoor.sw a b) post):=h.ren (sw_sw a b)
end
section
variable {P:Program} {c:Cx} {R1:Nat->Prop} {o:Oper} {fr:Fr} {hp:Hp} {σ:Heap'} {Q:Exit->Fr->Heap'->Prop}
theorem Names.one{Q:Nat->Prop}{x:IV}(h:Names Q x):∃k,Q k/\Names (· = k) x:=by
 induction h with
 |ptr h=>exact⟨_,h,.ptr rfl⟩
 |sl h=>exact⟨_,h,.sl rfl⟩
 |rpt h=>exact⟨_,h,.rpt rfl⟩
 |sp h=>exact⟨_,h,.sp rfl⟩
 |bs h=>exact⟨_,h,.bs rfl⟩
 |mp h=>exact⟨_,h,.mp rfl⟩
 |tnil h=>exact⟨_,h,.tnil rfl⟩
 |agg hc _ ih=>obtain⟨k,h1,h2⟩:=ih;exact⟨k,h1,.agg hc h2⟩
 |tup hc _ ih=>obtain⟨k,h1,h2⟩:=ih;exact⟨k,h1,.tup hc h2⟩
 |fn1 hc _ ih=>obtain⟨k,h1,h2⟩:=ih;exact⟨k,h1,.fn1 hc h2⟩
 |fn2 hc _ ih=>obtain⟨k,h1,h2⟩:=ih;exact⟨k,h1,.fn2 hc h2⟩
open Classical in
theorem SC.stepN{ns:List Nat}{f:FuncId}{args:List IV}{pre post:List (Nat×HO)}{R:Nat->Prop}{r:IV}{hp:Hp}{ρ:Loc}{w:World}{a:Act}{vs:List Value}(hsc:SC P f args pre R r post)
 (h:All c ρ (look hp) w fr a) (hargs:RepL c.F ρ (look hp) w args vs) (hpre:∀k o,look (up pre) k=some o->look hp k=some o) (hdom:post.map (·.1)=ns++pre.map (·.1)) (hσ0:∀k∈ns,look hp k=none) (hc0:∀k∈ns,c.σ k=none) (hfr0:∀k∈ns,nmFr k fr=false) (hhp0:∀k∈ns,nmHp k hp=false)
 (hR:∀k,c.R k->look (up pre) k=none∨R k) (hr:only (post.map (·.1)) r=true) (hpost:z97 (post.map (·.1)) post=true) :
 Calls P f vs.toArray w λe w'=>∃ρ' v,e=.returned v/\All c ρ' (look (up post++hp)) w' fr a/\RepI c.F ρ' (look (up post++hp)) w' r v:=by
 have hd:∀k,look (up post) k=none↔look (up pre) k=none/\k∉ns:=λk=>by
  rw[z2r,z2r,hdom,B3,not_or];exact And.comm
 have hpp:∀k,look (up post) k≠none->look hp k≠none->look (up pre) k≠none:=λk e e1 e2=>by
  by_cases e3:k∈ns
  ·exact e1 (hσ0 k e3)
  ·exact e ((hd k).2 ⟨e2,e3⟩)
 let ρ1:Loc:=λk=>if look (up pre) k=none then none else ρ k
 let F1:Nat->Prop:=λb=>c.F b∨∃k cc,ρ k=some (b,cc)/\look (up pre) k=none
 have h1in:∀k,look (up pre) k≠none -> ρ1 k=ρ k:=λk hk=>A1 hk;have h1out:∀k,look (up pre) k=none -> ρ1 k=none:=λk hk=>A5 hk;have h1:∀k l,ρ1 k=some l->look (up pre) k≠none /\ ρ k=some l:=λk l hk=>by
  by_cases e:look (up pre) k=none
  ·rw[h1out k e]at hk;cases hk
  ·exact⟨e,(h1in k e)▸hk⟩
 have hown1:∀b,owned F1 ρ1 b->owned c.F ρ b:=λb hb=>by
  rcases hb with(hb|⟨k,cc,hk,_⟩)|⟨k,cc,hk⟩
  ·exact .inl hb
  ·exact .inr ⟨k,cc,hk⟩
  ·exact .inr ⟨k,cc,(h1 k _ hk).2⟩
 have hconv:∀x:IV,¬Names (λk=>¬∀o,look (up pre) k=some o->look hp k=some o /\ ρ1 k=ρ k) x:=λx hx=>by
  obtain⟨k,hk⟩:=hx.some;exact hk λo ho=>⟨hpre k o ho,h1in k (by simp[ho])⟩
 have hrel1:RelH F1 ρ1 (look (up pre)) w:=by
  refine⟨λk k' b cc cc' hk hk'=>h.rel.inj k k' b cc cc' (h1 _ _ hk).2 (h1 _ _ hk').2,λk b cc hk hb=>?_,λb hb=>?_,λk b cc hk=>?_,λk o hk hρ=>?_⟩
  ·rcases hb with hb|⟨k',cc',hk',hn⟩
   ·exact h.rel.apart k b cc (h1 _ _ hk).2 hb
   ·obtain rfl:=h.rel.inj _ _ _ _ _ (h1 _ _ hk).2 hk';exact(h1 _ _ hk).1 hn
  ·rcases hb with hb|⟨k',cc',hk',_⟩
   ·exact h.rel.old b hb
   ·exact h.rel.lt hk'
  ·obtain⟨hne,hk2⟩:=h1 _ _ hk;obtain⟨o1,ho1,ho2⟩:=h.rel.obj k b cc hk2
   cases hl:look (up pre) k with
   |none=>exact A9 hl hne
   |some o2 =>
    rw[hpre k o2 hl]at ho1;cases ho1
    exact⟨_,rfl,ho2.conv hown1 λx _=>hconv x⟩
  ·rw[h1in k (by simp[hk])]at hρ;exact h.rel.real k o (hpre k o hk) hρ
 refine(hsc F1 ρ1 w vs (h.kept.mono hown1) hrel1 ⟨hargs.1,λj x hj=>?_⟩).mono ?_
 ·obtain⟨v,hv,hx⟩:=hargs.2 j x hj;exact⟨v,hv,hx.conv hown1 (hconv x)⟩
 rintro e w' ⟨ρ2,v,rfl,hv,hrel2,t⟩
 let ρ':Loc:=λk=>if look (up post) k=none then ρ k else ρ2 k
 have h2in:∀k,look (up post) k≠none -> ρ' k=ρ2 k:=λk hk=>A1 hk;have h2out:∀k,look (up post) k=none -> ρ' k=ρ k:=λk hk=>A5 hk;have h2none:∀k,look (up post) k=none -> ρ2 k=none:=λk hk=>by
  cases h3:ρ2 k with
  |none=>rfl
  |some l =>
   obtain⟨o1,ho1,_⟩:=hrel2.obj k l.1 l.2 h3;rw[hk]at ho1;cases ho1
 have hσin:∀k,look (up post) k≠none->look (up post++hp) k=look (up post) k:=λk hk=>by
  rw[z59]
  cases h3:look (up post) k with
  |none=>exact A9 h3 hk
  |some o=>rfl
 have hσout:∀k,look (up post) k=none->look (up post++hp) k=look hp k:=λk hk=>by
  rw[z59,hk];rfl
 have hown2:∀b,owned c.F ρ' b->owned F1 ρ2 b:=λb hb=>by
  rcases hb with hb|⟨k,cc,hk⟩
  ·exact .inl (.inl hb)
  ·by_cases e:look (up post) k=none
   ·rw[h2out k e]at hk;exact .inl (.inr ⟨k,cc,hk,((hd k).1 e).1⟩)
   ·rw[h2in k e]at hk;exact .inr ⟨k,cc,hk⟩
 have hconv2:∀x:IV,only (post.map (·.1)) x=true -> ¬Names (λk=>¬∀o,look (up post++hp) k=some o->look (up post) k=some o /\ ρ' k=ρ2 k) x:=λx hx hn=>by
  refine y3y hx (hn.imp λk hk hmem=>hk λo ho=>?_);have hne:look (up post) k≠none:=λe=>(z2r.1 e) hmem;rw[hσin k hne]at ho;exact⟨ho,h2in k hne⟩
 have T:Trans c.F (λk=>look (up pre) k=none∨R k) ρ (look hp) w ρ' (look (up post++hp)) w':=by
  refine⟨t.os,t.tape,t.output,t.size,λb hb hall=>t.blk b hb λk cc hk=>?_,λk b cc hk hb=>?_,λk cs cs' e1 e2=>?_,λk cs cs' e1 e2=>?_,λk s s' els els' e1 e2 hl=>?_,λk s s' els els' e1 e2=>?_,λk cs' e2=>?_,λk cs' e2=>?_,λk s els' e2=>?_⟩
  ·obtain⟨hne,hk2⟩:=h1 _ _ hk;exact(hall k cc hk2).resolve_left hne
  ·by_cases e:look (up post) k=none
   ·rw[h2out k e]at hk;exact .inl hk
   ·rw[h2in k e]at hk;rcases t.own k b cc hk hb with g|⟨k0,c0,g,gn⟩
    ·exact .inl (h1 _ _ g).2
    ·exact .inr ⟨k0,c0,(h1 _ _ g).2,λr=>r.elim (h1 _ _ g).1 gn⟩
  all_goals by_cases e:look (up post) k=none
  ·exact h2out k e
  ·cases h3:look (up pre) k with
   |none=>exact A9 h3 (hpp k e (by simp[e1]))
   |some o =>
    rw[hpre k o h3]at e1;cases e1
    rw[hσin k e]at e2;rw[h2in k e,t.box k _ _ h3 e2,h1in k (by simp[h3])]
  ·exact h2out k e
  ·cases h3:look (up pre) k with
   |none=>exact A9 h3 (hpp k e (by simp[e1]))
   |some o =>
    rw[hpre k o h3]at e1;cases e1
    rw[hσin k e]at e2;rw[h2in k e,t.map k _ _ h3 e2,h1in k (by simp[h3])]
  ·exact h2out k e
  ·cases h3:look (up pre) k with
   |none=>exact A9 h3 (hpp k e (by simp[e1]))
   |some o =>
    rw[hpre k o h3]at e1;cases e1
    rw[hσin k e]at e2;rw[h2in k e,t.row k _ _ _ _ h3 e2 hl,h1in k (by simp[h3])]
  ·rw[hσout k e,e1]at e2;cases e2;exact Ag _
  ·cases h3:look (up pre) k with
   |none=>exact A9 h3 (hpp k e (by simp[e1]))
   |some o =>
    rw[hpre k o h3]at e1;cases e1
    rw[hσin k e]at e2;exact t.grow k _ _ _ _ h3 e2
  ·rw[hσout k e]at e2;exact .inr ⟨_,e2⟩
  ·rw[hσin k e]at e2;rcases t.kindB k _ e2 with h3|⟨cs,h3⟩
   ·by_cases e3:k∈ns
    ·exact .inl (hσ0 k e3)
    ·exact A9 ((hd k).2 ⟨h3,e3⟩) e
   ·exact .inr ⟨cs,hpre k _ h3⟩
  ·rw[hσout k e]at e2;exact .inr ⟨_,e2⟩
  ·rw[hσin k e]at e2;rcases t.kindM k _ e2 with h3|⟨cs,h3⟩
   ·by_cases e3:k∈ns
    ·exact .inl (hσ0 k e3)
    ·exact A9 ((hd k).2 ⟨h3,e3⟩) e
   ·exact .inr ⟨cs,hpre k _ h3⟩
  ·rw[hσout k e]at e2;exact .inr ⟨_,e2⟩
  ·rw[hσin k e]at e2;rcases t.kindR k _ _ e2 with h3|⟨cs,h3⟩
   ·by_cases e3:k∈ns
    ·exact .inl (hσ0 k e3)
    ·exact A9 ((hd k).2 ⟨h3,e3⟩) e
   ·exact .inr ⟨cs,hpre k _ h3⟩
 have hnone:∀k,(look hp k=none/\look (up post++hp) k≠none)->k∈ns:=λk hk=>by
  by_cases e:look (up post) k=none
  ·rw[hσout k e]at hk;exact A9 hk.1 hk.2
  ·refine By λe3=>?_;have e4:look (up pre) k≠none:=λh3=>e ((hd k).2 ⟨h3,e3⟩)
   cases h3:look (up pre) k with
   |none=>exact e4 h3
   |some o=>rw[hpre k o h3]at hk;cases hk.1
 have hnn:∀x:IV,(∀k∈ns,nm k x=false) -> ¬Names (λk=>look hp k=none/\look (up post++hp) k≠none) x:=λx hx hn=>by
  obtain⟨k,hk,hk2⟩:=(hn.imp hnone).one;have:=hx k hk;rw[zz6 hk2]at this;cases this
 refine⟨ρ',v,rfl,h.step T hR ⟨λk k' b cc cc' hk hk'=>?_,λk b cc hk hb=>?_,λb hb=>Bg (h.rel.old b hb) t.size,λk b cc hk=>?_,λk o hk hρ=>?_⟩ (λk e1 e2=>hc0 k (hnone k ⟨e1,e2⟩)) λ_ x hx=>hnn x λk hk=>zm7 (hfr0 k hk) hx,hv.conv hown2 (hconv2 r hr)⟩
 ·by_cases e:look (up post) k=none<;>by_cases e':look (up post) k'=none
  ·rw[h2out k e]at hk;rw[h2out k' e']at hk';exact h.rel.inj _ _ _ _ _ hk hk'
  ·rw[h2out k e]at hk;rw[h2in k' e']at hk';exact A9 (.inr ⟨k,cc,hk,((hd k).1 e).1⟩) (hrel2.apart _ _ _ hk')
  ·rw[h2in k e]at hk;rw[h2out k' e']at hk';exact A9 (.inr ⟨k',cc',hk',((hd k').1 e').1⟩) (hrel2.apart _ _ _ hk)
  ·rw[h2in k e]at hk;rw[h2in k' e']at hk';exact hrel2.inj _ _ _ _ _ hk hk'
 ·by_cases e:look (up post) k=none
  ·rw[h2out k e]at hk;exact h.rel.apart _ _ _ hk hb
  ·rw[h2in k e]at hk;exact hrel2.apart _ _ _ hk (.inl hb)
 ·by_cases e:look (up post) k=none
  ·rw[h2out k e]at hk;obtain⟨o1,ho1,ho2⟩:=h.rel.obj k b cc hk;refine⟨o1,(hσout k e).trans ho1,ho2.keep T (t.blk b (h.rel.lt hk) λk' cc' hk'=>?_) λx ⟨cs,h3,h4⟩=>hnn x λk hk=>by subst h3;exact z5r (z94 (hhp0 k hk) ho1) h4⟩;obtain⟨hne,hk2⟩:=h1 _ _ hk';obtain rfl:=h.rel.inj _ _ _ _ _ hk hk2;exact A9 ((hd _).1 e).1 hne
  ·rw[h2in k e]at hk;obtain⟨o1,ho1,ho2⟩:=hrel2.obj k b cc hk;refine⟨o1,(hσin k e).trans ho1,ho2.conv hown2 λx ⟨cs,h3,h4⟩=>hconv2 x ?_⟩;subst h3;exact z7t (z98 hpost (z1o ho1)) h4
 ·by_cases e:look (up post) k=none
  ·rw[hσout k e]at hk;rw[h2out k e]at hρ;exact h.rel.real k o hk hρ
  ·rw[hσin k e]at hk;rw[h2in k e]at hρ;exact hrel2.real k o hk hρ
theorem j2d{ns:List Nat}{f:FuncId}{os:Array Operand}{tys:Array TypeId}{xs args:List IV}{pre post:List (Nat×HO)}{R:Nat->Prop}{r:IV}{hp:Hp}(hsc:SC P f args pre R r post)(hf:z6n P f)
 (ho:o.op=.call { callee:=.value (.func f),args:=os,argTypes:=tys }) (hx:evs fr os.toList=some xs) (hs:Subs (look hp) xs args) (hpre:∀k o,look (up pre) k=some o->look hp k=some o) (hdom:post.map (·.1)=ns++pre.map (·.1)) (hσ0:∀k∈ns,look hp k=none) (hc0:∀k∈ns,c.σ k=none) (hfr0:∀k∈ns,nmFr k fr=false) (hhp0:∀k∈ns,nmHp k hp=false)
 (hR:∀k,c.R k->look (up pre) k=none∨R k) (hr:only (post.map (·.1)) r=true) (hpost:z97 (post.map (·.1)) post=true):Ok P c o fr (look hp) r (look (up post++hp)):=by
 intro ρ w a K Q h hK;obtain⟨fn,hfn,hname,hbody⟩:=hf;have hargs:=hs _ _ _ _ (zh9 h hx);have hrun:(execOp a.eval o).run P w=.ok (.enter f (os.toList.map a.eval).toArray) w:=by
  have hcall:(callFunc f (os.toList.map a.eval).toArray).run P w=.ok (.enter f (os.toList.map a.eval).toArray) w:=by
   unfold callFunc;simp only[Ai];show(Result.andThen (.ok P w) _)=_;simp only[Aw,hfn,hname,hbody];rfl
  simp only[execOp,ho,resolve,Act.eval,Deferred.ofValue,Ai,Ch,Aw,invoke];rw[<- hcall]
  congr 2
  apply Fq;simp
 unfold Oper.wp;rw[hrun,Fh];refine(hsc.stepN h hargs hpre hdom hσ0 hc0 hfr0 hhp0 hR hr hpost).mono ?_;rintro e w' ⟨ρ',v,rfl,h1,h2⟩;exact hK ρ' w' v h1 h2
def kyV(k:Ky):Value:=.agg #[.int .i64 k.kind,.int .i64 k.op,.int .i64 k.n,.int .i64 k.a,.int .i64 k.b]
abbrev kyP(k:Ky):PV:=.agg [vInt k.kind,vInt k.op,vInt k.n,vInt k.a,vInt k.b]
def kyEs(l:List (Ky×Int)):List (Value×PV):=l.map λe=>(kyV e.1,vInt e.2)
theorem j1w{own:Nat->Prop}{w:World}{k:Ky}{v:Value}(h:RepP own w (kyP k) v):v=kyV k:=by
 cases h with
 |agg _ vs u hl hv hr =>
  have h0:=hv 0 _ rfl;have h1:=hv 1 _ rfl;have h2:=hv 2 _ rfl;have h3:=hv 3 _ rfl;have h4:=hv 4 _ rfl;have r0:=hr 0 _ rfl;have r1:=hr 1 _ rfl;have r2:=hr 2 _ rfl;have r3:=hr 3 _ rfl;have r4:=hr 4 _ rfl
  cases hu0:u 0<;>rw[hu0]at r0<;>cases r0
  cases hu1:u 1<;>rw[hu1]at r1<;>cases r1
  cases hu2:u 2<;>rw[hu2]at r2<;>cases r2
  cases hu3:u 3<;>rw[hu3]at r3<;>cases r3
  cases hu4:u 4<;>rw[hu4]at r4<;>cases r4
  rw[hu0]at h0;rw[hu1]at h1;rw[hu2]at h2;rw[hu3]at h3;rw[hu4]at h4;unfold kyV
  congr 1
  apply Array.ext_getElem?;intro i
  match i with
  |0=>simpa using h0
  |1=>simpa using h1
  |2=>simpa using h2
  |3=>simpa using h3
  |4=>simpa using h4
  |i+5=>rw[Ds (by simp at hl;omega),Ds sI0]
structure K5(P:Program)(t:TypeId)(f0 f1 f2 f3 f4:Field):Prop where
 hu:P.underlying t=some (.struct #[f0,f1,f2,f3,f4])
 hs:P.stoodInHeld t=false
 t0:P.underlying f0.type=some (.int .i64)
 t1:P.underlying f1.type=some (.int .i64)
 t2:P.underlying f2.type=some (.int .i64)
 t3:P.underlying f3.type=some (.int .i64)
 t4:P.underlying f4.type=some (.int .i64)
 n0:f0.name ≠ "_"
 n1:f1.name ≠ "_"
 n2:f2.name ≠ "_"
 n3:f3.name ≠ "_"
 n4:f4.name ≠ "_"
 o0:f0.offset=0
 o1:f1.offset=1
 o2:f2.offset=2
 o3:f3.offset=3
 o4:f4.offset=4
section
variable {kt:TypeId} {f0 f1 f2 f3 f4:Field}
theorem K5.part0(K:K5 P kt f0 f1 f2 f3 f4)(w:World)(a b c d e:Int):(part f0.type #[.int .i64 a,.int .i64 b,.int .i64 c,.int .i64 d,.int .i64 e] f0.offset).run P w=.ok (.int .i64 a) w:=by simp[part,z5x K.t0,TypeDesc.isRow,K.o0,Ai]
theorem K5.part1(K:K5 P kt f0 f1 f2 f3 f4)(w:World)(a b c d e:Int):(part f1.type #[.int .i64 a,.int .i64 b,.int .i64 c,.int .i64 d,.int .i64 e] f1.offset).run P w=.ok (.int .i64 b) w:=by simp[part,z5x K.t1,TypeDesc.isRow,K.o1,Ai]
theorem K5.part2(K:K5 P kt f0 f1 f2 f3 f4)(w:World)(a b c d e:Int):(part f2.type #[.int .i64 a,.int .i64 b,.int .i64 c,.int .i64 d,.int .i64 e] f2.offset).run P w=.ok (.int .i64 c) w:=by simp[part,z5x K.t2,TypeDesc.isRow,K.o2,Ai]
theorem K5.part3(K:K5 P kt f0 f1 f2 f3 f4)(w:World)(a b c d e:Int):(part f3.type #[.int .i64 a,.int .i64 b,.int .i64 c,.int .i64 d,.int .i64 e] f3.offset).run P w=.ok (.int .i64 d) w:=by simp[part,z5x K.t3,TypeDesc.isRow,K.o3,Ai]
theorem K5.part4(K:K5 P kt f0 f1 f2 f3 f4)(w:World)(a b c d e:Int):(part f4.type #[.int .i64 a,.int .i64 b,.int .i64 c,.int .i64 d,.int .i64 e] f4.offset).run P w=.ok (.int .i64 e) w:=by simp[part,z5x K.t4,TypeDesc.isRow,K.o4,Ai]
theorem K5.eq(K:K5 P kt f0 f1 f2 f3 f4)(w:World)(k k':Ky):(Op.equal kt (kyV k) (kyV k')).run P w=.ok (decide (k=k')) w:=by
 have hfs:P.fieldsOf kt = #[f0,f1,f2,f3,f4]:=by simp[Program.fieldsOf,K.hu]
 show(Op.equalIn (9999+1) kt (.agg _) (.agg _)).run P w=_;rw[run_equalIn_struct w 9999 kt _ _ (by rw[hfs];exact K.hu) K.hs,hfs];have e0:∀a b:Int,(Op.equalIn 9999 f0.type (.int .i64 a) (.int .i64 b)).run P w=.ok (a==b) w:=λa b=>run_equalIn_int w 9998 f0.type .i64 .i64 a b K.t0;have e1:∀a b:Int,(Op.equalIn 9999 f1.type (.int .i64 a) (.int .i64 b)).run P w=.ok (a==b) w:=λa b=>run_equalIn_int w 9998 f1.type .i64 .i64 a b K.t1;have e2:∀a b:Int,(Op.equalIn 9999 f2.type (.int .i64 a) (.int .i64 b)).run P w=.ok (a==b) w:=λa b=>run_equalIn_int w 9998 f2.type .i64 .i64 a b K.t2;have e3:∀a b:Int,(Op.equalIn 9999 f3.type (.int .i64 a) (.int .i64 b)).run P w=.ok (a==b) w:=λa b=>run_equalIn_int w 9998 f3.type .i64 .i64 a b K.t3;have e4:∀a b:Int,(Op.equalIn 9999 f4.type (.int .i64 a) (.int .i64 b)).run P w=.ok (a==b) w:=λa b=>run_equalIn_int w 9998 f4.type .i64 .i64 a b K.t4;obtain⟨a0,a1,a2,a3,a4⟩:=k;obtain⟨b0,b1,b2,b3,b4⟩:=k';have S:∀(f:Field)(fs:List Field)(xs ys:Array Value)(a b:Int),f.name ≠ "_" -> (part f.type xs f.offset).run P w=.ok (.int .i64 a) w->(part f.type ys f.offset).run P w=.ok (.int .i64 b) w->(Op.equalIn 9999 f.type (.int .i64 a) (.int .i64 b)).run P w=.ok (a==b) w ->
  (Op.eqFields 9999 xs ys (f::fs)).run P w=if a=b then(Op.eqFields 9999 xs ys fs).run P w else .ok false w:=λf fs xs ys a b hn hx hy he=>by
  simp only[Op.eqFields,hn,ne_eq,not_false_eq_true,C6,Ai,hx,hy,he,Aw]
  by_cases h:a=b
  ·simp[h]
  ·have:(a==b)=false:=by simpa using h
   simp[h]
 rw[S f0 _ _ _ a0 b0 K.n0 (K.part0 ..) (K.part0 ..) (e0 ..),S f1 _ _ _ a1 b1 K.n1 (K.part1 ..) (K.part1 ..) (e1 ..),S f2 _ _ _ a2 b2 K.n2 (K.part2 ..) (K.part2 ..) (e2 ..),S f3 _ _ _ a3 b3 K.n3 (K.part3 ..) (K.part3 ..) (e3 ..),S f4 _ _ _ a4 b4 K.n4 (K.part4 ..) (K.part4 ..) (e4 ..)];have hn:(Op.eqFields 9999 #[.int .i64 a0,.int .i64 a1,.int .i64 a2,.int .i64 a3,.int .i64 a4] #[.int .i64 b0,.int .i64 b1,.int .i64 b2,.int .i64 b3,.int .i64 b4] []).run P w=.ok true w:=by simp[Op.eqFields]
 rw[hn]
 by_cases h0:a0=b0<;>by_cases h1:a1=b1<;>by_cases h2:a2=b2<;>by_cases h3:a3=b3<;>by_cases h4:a4=b4<;>simp[h0,h1,h2,h3,h4]
theorem K5.check(K:K5 P kt f0 f1 f2 f3 f4)(w:World)(em:Bool)(k:Ky):(Instr.checkKey em 10000 kt (kyV k)).run P w=.ok () w:=by
 show(Instr.checkKey em (9999+1) kt (.agg _)).run P w=_;rw[Instr.checkKey];have c:∀(t:TypeId)(a:Int),P.underlying t=some (.int .i64)->(Instr.checkKey em 9999 t (.int .i64 a)).run P w=.ok () w:=λt a h=>E3 (w:=w) h (k:=.int .i64 a) (by simp[MapKept.IsKey]) em 9998;simp only[Ai,B9 K.hu,Aw];rw[<- Array.forIn_toList];simp[Ai,K.n0,K.n1,K.n2,K.n3,K.n4,K.part0,K.part1,K.part2,K.part3,K.part4,c _ _ K.t0,c _ _ K.t1,c _ _ K.t2,c _ _ K.t3,c _ _ K.t4]
theorem K5.find(K:K5 P kt f0 f1 f2 f3 f4)(w:World)(k:Ky):∀(l:List (Ky×Int)) (es:List MapEntry) (i:Nat),es.length=l.length->(∀(j:Nat)(a:Ky)(v:Int),l[j]?=some (a,v)->∃m:MapEntry,es[j]?=some m/\m.key=kyV a) ->
 ((Instr.findAsking kt (kyV k) es i).run P w=.ok none w/\aGet k l=none)∨∃j m v,(Instr.findAsking kt (kyV k) es i).run P w=.ok (some (i+j,m.val)) w/\es[j]?=some m/\l[j]?=some (k,v)/\aGet k l=some v
 |[],[],_,_,_=>.inl ⟨by simp[Instr.findAsking],rfl⟩
 |(a,v)::l,m::es,i,hl,h=>by
  obtain⟨m',hm',e⟩:=h 0 a v rfl
  cases hm'
  have hr:=K.eq w k a;rw[<- e]at hr
  by_cases hk:k=a
  ·subst hk;exact .inr ⟨0,m,v,by simp[Instr.findAsking,hr],rfl,rfl,by simp[aGet]⟩
  ·rcases K.find w k l es (i+1) (by simpa using hl) (λj a v hj=>by simpa using h (j+1) a v (by simpa using hj))with⟨h1,h2⟩|⟨j,m',v',h1,h2,h3,h4⟩
   ·exact .inl ⟨by simp[Instr.findAsking,hr,hk,h1],by simp[aGet,hk,h2]⟩
   ·exact .inr ⟨j+1,m',v',by simp[Instr.findAsking,hr,hk,h1,Fx,F7 1 j],by simpa using h2,by simpa using h3,by simp[aGet,hk,h4]⟩
theorem zm0{l:List (Ky×Int)}{j:Nat}{a:Ky}{v:Int}(h:l[j]?=some (a,v)):(kyEs l)[j]?=some (kyV a,vInt v):=by
 unfold kyEs;rw[Bc,h];rfl
theorem y5o(l:List (Ky×Int)):(kyEs l).length=l.length:=by simp[kyEs]
theorem ye4{t et:TypeId}{x y:Operand}{k:Nat}{l:List (Ky×Int)}{q:Ky}(K:K5 P kt f0 f1 f2 f3 f4)(ho:o.op=.lookup t x y true)(hx:fr.ev x=some (.mp k))(hy:fr.ev y=some (.pv (kyP q)))(hk:look hp k=some (.map (kyEs l)))
 (hu:P.underlying t=some (.map kt et)) (hzv:((P.info? et).bind (·.zero))=some (.int .i64 0)) (hR:R1 k):OkV P c R1 o fr (look hp) (.tup [iInt ((aGet q l).getD 0),iBool (aGet q l).isSome]):=by
 intro ρ w a h;obtain⟨b,cc,r,ck,u,hv,hρ,h3,h4,h5,h6⟩:=h.mapAt hx hk;have h3':∀w2,SameFor c.F R1 ρ w w2->w2.heap[b]?=some (.map r ck):=λw2 h2=>(h2 b (h.rel.lt hρ) (.inr ⟨k,cc,hR,hρ⟩)).trans h3;have hyv:a.eval y=kyV q:=by
  have:=h.ev hy;generalize a.eval y=vy at this
  cases this with
  |pv _ _ hp=>exact j1w hp
 have two:∀{n:Int}{g:Bool},RepI c.F ρ (look hp) w (.tup [iInt n,iBool g]) (.tuple #[.int .i64 n,.bool g]):=λ{n g}=>.tup _ _ (λj=>if j=0 then .int .i64 n else .bool g) rfl (λj x hj=>by
  match j,hj with
  |0,hj=>rfl
  |1,hj=>rfl
  |j+2,hj=>simp at hj) λj x hj=>by
  match j,hj with
  |0,hj=>cases hj;exact z3c _
  |1,hj=>cases hj;exact z3c _
  |j+2,hj=>simp at hj
 have hfk:∀w2,(Instr.findKey kt (kyV q) r.toList).run P w2=(Instr.findAsking kt (kyV q) r.toList).run P w2:=λw2=>run_findKey_eq w2 (by rw[K.hu]) _ _;have hz:∀w2,(zeroValue et).run P w2=.ok (.int .i64 0) w2:=λw2=>by
  cases hq:P.info? et with
  |none=>simp[hq]at hzv
  |some i=>simp[hq]at hzv;simp[zeroValue,typeInfo,hq,hzv]
 have F:=λw2=>K.find w2 q l r.toList 0 (by simpa[y5o]using h4) (λj a v hj=>by obtain⟨m,h1,h2,_⟩:=h5 j _ _ (zm0 hj);exact⟨m,by simpa using h1,h2⟩)
 cases hg:aGet q l with
 |none =>
  refine⟨.tuple #[.int .i64 0,.bool false],λw2 hw2=>?_,two⟩;rcases F w2 with⟨h1,_⟩|⟨j,m,v,_,_,_,h2⟩
  ·simp only[execOp,ho,hv,hyv,Ai,Instr.lookup,B9 hu,Aw,Co (h3' w2 hw2),Ch,K.check,hfk,h1,hz];rfl
  ·rw[hg]at h2;cases h2
 |some v =>
  refine⟨.tuple #[.int .i64 v,.bool true],λw2 hw2=>?_,two⟩;rcases F w2 with⟨_,h2⟩|⟨j,m,v',h1,h2,h7,h8⟩
  ·rw[hg]at h2;cases h2
  ·rw[hg]at h8;cases h8
   obtain⟨m',hm',_,e2⟩:=h5 j _ _ (zm0 h7);have hmm:m'=m:=by
    have e:r[j]?=some m:=by simpa using h2
    rw[e]at hm';exact(C0 hm').symm
   subst hmm;have hval:m'.val=.int .i64 v:=by
    have:=h6 j _ _ (zm0 h7);rw[<- e2]at this
    cases hmv:m'.val<;>rw[hmv]at this<;>cases this
    rfl
   simp only[execOp,ho,hv,hyv,Ai,Instr.lookup,B9 hu,Aw,Co (h3' w2 hw2),Ch,K.check,hfk,h1,hval];rfl
theorem yk5{α β:Type}[DecidableEq α]{k:α}{v:β}:∀{l:List (α×β)},aGet k l=none->aPut k v l=l++[(k,v)]
 |[],_=>rfl
 |(a,b)::r,h=>by
  unfold aGet at h;split at h
  ·cases h
  ·rename_i e;unfold aPut;rw[A1 e,yk5 h];rfl
theorem kyV_inj{a b:Ky}(h:kyV a=kyV b):a=b:=by
 cases a;cases b
 simpa[kyV]using h
theorem y7d{α β:Type}[DecidableEq α]{k:α}:∀{l:List (α×β)},aGet k l=none->∀x∈l,x.1≠k
 |(a,b)::r,h,x,hx=>by
  unfold aGet at h;split at h
  ·cases h
  ·rename_i e;rcases Aq.1 hx with rfl|hx
   ·exact λe2=>e e2.symm
   ·exact y7d h x hx
theorem y62{t et:TypeId}{x y z:Operand}{k:Nat}{l:List (Ky×Int)}{q:Ky}{v:Int}(K:K5 P kt f0 f1 f2 f3 f4)(ho:o.op=.mapUpdate t x y z)(hx:fr.ev x=some (.mp k))(hy:fr.ev y=some (.pv (kyP q)))(hz:fr.ev z=some (iInt v))(hk:look hp k=some (.map (kyEs l)))
 (hR:¬c.R k) (hu:P.underlying t=some (.map kt et)) (hnew:aGet q l=none):Ok P c o fr (look hp) (.pv (.val undef)) (look ((k,some (.map (kyEs (aPut q v l))))::hp)):=by
 refine zr8 λρ w a h=>?_;obtain⟨b,cc,r,ck,u,hv,hρ,h3,h4,h5,h6⟩:=h.mapAt hx hk;have hyv:a.eval y=kyV q:=by
  have:=h.ev hy;generalize a.eval y=vy at this
  cases this with
  |pv _ _ hp=>exact j1w hp
 have hzv:a.eval z=.int .i64 v:=z0v h hz;have hset:∀o',(setObj b o').run P w=.ok () { w with heap:=w.heap.setIfInBounds b o' }:=λo'=>MapKept.run_setObj_map o' h3;have hb:b<w.heap.size:=(Cc.1 h3).1;have hfk:(Instr.findKey kt (kyV q) r.toList).run P w=.ok none w:=by
  rw[run_findKey_eq w (by rw[K.hu])];rcases K.find w q l r.toList 0 (by simpa[y5o]using h4) (λj a v hj=>by obtain⟨m,h1,h2,_⟩:=h5 j _ _ (zm0 hj);exact⟨m,by simpa using h1,h2⟩)with⟨h1,_⟩|⟨j,m,v',_,_,_,h2⟩
  ·exact h1
  ·rw[hnew]at h2;cases h2
 have hen:kyEs (aPut q v l)=kyEs l++[(kyV q,vInt v)]:=by rw[yk5 hnew];simp[kyEs]
 refine⟨ρ,{ w with heap:=w.heap.setIfInBounds b (.map (r.push ⟨kyV q,.int .i64 v,ck⟩) (ck+1)) },by simp[execOp,ho,hv,hyv,hzv,Instr.mapUpdate,Ai,B9 hu,Co h3,K.check,hfk,hset],?_⟩;refine h.write hρ hk trivial hR rfl rfl rfl sI0 (λj hj=>by simp[C4 hj]) λkeep keepP=>?_;have hst2:=MapKept.stamped_push (h.stamped hρ hk h3) (key:=kyV q) (val:=.int .i64 v) (λx hx=>by
  obtain⟨i,hi,hxi⟩:=List.getElem_of_mem hx;have hil:i<(kyEs l).length:=by rw[<- h4];simpa using hi
  have hl2:i<l.length:=by rw[<- y5o l];exact hil
  obtain⟨m,hm,e1,_⟩:=h5 i _ _ (zm0 (Ad hl2));have:m=x:=by
   rw[<- hxi];have hi':i<r.size:=by simpa using hi
   rw[Array.getElem?_eq_getElem hi']at hm
   cases hm;simp
  rw[<- this,e1];exact λe=>y7d hnew _ (D4 hl2) (kyV_inj e))
 refine .map _ (r.push ⟨kyV q,.int .i64 v,ck⟩) (ck+1) (λi=>if i=(kyEs l).length then .int .i64 v else u i) (by simp[hb]) (by rw[hen];simp[h4]) (λi k' p' hi=>?_) λi k' p' hi=>?_
 ·rw[hen]at hi
  by_cases e:i=(kyEs l).length
  ·subst e;simp only[Cz,Cl,Dz]at hi;obtain⟨rfl,rfl⟩:=hi;exact⟨⟨kyV q,.int .i64 v,ck⟩,by rw[<- h4];simp,rfl,by simp⟩
  ·have hlt:i<(kyEs l).length:=by
    have:=(A7.1 hi).1;simp at this;omega
   rw[Au hlt]at hi;obtain⟨m,hm,e1,e2⟩:=h5 i k' p' hi;refine⟨m,?_,e1,by simp[e,e2]⟩;rw[Et,A1 oM0];exact hm
 ·rw[hen]at hi
  by_cases e:i=(kyEs l).length
  ·subst e;simp only[Cz,Cl,Dz]at hi;obtain⟨rfl,rfl⟩:=hi;simpa using RepP.val _
  ·have hlt:i<(kyEs l).length:=by
    have:=(A7.1 hi).1;simp at this;omega
   rw[Au hlt]at hi;simpa[e]using keepP _ _ (h6 i k' p' hi)
end
end
section
variable {P:Program} {c:Cx} {o:Oper} {fr:Fr} {hp:Hp}
theorem All.flatRow{ρ:Loc}{w:World}{a:Act}(h:All c ρ (look hp) w fr a){x:Operand}{k n:Nat}{s:RT}{els:List (List PV)}(hx:fr.ev x=some (.sl k n))(hk:look hp k=some (.row s els))(hn:els.length=n)(hone:∀el∈els,∀x∈el,x.one=true) :
 FlatV (owned c.F ρ) w s.n els (a.eval x):=by
 rcases h.row hx hk hn with⟨b,cc,r,u,hv,hρ,h3,h4,hc,hcm,hwe,hcells,hu⟩|⟨hv,hρ,hnil⟩
 ·have key:∀q,q<els.length*s.n->∃el x,els[q/s.n]?=some el/\el.length=s.n/\el[q%s.n]?=some x/\x.one=true:=λq hq=>by
   obtain⟨h1,h2,h3⟩:=y5e hq;have he:=hwe _ (D4 h1);exact⟨els[q/s.n],els[q/s.n][q%s.n]'oM0,Ad h1,he,Ad _,hone _ (D4 h1) _ (D4 _)⟩
  refine⟨some ⟨b,0,none⟩,cc,u,by rw[hv,hn],λ_=>⟨_,rfl,λj y hj=>?_⟩,λy hy=>?_,hu⟩
  ·have hq:j<els.length*s.n:=by have:=(A7.1 hj).1;simpa using this
   obtain⟨el,x,h1,h2,h5,_⟩:=key j hq;have hy:y=u (j/s.n) (j%s.n):=by simpa[hq]using hj.symm
   have:=hcells _ el h1 _ x h5;rw[Cu,hy,z4t h3,Bu,<- this,(y5e hq).2.2]
  ·obtain⟨q,hq,rfl⟩:=Bz.1 hy;obtain⟨el,x,h1,h2,h5,h6⟩:=key q (by simpa using hq);exact(hu _ el h1 _ x h5).one h6
 ·subst hnil;exact⟨none,0,λ_ _=>undef,by simpa using hv,λhne=>A9 rfl hne,λy hy=>by simp at hy,λi el hi=>by simp at hi⟩
theorem y5z{t:TypeId}{x y:Operand}{k n k2 n2 by_:Nat}{s:RT}{els news:List (List PV)}(ho:o.op=.call { callee:=.builtin .append,args:=#[x,y],argTypes:=#[t,t] })(hx:fr.ev x=some (.sl k n))(hy:fr.ev y=some (.sl k2 n2))
 (hk:look hp k=some (.row s els)) (hn:els.length=n) (hk2:look hp k2=some (.row s news)) (hn2:news.length=n2) (hR:¬c.R k) (ht:P.underlying t=some (.slice s.e)) (hi:(P.info? s.e).map (λi=>(i.size,i.bytes,(i.zero.map λz=>z.cells.size)))=some (s.n,by_,some s.n)) (hs:0<s.n)
 (hw:∀el∈news,el.length=s.n) (hone:∀el∈news,∀x∈el,x.one=true) (hmax:n+news.length<=maxLen) (hb:(n+news.length)*by_<=140737488355328) :
 Ok P c o fr (look hp) (.sl k (n+news.length)) (look ((k,some (.row s (els++news)))::hp)) :=
 zh2 ho hx (λρ w a h=>h.flatRow hy hk2 hn2 hone) hk hn hR ht hi hs hw hmax hb
theorem zg9{t e:TypeId}{len s:Nat}{parts:Array (Nat×Operand)}{xs:List (Nat×IV)}{z:Value}{out:List IV}{ρ:Loc}{w:World}{a:Act}(h:All c ρ (look hp) w fr a)(ho:o.op=.buildSlice t len parts)(hx:z4u fr parts.toList=some xs)
 (hu:P.underlying t=some (.slice e)) (hz:((P.info? e).bind (·.zero))=some z) (hs:(P.info? e).map (·.size)=some s) (hzs:z.cells.size=s) (hpos:Nat.ble 1 s=true) (hsmall:Nat.ble (len*s) (2 ^ 24)=true)
 (hf:z6o (λi=>some (i*s,s)) (zj0 z len) xs=some out) (hfirm:z6p (look hp) xs) :
 ∃vs,z77 c.F ρ (look hp) w out vs/\out.length=len*s/\(execOp a.eval o).run P w=.ok (.value (.slice (some ⟨w.heap.size,0,none⟩) len len)) (w.alloc (.cells vs e)):=by
 have hpos':0<s:=B5 hpos;have hsmall':=B5 hsmall;have hzv:(zeroValue e).run P w=.ok z w:=by
  cases hq:P.info? e with
  |none=>simp[hq]at hz
  |some i=>simp[hq]at hz;simp[zeroValue,typeInfo,hq,hz]
 obtain⟨hl,hv⟩:=z7o h hx;obtain⟨hrl,hrg⟩:=y1h (z:=z) oM0 len;have hrep:z77 c.F ρ (look hp) w (zj0 z len) ((Array.range (len*s)).map (z.cells[· % z.cells.size]!)):=by
  refine⟨by simp[hrl,hzs],λj x hj=>?_⟩;have hjl:j<len*s:=by have:=(A7.1 hj).1;rw[hrl,hzs]at this;exact this
  rw[hrg j x hj];exact⟨_,by simp[hjl],z3c _⟩
 have hlenfill:out.length=len*s:=by
  have:∀(ps:List (Nat×IV)) (cs out:List IV),z6o (λi=>some (i*s,s)) cs ps=some out->out.length=cs.length:=by
   intro ps
   induction ps with
   |nil=>intro cs out h;cases h;rfl
   |cons p r ih =>
    intro cs out h;simp only[z6o]at h
    cases hc:Nat.beq (z8o p.2).length s&&Nat.ble (p.1*s+s) cs.length with
    |false=>rw[hc]at h;cases h
    |true =>
     rw[hc]at h;simp only[A0]at hc;have h1:=Ak hc.1;have h2:=B5 hc.2;rw[ih _ _ h,zd4 oM0]
  rw[this _ _ _ hf,hrl,hzs]
 obtain⟨vs,h1,h2⟩:=zl1 hrep hl (λj i x hj=>by
  obtain⟨v,h3,h4⟩:=hv j i x hj;exact⟨v,h3,h4,hfirm _ (Af hj)⟩) hf
 have hparts:(parts.map λ(i,x)=>(i,a.eval x)).toList=parts.toList.map λp=>(p.1,a.eval p.2):=by simp
 have hrun:(execOp a.eval o).run P w=.ok (.value (.slice (some ⟨w.heap.size,0,none⟩) len len)) (w.alloc (.cells vs e)):=by
  have hnr:(newRow e vs).run P w=.ok ⟨w.heap.size,0,none⟩ (w.alloc (.cells vs e)):=rfl;simp only[execOp,ho,Instr.buildSlice,Ai,B9 hu,z1a hs,Aw];rw[A1 oM0]
  by_cases h0:len*s=0
  ·have h1':Instr.fill (λi=>some (i*s,s)) ((Array.range (len*s)).map ((#[]:Array Value)[· % (#[]:Array Value).size]!)) (List.map (λp=>(p.fst,a.eval p.snd)) parts.toList)=some vs:=by
    have e1:∀f:Nat->Value,(Array.range (len*s)).map f = #[]:=λf=>by rw[h0];simp
    rw[e1]at h1⊢;exact h1
   simp only[A5 h0,Ai,Ch,Aw,hparts];rw[h1'];simp only[Ai,hnr,Aw];rfl
  ·simp only[A1 h0,Ai,Ch,Aw,hzv,hparts];rw[h1];simp only[Ai,hnr,Aw];rfl
 exact⟨vs,h2,hlenfill,hrun⟩
theorem zx8{k:Nat}{t e:TypeId}{len s:Nat}{parts:Array (Nat×Operand)}{xs:List (Nat×IV)}{z:Value}{out:List IV}{ps:List PV}(ho:o.op=.buildSlice t len parts)(hx:z4u fr parts.toList=some xs)
 (hu:P.underlying t=some (.slice e)) (hz:((P.info? e).bind (·.zero))=some z) (hs:(P.info? e).map (·.size)=some s) (hzs:z.cells.size=s) (hpos:Nat.ble 1 s=true) (hsmall:Nat.ble (len*s) (2 ^ 24)=true)
 (hf:z6o (λi=>some (i*s,s)) (zj0 z len) xs=some out) (hfirm:z6p (look hp) xs) (hps:z7v out=some ps) (hσ:look hp k=none) (hc:c.σ k=none) (hfr:nmFr k fr=false) (hhp:nmHp k hp=false) :
 Ok P c o fr (look hp) (.sl k len) (look ((k,some (.row ⟨e,s⟩ (z87 s len ps)))::hp)):=by
 intro ρ w a K Q h hK;have hpos':0<s:=B5 hpos;have hsmall':=B5 hsmall;obtain⟨vs,h2,hlenfill,hrun⟩:=zg9 h ho hx hu hz hs hzs hpos hsmall hf hfirm;unfold Oper.wp;rw[hrun];obtain⟨hpl,hpg⟩:=z9a hps;have hel:∀i el,(z87 s len ps)[i]?=some el->el.length=s/\∀j x,el[j]?=some x->ps[i*s+j]?=some x:=λi el hi=>zq3 s len ps i el hi oM0;have hcl:=z9k s len ps;have hlm:len<=maxLen:=by simp only[maxLen];have:len<=len*s:=E9 _ hpos';omega
 refine hK (z18 ρ k (some (w.heap.size,len))) _ _ (h.alloc hσ hc hfr hhp len _ _ λ_ keep=>?_) (.sl _ _ _ λs' els' h'=>?_)
 ·refine .row ⟨e,s⟩ _ vs (λi j=>vs.getD (i*s+j) undef) (z31 w _) (by have:=h2.1;simp only;omega) oM0 hlm (λel hel'=>?_) (λi el hi j x hj=>?_) λi el hi j x hj=>?_
  ·obtain⟨i,hi⟩:=List.getElem?_of_mem hel';exact(hel i el hi).1
  ·obtain⟨h5,h6⟩:=hel i el hi;obtain⟨v,h7,_⟩:=h2.2 _ _ (hpg _ _ (h6 j x hj));simp[B0,h7]
  ·obtain⟨h5,h6⟩:=hel i el hi;obtain⟨v,h7,h8⟩:=h2.2 _ _ (hpg _ _ (h6 j x hj));simp only[B0,h7,Cj]
   cases h8 with
   |pv _ _ h8=>exact keep _ _ h8
 ·rw[z1h]at h';cases h'
  exact⟨by omega,λ_=>.inl ⟨w.heap.size,len,z09,rfl⟩⟩
def nilP:PV->PV
 |.val (.slice none 0 0)=>.seq []
 |x=>x
theorem nilP_sub(x:PV):PSub x (nilP x):=by
 unfold nilP;split
 ·exact PSub.nil
 ·exact PSub.refl _
theorem y12:∀cs:List PV,PSubs cs (cs.map nilP)
 |[]=>trivial
 |x::r=>⟨nilP_sub x,y12 r⟩
theorem z0g(cs:List PV):PSub (.agg cs) (.agg (cs.map nilP)):=PSub.agg (y12 cs)
end
section
variable {P:Program} {c:Cx} {R1:Nat->Prop} {o:Oper} {fr:Fr} {hp:Hp} {σ:Heap'} {Q:Exit->Fr->Heap'->Prop}
theorem All.bs{ρ:Loc}{w:World}{a:Act}(h:All c ρ (look hp) w fr a){x:Operand}{k n:Nat}{cs:List IV}(hx:fr.ev x=some (.bs k n))(hk:look hp k=some (.box cs)) :
 ∃(b cc cap:Nat)(e:TypeId)(r:Array Value)(u:Nat->Value),a.eval x=.slice (some ⟨b,0,none⟩) n cap/\n<=cap/\cap<=maxLen /\ ρ k=some (b,cc)/\w.heap[b]?=some (.cells r e (0,0))/\cs.length<=r.size/\(∀j x,cs[j]?=some x->r[j]?=some (u j))/\∀j x,cs[j]?=some x->RepI c.F ρ (look hp) w x (u j):=by
 have hr:=h.ev hx;generalize hv:a.eval x=v at hr
 cases hr with
 |bs _ _ _ hh =>
  obtain⟨b,cc,hρ,h8,h9,rfl⟩:=hh cs hk;obtain⟨o1,h1,h2⟩:=h.rel.obj k b cc hρ;rw[hk]at h1;cases h1
  obtain⟨e,r,u,h3,h4,h5,h6⟩:=h2.inv_box;exact⟨b,cc,cc,e,r,u,rfl,h8,h9,hρ,h3,h4,h5,h6⟩
theorem ye2{t e:TypeId}{x y:Operand}{k n i:Nat}{m:Int}{kk:IntKind}{cs:List IV}(ho:o.op=.indexAddr t x y)(hx:fr.ev x=some (.bs k n))(hy:fr.ev y=some (.pv (.val (.int kk m))))(hk:look hp k=some (.box cs))
 (hu:P.underlying t=some (.slice e)) (he:(P.info? e).map (·.size)=some 1) (hi:i<n) (hm:m=i):OkV P c R1 o fr (look hp) (.ptr k i):=by
 subst hm;intro ρ w a h;obtain⟨b,cc,cap,e',r,u,hv,_,_,hρ,_⟩:=h.bs hx hk;refine⟨.pointer (some ⟨b,i,none⟩),λw2 _=>?_,.ptr _ _ _ λcs' h'=>⟨b,cc,hρ,rfl⟩⟩;simp[execOp,ho,hv,z0v h hy,Instr.indexAt,Ai,asIntOf,B9 hu,hi,z1a he,Cu]
theorem y14{k:Nat}{t e:TypeId}{len s:Nat}{parts:Array (Nat×Operand)}{xs:List (Nat×IV)}{z:Value}{out:List IV}(ho:o.op=.buildSlice t len parts)(hx:z4u fr parts.toList=some xs)
 (hu:P.underlying t=some (.slice e)) (hz:((P.info? e).bind (·.zero))=some z) (hs:(P.info? e).map (·.size)=some s) (hzs:z.cells.size=s) (hpos:Nat.ble 1 s=true) (hsmall:Nat.ble (len*s) (2 ^ 24)=true)
 (hf:z6o (λi=>some (i*s,s)) (zj0 z len) xs=some out) (hfirm:z6p (look hp) xs) (hn:nm.nms k out=false) (hσ:look hp k=none) (hc:c.σ k=none) (hfr:nmFr k fr=false) (hhp:nmHp k hp=false) :
 Ok P c o fr (look hp) (.bs k len) (look ((k,some (.box out))::hp)):=by
 intro ρ w a K Q h hK;have hpos':0<s:=B5 hpos;have hsmall':=B5 hsmall;obtain⟨vs,h2,hlenfill,hrun⟩:=zg9 h ho hx hu hz hs hzs hpos hsmall hf hfirm;unfold Oper.wp;rw[hrun];have hlm:len<=maxLen:=by simp only[maxLen];have:len<=len*s:=E9 _ hpos';omega
 refine hK (z18 ρ k (some (w.heap.size,len))) _ _ (h.alloc hσ hc hfr hhp len _ _ λkeep _=>?_) (.bs _ _ _ λcs' h'=>⟨w.heap.size,len,z09,Ag _,hlm,rfl⟩);refine .box _ e vs (λj=>vs.getD j undef) (z31 w _) (Nat.le_of_eq h2.1.symm) (λj x hj=>?_) (λj x hj=>?_) ⟨λhh=>A9 hh (by simp only[maxLen]at hlm;unfold j5i;omega),λ_ _=>by have h9:=h2.1;have h10:len<=len*s:=E9 _ hpos';omega⟩
 ·obtain⟨v,h7,_⟩:=h2.2 _ _ hj;simp[B0,h7]
 ·obtain⟨v,h7,h8⟩:=h2.2 _ _ hj;simp only[B0,h7,Cj];exact keep _ _ h8 (z5r hn (Af hj))
theorem y8e{t:TypeId}{x y:Operand}{k k2 n by_:Nat}{e:TypeId}{cs:List IV}(ho:o.op=.call { callee:=.builtin .append,args:=#[x,y],argTypes:=#[t,t] })(hx:fr.ev x=some (.pv (.val (.slice none 0 0))))(hy:fr.ev y=some (.bs k2 n))(hk2:look hp k2=some (.box cs))(hn:cs.length=n)(h0:0<n)
 (ht:P.underlying t=some (.slice e)) (hi:(P.info? e).map (λi=>(i.size,i.bytes,(i.zero.map λz=>z.cells.size)))=some (1,by_,some 1)) (hmax:n<=maxLen) (hb:n*by_<=140737488355328) (hnm:nm.nms k cs=false)
 (hσ:look hp k=none) (hc:c.σ k=none) (hfr:nmFr k fr=false) (hhp:nmHp k hp=false) :
 Ok P c o fr (look hp) (.bs k n) (look ((k,some (.box cs))::hp)):=by
 intro ρ w a K Q h hK
 cases hq:P.info? e with
 |none=>simp[hq]at hi
 |some i =>
  have hsz:i.size=1:=by simp[hq]at hi;exact hi.1
  have hby:i.bytes=by_:=by simp[hq]at hi;exact hi.2.1
  obtain⟨z,hz,hzs⟩:∃z,i.zero=some z/\z.cells.size=1:=by simp[hq]at hi;exact hi.2.2
  simp only[maxLen]at hmax;obtain⟨b,cc,cap,e',r,u,hv,_,_,hρ,hbk,hlen,hcell,hrep⟩:=h.drew.bs hy hk2;have hge:=grownCap_ge w n 0 e;have hcm:=Fo w n 0 e (by simp only[maxLen];omega);have hL:((List.range n).map u).length=n*i.size:=by simp[hsz]
  have hcl:∀j y,((List.range n).map u)[j]?=some y->w.cell? ((⟨b,0,none⟩:Addr).add j)=some y:=λj y hj=>by
   rw[Cu,Bu,z4t (w:=w) hbk];have hj':j<n:=by have:=(A7.1 hj).1;simpa using this
   have e1:u j=y:=by simpa[hj']using hj
   have h5:cs[j]?=some (cs[j]'oM0):=Ad oM0;rw[hcell j _ h5,e1]
  have hr:=run_append_nil (P:=P) w t o.type e i z ht hq hz ⟨b,0,none⟩ n cap _ hL hcl h0 oM0 (by rw[hby];omega);refine Lib.wp_append_run w x y t t ho _ _ (z0v h hx) hv _ _ hr ?_;refine hK (z18 ρ k (some (w.heap.size,grownCap w n 0 e))) _ _ (h.drew.alloc hσ hc hfr hhp (grownCap w n 0 e) _ _ λkeep _=>?_) (.bs _ _ _ λcs' h'=>⟨w.heap.size,_,z09,hge,hcm,rfl⟩);refine .box _ e _ u (z31 _ _) (by simp;omega) (λj x hj=>?_) (λj x hj=>keep _ _ (hrep j x hj) (z5r hnm (Af hj))) ⟨λhh=>A9 hh (by simp only[maxLen]at hcm;unfold j5i;omega),λ_ _=>by simp[G9,hzs];omega⟩;have hj':j<n:=by have:=(A7.1 hj).1;omega
  rw[El (by simpa using hj')];simp[hj']
theorem y3t{k:Nat}:∀{l m:List IV},nm.nms k l=false->nm.nms k m=false->nm.nms k (l++m)=false
 |[],_,_,h=>h
 |x::r,m,h1,h2=>by
  simp only[Be,nm.nms,Bn]at h1⊢;exact⟨h1.1,y3t h1.2 h2⟩
theorem y7g{t ty e e1:TypeId}{i:TypeInfo}{w:World}(ht:P.underlying t=some (.slice e))(hi:P.info? e=some i){g n cc:Nat}{cur:Array Value}(hg:w.heap[g]?=some (.cells cur e1 (0,0))){b:Addr}{m c2:Nat}{news:List Value}(hl:news.length=m*i.size)
 (hnews:∀j u,news[j]?=some u->w.cell? (b.add j)=some u) (h1:∀u∈news,u.oneCell'=true) (hroom:n+m<=cc) (hfit:n*i.size+news.length<=cur.size) :
 (Builtin.append_ #[t,t] ty #[.slice (some ⟨g,0,none⟩) n cc,.slice (some b) m c2]).run P w=.ok (.slice (some ⟨g,0,none⟩) (n+m) cc) (w.setRow g (cur.toList.take (n*i.size)++news++cur.toList.drop (n*i.size+news.length)).toArray):=by
 have q1:=run_firstCells_some (P:=P) w i.size m b m c2 news hl hnews;have q2:=F5 P g (n*i.size) e1 news 0 cur w hg (by simpa using hfit) h1;simp only[Ca]at q2;simp[Builtin.append_,B9 ht,sizeOf,typeInfo,hi,Builtin.lenOf,hroom,q1,Addr.add_lit,q2]
theorem All.bs2{ρ:Loc}{w:World}{a:Act}(h:All c ρ (look hp) w fr a){x:Operand}{k n:Nat}{cs:List IV}(hx:fr.ev x=some (.bs k n))(hk:look hp k=some (.box cs)) :
 ∃(b cc:Nat)(e:TypeId)(r:Array Value)(u:Nat->Value),a.eval x=.slice (some ⟨b,0,none⟩) n cc/\n<=cc/\cc<=maxLen /\ ρ k=some (b,cc)/\w.heap[b]?=some (.cells r e (0,0))/\(2<=cc->cc<=r.size)/\cs.length<=r.size/\(∀j x,cs[j]?=some x->r[j]?=some (u j))/\∀j x,cs[j]?=some x->RepI c.F ρ (look hp) w x (u j):=by
 have hr:=h.ev hx;generalize hv:a.eval x=v at hr
 cases hr with
 |bs _ _ _ hh =>
  obtain⟨b,cc,hρ,h8,h9,rfl⟩:=hh cs hk;obtain⟨o1,h1,h2⟩:=h.rel.obj k b cc hρ;rw[hk]at h1;cases h1
  obtain⟨e,r,u,h3,h4,h5,h6⟩:=h2.inv_box;exact⟨b,cc,e,r,u,rfl,h8,h9,hρ,h3,λh7=>(h.rel.ty hk hρ h3).2 h7 h9,h4,h5,h6⟩
theorem y5x{t:TypeId}{x y:Operand}{k k2 k' n n2 by_:Nat}{e:TypeId}{cs cs2:List IV}(ho:o.op=.call { callee:=.builtin .append,args:=#[x,y],argTypes:=#[t,t] })(hx:fr.ev x=some (.bs k n))(hy:fr.ev y=some (.bs k2 n2))
 (hk:look hp k=some (.box cs)) (hk2:look hp k2=some (.box cs2)) (hn:cs.length=n) (hn2:cs2.length=n2) (h0:0<n) (h02:0<n2)
 (ht:P.underlying t=some (.slice e)) (hi:(P.info? e).map (λi=>(i.size,i.bytes,(i.zero.map λz=>z.cells.size)))=some (1,by_,some 1)) (hmax:n+n2<=maxLen) (hb:(n+n2)*by_<=140737488355328)
 (hfirm:∀x∈cs2,x.firm (look hp)) (hnm:nm.nms k' cs2=false) (hR:¬c.R k) (hσ:look hp k'=none) (hc:c.σ k'=none) (hfr:nmFr k' fr=false) (hhp:nmHp k' hp=false) :
 Ok P c o fr (look hp) (.bs k' (n+n2)) (look ((k',some (.box (cs++cs2)))::(k,none)::hp)):=by
 intro ρ w a K Q h hK;have hne:k≠k':=λe=>by subst e;rw[hk]at hσ;cases hσ
 cases hq:P.info? e with
 |none=>simp[hq]at hi
 |some i =>
  have hsz:i.size=1:=by simp[hq]at hi;exact hi.1
  have hby:i.bytes=by_:=by simp[hq]at hi;exact hi.2.1
  obtain⟨z,hz,hzs⟩:∃z,i.zero=some z/\z.cells.size=1:=by simp[hq]at hi;exact hi.2.2
  simp only[maxLen]at hmax;obtain⟨b,cc,e1,r,u,hv,hnc,hcm,hρ,hbk,hty,hlen,hcell,hrep⟩:=h.bs2 hx hk;obtain⟨b2,cc2,e2,r2,u2,hv2,_,_,hρ2,hbk2,_,hlen2,hcell2,hrep2⟩:=h.bs2 hy hk2;have hL:((List.range n2).map u2).length=n2*i.size:=by simp[hsz]
  have hcl:∀j y,((List.range n2).map u2)[j]?=some y->w.cell? ((⟨b2,0,none⟩:Addr).add j)=some y:=λj y hj=>by
   rw[Cu,Bu,z4t (w:=w) hbk2];have hj':j<n2:=by have:=(A7.1 hj).1;simpa using this
   have e1:u2 j=y:=by simpa[hj']using hj
   have h5:cs2[j]?=some (cs2[j]'oM0):=Ad oM0;rw[hcell2 j _ h5,e1]
  have hone:∀v∈(List.range n2).map u2,v.oneCell'=true:=λv hv=>by
   obtain⟨j,hj,rfl⟩:=Bz.1 hv;have hj':j<n2:=En.1 hj;have h5:cs2[j]?=some (cs2[j]'oM0):=Ad oM0;exact(hrep2 j _ h5).one (hfirm _ (Af h5))
  have hrun:∀(v:Value)(w':World),(Builtin.append_ #[t,t] o.type #[a.eval x,a.eval y]).run P w=.ok v w'->(execOp a.eval o).run P w=.ok (.value v) w':=λv w' hr=>by
   simp only[execOp,ho,resolve,Ai,Ch,Aw,invoke,builtin,List.map_toArray,B7,Cv,hr]
  unfold Oper.wp;have hnm1:nm.nms k' cs=false:=z94 hhp hk;have hall:∀(own':IV->Value->Prop),(∀j x,cs[j]?=some x->own' x (u j))->(∀j x,cs2[j]?=some x->own' x (u2 j))->∀j x,(cs++cs2)[j]?=some x->own' x (if j<n then u j else u2 (j-n)):=λown' g1 g2 j x hj=>by
   by_cases hjn:j<n
   ·rw[Au oM0]at hj;rw[A5 hjn];exact g1 j x hj
   ·rw[B4 oM0,hn]at hj;rw[A1 hjn];exact g2 _ x hj
  have hval:∀(pre:List Value)(tl:List Value),pre.length=n->(∀j x,cs[j]?=some x->pre[j]?=some (u j))->∀j x,(cs++cs2)[j]?=some x->(pre++(List.range n2).map u2++tl)[j]?=some (if j<n then u j else u2 (j-n)):=λpre tl hp1 hp2 j x hj=>by
   have hjl:j<n+n2:=by have:=(A7.1 hj).1;simp at this;omega
   by_cases hjn:j<n
   ·rw[Au oM0]at hj;rw[A5 hjn,Ci,Au oM0];exact hp2 j x hj
   ·rw[A1 hjn,Ci,B4 oM0,hp1,Au (by simp;omega)];simp[show j-n<n2 by omega]
  have hnmA:nm.nms k' (cs++cs2)=false:=y3t hnm1 hnm
  by_cases hroom:n+n2<=cc
  ·have hrs:cc<=r.size:=hty oM0;have hr:=y7g (P:=P) (ty:=o.type) ht hq hbk (b:=⟨b2,0,none⟩) (c2:=cc2) hL hcl hone hroom (by simp[hsz];omega);rw[hsz,Nat.mul_one]at hr;rw[hrun _ _ (by rw[hv,hv2];exact hr)];have hA:=h.write hρ hk (o':=.box (cs++cs2)) trivial hR rfl rfl rfl (w':=w.setRow b (r.toList.take n++(List.range n2).map u2++r.toList.drop (n+((List.range n2).map u2).length)).toArray) sI0 (λj hj=>F9 w b j _ hj) λkeep _=>by
    refine .box (cs++cs2) e1 _ (λj=>if j<n then u j else u2 (j-n)) (Fj w b r _ e1 _ hbk) (by simp;omega) (λj x hj=>?_) (hall _ (λj x hj=>keep _ _ (hrep j x hj)) λj x hj=>keep _ _ (hrep2 j x hj)) ?_
    ·rw[Dx];exact hval _ _ (by simp;omega) (λj x hj=>by
      have:=(A7.1 hj).1;rw[C3,A5 oM0,Bh,hcell j x hj]) j x hj
    ·have h9:=h.rel.ty hk hρ hbk;have h8:(r.toList.take n++(List.range n2).map u2++r.toList.drop (n+((List.range n2).map u2).length)).toArray.size=r.size:=by simp;omega
     rw[h8];exact h9
   have hA2:=hA.rename (k':=k') hρ z1h hR ((z1n hne).trans hσ) hc hfr (by simp only[nmHp,hnmA,hhp];rfl);have hsame:look ((k',some (.box (cs++cs2)))::(k,none)::(k,some (.box (cs++cs2)))::hp)=look ((k',some (.box (cs++cs2)))::(k,none)::hp):=by
    funext j
    by_cases e1:j=k'
    ·subst e1;rw[z1h,z1h]
    ·rw[z1n (C4 e1),z1n (C4 e1)]
     by_cases e2:j=k
     ·subst e2;rw[z1h,z1h]
     ·rw[z1n (C4 e2),z1n (C4 e2),z1n (C4 e2)]
   rw[hsame]at hA2;exact hK _ _ _ hA2 (.bs _ _ _ λcs' h'=>⟨b,cc,z09,hroom,hcm,rfl⟩)
  ·have hpl:(r.toList.take n).length=n:=by simp;omega
   have holds:∀j y,(r.toList.take n)[j]?=some y->w.cell? ((⟨b,0,none⟩:Addr).add j)=some y:=λj y hj=>by
    rw[Cu,Bu,z4t (w:=w) hbk];rw[C3]at hj;split at hj
    ·simpa using hj
    ·cases hj
   have hr:=run_append_grow (P:=P) w t o.type e i z ht hq hz ⟨b,0,none⟩ n cc _ (by rw[hsz,Nat.mul_one];exact hpl) holds ⟨b2,0,none⟩ n2 cc2 _ hL hcl oM0 oM0 (growslice_fits oM0 (by rw[hby];exact hb));rw[hrun _ _ (by rw[hv,hv2];exact hr)];have hdrew:∀x v,RepI c.F ρ (look hp) w x v->RepI c.F ρ (look hp) { w with drawn:=w.drawn+1 } x v:=λx v hx=>hx.trans' (Trans.drew c.F (λ_=>True) ρ (look hp) w) (λhx=>by obtain⟨k,hk⟩:=hx.some;exact hk.2 hk.1);have hge:=grownCap_ge w (n+n2) cc e;have hcm2:=Fo w (n+n2) cc e (by simp only[maxLen];omega);have hA:=h.drew.alloc hσ hc hfr hhp (grownCap w (n+n2) cc e) (.box (cs++cs2)) (.cells ((r.toList.take n).toArray++((List.range n2).map u2).toArray++Builtin.zeroCells z.cells (grownCap w (n+n2) cc e-(n+n2))) e) λkeep _=>by
    refine .box (cs++cs2) e _ (λj=>if j<n then u j else u2 (j-n)) (z31 _ _) (by simp;omega) (λj x hj=>?_) (hall _ (λj x hj=>keep _ _ (hdrew _ _ (hrep j x hj)) (z5r hnm1 (Af hj))) λj x hj=>keep _ _ (hdrew _ _ (hrep2 j x hj)) (z5r hnm (Af hj))) ⟨λhh=>A9 hh (by simp only[maxLen]at hcm2;unfold j5i;omega),λ_ _=>by simp[G9,hzs];omega⟩;have:=hval (r.toList.take n) (Builtin.zeroCells z.cells (grownCap w (n+n2) cc e-(n+n2))).toList hpl (λj x hj=>by
     have:=(A7.1 hj).1;rw[C3,A5 oM0,Bh,hcell j x hj]) j x hj
    rw[<- this,<- Bh];simp
   have hA2:=hA.drop (k:=k);have hsame:look ((k,none)::(k',some (.box (cs++cs2)))::hp)=look ((k',some (.box (cs++cs2)))::(k,none)::hp):=by
    funext j
    by_cases e1:j=k'
    ·subst e1;rw[z1h,z1n hne,z1h]
    ·rw[z1n (k:=k') (C4 e1)]
     by_cases e2:j=k
     ·subst e2;rw[z1h,z1h]
     ·rw[z1n (C4 e2),z1n (C4 e1),z1n (C4 e2)]
   rw[hsame]at hA2;exact hK _ _ _ hA2 (.bs _ _ _ λcs' h'=>⟨w.heap.size,_,(z2u hne).trans z09,hge,hcm2,rfl⟩)
theorem y61{t:TypeId}{x y:Operand}{n by_:Nat}{s:RT}{z:Value}{σ:Heap'}(ho:o.op=.makeSlice t x y)(hx:fr.ev x=some (.pv (.val (.int .i64 n))))(hy:fr.ev y=some (.pv (.val (.int .i64 n))))
 (hu:P.underlying t=some (.slice s.e)) (hz:((P.info? s.e).bind (·.zero))=some z) (hi:(P.info? s.e).map (λi=>(i.size,i.bytes))=some (s.n,by_)) (hzs:z.cells.size=s.n) (hpos:0<s.n) (hn:n<2 ^ 63) (hb:by_*n<=281474976710656) :
 Ok P c o fr σ (.pv (.seq (List.replicate n (z.cells.toList.map .val)))) σ:=by
 intro ρ w a K Q h hK
 cases hq:P.info? s.e with
 |none=>simp[hq]at hi
 |some i =>
  have hsz:i.size=s.n:=by simp[hq]at hi;exact hi.1
  have hby:i.bytes=by_:=by simp[hq]at hi;exact hi.2
  have hiz:i.zero=some z:=by simpa[hq]using hz
  have hwrap:IntKind.i64.wrap (n:Int)=n:=D3 _ oM0;have hrun:(execOp a.eval o).run P w=.ok (.value (.slice (some ⟨w.heap.size,0,none⟩) n n)) (w.alloc (.cells ((Array.range (n*s.n)).map (z.cells[· % z.cells.size]!)) s.e)):=by
   have hnr:∀r,(newRow s.e r).run P w=.ok ⟨w.heap.size,0,none⟩ (w.alloc (.cells r s.e)):=λ_=>rfl;have hti:(typeInfo s.e).run P w=.ok i w:=by simp[typeInfo,hq]
   have hso:(sizeOf s.e).run P w=.ok s.n w:=z1a (by simp[hq,hsz]) w;have hzv:(zeroValue s.e).run P w=.ok z w:=by simp[zeroValue,typeInfo,hq,hiz]
   have h2:(by_:Int)*n<=281474976710656:=by
    have:((by_*n:Nat):Int)<=281474976710656:=by omega
    rwa [Int.natCast_mul]at this
   simp only[execOp,ho,Instr.makeSlice,Ai,B9 hu,Aw,z0v h hx,z0v h hy,asInt,asIntOf,Ch,hti,hwrap,hby];rw[A1 (by simpa using h2)];simp only[Ai,y1s,Aw,hso,Int.toNat_natCast]
   by_cases h0:n*s.n=0
   ·rw[A5 h0];simp only[Ai,Ch,Aw,hnr];have e1:∀f g:Nat->Value,(Array.range (n*s.n)).map f=(Array.range (n*s.n)).map g:=λf g=>by rw[h0];simp
    rw[e1 _ (z.cells[· % z.cells.size]!)]
   ·rw[A1 h0];simp only[Ai,Ch,Aw,hzv,hnr]
  unfold Oper.wp;rw[hrun];obtain⟨h3,keep⟩:=h.push (.cells ((Array.range (n*s.n)).map (z.cells[· % z.cells.size]!)) s.e);refine hK ρ _ _ h3 (.pv _ _ ?_);have hll:(List.replicate n (z.cells.toList.map PV.val)).length=n:=by simp
  have hbig:by_*n<=281474976710656:=hb;have:RepP (owned c.F ρ) (w.alloc (.cells ((Array.range (n*s.n)).map (z.cells[· % z.cells.size]!)) s.e)) (.seq (List.replicate n (z.cells.toList.map .val))) (.slice (some ⟨w.heap.size,0,none⟩) (List.replicate n (z.cells.toList.map PV.val)).length n):=by
   refine .seq _ _ n w.heap.size 0 (λ_ j=>z.cells[j]!) (λ_=>rfl) (λ_=>⟨h.fresh,by simp⟩) sI0 (by simp only[maxLen];omega) (λi el hi j x hj=>?_) λi el hi j x hj=>?_
   ·have hel:=Dl (Af hi);have hin:i<n:=by have:=(A7.1 hi).1;simpa using this
    subst hel;have hjs:j<s.n:=by have:=(A7.1 hj).1;simp[hzs]at this;exact this
    have hlt:i*s.n+j<n*s.n:=by
     have:(i+1)*s.n<=n*s.n:=C2 _ oM0;rw[Dg]at this;omega
    rw[z4t (z31 w _)];simp[hlt,hzs,Es hjs]
   ·have hel:=Dl (Af hi);subst hel;simp only[Bc,A8,Bh]at hj;obtain⟨v,hv,rfl⟩:=hj;have:z.cells[j]! = v:=by
     have hlt:=(Cc.1 hv).1;simp[hlt]at hv⊢;exact hv
    rw[this];exact .val v
  rwa [hll]at this
end
section
variable {P:Program} {c:Cx} {R1:Nat->Prop} {o:Oper} {fr:Fr} {hp:Hp}
theorem RepI.toSp{F:Nat->Prop}{ρ:Loc}{σ:Heap'}{w:World}{k n:Nat}{v:Value}(h:RepI F ρ σ w (.sl k n) v):RepI F ρ σ w (.sp k n n) v:=by
 cases h with
 |sl _ _ _ hh =>
  refine .sp k n n v λs els h1=>⟨(hh s els h1).1,λhl=>?_⟩;rcases(hh s els h1).2 hl with⟨b,cc,h2,h3⟩|⟨h2,h3,h4⟩
  ·exact .inl ⟨Ag _,b,cc,h2,h3⟩
  ·exact .inr ⟨h2,h3,h3,h4⟩
theorem RepI.ofSp{F:Nat->Prop}{ρ:Loc}{σ:Heap'}{w:World}{k n:Nat}{v:Value}(h:RepI F ρ σ w (.sp k n n) v):RepI F ρ σ w (.sl k n) v:=by
 cases h with
 |sp _ _ _ _ hh =>
  refine .sl k n v λs els h1=>⟨(hh s els h1).1,λhl=>?_⟩;rcases(hh s els h1).2 hl with⟨_,b,cc,h2,h3⟩|⟨h2,h3,_,h4⟩
  ·exact .inl ⟨b,cc,h2,h3⟩
  ·exact .inr ⟨h2,h3,h4⟩
theorem All.sp{ρ:Loc}{w:World}{a:Act}{v:Value}(h:All c ρ (look hp) w fr a){k n m:Nat}{s:RT}{els:List (List PV)}(hr:RepI c.F ρ (look hp) w (.sp k n m) v)(hk:look hp k=some (.row s els))(hn:els.length=m) :
 (∃(b cc:Nat)(r:Array Value)(u:Nat->Nat->Value),n<=m/\v=.slice (some ⟨b,0,none⟩) n cc /\ ρ k=some (b,cc)/\w.heap[b]?=some (.cells r s.e (0,0))/\r.size=cc*s.n/\m<=cc/\cc<=maxLen/\(∀el∈els,el.length=s.n) /\
  (∀i el,els[i]?=some el->∀j x,el[j]?=some x->r[i*s.n+j]?=some (u i j))/\∀i el,els[i]?=some el->∀j x,el[j]?=some x->RepP (owned c.F ρ) w x (u i j)) ∨
 (v=.slice none 0 0 /\ ρ k=none/\els=[]/\n=0/\m=0):=by
 cases hr with
 |sp _ _ _ _ hh =>
  rcases(hh s els hk).2 hn with⟨hnm,b,cc,hρ,rfl⟩|⟨hρ,hz,hz2,rfl⟩
  ·obtain⟨o1,h1,h2⟩:=h.rel.obj k b cc hρ;rw[hk]at h1;cases h1
   cases h2 with
   |row _ _ r u h3 h4 h5 h6 h7 h8 h9=>exact .inl ⟨b,cc,r,u,hnm,rfl,hρ,h3,h4,hn▸h5,h6,h7,h8,h9⟩
  ·exact .inr ⟨rfl,hρ,Ay (hn.trans hz),hz2,hz⟩
theorem j2g{t e:TypeId}{x:Operand}{k n m:Nat}{s:RT}{els:List (List PV)}(ho:o.op=.call { callee:=.builtin .len,args:=#[x],argTypes:=#[t] })(hx:fr.ev x=some (.sp k n m))(hk:look hp k=some (.row s els))(hn:els.length=m)
 (hu:P.underlying t=some (.slice e)):OkV P c R1 o fr (look hp) (.pv (.val (.int .i64 n))):=by
 intro ρ w a h;refine⟨.int .i64 n,λw2 _=>?_,z3c _⟩;rcases h.sp (h.ev hx) hk hn with⟨b,cc,r,u,_,hv,_⟩|⟨hv,_,_,he,_⟩
 ·simp[execOp,ho,hv,resolve,Ai,invoke,builtin,Builtin.len_,B9 hu,goInt]
 ·subst he;simp[execOp,ho,hv,resolve,Ai,invoke,builtin,Builtin.len_,B9 hu,goInt]
theorem ye3{t:TypeId}{x y:Operand}{k n i m':Nat}{m:Int}{kk:IntKind}{s:RT}{els:List (List PV)}(ho:o.op=.indexAddr t x y)(hx:fr.ev x=some (.sp k n m'))(hy:fr.ev y=some (.pv (.val (.int kk m))))(hk:look hp k=some (.row s els))(hn:els.length=m')
 (hu:P.underlying t=some (.slice s.e)) (he:(P.info? s.e).map (·.size)=some s.n) (hi:i<n) (hm:m=i):OkV P c R1 o fr (look hp) (.rpt k m' (i*s.n)):=by
 subst hm;intro ρ w a h;rcases h.sp (h.ev hx) hk hn with⟨b,cc,r,u,hnm,hv,hρ,h3,h4,hc,hcm,hwe,hcells,hu'⟩|⟨_,_,_,hz,_⟩
 ·refine⟨.pointer (some ⟨b,i*s.n,none⟩),λw2 _=>?_,.rpt _ _ _ _ λs' els' h'=>?_⟩
  ·simp[execOp,ho,hv,z0v h hy,Instr.indexAt,Ai,asIntOf,B9 hu,hi,z1a he,Cu]
  ·rw[hk]at h';cases h'
   exact⟨by omega,λ_=>⟨b,cc,hρ,rfl⟩⟩
 ·omega
theorem zv9{t e:TypeId}{x:Operand}{hi:Option Operand}{k n m j q:Nat}{s:RT}{els:List (List PV)}(ho:o.op=.slice t x none hi none)(hx:∀ρ w a,All c ρ (look hp) w fr a->RepI c.F ρ (look hp) w (.sp k n m) (a.eval x))(hk:look hp k=some (.row s els))(hn:els.length=m)
 (hu:P.underlying t=some (.slice e)) (hs:(P.info? e).map (·.size)=some q) (hhi:(hi=none/\j=n)∨∃y k,hi=some y/\fr.ev y=some (.pv (.val (.int k j)))) (hj:j<=n):OkV P c R1 o fr (look hp) (.sp k j m):=by
 intro ρ w a h;have hr:=hx ρ w a h;generalize hv:a.eval x=v at hr;have hund:∀w,(underlying t).run P w=.ok (.slice e) w:=B9 hu;have key:∀(ad:Option Addr)(cap:Nat),n<=cap->∀w,(Instr.sliceAt t (.slice ad n cap) none (hi.map a.eval) none).run P w=.ok (.slice (if cap=0 then ad else ad.map (·.add (0*q))) (j-0) (cap-0)) w:=by
  intro ad cap hcap w;have hb':(Instr.sliceBounds true n cap none (hi.map a.eval) none).run P w=.ok (0,j,cap) w:=by
   rcases hhi with⟨rfl,rfl⟩|⟨y',k',rfl,hy'⟩
   ·simp[Instr.sliceBounds]
   ·have e1:j<=cap:=by omega
    simp[Instr.sliceBounds,Instr.sliceBound,z0v h hy',asIntOf,e1]
  simp only[Instr.sliceAt,Instr.slice,Ai,hund,Aw,hb',z1a hs];rfl
 rcases h.sp hr hk hn with⟨b,cc,r,u,hnm,rfl,hρ,h3,h4,hc,hcm,hwe,hcells,hu'⟩|⟨rfl,hρ,rfl,rfl,rfl⟩
 ·refine⟨.slice (some ⟨b,0,none⟩) j cc,λw2 _=>?_,.sp _ _ _ _ λs' els' h'=>?_⟩
  ·simp only[execOp,ho,hv,Fi,Ai,key _ cc oM0,Aw];simp[Cu]
  ·rw[hk]at h';cases h'
   exact⟨by omega,λ_=>.inl ⟨by omega,b,cc,hρ,rfl⟩⟩
 ·have hj0:j=0:=by omega
  subst hj0;refine⟨.slice none 0 0,λw2 _=>?_,.sp _ _ _ _ λs' els' h'=>?_⟩
  ·simp only[execOp,ho,hv,Fi,Ai,key _ 0 oM0,Aw];rfl
  ·rw[hk]at h';cases h'
   exact⟨Ag _,λ_=>.inr ⟨hρ,rfl,rfl,rfl⟩⟩
theorem y2x{t:TypeId}{x y:Operand}{k n m by_:Nat}{s:RT}{els:List (List PV)}{el:List PV}(ho:o.op=.call { callee:=.builtin .append,args:=#[x,y],argTypes:=#[t,t] })(hx:fr.ev x=some (.sp k n m))(hy:fr.ev y=some (.pv (.seq [el])))
 (hk:look hp k=some (.row s els)) (hn:els.length=m) (hnm:n<m) (hR:¬c.R k) (ht:P.underlying t=some (.slice s.e)) (hi:(P.info? s.e).map (λi=>(i.size,i.bytes,(i.zero.map λz=>z.cells.size)))=some (s.n,by_,some s.n))
 (hw:el.length=s.n) (hone:∀x∈el,x.one=true) :
 Ok P c o fr (look hp) (.sp k (n+1) m) (look ((k,some (.row s (els.set n el)))::hp)):=by
 intro ρ w a K Q h hK
 cases hq:P.info? s.e with
 |none=>simp[hq]at hi
 |some i =>
  have hsz:i.size=s.n:=by simp[hq]at hi;exact hi.1
  have hlk':look ((k,some (.row s (els.set n el)))::hp) k=some (.row s (els.set n el)):=z1h;obtain⟨ad,cap,u',hvy,had,hone',hr'⟩:=(h.ev hy).inv_seq.flat (s:=s.n) (λe he=>by rw[Al.1 he];exact hw) (λe he x hx=>by rw[Al.1 he]at hx;exact hone x hx);obtain⟨ad,rfl,hcell⟩:=had sI0;simp only[A3,A6,Bu,Gb]at hvy hcell hone';have hlenN:((List.range s.n).map λq=>u' (q/s.n) (q%s.n)).length=1*i.size:=by simp[hsz]
  have hrun:∀(v:Value)(w':World),(Builtin.append_ #[t,t] o.type #[a.eval x,a.eval y]).run P w=.ok v w'->(execOp a.eval o).run P w=.ok (.value v) w':=λv w' hr=>by
   simp only[execOp,ho,resolve,Ai,Ch,Aw,invoke,builtin,List.map_toArray,B7,Cv,hr]
  rcases h.sp (h.ev hx) hk hn with⟨b,cc,r,u,_,hv,hρ,h3,h4,hc,hcm,hwe,hcells,hu⟩|⟨_,_,_,_,hz⟩
  ·unfold Oper.wp;have hroom:n+1<=cc:=by omega
   have hle:(n+1)*s.n<=cc*s.n:=C2 _ hroom;have hnn:(n+1)*s.n=n*s.n+s.n:=by rw[Dg,Gb]
   have hr:=run_append_room (P:=P) w t o.type s.e i ht hq b n cc r h3 ad 1 cap _ hlenN hcell hone' hroom (by rw[hsz];simp;omega);rw[hsz]at hr;rw[hrun _ _ (by rw[hv,hvy];exact hr)];have hpl:(r.toList.take (n*s.n)).length=n*s.n:=by simp;omega
   refine hK ρ _ _ (h.write hρ hk ⟨rfl,by simp⟩ hR rfl rfl rfl sI0 (λj hj=>F9 w b j _ hj) λ_ keep=>?_) (.sp _ _ _ _ λs1 els1 h1=>?_)
   ·refine .row s (els.set n el) _ (λi j=>if i=n then u' 0 j else u i j) (Fj w b r _ s.e _ h3) ?_ (by simp;omega) hcm (λe he=>?_) (λi' e' hi' j' x hj'=>?_) λi' e' hi' j' x hj'=>?_
    ·simp only[F3,B8,Ep,Bw,Ab,List.length_range];rw[hpl];omega
    ·rcases D9 he with h5|rfl
     ·exact hwe _ h5
     ·exact hw
    ·have hel':e'.length=s.n:=by
      rcases D9 (Af hi')with h5|rfl
      ·exact hwe _ h5
      ·exact hw
     have hj2:j'<s.n:=by have:=(A7.1 hj').1;omega
     rw[Dx]
     by_cases e1:i'=n
     ·subst e1;have:e'=el:=by
       rw[Bp oM0]at hi';exact(C0 hi').symm
      subst this;rw[A5 rfl,Ci,B4 oM0,hpl,Au (by simp;omega)];have:i'*s.n+j'-i'*s.n=j':=by omega
      rw[this,Bc,List.getElem?_range hj2,Da,Fb hj2,Es hj2]
     ·rw[Bo (C4 e1)]at hi';rw[A1 e1];have h5:=hcells i' e' hi' j' x hj';rcases Dy i' n with hlt|hge
      ·have:(i'+1)*s.n<=n*s.n:=C2 _ oM0;rw[Dg,Gb]at this;rw[Ci,Au oM0,C3,A5 oM0,Bh,h5]
      ·have:(n+1)*s.n<=i'*s.n:=C2 _ oM0;rw[B4 (by simp;omega),Ct,Bh,<- h5]
       congr 1
       simp;omega
    ·by_cases e1:i'=n
     ·subst e1;have:e'=el:=by
       rw[Bp oM0]at hi';exact(C0 hi').symm
      subst this;rw[A5 rfl];exact keep _ _ (hr' 0 e' rfl j' x hj')
     ·rw[Bo (C4 e1)]at hi';rw[A1 e1];exact keep _ _ (hu i' e' hi' j' x hj')
   ·rw[hlk']at h1;cases h1
    exact⟨by simp;omega,λ_=>.inl ⟨by omega,b,cc,hρ,rfl⟩⟩
  ·omega
theorem Ok.reI{t:Nat}{y y' x:IV}{σ σ':Heap'}(ht:fr.get t=some y)(h1:∀F ρ σ w v,RepI F ρ σ w y v->RepI F ρ σ w y' v)(h2:∀F ρ σ w v,RepI F ρ σ w y' v->RepI F ρ σ w y v)(h:Ok P c o ((t,y')::fr) σ x σ'):Ok P c o fr σ x σ':=by
 intro ρ w a Kc Q ha hK;have ha2:All c ρ σ w ((t,y')::fr) a:=ha.putFr ht λu hu=>h1 _ _ _ _ _ hu;refine h ρ w a Kc Q ha2 λρ' w' u ha' hu=>hK ρ' w' u ⟨ha'.rel,λt' z hz=>?_,ha'.tr,ha'.df,ha'.sz,ha'.kk⟩ hu
 by_cases e:t=t'
 ·subst e;rw[ht]at hz
  cases hz
  obtain⟨v,hv,hr⟩:=ha'.fr t y' (by simp[Fr.get]);exact⟨v,hv,h2 _ _ _ _ _ hr⟩
 ·exact ha'.fr t' z (by simp only[Fr.get,z45 e];exact hz)
theorem y13{t k m u v by_:Nat}{s:RT}{els:List (List PV)}{el:List PV}(hut:Nat.beq u v=false)(ho:o.op=.call { callee:=.builtin .append,args:=#[.tmp u,.tmp v],argTypes:=#[t,t] })(hx:fr.get u=some (.sp k m m))(hy:fr.get v=some (.pv (.seq [el])))
 (hk:look hp k=some (.row s els)) (hn:els.length=m) (hR:¬c.R k) (ht:P.underlying t=some (.slice s.e)) (hi:(P.info? s.e).map (λi=>(i.size,i.bytes,(i.zero.map λz=>z.cells.size)))=some (s.n,by_,some s.n)) (hs:0<s.n)
 (hw:el.length=s.n) (hone:∀x∈el,x.one=true) (hmax:m+1<=maxLen) (hb:(m+1)*by_<=140737488355328) :
 Ok P c o fr (look hp) (.sp k (m+1) (m+1)) (look ((k,some (.row s (els++[el])))::hp)):=by
 refine Ok.reI (y':=.sl k m) hx (λ_ _ _ _ _ h=>h.ofSp) (λ_ _ _ _ _ h=>h.toSp) ?_;have hu:Fr.ev ((u,.sl k m)::fr) (.tmp u)=some (.sl k m):=by simp[Fr.ev,Fr.get]
 have hv:Fr.ev ((u,.sl k m)::fr) (.tmp v)=some (.pv (.seq [el])):=by simp only[Fr.ev,Fr.get,hut];exact hy
 have:=aPp (c:=c) (hp:=hp) ho hu hv hk hn hR ht hi hs (λe he=>by rw[Al.1 he];exact hw) (λe he x hx=>by rw[Al.1 he]at hx;exact hone x hx) hmax hb;exact λρ w a Kc Q ha hK=>this ρ w a Kc Q ha λρ' w' u ha' hu=>hK ρ' w' u ha' hu.toSp
end
section
variable {P:Program} {o:Oper} {fr fr2:Fr} {hp hp2:Hp} {Rl:List Nat}
inductive TI where
 |int (k:IntKind)
 |bool
 |str
 |slice (e:Nat)
 |struct (fs:List (Nat×Nat))
 |arr (len e:Nat)
 |map (k e:Nat)
 |ptr (e:Nat)
 |one
inductive ZV where
 |int (k:IntKind)
 |bool
 |str
 |slice
 |map
 |ptr
 |fn
 |iface
def ZV.val:ZV->Value
 |.int k=>.int k 0
 |.bool=>.bool false
 |.str=>.string ⟨#[]⟩
 |.slice=>.slice none 0 0
 |.map=>.map none
 |.ptr=>.pointer none
 |.fn=>.nilFunc
 |.iface=>.nilIface
def ZV.isB:ZV->Value->Bool
 |.int k,.int k' n=>k'==k&&n==0
 |.bool,.bool b=>!b
 |.str,.string s=>s.data.isEmpty
 |.slice,.slice none 0 0=>true
 |.map,.map none=>true
 |.ptr,.pointer none=>true
 |.fn,.nilFunc=>true
 |.iface,.nilIface=>true
 |_,_=>false
theorem ZV.isB_ok{z:ZV}{v:Value}(h:z.isB v=true):v=z.val:=by
 unfold ZV.isB at h;split at h
 ·simp only[A0,At]at h;simp[ZV.val,h.1,h.2]
 ·simp only[Bi]at h;subst h;rfl
 ·rename_i s;have:s.data = #[]:=by simpa using h
  cases s;simp_all[ZV.val]
 all_goals first|rfl|cases h
structure TE where
 i:TI
 n:Nat
 b:Nat
 z:List ZV
def TI.row:TI->Bool
 |.struct _=>true
 |.arr ..=>true
 |_=>false
def TI.is:TI->TypeDesc->Prop
 |.int k,d=>d=.int k
 |.bool,d=>d=.bool
 |.str,d=>d=.string
 |.slice e,d=>d=.slice e
 |.struct fs,d=>∃a,d=.struct a/\a.toList.map (λf=>(f.offset,f.type))=fs
 |.arr len e,d=>d=.array len e
 |.map k e,d=>d=.map k e
 |.ptr e,d=>d=.pointer e
 |.one,d=>d.isRow=false
def TI.isB:TI->TypeDesc->Bool
 |.int k,.int k'=>k'==k
 |.bool,.bool=>true
 |.str,.string=>true
 |.slice e,.slice e'=>Nat.beq e' e
 |.struct fs,.struct a=>a.toList.map (λf=>(f.offset,f.type))==fs
 |.arr len e,.array len' e'=>Nat.beq len' len&&Nat.beq e' e
 |.map k e,.map k' e'=>Nat.beq k' k&&Nat.beq e' e
 |.ptr e,.pointer e'=>Nat.beq e' e
 |.one,d=>!d.isRow
 |_,_=>false
theorem TI.isB_ok{i:TI}{d:TypeDesc}(h:i.isB d=true):i.is d:=by
 unfold TI.isB at h;split at h
 ·simp only[At]at h;simp[TI.is,h]
 ·rfl
 ·rfl
 ·simp[TI.is,Ak h]
 ·exact⟨_,rfl,by simpa using h⟩
 iterate 2 ·simp only[A0]at h;simp[TI.is,Ak h.1,Ak h.2]
 ·simp[TI.is,Ak h]
 ·simpa[TI.is]using h
 ·cases h
theorem TI.is_row{i:TI}{d:TypeDesc}(h:i.is d):d.isRow=i.row:=by
 cases i with
 |struct fs=>obtain⟨a,rfl,_⟩:=h;rfl
 |one=>exact h
 |_=>cases h;rfl
def zsB:List ZV->List Value->Bool
 |[],[]=>true
 |z::r,v::s=>z.isB v&&zsB r s
 |_,_=>false
theorem zsB_ok:∀{l:List ZV}{m:List Value},zsB l m=true->m=l.map ZV.val
 |[],[],_=>rfl
 |z::r,v::s,h=>by
  simp only[zsB,A0]at h;rw[ZV.isB_ok h.1,zsB_ok h.2];rfl
def TE.zv(e:TE):Value:=match e.i.row with
 |true=>.agg (e.z.map ZV.val).toArray
 |false=>(e.z.headD .bool).val
def TE.zB(e:TE)(v:Value):Bool:=match e.i.row with
 |true=>match v with
  |.agg cs=>zsB e.z cs.toList
  |_=>false
 |false=>match e.z with
  |[z]=>z.isB v
  |_=>false
theorem TE.zB_ok{e:TE}{v:Value}(h:e.zB v=true):v=e.zv/\v.cells.toList=e.z.map ZV.val:=by
 unfold TE.zB at h;unfold TE.zv;split at h
 ·rename_i hr;split at h
  ·rename_i cs;have:=zsB_ok h;exact⟨by simp[<- this],this⟩
  ·cases h
 ·rename_i hr;split at h
  ·rename_i z hz;obtain rfl:=ZV.isB_ok h;rw[hz];exact⟨rfl,by cases z<;>rfl⟩
  ·cases h
def teB(P:Program)(t:Nat)(e:TE):Bool :=
 (match P.underlying t with
  |some d=>e.i.isB d
  |none=>false) &&
 (match P.info? t with
  |some i=>Nat.beq i.size e.n&&Nat.beq i.bytes e.b&&(match e.z with
   |[]=>true
   |_=>Nat.beq e.z.length e.n&&(match i.zero with
    |some z=>e.zB z
    |none=>false))
  |none=>false)
section
variable {t:Nat} {e:TE}
theorem z3k(h:teB P t e=true):∃d,P.underlying t=some d/\e.i.is d:=by
 unfold teB at h;simp only[A0]at h;replace h:=h.1;split at h
 ·rename_i d hd;exact⟨d,hd,TI.isB_ok h⟩
 ·cases h
theorem y2h(h:teB P t e=true):∃i,P.info? t=some i/\i.size=e.n/\i.bytes=e.b/\(e.z≠[]->e.z.length=e.n/\i.zero=some e.zv/\e.zv.cells.toList=e.z.map ZV.val):=by
 unfold teB at h;simp only[A0]at h;replace h:=h.2;split at h
 ·rename_i i hi;simp only[A0]at h;refine⟨i,hi,Ak h.1.1,Ak h.1.2,λhz=>?_⟩;have h2:=h.2;split at h2
  ·rename_i h0;exact A9 h0 hz
  ·simp only[A0]at h2;have h3:=h2.2;split at h3
   ·rename_i z hz;obtain⟨rfl,h4⟩:=TE.zB_ok h3;exact⟨Ak h2.1,hz,h4⟩
   ·cases h3
 ·cases h
theorem z2m(h:teB P t e=true):(P.info? t).map (·.size)=some e.n:=by
 obtain⟨i,hi,h1,_⟩:=y2h h;simp[hi,h1]
theorem te_by(h:teB P t e=true):(P.info? t).map (λi=>(i.size,i.bytes))=some (e.n,e.b):=by
 obtain⟨i,hi,h1,h2,_⟩:=y2h h;simp[hi,h1,h2]
theorem z84(h:teB P t e=true)(hz:e.z≠[]):(P.info? t).bind (·.zero)=some e.zv:=by
 obtain⟨i,hi,_,_,h2⟩:=y2h h;simp[hi,(h2 hz).2.1]
theorem z6k(h:teB P t e=true)(hz:e.z≠[]):e.zv.cells.toList=e.z.map ZV.val/\e.zv.cells.size=e.n:=by
 obtain⟨i,hi,_,_,h2⟩:=y2h h;refine⟨(h2 hz).2.2,?_⟩;rw[<- Bw,(h2 hz).2.2,Ab];exact(h2 hz).1
theorem te_app(h:teB P t e=true)(hz:e.z≠[]):(P.info? t).map (λi=>(i.size,i.bytes,(i.zero.map λz=>z.cells.size)))=some (e.n,e.b,some e.n):=by
 obtain⟨i,hi,h1,h2,h3⟩:=y2h h;simp[hi,h1,h2,(h3 hz).2.1,(z6k h hz).2]
end
structure TB(P:Program) where
 ti:Nat->Option TE
 tok:∀t e,ti t=some e->teB P t e=true
 fn:Nat->Bool
 fok:∀f,fn f=true->z6n P f
 mx:P.follows .mixedOrders=true
def tFind:List (Nat×TE)->Nat->Option TE
 |[],_=>none
 |(k,e)::r,t=>match Nat.beq k t with
  |true=>some e
  |false=>tFind r t
def tAll(P:Program):List (Nat×TE)->Bool
 |[]=>true
 |(k,e)::r=>teB P k e&&tAll P r
theorem ys1:∀{l:List (Nat×TE)} {t:Nat} {e:TE},tAll P l=true->tFind l t=some e->teB P t e=true
 |[],_,_,_,h=>by cases h
 |(k,e')::r,t,e,h1,h=>by
  simp only[tAll,A0]at h1;simp only[tFind]at h;split at h
  ·rename_i hb;obtain rfl:=Ak hb
   cases h;exact h1.1
  ·exact ys1 h1.2 h
def entB(P:Program)(f:Nat):Bool:=match P.funcs[f]? with
 |some fn=>!(fn.name == "runtime.NumGoroutine") && !fn.body.isNone
 |none=>false
theorem entB_ok{f:Nat}(h:entB P f=true):z6n P f:=by
 unfold entB at h;split at h
 ·rename_i fn hf;simp only[A0,Bi]at h;exact⟨fn,hf,h.1,h.2⟩
 ·cases h
def nIn(k:Nat):List Nat->Bool
 |[]=>false
 |j::r=>match Nat.beq j k with
  |true=>true
  |false=>nIn k r
theorem z69{k:Nat}:∀{l:List Nat},nIn k l=true↔k∈l
 |[]=>by simp[nIn]
 |j::r=>by
  simp only[nIn,Aq];split
  ·rename_i h;simp[Ak h]
  ·rename_i h;have:k≠j:=λe=>by subst e;simp at h
   simp[this,z69]
theorem z3g{k:Nat}{l:List Nat}(h:nIn k l=false):k∉l:=λhm=>by rw[z69.2 hm]at h;cases h
def y7q(P:Program):List Nat->Bool
 |[]=>true
 |f::r=>entB P f&&y7q P r
theorem y7r{f:Nat}:∀{l:List Nat},y7q P l=true->nIn f l=true->z6n P f
 |[],_,h=>by cases h
 |g::r,h1,h=>by
  simp only[y7q,A0]at h1;simp only[nIn]at h;split at h
  ·rename_i hb;obtain rfl:=Ak hb;exact entB_ok h1.1
  ·exact y7r h1.2 h
def mkTB(P:Program)(l:List (Nat×TE))(q:List Nat)(h:tAll P l=true)(h2:y7q P q=true)(mx:P.follows .mixedOrders=true):TB P where
 ti t:=tFind l t
 tok _ _ ht:=ys1 h ht
 fn f:=nIn f q
 fok _ hf:=y7r h2 hf
 mx:=mx
structure Stp where
 x:IV
 wr:Hp
 rd:List Nat
 nw:List Nat
def agr(fr2 fr:Fr)(l:List Nat):Prop:=∀t∈l,fr2.get t=fr.get t
def agh(hp2 hp:Hp)(l:List Nat):Prop:=∀k∈l,look hp2 k=look hp k
def frsh(k:Nat)(fr:Fr)(hp:Hp):Bool:=match nmFr k fr with
 |true=>false
 |false=>match nmHp k hp with
  |true=>false
  |false=>match look hp k with
   |none=>true
   |some _=>false
theorem z47{k:Nat}(h:frsh k fr hp=true):nmFr k fr=false/\nmHp k hp=false/\look hp k=none:=by
 unfold frsh at h;split at h
 ·cases h
 ·rename_i h1;split at h
  ·cases h
  ·rename_i h2;split at h
   ·rename_i h3;exact⟨h1,h2,h3⟩
   ·cases h
def j50(l:List Operand):List Nat:=l.flatMap λ
 |.tmp t=>[t]
 |_=>[]
def z1c(op:Op):List Nat:=j50 op.operands.toList
theorem agr.evO{l:List Operand}(h:agr fr2 fr (j50 l)){y:Operand}(hy:y∈l):fr2.ev y=fr.ev y:=by
 cases y with
 |tmp t=>exact h t (List.mem_flatMap.2 ⟨.tmp t,hy,Al.2 rfl⟩)
 |_=>rfl
theorem agr.ev{op:Op}(h:agr fr2 fr (z1c op)){y:Operand}{x:IV}(hx:fr.ev y=some x)(hy:y∈op.operands.toList):fr2.ev y=some x:=(h.evO hy).trans hx
theorem agr.evs{op:Op}(h:agr fr2 fr (z1c op)):∀{os:List Operand}{xs:List IV},evs fr os=some xs->(∀y∈os,y∈op.operands.toList)->evs fr2 os=some xs
 |[],xs,hx,_=>hx
 |y::r,xs,hx,hy=>by
  simp only[Go.Proofs.YtjlaalpfpecikaaGreatDoor.evs]at hx⊢;split at hx
  ·rename_i a b h1 h2;rw[h.ev h1 (hy y (.head _)),h.evs h2 λz hz=>hy z (.tail _ hz)];exact hx
  ·cases hx
theorem agr.evParts{op:Op}(h:agr fr2 fr (z1c op)):∀{ps:List (Nat×Operand)} {xs:List (Nat×IV)},z4u fr ps=some xs->(∀y∈ps,y.2∈op.operands.toList)->z4u fr2 ps=some xs
 |[],xs,hx,_=>hx
 |(i,y)::r,xs,hx,hy=>by
  simp only[Go.Proofs.YtjlaalpfpecikaaGreatDoor.z4u]at hx⊢;split at hx
  ·rename_i a b h1 h2;rw[h.ev h1 (hy (i,y) (.head _)),h.evParts h2 λz hz=>hy z (.tail _ hz)];exact hx
  ·cases hx
theorem agh.at{rd:List Nat}(h:agh hp2 hp rd){k:Nat}{ob:Option HO}(hk:look hp k=ob)(hm:k∈rd):look hp2 k=ob:=(h k hm).trans hk
def OkF(P:Program)(Rl:List Nat)(o:Oper)(fr:Fr)(hp:Hp)(s:Stp):Prop :=
 ∀(c:Cx) fr2 hp2,(∀k,c.R k->k∈Rl)->(∀k∈s.nw,c.σ k=none)->agr fr2 fr (z1c o.op)->agh hp2 hp s.rd->(∀k∈s.nw,frsh k fr2 hp2=true)->Ok P c o fr2 (look hp2) s.x (look (s.wr++hp2))
theorem OkF.pure{x:IV}{rd:List Nat}(h:∀(c:Cx) (R1:Nat->Prop) fr2 hp2,agr fr2 fr (z1c o.op)->agh hp2 hp rd->(∀k∈rd,R1 k)->OkV P c R1 o fr2 (look hp2) x):OkF P Rl o fr hp ⟨x,[],rd,[]⟩ :=
 λc fr2 hp2 _ _ ha hh _=>(h c (λ_=>True) fr2 hp2 ha hh λ_ _=>trivial).ok
inductive VAny(P:Program)(Rl:List Nat)(o:Oper)(fr:Fr)(hp:Hp)(K:Stp->Prop):Prop
 |mk {s:Stp} (h:OkF P Rl o fr hp s) (k:K s)
def Does(P:Program)(Rl:List Nat)(o:Oper)(fr:Fr)(hp:Hp)(K:Stp->Prop):Prop:=∃s,K s/\OkF P Rl o fr hp s
def frcI:List IV->(List IV->Prop)->Prop
 |[],K=>K []
 |x::r,K=>frcI r λl=>K (x::l)
theorem z67:∀{l:List IV}{K:List IV->Prop},frcI l K->K l
 |[],_,h=>h
 |_::r,K,h=>z67 (l:=r) (K:=λl=>K (_::l)) h
def frcP:List PV->(List PV->Prop)->Prop
 |[],K=>K []
 |x::r,K=>frcP r λl=>K (x::l)
theorem z8m:∀{l:List PV}{K:List PV->Prop},frcP l K->K l
 |[],_,h=>h
 |_::r,K,h=>z8m (l:=r) (K:=λl=>K (_::l)) h
def bsel(b:Bool)(A B:Prop):Prop:=match b with
 |true=>A
 |false=>B
theorem z00{b:Bool}{A B:Prop}(ht:b=true->A)(hf:b=false->B):bsel b A B:=by
 cases b with
 |true=>exact ht rfl
 |false=>exact hf rfl
def vev(fr:Fr)(y:Operand)(K:IV->Prop):Prop:=match fr.ev y with
 |some x=>K x
 |none=>False
theorem z1p{y:Operand}{K:IV->Prop}(h:vev fr y K):∃x,fr.ev y=some x/\K x:=by
 unfold vev at h;split at h
 ·rename_i x hx;exact⟨x,hx,h⟩
 ·exact h.elim
def vti(T:TB P)(t:Nat)(K:TE->Prop):Prop:=match T.ti t with
 |some e=>K e
 |none=>False
theorem z1q{T:TB P}{t:Nat}{K:TE->Prop}(h:vti T t K):∃e,teB P t e=true/\K e:=by
 unfold vti at h;split at h
 ·rename_i e he;exact⟨e,T.tok _ _ he,h⟩
 ·exact h.elim
def vbox(hp:Hp)(k:Nat)(K:List IV->Prop):Prop:=match look hp k with
 |some (.box cs)=>K cs
 |_=>False
theorem z4f{k:Nat}{K:List IV->Prop}(h:vbox hp k K):∃cs,look hp k=some (.box cs)/\K cs:=by
 unfold vbox at h;split at h
 ·rename_i cs hk;exact⟨cs,hk,h⟩
 ·exact h.elim
def vrow(hp:Hp)(k:Nat)(K:RT->List (List PV)->Prop):Prop:=match look hp k with
 |some (.row s els)=>K s els
 |_=>False
theorem z3p{k:Nat}{K:RT->List (List PV)->Prop}(h:vrow hp k K):∃s els,look hp k=some (.row s els)/\K s els:=by
 unfold vrow at h;split at h
 ·rename_i s els hk;exact⟨s,els,hk,h⟩
 ·exact h.elim
def vmap(hp:Hp)(k:Nat)(K:List (Value×PV)->Prop):Prop:=match look hp k with
 |some (.map es)=>K es
 |_=>False
theorem y79{k:Nat}{K:List (Value×PV)->Prop}(h:vmap hp k K):∃es,look hp k=some (.map es)/\K es:=by
 unfold vmap at h;split at h
 ·rename_i es hk;exact⟨es,hk,h⟩
 ·exact h.elim
def z2c(b:Bool)(A:Prop):Prop:=match b with
 |true=>A
 |false=>False
theorem z0e{b:Bool}{A:Prop}(h:z2c b A):b=true/\A:=by
 unfold z2c at h;split at h
 ·exact⟨rfl,h⟩
 ·exact h.elim
def vopt{α:Type}(x:Option α)(K:α -> Prop):Prop:=match x with
 |some a=>K a
 |none=>False
theorem z0l{α:Type}{x:Option α}{K:α -> Prop}(h:vopt x K):∃a,x=some a/\K a:=by
 unfold vopt at h;split at h
 ·exact⟨_,rfl,h⟩
 ·exact h.elim
def z03:IV->List Nat
 |.pv _=>[]
 |.ptr k _=>[k]
 |.sl k _=>[k]
 |.rpt k _ _=>[k]
 |.sp k _ _=>[k]
 |.bs k _=>[k]
 |.mp k=>[k]
 |_=>[]
def j0e(hp:Hp)(z:IV)(A:Prop):Prop:=match z with
 |.pv p=>z2c p.one A
 |.ptr k _=>vbox hp k λ_=>A
 |.sl k n=>vrow hp k λ_ els=>els.length=n/\A
 |.sp k _ n=>vrow hp k λ_ els=>els.length=n/\A
 |.bs k _=>vbox hp k λ_=>A
 |.mp k=>vmap hp k λ_=>A
 |.fn ..=>A
 |_=>False
theorem y07{z:IV}{A:Prop}(h:j0e hp z A):A/\∀hp2,agh hp2 hp (z03 z)->z.firm (look hp2):=by
 unfold j0e at h;split at h
 ·obtain⟨h1,h2⟩:=z0e h;exact⟨h2,λ_ _=>h1⟩
 ·obtain⟨cs,h1,h2⟩:=z4f h;exact⟨h2,λhp2 hh=>⟨cs,hh.at h1 (.head _)⟩⟩
 iterate 2 ·obtain⟨s,els,h1,h2,h3⟩:=z3p h;exact⟨h3,λhp2 hh=>⟨s,els,hh.at h1 (.head _),h2⟩⟩
 ·obtain⟨cs,h1,h2⟩:=z4f h;exact⟨h2,λhp2 hh=>⟨cs,hh.at h1 (.head _)⟩⟩
 ·obtain⟨cs,h1,h2⟩:=y79 h;exact⟨h2,λhp2 hh=>⟨cs,hh.at h1 (.head _)⟩⟩
 ·exact⟨h,λ_ _=>trivial⟩
 ·exact h.elim
def j60(hp:Hp):List IV->Prop->Prop
 |[],A=>A
 |z::r,A=>j0e hp z (j60 hp r A)
theorem ya5:∀{l:List IV}{A:Prop},j60 hp l A->A/\∀hp2,agh hp2 hp (l.flatMap z03)->∀z∈l,z.firm (look hp2)
 |[],A,h=>⟨h,λ_ _ z hz=>by cases hz⟩
 |z::r,A,h=>by
  obtain⟨h1,h2⟩:=y07 h;obtain⟨h3,h4⟩:=ya5 h1;refine⟨h3,λhp2 hh y hy=>?_⟩;simp only[F2]at hh;rcases Aq.1 hy with rfl|hy
  ·exact h2 hp2 λk hk=>hh k (Bq _ hk)
  ·exact h4 hp2 (λk hk=>hh k (C9 _ hk)) y hy
end
section
variable {P:Program} {T:TB P} {o:Oper} {fr:Fr} {hp:Hp} {Rl:List Nat} {K:Stp->Prop}
def ya4(fr:Fr)(y:Operand)(K:Stp->Prop):Prop:=vev fr y λx=>K ⟨x,[],[],[]⟩
theorem vMove_ok{y:Operand}(ho:o.op=.move y)(h:ya4 fr y K):Does P Rl o fr hp K:=by
 obtain⟨x,hx,hk⟩:=z1p h;exact⟨_,hk,.pure λc R1 fr2 hp2 ha _ _=>z2p ho (ha.ev hx (by rw[ho];simp[Op.operands]))⟩
theorem j07{y:Operand}(ho:o.op=.assign y)(h:ya4 fr y K):Does P Rl o fr hp K:=by
 obtain⟨x,hx,hk⟩:=z1p h;exact⟨_,hk,.pure λc R1 fr2 hp2 ha _ _=>z3s ho (ha.ev hx (by rw[ho];simp[Op.operands]))⟩
def vPick(fr:Fr)(q y w:Operand)(K:Stp->Prop):Prop:=vev fr q λb=>match b with
 |.pv (.val (.bool t))=>bsel t (ya4 fr y K) (ya4 fr w K)
 |_=>False
theorem vPick_ok{q y w:Operand}(ho:o.op=.pick q y w)(h:vPick fr q y w K):Does P Rl o fr hp K:=by
 obtain⟨b,hb,hk⟩:=z1p h;split at hk
 ·rename_i t
  cases t with
  |true =>
   obtain⟨x,hx,hk⟩:=z1p (show ya4 fr y K from hk)
   exact⟨_,hk,.pure λc R1 fr2 hp2 ha _ _=>z5h ho (ha.ev hb (by rw[ho];simp[Op.operands])) (ha.ev hx (by rw[ho];simp[Op.operands]))⟩
  |false =>
   obtain⟨x,hx,hk⟩:=z1p (show ya4 fr w K from hk);exact⟨_,hk,.pure λc R1 fr2 hp2 ha _ _=>z1j ho (ha.ev hb (by rw[ho];simp[Op.operands])) (ha.ev hx (by rw[ho];simp[Op.operands]))⟩
 ·exact hk.elim
def j0u:BinOp->Int->Int->Option Bool
 |.eql,m,n=>some (m==n)
 |.neq,m,n=>some (m != n)
 |.lss,m,n=>some (decide (m<n))
 |.leq,m,n=>some (decide (m<=n))
 |.gtr,m,n=>some (decide (m > n))
 |.geq,m,n=>some (decide (m≥n))
 |_,_,_=>none
theorem j0v{p:BinOp}{k:IntKind}{m n:Int}{b:Bool}(h:j0u p m n=some b):z3f p k m n=some (.bool b):=by
 cases p<;>simp only[j0u]at h<;>first|(cases h;done)|(cases h;rfl)
def j0w:BinOp->ByteArray->ByteArray->Option Bool
 |.eql,x,y=>some (x.toList==y.toList)
 |.neq,x,y=>some (!(x.toList==y.toList))
 |.lss,x,y=>some (Op.bytesLess x.toList y.toList)
 |.leq,x,y=>some (Op.bytesLess x.toList y.toList||x.toList==y.toList)
 |.gtr,x,y=>some (!(Op.bytesLess x.toList y.toList||x.toList==y.toList))
 |.geq,x,y=>some (!Op.bytesLess x.toList y.toList)
 |_,_,_=>none
theorem j0x{p:BinOp}{x y:ByteArray}{b:Bool}(h:j0w p x y=some b):y51 p x y=some (.bool b):=by
 cases p<;>simp only[j0w]at h<;>first|(cases h;done)|(cases h;rfl)
theorem y1t{op:BinOp}{t:TypeId}{x y:Operand}{p q:Option Addr}(w:World):(eqGuard op t x y (.pointer p) (.pointer q)).run P w=.ok () w:=by
 unfold eqGuard;split<;>simp
theorem zs7{tp te:TypeId}{w:World}(p:Option Addr)(hp:P.underlying tp=some (.pointer te)):(Op.equal tp (.pointer p) (.pointer none)).run P w=.ok p.isNone w:=by
 have h:∀d:Nat,(Op.equalIn (d+1) tp (.pointer p) (.pointer none)).run P w=.ok p.isNone w:=λd=>by
  cases p<;>simp[Op.equalIn,B9 hp]
 simp[Op.equal,Op.maxDepth,h 9999]
theorem y2z{op:BinOp}{t:TypeId}{x y:Operand}{p q:Option Addr}{n m n' m':Nat}(w:World):(eqGuard op t x y (.slice p n m) (.slice q n' m')).run P w=.ok () w:=by
 unfold eqGuard;split<;>simp
theorem zy0{tp te:TypeId}{w:World}(p:Option Addr)(n m:Nat)(hp:P.underlying tp=some (.slice te)):(Op.equal tp (.slice p n m) (.slice none 0 0)).run P w=.ok p.isNone w:=by
 have h:∀d:Nat,(Op.equalIn (d+1) tp (.slice p n m) (.slice none 0 0)).run P w=.ok p.isNone w:=λd=>by
  cases p<;>simp[Op.equalIn,B9 hp]
 simp[Op.equal,Op.maxDepth,h 9999]
def y3a:BinOp->Bool->Option Bool
 |.eql,b=>some b
 |.neq,b=>some (!b)
 |_,_=>none
def pvNil:PV->Option Bool
 |.ept _ _=>some false
 |.val (.pointer none)=>some true
 |_=>none
theorem pvNil_ok{own:Nat->Prop}{w:World}{q:PV}{b:Bool}{v:Value}(h:pvNil q=some b)(hr:RepP own w q v):∃p,v=.pointer p/\p.isNone=b:=by
 unfold pvNil at h;split at h
 ·cases h
  cases hr with
  |ept _ _ b o' u hb hc hr1=>exact⟨_,rfl,rfl⟩
 ·cases h
  cases hr with
  |val=>exact⟨none,rfl,rfl⟩
 ·cases h
theorem j2e{c:Cx}{R1:Nat->Prop}{op:BinOp}{t u te:TypeId}{x y:Operand}{q:PV}{b r:Bool}{σ:Heap'}(ho:o.op=.binOp op t x y u)(hx:fr.ev x=some (.pv q))(hy:fr.ev y=some (.pv (.val (.pointer none))))(hq:pvNil q=some b)(hr:y3a op b=some r)
 (ht:P.underlying t=some (.pointer te)):OkV P c R1 o fr σ (.pv (.val (.bool r))):=λρ w a h=>by
 have hv:=h.ev hx;have hn:=h.ev hy;generalize hg:a.eval x=v at hv;generalize hg2:a.eval y=v2 at hn
 cases hv with
 |pv _ _ hv =>
  obtain⟨p,rfl,hp⟩:=pvNil_ok hq hv;obtain rfl:=hn.val;refine⟨_,λw2 _=>?_,z3c _⟩
  cases op<;>simp only[y3a]at hr<;>first
   |(cases hr;done)
   |(cases hr;subst hp;simp only[execOp,ho,hg,hg2,Ai,y1t,Aw,binOp,zs7 p ht];rfl)
def slNil:PV->Option Bool
 |.seq (_::_)=>some false
 |.val (.slice none _ _)=>some true
 |.val (.slice (some _) _ _)=>some false
 |_=>none
theorem slNil_ok{own:Nat->Prop}{w:World}{q:PV}{b:Bool}{v:Value}(h:slNil q=some b)(hr:RepP own w q v):∃p n m,v=.slice p n m/\p.isNone=b:=by
 unfold slNil at h;split at h
 ·cases h
  cases hr with
  |seq els a cap bb off u ha hb hl hm hc hr1=>exact⟨_,_,_,rfl,by rw[ha sI0];rfl⟩
 ·cases h
  cases hr with
  |val=>exact⟨none,_,_,rfl,rfl⟩
 ·cases h
  cases hr with
  |val=>exact⟨some _,_,_,rfl,rfl⟩
 ·cases h
theorem ok_cmpSl{c:Cx}{R1:Nat->Prop}{op:BinOp}{t u te:TypeId}{x y:Operand}{q:PV}{b r:Bool}{σ:Heap'}(ho:o.op=.binOp op t x y u)(hx:fr.ev x=some (.pv q))(hy:fr.ev y=some (.pv (.val (.slice none 0 0))))(hq:slNil q=some b)(hr:y3a op b=some r)
 (ht:P.underlying t=some (.slice te)):OkV P c R1 o fr σ (.pv (.val (.bool r))):=λρ w a h=>by
 have hv:=h.ev hx;have hn:=h.ev hy;generalize hg:a.eval x=v at hv;generalize hg2:a.eval y=v2 at hn
 cases hv with
 |pv _ _ hv =>
  obtain⟨p,n,m,rfl,hp⟩:=slNil_ok hq hv;obtain rfl:=hn.val;refine⟨_,λw2 _=>?_,z3c _⟩
  cases op<;>simp only[y3a]at hr<;>first
   |(cases hr;done)
   |(cases hr;subst hp;simp only[execOp,ho,hg,hg2,Ai,y2z,Aw,binOp,zy0 p n m ht];rfl)
inductive VBin(p:BinOp)(k:IntKind)(m n:Int)(K:Value->Prop):Prop
 |mk {v:Value} (h:z3f p k m n=some v) (k:K v)
inductive VStr(p:BinOp)(m n:ByteArray)(K:Value->Prop):Prop
 |mk {v:Value} (h:y51 p m n=some v) (k:K v)
def vBin(T:TB P)(p:BinOp)(t:Nat)(fr:Fr)(y w:Operand)(K:Stp->Prop):Prop:=vev fr y λa=>vev fr w λb=>match a with
 |.pv (.val (.int k m))=>match b with
  |.pv (.val (.int k' n))=>match p with
   |.shl=>0<=n/\K ⟨.pv (.val (.int k (k.wrap (m*2 ^ (min n.toNat k.bits))))),[],[],[]⟩
   |.shr=>0<=n/\K ⟨.pv (.val (.int k (m.fdiv (2 ^ (min n.toNat k.bits))))),[],[],[]⟩
   |p=>z2c (k'==k) (match j0u p m n with
    |some v=>K ⟨.pv (.val (.bool v)),[],[],[]⟩
    |none=>VBin p k m n λv=>K ⟨.pv (.val v),[],[],[]⟩)
  |_=>False
 |.pv (.val (.string m))=>match b with
  |.pv (.val (.string n))=>match j0w p m n with
   |some v=>K ⟨.pv (.val (.bool v)),[],[],[]⟩
   |none=>VStr p m n λv=>K ⟨.pv (.val v),[],[],[]⟩
  |_=>False
 |.pv (.val (.bool q))=>match b with
  |.pv (.val (.bool r))=>vti T t λe=>match e.i with
   |.bool=>match p with
    |.eql=>K ⟨.pv (.val (.bool (q==r))),[],[],[]⟩
    |.neq=>K ⟨.pv (.val (.bool (!(q==r)))),[],[],[]⟩
    |_=>False
   |_=>False
  |_=>False
 |.pv q=>match b with
  |.pv (.val (.pointer none))=>vopt (pvNil q) λn=>vopt (y3a p n) λr=>vti T t λe=>match e.i with
   |.ptr _=>K ⟨.pv (.val (.bool r)),[],[],[]⟩
   |_=>False
  |.pv (.val (.slice none 0 0))=>vopt (slNil q) λn=>vopt (y3a p n) λr=>vti T t λe=>match e.i with
   |.slice _=>K ⟨.pv (.val (.bool r)),[],[],[]⟩
   |_=>False
  |_=>False
 |_=>False
theorem vBin_ok{p:BinOp}{t u:Nat}{y w:Operand}(ho:o.op=.binOp p t y w u)(h:vBin T p t fr y w K):Does P Rl o fr hp K:=by
 obtain⟨a,ha,h⟩:=z1p h;obtain⟨b,hb,h⟩:=z1p h;have ea:∀{fr2:Fr},agr fr2 fr (z1c o.op)->fr2.ev y=some a:=λhg=>hg.ev ha (by rw[ho];simp[Op.operands]);have eb:∀{fr2:Fr},agr fr2 fr (z1c o.op)->fr2.ev w=some b:=λhg=>hg.ev hb (by rw[ho];simp[Op.operands]);split at h
 ·rename_i k m;split at h
  ·rename_i k' n;split at h
   ·exact⟨_,h.2,.pure λc R1 fr2 hp2 hg _ _=>ok_shl ho (ea hg) (eb hg) h.1⟩
   ·exact⟨_,h.2,.pure λc R1 fr2 hp2 hg _ _=>ok_shr ho (ea hg) (eb hg) h.1⟩
   ·obtain⟨hk,h⟩:=z0e h;obtain rfl:=Av hk;split at h
    ·rename_i v hv;exact⟨_,h,.pure λc R1 fr2 hp2 hg _ _=>zr7 ho (ea hg) (eb hg) (j0v hv)⟩
    ·obtain⟨h1,h2⟩:=h;exact⟨_,h2,.pure λc R1 fr2 hp2 hg _ _=>zr7 ho (ea hg) (eb hg) h1⟩
  ·exact h.elim
 ·split at h
  ·split at h
   ·rename_i v hv;exact⟨_,h,.pure λc R1 fr2 hp2 hg _ _=>bSt ho (ea hg) (eb hg) (j0x hv)⟩
   ·obtain⟨h1,h2⟩:=h;exact⟨_,h2,.pure λc R1 fr2 hp2 hg _ _=>bSt ho (ea hg) (eb hg) h1⟩
  ·exact h.elim
 ·split at h
  ·obtain⟨e,he,h⟩:=z1q h;obtain⟨d,hd,hi⟩:=z3k he;split at h
   ·rename_i hb;rw[hb]at hi
    cases hi
    split at h
    ·exact⟨_,h,.pure λc R1 fr2 hp2 hg _ _=>ye1 ho (ea hg) (eb hg) hd⟩
    ·exact⟨_,h,.pure λc R1 fr2 hp2 hg _ _=>ye6 ho (ea hg) (eb hg) hd⟩
    ·exact h.elim
   ·exact h.elim
  ·exact h.elim
 ·split at h
  ·obtain⟨n,hn,h⟩:=z0l h;obtain⟨r,hr,h⟩:=z0l h;obtain⟨e,he,h⟩:=z1q h;obtain⟨d,hd,hi⟩:=z3k he;split at h
   ·rename_i hb;rw[hb]at hi
    cases hi
    exact⟨_,h,.pure λc R1 fr2 hp2 hg _ _=>j2e ho (ea hg) (eb hg) hn hr hd⟩
   ·exact h.elim
  ·obtain⟨n,hn,h⟩:=z0l h;obtain⟨r,hr,h⟩:=z0l h;obtain⟨e,he,h⟩:=z1q h;obtain⟨d,hd,hi⟩:=z3k he;split at h
   ·rename_i hb;rw[hb]at hi
    cases hi
    exact⟨_,h,.pure λc R1 fr2 hp2 hg _ _=>ok_cmpSl ho (ea hg) (eb hg) hn hr hd⟩
   ·exact h.elim
  ·exact h.elim
 ·exact h.elim
def vUn(p:UnOp)(fr:Fr)(y:Operand)(K:Stp->Prop):Prop:=vev fr y λa=>match p with
 |.not=>match a with
  |.pv (.val (.bool b))=>K ⟨.pv (.val (.bool (!b))),[],[],[]⟩
  |_=>False
 |.neg=>match a with
  |.pv (.val (.int k n))=>K ⟨.pv (.val (.int k (k.wrap (0-n)))),[],[],[]⟩
  |_=>False
 |_=>False
theorem vUn_ok{p:UnOp}{t:Nat}{y:Operand}(ho:o.op=.unOp p t y)(h:vUn p fr y K):Does P Rl o fr hp K:=by
 obtain⟨a,ha,h⟩:=z1p h;have ea:∀{fr2:Fr},agr fr2 fr (z1c o.op)->fr2.ev y=some a:=λhg=>hg.ev ha (by rw[ho];simp[Op.operands]);split at h
 ·split at h
  ·exact⟨_,h,.pure λc R1 fr2 hp2 hg _ _=>yo2 ho (ea hg)⟩
  ·exact h.elim
 ·split at h
  ·exact⟨_,h,.pure λc R1 fr2 hp2 hg _ _=>ok_neg ho (ea hg)⟩
  ·exact h.elim
 ·exact h.elim
def vConv(T:TB P)(s t:Nat)(fr:Fr)(y:Operand)(K:Stp->Prop):Prop:=vev fr y λa=>match a with
 |.pv (.val (.int _ n))=>vti T s λ_=>vti T t λe=>match e.i with
  |.int k'=>K ⟨.pv (.val (.int k' (k'.wrap n))),[],[],[]⟩
  |_=>False
 |.pv (.seq els)=>vti T s λd=>vti T t λe=>match d.i with
  |.slice q=>vti T q λz=>match z.i with
   |.int .u8=>match e.i with
    |.str=>match y0b els with
     |some ns=>K ⟨.pv (.val (.string (y58 ns))),[],[],[]⟩
     |none=>False
    |_=>False
   |_=>False
  |_=>False
 |_=>False
theorem vConv_ok{s t:Nat}{y:Operand}(ho:o.op=.convert s t y)(h:vConv T s t fr y K):Does P Rl o fr hp K:=by
 obtain⟨a,ha,h⟩:=z1p h;have ea:∀{fr2:Fr},agr fr2 fr (z1c o.op)->fr2.ev y=some a:=λhg=>hg.ev ha (by rw[ho];simp[Op.operands]);split at h
 ·obtain⟨e1,he1,h⟩:=z1q h;obtain⟨e,he,h⟩:=z1q h;obtain⟨d1,hd1,_⟩:=z3k he1;obtain⟨d,hd,hi⟩:=z3k he;split at h
  ·rename_i hb;rw[hb]at hi
   cases hi
   exact⟨_,h,.pure λc R1 fr2 hp2 hg _ _=>y15 ho (ea hg) ⟨d1,hd1⟩ hd⟩
  ·exact h.elim
 ·obtain⟨e1,he1,h⟩:=z1q h;obtain⟨e,he,h⟩:=z1q h;obtain⟨d1,hd1,hi1⟩:=z3k he1;obtain⟨d,hd,hi⟩:=z3k he;split at h
  ·rename_i q hb1;rw[hb1]at hi1
   cases hi1
   obtain⟨z,hz,h⟩:=z1q h;obtain⟨d2,hd2,hi2⟩:=z3k hz;split at h
   ·rename_i hb2;rw[hb2]at hi2
    cases hi2
    split at h
    ·rename_i hb;rw[hb]at hi
     cases hi
     split at h
     ·rename_i ns hns;exact⟨_,h,.pure λc R1 fr2 hp2 hg _ _=>ye0 ho (ea hg) hns hd1 hd2 hd⟩
     ·exact h.elim
    ·exact h.elim
   ·exact h.elim
  ·exact h.elim
 ·exact h.elim
inductive VIdx(els:List (List PV))(m:Int)(K:List PV->Prop):Prop
 |mk {i:Nat} {el:List PV} (hi:els[i]?=some el) (hm:m=i) (k:K el)
inductive VIdR(n:Nat)(m:Int)(K:Nat->Prop):Prop
 |mk {i:Nat} (hi:i<n) (hm:m=i) (k:K i)
inductive VIdS(s:ByteArray)(m:Int)(K:UInt8->Prop):Prop
 |mk {i:Nat} {b:UInt8} (hi:s[i]?=some b) (hm:m=i) (k:K b)
def vIdxA(T:TB P)(t:Nat)(fr:Fr)(hp:Hp)(y w:Operand)(K:Stp->Prop):Prop:=vev fr y λa=>vev fr w λb=>match b with
 |.pv (.val (.int _ m))=>vti T t λe=>match e.i with
  |.slice q=>vti T q λeq=>match a with
   |.pv (.seq els)=>VIdx els m λel=>z2c (Nat.beq el.length eq.n) (K ⟨.pv (.ept el 0),[],[],[]⟩)
   |.sl k n=>vrow hp k λs els=>z2c (Nat.beq s.e q&&Nat.beq s.n eq.n) (els.length=n/\VIdR n m λi=>K ⟨.rpt k n (i*s.n),[],[k],[]⟩)
   |.bs k n=>vbox hp k λ_=>z2c (Nat.beq eq.n 1) (VIdR n m λi=>K ⟨.ptr k i,[],[k],[]⟩)
   |.sp k n m'=>vrow hp k λs els=>z2c (Nat.beq s.e q&&Nat.beq s.n eq.n) (els.length=m'/\VIdR n m λi=>K ⟨.rpt k m' (i*s.n),[],[k],[]⟩)
   |_=>False
  |.arr n q=>vti T q λeq=>match a with
   |.ptr k off=>vbox hp k λ_=>VIdR n m λi=>K ⟨.ptr k (off+i*eq.n),[],[k],[]⟩
   |_=>False
  |_=>False
 |_=>False
theorem vIdxA_ok{t:Nat}{y w:Operand}(ho:o.op=.indexAddr t y w)(h:vIdxA T t fr hp y w K):Does P Rl o fr hp K:=by
 obtain⟨a,ha,h⟩:=z1p h;obtain⟨b,hb,h⟩:=z1p h;have ea:∀{fr2:Fr},agr fr2 fr (z1c o.op)->fr2.ev y=some a:=λhg=>hg.ev ha (by rw[ho];simp[Op.operands]);have eb:∀{fr2:Fr},agr fr2 fr (z1c o.op)->fr2.ev w=some b:=λhg=>hg.ev hb (by rw[ho];simp[Op.operands]);split at h
 ·obtain⟨e,he,h⟩:=z1q h;obtain⟨d,hd,hi⟩:=z3k he;split at h
  ·rename_i q hq;rw[hq]at hi
   cases hi
   obtain⟨eq,heq,h⟩:=z1q h;split at h
   ·obtain⟨h1,h2,h⟩:=h;obtain⟨h3,h⟩:=z0e h;exact⟨_,h,.pure λc R1 fr2 hp2 hg _ _=>iSq ho (ea hg) (eb hg) hd h1 (z2m heq) (Ak h3) h2⟩
   ·rename_i k n;obtain⟨s,els,hk,h⟩:=z3p h;obtain⟨h3,h⟩:=z0e h;obtain⟨hn,h1,h2,h9⟩:=h;simp only[A0]at h3;obtain rfl:=Ak h3.1;exact⟨_,h9,.pure λc R1 fr2 hp2 hg hh _=>iRw ho (ea hg) (eb hg) (hh.at hk (.head _)) hn hd (by rw[z2m heq,Ak h3.2]) h1 h2⟩
   ·rename_i k n;obtain⟨cs,hk,h⟩:=z4f h;obtain⟨h3,h⟩:=z0e h;obtain⟨h1,h2,h⟩:=h;exact⟨_,h,.pure λc R1 fr2 hp2 hg hh _=>ye2 ho (ea hg) (eb hg) (hh.at hk (.head _)) hd (by rw[z2m heq,Ak h3]) h1 h2⟩
   ·rename_i k n m';obtain⟨s,els,hk,h⟩:=z3p h;obtain⟨h3,h⟩:=z0e h;obtain⟨hn,h1,h2,h9⟩:=h;simp only[A0]at h3;obtain rfl:=Ak h3.1;exact⟨_,h9,.pure λc R1 fr2 hp2 hg hh _=>ye3 ho (ea hg) (eb hg) (hh.at hk (.head _)) hn hd (by rw[z2m heq,Ak h3.2]) h1 h2⟩
   ·exact h.elim
  ·rename_i n q hq;rw[hq]at hi
   cases hi
   obtain⟨eq,heq,h⟩:=z1q h;split at h
   ·rename_i k off;obtain⟨cs,hk,h⟩:=z4f h;obtain⟨h1,h2,h⟩:=h;exact⟨_,h,.pure λc R1 fr2 hp2 hg hh _=>y8j ho (ea hg) (eb hg) (hh.at hk (.head _)) hd (z2m heq) h2 h1⟩
   ·exact h.elim
  ·exact h.elim
 ·exact h.elim
def vIdxV(T:TB P)(t:Nat)(fr:Fr)(y w:Operand)(K:Stp->Prop):Prop:=vev fr y λa=>vev fr w λb=>match b with
 |.pv (.val (.int _ m))=>match a with
  |.pv (.val (.string s))=>vti T t λe=>match e.i with
   |.str=>VIdS s m λb=>K ⟨.pv (.val (.int .u8 b.toNat)),[],[],[]⟩
   |_=>False
  |_=>False
 |_=>False
theorem vIdxV_ok{t:Nat}{y w:Operand}(ho:o.op=.index t y w)(h:vIdxV T t fr y w K):Does P Rl o fr hp K:=by
 obtain⟨a,ha,h⟩:=z1p h;obtain⟨b,hb,h⟩:=z1p h;have ea:∀{fr2:Fr},agr fr2 fr (z1c o.op)->fr2.ev y=some a:=λhg=>hg.ev ha (by rw[ho];simp[Op.operands]);have eb:∀{fr2:Fr},agr fr2 fr (z1c o.op)->fr2.ev w=some b:=λhg=>hg.ev hb (by rw[ho];simp[Op.operands]);split at h
 ·split at h
  ·obtain⟨e,he,h⟩:=z1q h;obtain⟨d,hd,hi⟩:=z3k he;split at h
   ·rename_i hq;rw[hq]at hi
    cases hi
    obtain⟨h1,h2,h⟩:=h;exact⟨_,h,.pure λc R1 fr2 hp2 hg _ _=>zv8 ho (ea hg) (eb hg) hd h1 h2⟩
   ·exact h.elim
  ·exact h.elim
 ·exact h.elim
theorem y8i{c:Cx}{R1:Nat->Prop}{t:TypeId}{x:Operand}{f fo:Nat}{k n off:Nat}{s:RT}{els:List (List PV)}(ho:o.op=.fieldAddr t x f)(hx:fr.ev x=some (.rpt k n off))(hk:look hp k=some (.row s els))(hn:els.length=n)
 (hfo:y55 P t f fo):OkV P c R1 o fr (look hp) (.rpt k n (off+fo)):=by
 refine λρ w a h=>?_;obtain⟨fs,fd,s',hu,hf,rfl,hs⟩:=hfo;obtain⟨b,cc,r,u,hv,hρ,h3,h4,hc,hcm,hwe,hcells,hu'⟩:=h.rpt hx hk hn;refine⟨.pointer (some ⟨b,off+fd.offset,none⟩),λw2 _=>?_,.rpt _ _ _ _ λs2 els2 h2=>?_⟩
 ·simp[execOp,ho,hv,Instr.fieldAt,Ai,B9 hu,hf,Instr.sureAddr,fieldPlace,z1a hs,Cu]
 ·rw[hk]at h2;cases h2
  exact⟨by omega,λ_=>⟨b,cc,hρ,rfl⟩⟩
theorem y19{c:Cx}{R1:Nat->Prop}{x:Operand}{k n off:Nat}{s:RT}{els:List (List PV)}(ho:o.op=.nilCheck x)(hx:fr.ev x=some (.rpt k n off))(hk:look hp k=some (.row s els))(hn:els.length=n):OkV P c R1 o fr (look hp) (.rpt k n off):=by
 intro ρ w a h;obtain⟨b,cc,r,u,hv,hρ,h3,h4,hc,hcm,hwe,hcells,hu'⟩:=h.rpt hx hk hn;refine⟨.pointer (some ⟨b,off,none⟩),λw2 _=>by simp[execOp,ho,hv],.rpt _ _ _ _ λs2 els2 h2=>?_⟩;rw[hk]at h2;cases h2
 exact⟨by omega,λ_=>⟨b,cc,hρ,rfl⟩⟩
def j5r(T:TB P)(t:Nat)(fr:Fr)(hp:Hp)(y:Operand)(f:Nat)(K:Stp->Prop):Prop:=vev fr y λa=>vti T t λe=>match e.i with
 |.struct fs=>vopt fs[f]? λp=>vti T p.2 λef=>z2c (Nat.blt 0 ef.n) (match a with
  |.pv (.ept cs off)=>K ⟨.pv (.ept cs (off+p.1)),[],[],[]⟩
  |.ptr k off=>vbox hp k λ_=>K ⟨.ptr k (off+p.1),[],[k],[]⟩
  |.rpt k n off=>vrow hp k λ_ els=>els.length=n/\K ⟨.rpt k n (off+p.1),[],[k],[]⟩
  |_=>False)
 |_=>False
theorem field_ok{t f:Nat}{e ef:TE}{fs:List (Nat×Nat)}{p:Nat×Nat}(he:teB P t e=true)(hi:e.i=.struct fs)(hp:fs[f]?=some p)(hf:teB P p.2 ef=true)(hn:Nat.blt 0 ef.n=true):y55 P t f p.1:=by
 obtain⟨d,hd,h1⟩:=z3k he;rw[hi]at h1;obtain⟨a,rfl,h2⟩:=h1;rw[<- h2,Bc,A8]at hp;obtain⟨fd,h3,rfl⟩:=hp;have h4:1<=ef.n:=by simpa[Nat.blt]using hn
 exact⟨a,fd,ef.n-1,hd,by simpa using h3,rfl,by rw[z2m hf];congr 1;omega⟩
theorem j0a{t f:Nat}{y:Operand}(ho:o.op=.fieldAddr t y f)(h:j5r T t fr hp y f K):Does P Rl o fr hp K:=by
 obtain⟨a,ha,h⟩:=z1p h;have ea:∀{fr2:Fr},agr fr2 fr (z1c o.op)->fr2.ev y=some a:=λhg=>hg.ev ha (by rw[ho];simp[Op.operands]);obtain⟨e,he,h⟩:=z1q h;split at h
 ·rename_i fs hfs;obtain⟨p,hp',h⟩:=z0l h;obtain⟨ef,hef,h⟩:=z1q h;obtain⟨hn,h⟩:=z0e h;have hF:=field_ok he hfs hp' hef hn;split at h
  ·exact⟨_,h,.pure λc R1 fr2 hp2 hg _ _=>y8g ho (ea hg) hF⟩
  ·obtain⟨cs,hk,h⟩:=z4f h;exact⟨_,h,.pure λc R1 fr2 hp2 hg hh _=>y8h ho (ea hg) (hh.at hk (.head _)) hF⟩
  ·obtain⟨s,els,hk,h⟩:=z3p h;exact⟨_,h.2,.pure λc R1 fr2 hp2 hg hh _=>y8i ho (ea hg) (hh.at hk (.head _)) h.1 hF⟩
  ·exact h.elim
 ·exact h.elim
theorem zd3{c:Cx}{R1:Nat->Prop}{t:Nat}{x:Operand}{d:TypeDesc}{k n i off:Nat}{s:RT}{els:List (List PV)}{el:List PV}(ho:o.op=.load t x)(hx:fr.ev x=some (.rpt k n off))(hk:look hp k=some (.row s els))(hn:els.length=n)
 (hoff:off=i*s.n) (hi:els[i]?=some el) (hu:P.underlying t=some d) (hd:d.isRow=true) (hs:(P.info? t).map (·.size)=some s.n) (hR1:R1 k):OkV P c R1 o fr (look hp) (.pv (.agg el)):=by
 intro ρ w a h;obtain⟨b,cc,r,u,hv,hρ,h3,h4,hc,hcm,hwe,hcells,hu'⟩:=h.rpt hx hk hn;have hel:el.length=s.n:=hwe el (Af hi);have hin:i<els.length:=(A7.1 hi).1;have hle:i*s.n+s.n<=r.size:=by
  have:(i+1)*s.n<=cc*s.n:=C2 _ oM0;rw[Dg]at this;omega
 have hlen:((r.toList.drop off).take s.n).length=s.n:=by simp;omega
 refine⟨_,λw2 h2=>by simp only[execOp,ho,hv,Ai,G8 (P:=P) w2 b off t _ d (y8s ((h2 b (h.rel.lt hρ) (.inr ⟨k,cc,hR1,hρ⟩)).trans h3) off s.n) hu hd (by rw[hlen];exact hs)];rfl,.pv _ _ (.agg _ _ (u i) ?_ ?_ ?_)⟩
 ·simp;omega
 ·intro j z hj;have hjn:j<s.n:=by have:=(A7.1 hj).1;omega
  have:=hcells i el hi j z hj;subst hoff;simp[hjn];simpa using this
 ·exact λj z hj=>hu' i el hi j z hj
inductive VRow(s:RT)(els:List (List PV))(n off:Nat)(K:PV->Prop):Prop
 |mk {i j:Nat} {el:List PV} {z:PV} (hn:els.length=n) (ho:off=i*s.n+j) (hi:els[i]?=some el) (hj:el[j]?=some z) (k:K z)
inductive VRowS(s:RT)(els:List (List PV))(n off:Nat)(K:List PV->Prop):Prop
 |mk {i:Nat} {el:List PV} (hn:els.length=n) (ho:off=i*s.n) (hi:els[i]?=some el) (k:K el)
def yj4(T:TB P)(t:Nat)(fr:Fr)(hp:Hp)(y:Operand)(K:Stp->Prop):Prop:=vev fr y λa=>vti T t λe=>match a with
 |.pv (.ept cs off)=>match e.i.row with
  |false=>vopt cs[off]? λz=>K ⟨.pv z,[],[],[]⟩
  |true=>z2c (Nat.ble (off+e.n) cs.length) (frcP ((cs.drop off).take e.n) λl=>K ⟨.pv (.agg l),[],[],[]⟩)
 |.ptr k off=>vbox hp k λcs=>match e.i.row with
  |false=>vopt cs[off]? λz=>K ⟨z,[],[k],[]⟩
  |true=>z2c (Nat.ble (off+e.n) cs.length) (match z7v ((cs.drop off).take e.n)with
   |some ps=>frcP ps λl=>K ⟨.pv (.agg l),[],[k],[]⟩
   |none=>frcI ((cs.drop off).take e.n) λl=>K ⟨.agg l,[],[k],[]⟩)
 |.rpt k n off=>vrow hp k λs els=>match e.i.row with
  |false=>VRow s els n off λz=>K ⟨.pv z,[],[k],[]⟩
  |true=>z2c (Nat.beq e.n s.n) (VRowS s els n off λel=>K ⟨.pv (.agg el),[],[k],[]⟩)
 |_=>False
theorem vLoad_ok{t:Nat}{y:Operand}(ho:o.op=.load t y)(h:yj4 T t fr hp y K):Does P Rl o fr hp K:=by
 obtain⟨a,ha,h⟩:=z1p h;have ea:∀{fr2:Fr},agr fr2 fr (z1c o.op)->fr2.ev y=some a:=λhg=>hg.ev ha (by rw[ho];simp[Op.operands]);obtain⟨e,he,h⟩:=z1q h;obtain⟨d,hd,hi⟩:=z3k he;have hrow:=TI.is_row hi;split at h
 ·split at h
  ·rename_i hr;obtain⟨z,hz,h⟩:=z0l h;exact⟨_,h,.pure λc R1 fr2 hp2 hg _ _=>y17 ho (ea hg) hd (hrow.trans hr) hz⟩
  ·rename_i hr;obtain⟨hn,h⟩:=z0e h;exact⟨_,z8m h,.pure λc R1 fr2 hp2 hg _ _=>lEA ho (ea hg) hd (hrow.trans hr) (z2m he) (B5 hn)⟩
 ·obtain⟨cs,hk,h⟩:=z4f h;split at h
  ·rename_i hr;obtain⟨z,hz,h⟩:=z0l h;exact⟨_,h,.pure λc R1 fr2 hp2 hg hh hR=>y16 ho (ea hg) (hh.at hk (.head _)) hd (hrow.trans hr) hz (hR _ (.head _))⟩
  ·rename_i hr;obtain⟨hn,h⟩:=z0e h;split at h
   ·rename_i ps hps;exact⟨_,z8m h,.pure λc R1 fr2 hp2 hg hh hR=>lBP ho (ea hg) (hh.at hk (.head _)) hd (hrow.trans hr) (z2m he) (B5 hn) hps (hR _ (.head _))⟩
   ·exact⟨_,z67 h,.pure λc R1 fr2 hp2 hg hh hR=>z7s ho (ea hg) (hh.at hk (.head _)) hd (hrow.trans hr) (z2m he) (B5 hn) (hR _ (.head _))⟩
 ·obtain⟨s,els,hk,h⟩:=z3p h;split at h
  ·rename_i hr;obtain⟨hn,hoff,h1,h2,h⟩:=h;exact⟨_,h,.pure λc R1 fr2 hp2 hg hh hR=>lRw ho (ea hg) (hh.at hk (.head _)) hn hoff h1 h2 hd (hrow.trans hr) (hR _ (.head _))⟩
  ·rename_i hr;obtain⟨hq,h⟩:=z0e h;obtain⟨hn,hoff,h1,h⟩:=h;exact⟨_,h,.pure λc R1 fr2 hp2 hg hh hR=>zd3 ho (ea hg) (hh.at hk (.head _)) hn hoff h1 hd (hrow.trans hr) (by rw[z2m he,Ak hq]) (hR _ (.head _))⟩
 ·exact h.elim
def j5s(T:TB P)(t:Nat)(fr:Fr)(y:Operand)(f:Nat)(K:Stp->Prop):Prop:=vev fr y λa=>match a with
 |.pv (.agg ps)=>vti T t λe=>match e.i with
  |.struct fs=>vopt fs[f]? λp=>vti T p.2 λef=>match ef.i.row with
   |false=>vopt ps[p.1]? λz=>K ⟨.pv z,[],[],[]⟩
   |true=>False
  |_=>False
 |_=>False
theorem j0b{t f:Nat}{y:Operand}(ho:o.op=.field t y f)(h:j5s T t fr y f K):Does P Rl o fr hp K:=by
 obtain⟨a,ha,h⟩:=z1p h;have ea:∀{fr2:Fr},agr fr2 fr (z1c o.op)->fr2.ev y=some a:=λhg=>hg.ev ha (by rw[ho];simp[Op.operands]);split at h
 ·obtain⟨e,he,h⟩:=z1q h;obtain⟨d,hd,hi⟩:=z3k he;split at h
  ·rename_i fs hfs;rw[hfs]at hi;obtain⟨q,rfl,h2⟩:=hi;obtain⟨p,hp',h⟩:=z0l h;obtain⟨ef,hef,h⟩:=z1q h;obtain⟨df,hdf,hif⟩:=z3k hef;split at h
   ·rename_i hr;obtain⟨z,hz,h9⟩:=z0l h;rw[<- h2,Bc,A8]at hp';obtain⟨fd,h3,rfl⟩:=hp';exact⟨_,h9,.pure λc R1 fr2 hp2 hg _ _=>y60 ho (ea hg) hd (by simpa using h3) hdf ((TI.is_row hif).trans hr) hz⟩
   ·exact h.elim
  ·exact h.elim
 ·exact h.elim
def ys4(fr:Fr)(y:Operand)(i:Nat)(K:Stp->Prop):Prop:=vev fr y λa=>match a with
 |.tup vs=>vopt vs[i]? λz=>K ⟨z,[],[],[]⟩
 |_=>False
theorem yj3{i:Nat}{y:Operand}(ho:o.op=.extract y i)(h:ys4 fr y i K):Does P Rl o fr hp K:=by
 obtain⟨a,ha,h⟩:=z1p h;split at h
 ·obtain⟨z,hz,h⟩:=z0l h;exact⟨_,h,.pure λc R1 fr2 hp2 hg _ _=>z95 ho (hg.ev ha (by rw[ho];simp[Op.operands])) hz⟩
 ·exact h.elim
def vNil(fr:Fr)(hp:Hp)(y:Operand)(K:Stp->Prop):Prop:=vev fr y λa=>match a with
 |.ptr k off=>vbox hp k λ_=>K ⟨.ptr k off,[],[k],[]⟩
 |.pv (.ept cs off)=>K ⟨.pv (.ept cs off),[],[],[]⟩
 |.rpt k n off=>vrow hp k λ_ els=>els.length=n/\K ⟨.rpt k n off,[],[k],[]⟩
 |_=>False
theorem vNil_ok{y:Operand}(ho:o.op=.nilCheck y)(h:vNil fr hp y K):Does P Rl o fr hp K:=by
 obtain⟨a,ha,h⟩:=z1p h;have ea:∀{fr2:Fr},agr fr2 fr (z1c o.op)->fr2.ev y=some a:=λhg=>hg.ev ha (by rw[ho];simp[Op.operands]);split at h
 ·obtain⟨cs,hk,h⟩:=z4f h;exact⟨_,h,.pure λc R1 fr2 hp2 hg hh _=>nCk ho (ea hg) (hh.at hk (.head _))⟩
 ·exact⟨_,h,.pure λc R1 fr2 hp2 hg _ _=>y18 ho (ea hg)⟩
 ·obtain⟨s,els,hk,h⟩:=z3p h;exact⟨_,h.2,.pure λc R1 fr2 hp2 hg hh _=>y19 ho (ea hg) (hh.at hk (.head _)) h.1⟩
 ·exact h.elim
def vEnd(fr:Fr)(y:Option Operand)(n:Nat)(K:Nat->Prop):Prop:=match y with
 |none=>K n
 |some y=>vev fr y λa=>match a with
  |.pv (.val (.int _ m))=>∃i:Nat,m=i/\K i
  |_=>False
theorem zu9{y:Option Operand}{n:Nat}{K:Nat->Prop}(h:vEnd fr y n K):∃i,K i/\((y=none/\i=n)∨∃z k,y=some z/\fr.ev z=some (.pv (.val (.int k i)))):=by
 unfold vEnd at h;split at h
 ·exact⟨n,h,.inl ⟨rfl,rfl⟩⟩
 ·rename_i y;obtain⟨a,ha,h⟩:=z1p h;split at h
  ·rename_i k m;obtain⟨i,rfl,h⟩:=h;exact⟨i,h,.inr ⟨y,k,rfl,ha⟩⟩
  ·exact h.elim
def vSlice(T:TB P)(t:Nat)(fr:Fr)(hp:Hp)(y:Operand)(lo hi:Option Operand)(K:Stp->Prop):Prop:=vev fr y λa=>vti T t λe=>match a with
 |.pv (.seq els)=>match e.i with
  |.slice q=>vti T q λeq=>vEnd fr lo 0 λi=>vEnd fr hi els.length λj=>i<=j/\j<=els.length/\(∀el∈els,el.length=eq.n)/\K ⟨.pv (.seq ((els.take j).drop i)),[],[],[]⟩
  |_=>False
 |.pv (.val (.string s))=>match e.i with
  |.str=>vEnd fr lo 0 λi=>vEnd fr hi s.size λj=>i<=j/\j<=s.size/\K ⟨.pv (.val (.string (s.extract i j))),[],[],[]⟩
  |_=>False
 |.sl k n=>match e.i with
  |.slice q=>vti T q λ_=>z2c lo.isNone (vrow hp k λ_ els=>els.length=n/\vEnd fr hi n λj=>j<=n/\K ⟨.sp k j n,[],[k],[]⟩)
  |_=>False
 |.sp k n m=>match e.i with
  |.slice q=>vti T q λ_=>z2c lo.isNone (vrow hp k λ_ els=>els.length=m/\vEnd fr hi n λj=>j<=n/\K ⟨.sp k j m,[],[k],[]⟩)
  |_=>False
 |_=>False
theorem zq0{lo:Option Operand}{n i:Nat}{fr2:Fr}(hg:agr fr2 fr (z1c o.op))(hm:∀z,lo=some z->z∈o.op.operands.toList)(h:(lo=none/\i=n)∨∃z k,lo=some z/\fr.ev z=some (.pv (.val (.int k i)))):(lo=none/\i=n)∨∃z k,lo=some z/\fr2.ev z=some (.pv (.val (.int k i))):=by
 rcases h with h|⟨z,k,h1,h2⟩
 ·exact .inl h
 ·exact .inr ⟨z,k,h1,hg.ev h2 (hm z h1)⟩
theorem j5w{t:Nat}{y:Operand}{lo hi:Option Operand}(ho:o.op=.slice t y lo hi none)(h:vSlice T t fr hp y lo hi K):Does P Rl o fr hp K:=by
 obtain⟨a,ha,h⟩:=z1p h;have ea:∀{fr2:Fr},agr fr2 fr (z1c o.op)->fr2.ev y=some a:=λhg=>hg.ev ha (by rw[ho];simp[Op.operands]);have ml:∀z,lo=some z->z∈o.op.operands.toList:=λz hz=>by rw[ho,hz];simp[Op.operands]
 have mh:∀z,hi=some z->z∈o.op.operands.toList:=λz hz=>by rw[ho,hz];simp[Op.operands]
 obtain⟨e,he,h⟩:=z1q h;obtain⟨d,hd,hi'⟩:=z3k he;split at h
 ·split at h
  ·rename_i q hq;rw[hq]at hi'
   cases hi'
   obtain⟨eq,heq,h⟩:=z1q h;obtain⟨i,h,h1⟩:=zu9 h;obtain⟨j,h,h2⟩:=zu9 h;exact⟨_,h.2.2.2,.pure λc R1 fr2 hp2 hg _ _=>y8m ho (ea hg) hd (z2m heq) (zq0 hg ml h1) (zq0 hg mh h2) h.1 h.2.1 h.2.2.1⟩
  ·exact h.elim
 ·split at h
  ·rename_i hq;rw[hq]at hi'
   cases hi'
   obtain⟨i,h,h1⟩:=zu9 h;obtain⟨j,h,h2⟩:=zu9 h;exact⟨_,h.2.2,.pure λc R1 fr2 hp2 hg _ _=>zw0 ho (ea hg) hd (zq0 hg ml h1) (zq0 hg mh h2) h.1 h.2.1⟩
  ·exact h.elim
 ·split at h
  ·rename_i q hq;rw[hq]at hi'
   cases hi'
   obtain⟨eq,heq,h⟩:=z1q h;obtain⟨hl,h⟩:=z0e h;obtain rfl:lo=none:=by simpa using hl
   obtain⟨s,els,hk,hn,h⟩:=z3p h;obtain⟨j,h,h2⟩:=zu9 h;exact⟨_,h.2,.pure λc R1 fr2 hp2 hg hh _=>zv9 ho (λ_ _ _ ha=>(ha.ev (ea hg)).toSp) (hh.at hk (.head _)) hn hd (z2m heq) (zq0 hg mh h2) h.1⟩
  ·exact h.elim
 ·split at h
  ·rename_i q hq;rw[hq]at hi'
   cases hi'
   obtain⟨eq,heq,h⟩:=z1q h;obtain⟨hl,h⟩:=z0e h;obtain rfl:lo=none:=by simpa using hl
   obtain⟨s,els,hk,hn,h⟩:=z3p h;obtain⟨j,h,h2⟩:=zu9 h;exact⟨_,h.2,.pure λc R1 fr2 hp2 hg hh _=>zv9 ho (λ_ _ _ ha=>ha.ev (ea hg)) (hh.at hk (.head _)) hn hd (z2m heq) (zq0 hg mh h2) h.1⟩
  ·exact h.elim
 ·exact h.elim
def vFunc(fr:Fr)(f:Fn)(xs ys:Array Operand)(K:Stp->Prop):Prop:=vopt (evs fr xs.toList) λus=>vopt (evs fr ys.toList) λvs=>K ⟨.fn f us vs,[],[],[]⟩
theorem vFunc_ok{f:Fn}{xs ys:Array Operand}(ho:o.op=.makeFunc f xs ys)(h:vFunc fr f xs ys K):Does P Rl o fr hp K:=by
 obtain⟨us,h1,h⟩:=z0l h;obtain⟨vs,h2,h⟩:=z0l h;exact⟨_,h,.pure λc R1 fr2 hp2 hg _ _=>ye5 ho (hg.evs h1 λy hy=>by rw[ho];simp only[Op.operands,Do];exact Bq _ hy) (hg.evs h2 λy hy=>by rw[ho];simp only[Op.operands,Do];exact C9 _ hy)⟩
inductive VAsk(d:TypeDesc)(kv:Value)(es:List (Value×PV))(z:Value)(K:PV->Bool->Prop):Prop
 |mk {p:PV} {b:Bool} (hk:z1y d kv=true) (hes:∀e∈es,z1y d e.1=true) (h:((z1z kv es).getD (.val z),(z1z kv es).isSome)=(p,b)) (k:K p b)
inductive VMap(d:TypeDesc)(kv:Value)(es:List (Value×PV))(A:Prop):Prop
 |mk (hk:z1y d kv=true) (hes:∀e∈es,z1y d e.1=true) (k:A)
def TI.key:TI->Option TypeDesc
 |.int k=>some (.int k)
 |.str=>some .string
 |_=>none
theorem y5n{t:Nat}{e:TE}{d:TypeDesc}(he:teB P t e=true)(hd:e.i.key=some d):P.underlying t=some d:=by
 obtain⟨d',hd',hi⟩:=z3k he;rw[hd']
 cases hq:e.i<;>rw[hq]at hd hi<;>first|(cases hd;cases hi;rfl)|cases hd
def j5t(T:TB P)(t:Nat)(fr:Fr)(hp:Hp)(y w:Operand)(two:Bool)(K:Stp->Prop):Prop:=vev fr y λa=>vev fr w λb=>match a with
 |.mp k=>match b with
  |.pv (.val kv)=>vmap hp k λes=>vti T t λe=>match e.i with
   |.map kt et=>vti T kt λek=>vti T et λee=>vopt ek.i.key λd=>z2c (!ee.z.isEmpty) (VAsk d kv es ee.zv λp b=>match two with
    |false=>K ⟨.pv p,[],[k],[]⟩
    |true=>K ⟨.tup [.pv p,iBool b],[],[k],[]⟩)
   |_=>False
  |_=>False
 |_=>False
theorem j0d{t:Nat}{y w:Operand}{two:Bool}(ho:o.op=.lookup t y w two)(h:j5t T t fr hp y w two K):Does P Rl o fr hp K:=by
 obtain⟨a,ha,h⟩:=z1p h;obtain⟨b,hb,h⟩:=z1p h;have ea:∀{fr2:Fr},agr fr2 fr (z1c o.op)->fr2.ev y=some a:=λhg=>hg.ev ha (by rw[ho];simp[Op.operands]);have eb:∀{fr2:Fr},agr fr2 fr (z1c o.op)->fr2.ev w=some b:=λhg=>hg.ev hb (by rw[ho];simp[Op.operands]);split at h
 ·split at h
  ·obtain⟨es,hk,h⟩:=y79 h;obtain⟨e,he,h⟩:=z1q h;obtain⟨d,hd,hi⟩:=z3k he;split at h
   ·rename_i kt et hq;rw[hq]at hi
    cases hi
    obtain⟨ek,hek,h⟩:=z1q h;obtain⟨ee,hee,h⟩:=z1q h;obtain⟨dk,hdk,h⟩:=z0l h;obtain⟨hz,h⟩:=z0e h;have hz':ee.z≠[]:=by simpa using hz
    obtain⟨h1,h2,h3,h⟩:=h;have e1:=(Ah Prod.fst h3).symm;have e2:=(Ah Prod.snd h3).symm;dsimp only at e1 e2;subst e1 e2;split at h
    ·exact⟨_,h,.pure λc R1 fr2 hp2 hg hh hR=>j2h ho (ea hg) (eb hg) (hh.at hk (.head _)) hd (y5n hek hdk) h1 h2 (z84 hee hz') (hR _ (.head _))⟩
    ·exact⟨_,h,.pure λc R1 fr2 hp2 hg hh hR=>yv4 ho (ea hg) (eb hg) (hh.at hk (.head _)) hd (y5n hek hdk) h1 h2 (z84 hee hz') (hR _ (.head _))⟩
   ·exact h.elim
  ·exact h.elim
 ·exact h.elim
def vLen(T:TB P)(t:Nat)(fr:Fr)(hp:Hp)(y:Operand)(K:Stp->Prop):Prop:=vev fr y λa=>vti T t λe=>match a with
 |.pv (.seq els)=>match e.i with
  |.slice _=>K ⟨.pv (.val (.int .i64 els.length)),[],[],[]⟩
  |_=>False
 |.pv (.val (.slice none 0 0))=>match e.i with
  |.slice _=>K ⟨.pv (.val (.int .i64 0)),[],[],[]⟩
  |_=>False
 |.pv (.val (.string s))=>match e.i with
  |.str=>K ⟨.pv (.val (.int .i64 s.size)),[],[],[]⟩
  |_=>False
 |.sl k n=>match e.i with
  |.slice _=>vrow hp k λ_ els=>els.length=n/\K ⟨.pv (.val (.int .i64 n)),[],[k],[]⟩
  |_=>False
 |.mp k=>match e.i with
  |.map ..=>vmap hp k λes=>K ⟨.pv (vInt es.length),[],[k],[]⟩
  |_=>False
 |.sp k n m=>match e.i with
  |.slice _=>vrow hp k λ_ els=>els.length=m/\K ⟨.pv (.val (.int .i64 n)),[],[k],[]⟩
  |_=>False
 |_=>False
theorem vLen_ok{t:Nat}{y:Operand}(ho:o.op=.call { callee:=.builtin .len,args:=#[y],argTypes:=#[t] })(h:vLen T t fr hp y K):Does P Rl o fr hp K:=by
 obtain⟨a,ha,h⟩:=z1p h;have ea:∀{fr2:Fr},agr fr2 fr (z1c o.op)->fr2.ev y=some a:=λhg=>hg.ev ha (by rw[ho];simp[Op.operands,Call.operands]);obtain⟨e,he,h⟩:=z1q h;obtain⟨d,hd,hi⟩:=z3k he;split at h
 ·split at h
  ·rename_i hq;rw[hq]at hi;cases hi
   exact⟨_,h,.pure λc R1 fr2 hp2 hg _ _=>yv3 ho (ea hg) hd rfl⟩
  ·exact h.elim
 ·split at h
  ·rename_i hq;rw[hq]at hi;cases hi
   exact⟨_,h,.pure λc R1 fr2 hp2 hg _ _=>yv1 ho (ea hg) hd⟩
  ·exact h.elim
 ·split at h
  ·rename_i hq;rw[hq]at hi;cases hi
   exact⟨_,h,.pure λc R1 fr2 hp2 hg _ _=>y3x ho (ea hg) hd⟩
  ·exact h.elim
 ·split at h
  ·rename_i hq;rw[hq]at hi;cases hi
   obtain⟨s,els,hk,h⟩:=z3p h;exact⟨_,h.2,.pure λc R1 fr2 hp2 hg hh _=>yv2 ho (ea hg) (hh.at hk (.head _)) h.1 hd⟩
  ·exact h.elim
 ·split at h
  ·rename_i hq;rw[hq]at hi;cases hi
   obtain⟨es,hk,h⟩:=y79 h;exact⟨_,h,.pure λc R1 fr2 hp2 hg hh hR=>yv0 ho (ea hg) (hh.at hk (.head _)) hd (hR _ (.head _))⟩
  ·exact h.elim
 ·split at h
  ·rename_i hq;rw[hq]at hi;cases hi
   obtain⟨s,els,hk,h⟩:=z3p h;exact⟨_,h.2,.pure λc R1 fr2 hp2 hg hh _=>j2g ho (ea hg) (hh.at hk (.head _)) h.1 hd⟩
  ·exact h.elim
 ·exact h.elim
def vMax(fr:Fr)(y w:Operand)(K:Stp->Prop):Prop:=vev fr y λa=>vev fr w λb=>match a with
 |.pv (.val (.int k m))=>match b with
  |.pv (.val (.int k' n))=>z2c (k'==k) (K ⟨.pv (.val (.int k (if m<n then n else m))),[],[],[]⟩)
  |_=>False
 |_=>False
theorem vMax_ok{t:Nat}{y w:Operand}(ho:o.op=.call { callee:=.builtin .max,args:=#[y,w],argTypes:=#[t,t] })(h:vMax fr y w K):Does P Rl o fr hp K:=by
 obtain⟨a,ha,h⟩:=z1p h;obtain⟨b,hb,h⟩:=z1p h;split at h
 ·split at h
  ·obtain⟨hk,h⟩:=z0e h;obtain rfl:=Av hk;exact⟨_,h,.pure λc R1 fr2 hp2 hg _ _=>ok_max ho (hg.ev ha (by rw[ho];simp[Op.operands,Call.operands])) (hg.ev hb (by rw[ho];simp[Op.operands,Call.operands]))⟩
  ·exact h.elim
 ·exact h.elim
def vCap(T:TB P)(t:Nat)(fr:Fr)(y:Operand)(K:Stp->Prop):Prop:=vev fr y λa=>vti T t λe=>match a with
 |.pv (.val (.slice none 0 0))=>match e.i with
  |.slice _=>K ⟨iInt 0,[],[],[]⟩
  |_=>False
 |_=>False
theorem vCap_ok{t:Nat}{y:Operand}(ho:o.op=.call { callee:=.builtin .cap,args:=#[y],argTypes:=#[t] })(h:vCap T t fr y K):Does P Rl o fr hp K:=by
 obtain⟨a,ha,h⟩:=z1p h;obtain⟨e,he,h⟩:=z1q h;obtain⟨d,hd,hi⟩:=z3k he;split at h
 ·split at h
  ·rename_i hq;rw[hq]at hi;cases hi
   exact⟨_,h,.pure λc R1 fr2 hp2 hg _ _=>yu9 ho (hg.ev ha (by rw[ho];simp[Op.operands,Call.operands])) hd⟩
  ·exact h.elim
 ·exact h.elim
end
end Go.Proofs.YtjlaalpfpecikaaGreatDoor
