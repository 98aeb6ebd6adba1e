/- PART 8 of 9 of a proof: see the last part. -/
import Derived.Test.YtjlaalpfpecikaaGreatDoorSp7
set_option maxRecDepth 20000
set_option maxHeartbeats 8000000
set_option linter.unusedSimpArgs false
set_option linter.unusedVariables false
set_option linter.unusedSectionVars false
namespace Go.Proofs.YtjlaalpfpecikaaGreatDoor
open Go
section
variable {T:List Tk}
theorem j2w:∀(l:List UInt8)(n:Int),n<=maxI->qVal n l<=maxI
 |[],n,h=>h
 |b::r,n,h=>by
  rw[qVal];split
  ·decide
  ·rename_i hc;refine j2w r _ ?_;have hb:(b.toNat:Int)<256:=by have:=b.toNat_lt;omega
   unfold maxI at hc⊢;rw[Du oM0]at hc;omega
theorem j5y(s:ByteArray):z8h s<=maxI:=by
 have h:=j2w s.data.toList 0 dC0;unfold z8h;split
 ·decide
 split
 ·decide
 ·exact h
theorem num64(hT:TkOk T){s:Ps}(h:(tkAt T s).kind=0):n64 (z8h (tkAt T s).text)=true:=by
 have hle:=j5y (tkAt T s).text;obtain⟨init,e,rfl,he,hi⟩:=hT;have hm:tkAt (init++[e]) s∈init:=by
  unfold tkAt at h⊢;rw[Ax]at h⊢
  cases hg:(init++[e])[s.at_]? with
  |none=>rw[hg]at h;cases h
  |some t =>
   rw[hg]at h;rcases B3.1 (Af hg)with hm|hm
   ·exact hm
   ·rw[Al.1 hm]at h;rw[Cj,he]at h;cases h
 have hn:=(hi _ hm).2 h;unfold zi4 at hn;simp only[A0,Ba]at hn;have:=hn.2;unfold maxI at hle;simp only[n64,A0,Ba];omega
mutual
def uX:Ex->Bool
 |.mk _ _ n _ args=>n64 n&&uXL args
def uXL:List Ex->Bool
 |[]=>true
 |x::r=>uX x&&uXL r
end
mutual
def uS:St->Bool
 |.mk _ _ _ args thn els=>uXL args&&uB thn&&uB els
def uB:List St->Bool
 |[]=>true
 |x::r=>uS x&&uB r
end
theorem j5k:∀a b:List Ex,uXL (a++b)=(uXL a&&uXL b)
 |[],b=>by simp[uXL]
 |x::r,b=>by simp only[Be,uXL,j5k r b,Ea]
theorem uB_app:∀a b:List St,uB (a++b)=(uB a&&uB b)
 |[],b=>by simp[uB]
 |x::r,b=>by simp only[Be,uB,uB_app r b,Ea]
theorem zr5:n64 0=true:=by decide
theorem n64_1:n64 1=true:=by decide
theorem yc2(hT:TkOk T):∀N,(∀l d s,uX (z30 T N l d s).1=true)/\(∀l d r,uX r.1=true->uX (z8w T N l d r).1=true)/\(∀d s,uX (z6q T N d s).1=true) /\
 (∀d s,uX (zx7 T N d s).1=true)/\(∀d s,uXL (z6w T N d s).1=true)/\(∀d b out s,uXL out=true->uXL (z89 T N d b out s).1=true)
 |0=>⟨λ_ _ _=>rfl,λ_ _ _ h=>h,λ_ _=>rfl,λ_ _=>rfl,λ_ _=>rfl,λ_ _ _ _ h=>h⟩
 |N+1=>by
  obtain⟨iE,iL,iU,iP,iA,iG⟩:=yc2 hT N;refine⟨λl d s=>?_,λl d r h=>?_,λd s=>?_,λd s=>?_,λd s=>?_,λd b out s h=>?_⟩
  ·unfold z30;split
   ·exact iU _ _
   ·exact iL l d _ (iE _ _ _)
  ·unfold z8w;split
   ·exact h
   ·exact iL l d _ (by simp[uX,uXL,zr5,h,iE])
  ·unfold z6q
   cases h:pUn T (z43 d s)with
   |none=>exact iP _ _
   |some o =>
    dsimp only;split<;>simp[uX,uXL,zr5,iE,iU]
  ·unfold zx7;split
   ·rfl
   split
   ·exact iE _ _ _
   split
   ·simp[uX,uXL,n64_1]
   split
   ·simp[uX,uXL,zr5]
   split
   ·simp[uX,uXL,zr5]
   split
   ·rename_i hk;simp[uX,uXL,num64 hT hk]
   split
   ·simp[uX,zr5,iA]
   split
   ·simp[uX,uXL,zr5,iE]
   ·simp[uX,uXL,zr5]
  ·unfold z6w;split
   ·rfl
   ·exact iG _ _ _ _ rfl
  ·unfold z89;split
   ·exact iG _ _ _ _ (by simp[j5k,uXL,h,iE])
   ·exact h
theorem mE_u(hT:TkOk T)(s:Ps):uX (mE T s).1=true:=(yc2 hT (big T)).1 1 1 s
theorem yl8(hT:TkOk T)(s:Ps):uX (z1r T s).1=true:=mE_u hT _
section
attribute [local irreducible] mE z6w z1r mLet z9q z4s big
theorem named_u(hT:TkOk T)(s:Ps):uS (z4s T s).1=true:=by
 have hA:=λd s=>(yc2 hT (big T)).2.2.2.2.1 d s;have hE:=λs=>mE_u hT s;unfold z4s;split
 ·simp[uS,uX,uXL,uB,zr5,hA]
 split
 iterate 2 ·simp[uS,uXL,uB,hE]
theorem let_u(hT:TkOk T)(s:Ps):uS (mLet T s).1=true:=by
 have hE:=λs=>mE_u hT s;unfold mLet;simp[uS,uXL,uB,hE]
theorem flat_u(hT:TkOk T)(s:Ps):uS (z9q T s).1=true:=by
 have hE:=λs=>mE_u hT s;have hI:=λs=>yl8 hT s;unfold z9q;split
 ·rfl
 split
 ·rfl
 split
 ·simp[uS,uXL,uB,hE]
 split
 ·simp[uS,uXL,uB,hI]
 ·exact named_u hT s
theorem j55(hT:TkOk T):∀N,(∀d s,uS (z5q T N d s).1=true)/\(∀d s,uB (z1v T N d s).1=true)/\(∀d out s,uB out=true->uB (z75 T N d out s).1=true)
 |0=>⟨λ_ _=>rfl,λ_ _=>rfl,λ_ _ _ h=>h⟩
 |N+1=>by
  obtain⟨iS,iB,iL⟩:=j55 hT N;have hI:=λs=>yl8 hT s;refine⟨λd s=>?_,λd s=>?_,λd out s h=>?_⟩
  ·unfold z5q;split
   ·exact let_u hT _
   split
   ·split<;>simp[uS,uXL,uB,hI,iB]
   split
   ·simp[uS,uXL,uB,hI,iB]
   ·exact flat_u hT _
  ·unfold z1v;exact iL _ _ _ rfl
  ·unfold z75;split
   ·exact h
   split
   ·exact h
   ·exact iL _ _ _ (by simp[uB_app,uB,h,iS])
theorem j2t(hT:TkOk T):∀N p s,(∀f∈p.funcs,uB f.body=true)->∀f∈(z2v T N p s).1.funcs,uB f.body=true
 |0,p,s,h=>h
 |N+1,p,s,h=>by
  unfold z2v;split
  ·exact h
  split
  ·exact j2t hT N _ _ h
  ·refine j2t hT N _ _ λf hf=>?_;rcases B3.1 hf with hf|hf
   ·exact h f hf
   ·rw[Al.1 hf];exact(j55 hT (big T)).2.1 _ _
end
section
attribute [local irreducible] big
theorem gParse_u(s:ByteArray):∀f∈(z1u s).1.funcs,uB f.body=true:=by
 unfold z1u;have h0:∀f∈pg0.funcs,uB f.body=true:=λf hf=>by cases hf
 split
 ·rename_i h;split
  ·exact h0
  split
  ·exact h0
  split
  ·have:=j2t (ze2 h).1 (big (z1d s).1) ⟨[],[]⟩ ⟨0,false,false⟩ (λf hf=>by cases hf);exact this
  ·exact h0
 ·exact h0
end
mutual
theorem uX_rn(es:List (Value×PV)):∀e:Ex,uX (rnX es e)=uX e
 |.mk k o n nm args=>by rw[rnX,uX,uX,j5l es args]
theorem j5l(es:List (Value×PV)):∀l:List Ex,uXL (rnXL es l)=uXL l
 |[]=>rfl
 |x::r=>by rw[rnXL,uXL,uXL,uX_rn es x,j5l es r]
end
mutual
theorem uS_rn:∀(x:St) (es:List (Value×PV)) (n:Nat),uS (rnS x es n).1=uS x
 |.mk k ty nm args thn els,es,n=>by rw[rnS,uS,uS,<- zs6,j5l,uB_rn thn,uB_rn els]
theorem uB_rn:∀(l:List St) (es:List (Value×PV)) (n:Nat),uB (rnB l es n).1=uB l
 |[],_,_=>rfl
 |x::r,es,n=>by rw[rnB,uB,uB,uS_rn x,uB_rn r]
end
theorem y8c:∀a b:List Nd,nIL (a++b)=(nIL a&&nIL b)
 |[],b=>by simp[nIL]
 |x::r,b=>by simp only[Be,nIL,y8c r b,Ea]
theorem nI_put(t k o n:Int)(nm:ByteArray)(args:List Int)(kids:List (List Nd))(s:RiS)(hn:n64 n=true)(hk:nIK kids=true)(h:nIL s.ns=true):nIL (z61 t k o n nm args kids s).2.ns=true:=by
 simp[z61,y8c,nIL,nIN,hn,hk,h]
theorem zv7(k:Int)(nm:ByteArray)(args:List Int)(ns:List Nd)(h:nIL ns=true):nIL (z6c k nm args ns)=true:=by
 simp[z6c,y8c,nIL,nIN,nIK,zr5,h]
theorem nI_top(p:Pg)(k o n:Int)(nm:ByteArray)(l:List Int)(s:RiS)(hn:n64 n=true)(h:nIL s.ns=true):nIL (zj3 p k o n nm l s).2.ns=true:=by
 unfold zj3
 repeat' split
 all_goals exact nI_put _ _ _ _ _ _ _ _ (by first|exact hn|exact zr5) rfl h
theorem nI_sh(o a:Int)(ns:List Nd)(r:Int×RiS)(h:nIL ns=true)(hr:nIL r.2.ns=true):nIL (z5u o a ns r).2.ns=true:=by
 unfold z5u;split
 all_goals exact nI_put _ _ _ _ _ _ _ _ zr5 (by simp[nIK,zv7,hr,nIL,nIN,zr5,n64_1]) h
mutual
theorem nI_X(p:Pg)(vs:List (Value×PV)):∀(e:Ex)(s:RiS),uX e=true->nIL s.ns=true->nIL (riX p vs e s).2.ns=true
 |.mk k o n nm args,s,hu,h=>by
  rw[uX,A0]at hu;unfold riX;split
  ·exact h
  split
  ·exact nI_Sh p vs o args s hu.2 h
  ·exact nI_top _ _ _ _ _ _ _ hu.1 (nI_XL p vs args s hu.2 h)
theorem nI_XL(p:Pg)(vs:List (Value×PV)):∀(l:List Ex)(s:RiS),uXL l=true->nIL s.ns=true->nIL (riXL p vs l s).2.ns=true
 |[],s,_,h=>h
 |e::r,s,hu,h=>by
  rw[uXL,A0]at hu;exact nI_XL p vs r _ hu.2 (nI_X p vs e s hu.1 h)
theorem nI_Sh(p:Pg)(vs:List (Value×PV))(o:Int):∀(l:List Ex)(s:RiS),uXL l=true->nIL s.ns=true->nIL (riSh p vs o l s).2.ns=true
 |[],s,_,h=>h
 |e::r,s,hu,h=>by
  rw[uXL,A0]at hu;exact nI_Sh2 p vs o _ r _ hu.2 (nI_X p vs e s hu.1 h)
theorem nI_Sh2(p:Pg)(vs:List (Value×PV))(o a:Int):∀(l:List Ex)(s:RiS),uXL l=true->nIL s.ns=true->nIL (zj1 p vs o a s l).2.ns=true
 |[],s,_,h=>h
 |e::r,s,hu,h=>by
  rw[uXL,A0]at hu;exact nI_sh o a s.ns _ h (nI_X p vs e ⟨s.ts,[]⟩ hu.1 rfl)
end
theorem uX_0{l:List Ex}(h:uXL l=true)(i:Nat):uX (l.getD i ex0)=true:=by
 rw[Ax]
 cases hg:l[i]? with
 |none=>rfl
 |some e =>
  have:∀(l:List Ex),uXL l=true->∀e∈l,uX e=true:=by
   intro l
   induction l with
   |nil=>intro _ e he;cases he
   |cons x r ih =>
    intro h e he;rw[uXL,A0]at h;rcases Aq.1 he with rfl|he
    ·exact h.1
    ·exact ih h.2 e he
  exact this l h e (Af hg)
theorem yn8(k:Int)(z03:List ByteArray)(a:Bool×RiT)(h:nIL a.2.ns=true):nIL (z5a k z03 a)=true:=by
 unfold z5a;split
 ·exact h
 ·exact zv7 _ _ _ _ h
theorem yd7(vs:List (Value×PV))(z03:List ByteArray)(ts:List Int)(ns:List Nd)(jk:List (List ByteArray))(k:Int)(args params:List Int)(kids:List (List Nd))(h:nIL ns=true)(hk:nIK kids=true):nIL (z5t vs z03 ts ns jk k args params kids).2.ns=true:=by
 unfold z5t;split<;>simp[y8c,nIL,nIN,zr5,h,hk]
theorem j26(p:Pg)(k:Int)(nm:ByteArray)(args:List Ex)(s:RiT)(hu:uXL args=true)(h:nIL s.ns=true):nIL (z8d p k nm args s).ns=true:=by
 have h0:=nI_X p s.vs (args.getD 0 ex0) ⟨s.ts,s.ns⟩ (uX_0 hu 0) h;have h1:=nI_X p s.vs (args.getD 1 ex0) _ (uX_0 hu 1) h0;unfold z8d;split
 ·exact h0
 split
 ·exact zv7 _ _ _ _ h1
 split
 ·exact zv7 _ _ _ _ h0
 ·exact h0
mutual
theorem nI_B(p:Pg):∀(l:List St) (lo:List (List ByteArray)) (s:RiT),uB l=true->nIL s.ns=true->nIL (riB p l lo s).2.ns=true
 |[],lo,s,_,h=>h
 |x::r,lo,s,hu,h=>by
  rw[uB,A0]at hu;have h1:=nI_S p x lo s hu.1 h;unfold riB;split
  ·exact h1
  ·exact nI_B p r lo _ hu.2 h1
theorem nI_S(p:Pg):∀(x:St) (lo:List (List ByteArray)) (s:RiT),uS x=true->nIL s.ns=true->nIL (riS p x lo s).2.ns=true
 |.mk k ty nm args thn els,lo,s,hu,h=>by
  rw[uS,A0,A0]at hu;have hX:=λvs s h=>nI_X p vs (args.getD 0 ex0) s (uX_0 hu.1.1 0) h;have hT:=λlo s h=>nI_B p thn lo s hu.1.2 h;have hE:=λlo s h=>nI_B p els lo s hu.2 h;unfold riS;split
  ·exact yd7 _ _ _ _ _ _ _ _ _ (hX _ _ h) (by rw[nIK,nIK,nIK,yn8 _ _ _ (hT _ _ rfl),yn8 _ _ _ (hE _ _ rfl)];rfl)
  split
  ·split
   ·exact yd7 _ _ _ _ _ _ _ _ _ h (by rw[nIK,nIK,yn8 _ _ _ (hT _ _ rfl)];rfl)
   ·exact yd7 _ _ _ _ _ _ _ _ _ h (by rw[nIK,nIK,z8s,y8c,nIL,nIL,nIN,nIK,nIK,nIK,yn8 _ _ _ (hT _ _ rfl),zv7 _ _ _ _ rfl,hX _ _ rfl];rfl)
  split
  ·exact zv7 _ _ _ _ h
  split
  ·exact zv7 _ _ _ _ h
  split
  ·exact zv7 _ _ _ _ (hX _ _ h)
  ·exact j26 _ _ _ _ _ hu.1.1 h
end
theorem riU_n(s:ByteArray):∀f∈(riU s).1.flows,nIL f.body=true:=by
 have h0:∀f∈un0.flows,nIL f.body=true:=λf hf=>by cases hf
 unfold riU y6e;split
 ·rename_i h;split
  ·intro f hf;have hf:f∈(riUn (rnOf (z1u s).1).1).flows:=hf;unfold riUn at hf;obtain⟨g,hg,rfl⟩:=Bz.1 hf;have hr:uB g.body=true:=by
    unfold rnOf at h hg
    by_cases hy:(z86 (z1u s).1).1=0
    ·rw[A5 hy]at hg;obtain⟨g0,h1,rfl⟩:=Bz.1 (show g∈(z1u s).1.funcs.map rnF from hg);show uB (rnB _ _ _).1=true;rw[uB_rn];exact gParse_u s g0 h1
    ·rw[A1 hy]at h;exact A9 h dC0
   exact nI_B _ _ _ _ hr rfl
  ·exact h0
 ·exact h0
end
section
variable {T:List Tk}
theorem y10{w:ByteArray}{s:Ps}(h:(z0q T w s).over=false):(z0q T w s).at_=s.at_+1/\s.over=false:=by
 unfold z0q at h⊢;split at h
 ·rename_i c;rw[A5 c];exact⟨rfl,(z3y c).1⟩
 ·rename_i c;rw[A1 c];split at h
  ·rename_i d;simp[Ps.over,d]at h
  ·simp[Ps.over,Ps.setBad]at h
theorem yi4{k:Int}{s:Ps}(h:(z0k T k s).2.over=false):(z0k T k s).2.at_=s.at_+1/\s.over=false:=by
 unfold z0k at h⊢;split at h
 ·rename_i c;rw[c]at h;cases h
 ·rename_i c;rw[A1 c];split at h
  ·rename_i d;rw[A5 d];exact⟨rfl,by simpa using c⟩
  ·simp[Ps.over,Ps.setBad]at h
theorem typed_eq{s:Ps}(h:(z0t T s).2.over=false):(z0t T s).2.at_=s.at_+1/\s.over=false:=by
 unfold z0t at h⊢;split at h
 ·rename_i c;rw[A5 c];exact⟨rfl,(z3y c).1⟩
 ·rename_i c;rw[A1 c];exact y10 h
theorem y7v:∀N p s,p.funcs≠[]->(z2v T N p s).1.arrays=p.arrays
 |0,_,_,_=>rfl
 |N+1,p,s,h=>by
  unfold z2v;split
  ·rfl
  split
  ·rename_i c2;unfold qArr at c2;simp only[A0,At]at c2;exact A9 (Ay c2.1.2) h
  ·exact y7v N _ _ sI0
theorem ps_eq{s:Ps}(h:s.over=false):s=⟨s.at_,false,false⟩:=by
 obtain⟨a,b,d⟩:=s;unfold Ps.over at h;simp only[Bn]at h;obtain⟨rfl,rfl⟩:=h;rfl
theorem arr_le:∀(k N:Nat)(p:Pg)(s:Ps),pIs T sSo ⟨s.at_+6*k+2,false,false⟩=false->(z2v T N p s).1.arrays.length<=p.arrays.length+k
 |_,0,p,s,_=>Bl _ _
 |k,N+1,p,s,h=>by
  unfold z2v;split
  ·exact Bl _ _
  split
  ·rename_i c2;have hc:pIs T sSo (z0k T 1 (z0t T s).2).2=true:=by unfold qArr at c2;simp only[A0]at c2;exact c2.2
   have ho:=(z3y hc).1;obtain⟨a1,o1⟩:=yi4 ho;obtain⟨a2,o2⟩:=typed_eq o1
   match k,h with
   |0,h =>
    rw[ps_eq ho,a1,a2]at hc;rw[show s.at_+6*0+2=s.at_+1+1 by omega]at h;rw[h]at hc
    cases hc
   |k+1,h =>
    cases hs:(z0q T z5b (z0q T sSc (z0k T 0 (z0k T 1 (z0t T s).2).2.next).2)).over with
    |true =>
     cases N with
     |zero=>rw[z2v];simp
     |succ N=>rw[z2v,A5 (by rw[hs];rfl)];simp
    |false =>
     obtain⟨a3,o3⟩:=y10 hs;obtain⟨a4,o4⟩:=y10 o3;obtain⟨a5,o5⟩:=yi4 o4;have:=arr_le k N ⟨p.arrays++[⟨(z0k T 1 (z0t T s).2).1,z8h (z0k T 0 (z0k T 1 (z0t T s).2).2.next).1⟩],p.funcs⟩ (z0q T z5b (z0q T sSc (z0k T 0 (z0k T 1 (z0t T s).2).2.next).2)) (by
      rw[a3,a4,a5,z0p,a1,a2,show s.at_+1+1+1+1+1+1+6*k+2=s.at_+6*(k+1)+2 by omega];exact h)
     rw[B8]at this;simp only[A3,A6]at this;omega
  ·rw[y7v N _ _ sI0];exact Bl _ _
theorem yt9(s:ByteArray)(k:Nat)(h:pIs (z1d s).1 sSo ⟨6*k+2,false,false⟩=false):(z1u s).1.arrays.length<=k:=by
 unfold z1u;split
 ·split
  ·exact Aj _
  ·split
   ·exact Aj _
   ·split
    ·have:=arr_le k (big (z1d s).1) ⟨[],[]⟩ ⟨0,false,false⟩ (by simpa using h);unfold z90;simpa using this
    ·exact Aj _
 ·exact Aj _
theorem y06(s:ByteArray):∀(N line a:Nat)(out:List Tk),(toks s N line a out).1=[]∨∃r,(toks s N line a out).1=out++r
 |0,_,_,_=>.inl rfl
 |N+1,line,a,out=>by
  unfold toks;split
  ·exact .inr ⟨_,rfl⟩
  ·split
   ·exact y06 s N _ _ out
   ·rename_i t a2 _;rcases y06 s N line a2 (out++[t])with h|⟨r,h⟩
    ·exact .inl h
    ·exact .inr ⟨t::r,by rw[h,Ci];rfl⟩
   ·exact .inl rfl
def pxOk(P:ByteArray)(a:Nat):Bool:=decide (a+3<=P.size)&&decide (a+z4b P a<P.size)&&P.data.toList[a]? != some 47
def px(P:ByteArray):Nat->Nat->Nat->List Tk->Option (Nat×Nat×List Tk)
 |0,line,a,out=>some (line,a,out)
 |k+1,line,a,out=>if pxOk P a then(match P.data.toList[a]? with
  |some b=>(match zu5 P line a b with
   |.skip l2 a2=>px P k l2 a2 out
   |.tok t a2=>px P k line a2 (out++[t])
   |.bad _=>none)
  |none=>none)else none
variable {P R:ByteArray} {a:Nat}
theorem yk8:(P++R).data.toList=P.data.toList++R.data.toList:=by rw[ByteArray.data_append,Do]
theorem ym9(s:ByteArray):s.data.toList.length=s.size:=Bw
theorem bget_app(h:a<P.size):(P++R).data.toList[a]?=P.data.toList[a]?:=by rw[yk8,Au (by rw[ym9];exact h)]
theorem run_app(h:a+z4b P a<P.size):z4b (P++R) a=z4b P a:=by
 unfold z4b at h⊢;have hl:=ym9 P;rw[yk8,List.drop_append_of_le_length oM0,List.takeWhile_append,A1];rw[Ep];omega
theorem j16{n:Nat}(h:a+n<=P.size):(P++R).extract a (a+n)=P.extract a (a+n):=by
 apply ByteArray.ext;rw[Dt,Dt,ByteArray.data_append,Array.extract_append];have:a+n-P.data.size=0:=by have:P.data.size=P.size:=rfl;omega
 rw[this];simp
theorem j17(s:ByteArray)(a n:Nat)(h:a+n<=s.size):(s.extract a s.size).extract 0 n=s.extract a (a+n):=by
 apply ByteArray.ext;rw[Dt,Dt,Dt,Array.extract_extract];rw[Ca,Dj h]
theorem y74:(P++R).size=P.size+R.size:=A4
theorem sgIs_app{w:ByteArray}(h:a+3<=P.size)(hw:w.size<=3):sgIs ((P++R).extract a (P++R).size) w=sgIs (P.extract a P.size) w:=by
 unfold sgIs;have h2:=@y74 P R;rw[j17 _ _ _ oM0,j17 _ _ _ oM0,j16 oM0,Cq,Cq];rw[show decide (w.size<=min (P++R).size (P++R).size-a)=true from Cb oM0,show decide (w.size<=min P.size P.size-a)=true from Cb oM0]
theorem yr3(h:a+3<=P.size):∀l:List ByteArray,(∀w∈l,w.size<=3)->sgGo ((P++R).extract a (P++R).size) l=sgGo (P.extract a P.size) l
 |[],_=>rfl
 |w::r,hw=>by
  simp only[sgGo];rw[sgIs_app h (hw w (.head _)),yr3 h r λx hx=>hw x (.tail _ hx)]
theorem sgOf_app(h:a+3<=P.size):sgOf ((P++R).extract a (P++R).size)=sgOf (P.extract a P.size):=yr3 h sgL dC0
theorem j59(h:pxOk P a=true)(line:Nat){b:UInt8}(hb:P.data.toList[a]?=some b):zu5 (P++R) line a b=zu5 P line a b:=by
 unfold pxOk at h;simp only[A0,Ba,bne_iff_ne]at h;obtain⟨⟨h1,h2⟩,h3⟩:=h;have h4:b≠47:=λe=>h3 (by rw[hb,e]);unfold zu5;rw[run_app h2,j16 oM0,sgOf_app h1];simp only[h4,false_and,Bv]
theorem y68(N:Nat):∀(k line a:Nat)(out:List Tk){l2 a2:Nat}{o2:List Tk},px P k line a out=some (l2,a2,o2)->toks (P++R) (N+k) line a out=toks (P++R) N l2 a2 o2
 |0,line,a,out,l2,a2,o2,h=>by cases h;rfl
 |k+1,line,a,out,l2,a2,o2,h=>by
  unfold px at h;split at h
  ·rename_i hk;have h1:a+3<=P.size:=by
    have:=hk;unfold pxOk at this;simp only[A0,Ba]at this;exact this.1.1
   rw[show N+(k+1)=(N+k)+1 from rfl]
   conv=>lhs;unfold toks
   rw[bget_app oM0];split at h
   ·rename_i b hb;rw[hb];dsimp only;rw[j59 hk line hb];split at h
    iterate 2 ·rename_i h5;rw[h5];exact y68 N k _ _ _ h
    ·cases h
   ·cases h
  ·cases h
theorem px_is{k l2 a2 i:Nat}{o2:List Tk}(h:px P k 1 0 []=some (l2,a2,o2))(hk:k<=P.size)(hi:i<o2.length)(hq:pIs o2 sSo ⟨i,false,false⟩=false):pIs (z1d (P++R)).1 sSo ⟨i,false,false⟩=false:=by
 unfold z1d;have e:pIs ([]:List Tk) sSo ⟨i,false,false⟩=false:=by
  unfold pIs tkAt;simp
 split
 ·exact e
 ·have hs:=@y74 P R;obtain⟨N,hN⟩:∃N,(P++R).size+1=N+k:=⟨(P++R).size+1-k,by omega⟩;rw[hN,y68 N k 1 0 [] h];rcases y06 (P++R) N l2 a2 o2 with h1|⟨r,h1⟩
  ·rw[h1];exact e
  ·rw[h1];have:tkAt (o2++r) ⟨i,false,false⟩=tkAt o2 ⟨i,false,false⟩:=by
    unfold tkAt;rw[Ax,Ax,Au hi]
   unfold pIs at hq⊢;rw[this];exact hq
end
section
def kAt(L:List ByteArray)(i:Nat):ByteArray:=L.getD i s_
def KFm:Type:=Nat->ByteArray×Nat
def kNums:List ByteArray:=[⟨#[48]⟩,⟨#[49]⟩,⟨#[50]⟩,⟨#[55]⟩,⟨#[50,53,53]⟩,⟨#[54,52]⟩]
def kUns:List ByteArray:=[⟨#[45]⟩,⟨#[126]⟩,⟨#[105,56]⟩,⟨#[117,49,54]⟩,⟨#[105,51,50]⟩]
def kOps:List ByteArray:=[⟨#[43]⟩,⟨#[45]⟩,⟨#[42]⟩,⟨#[47]⟩,⟨#[37]⟩,⟨#[38]⟩,⟨#[124]⟩,⟨#[94]⟩,⟨#[60,60]⟩,⟨#[62,62]⟩,⟨#[62,62,62]⟩]
def kTrs:List ByteArray:=[⟨#[116,114,117,101]⟩,⟨#[102,97,108,115,101]⟩]
def kCmp:List ByteArray:=[⟨#[60]⟩,⟨#[60,61]⟩,⟨#[62]⟩,⟨#[62,61]⟩,⟨#[61,61]⟩,⟨#[33,61]⟩]
def y2t(l:List UInt8)(v:ByteArray)(rn rt:KFm)(k a:Nat):ByteArray×Nat :=
 if k<2 then(kAt kNums (z2e l a 6),a+1)
 else if k<5 then(v,a)
 else if k=5 then(⟨#[97,91]⟩++v++⟨#[32,38,32,51,93]⟩,a)
 else if k=6 then(⟨#[97,91]⟩++(rn a).1++⟨#[93]⟩,(rn a).2)
 else if k=7 then(kAt kUns (z2e l a 5)++⟨#[40]⟩++(rn (a+1)).1++⟨#[41]⟩,(rn (a+1)).2)
 else if k<11 then(⟨#[40]⟩++(rn a).1++⟨#[32]⟩++kAt kOps (z2e l (rn a).2 11)++⟨#[32]⟩++(rn ((rn a).2+1)).1++⟨#[41]⟩,(rn ((rn a).2+1)).2)
 else if k=11 then(⟨#[114,101,97,100,40,41]⟩,a)
 else if k=12 then(⟨#[99,91]⟩++v++⟨#[32,37,32,51,93]⟩,a)
 else(⟨#[102,40]⟩++(rn a).1++⟨#[44,32]⟩++(rt (rn a).2).1++⟨#[41]⟩,(rt (rn a).2).2)
def y2u(l:List UInt8)(b:ByteArray)(rn rt:KFm)(k a:Nat):ByteArray×Nat :=
 if k=0 then(kAt kTrs (z2e l a 2),a+1)
 else if k<3 then(b,a)
 else if k=3 then(⟨#[33]⟩++b,a)
 else if k<7 then(⟨#[40]⟩++(rn a).1++⟨#[32]⟩++kAt kCmp (z2e l (rn a).2 6)++⟨#[32]⟩++(rn ((rn a).2+1)).1++⟨#[41]⟩,(rn ((rn a).2+1)).2)
 else if k=7 then(⟨#[40]⟩++(rt a).1++⟨#[32,38,38,32]⟩++(rt (rt a).2).1++⟨#[41]⟩,(rt (rt a).2).2)
 else if k=8 then(⟨#[40]⟩++(rt a).1++⟨#[32,124,124,32]⟩++(rt (rt a).2).1++⟨#[41]⟩,(rt (rt a).2).2)
 else(⟨#[103,40]⟩++(rn a).1++⟨#[41]⟩,(rn a).2)
def kK(l:List UInt8)(d n m a:Nat):Nat:=if d<1 then z2e l a n%m else z2e l a n
def kNT(l:List UInt8)(v b:ByteArray):Nat->KFm×KFm
 |0=>(λa=>y2t l v (λa=>(s_,a)) (λa=>(s_,a)) (kK l 0 14 6 a) (a+1),λa=>y2u l b (λa=>(s_,a)) (λa=>(s_,a)) (kK l 0 10 3 a) (a+1))
 |d+1=>(λa=>y2t l v (kNT l v b d).1 (kNT l v b d).2 (kK l (d+1) 14 6 a) (a+1),λa=>y2u l b (kNT l v b d).1 (kNT l v b d).2 (kK l (d+1) 10 3 a) (a+1))
def KOk(F:KFm)(B:Nat):Prop:=∀a,(F a).1.size<=B/\(F a).2<=a+B
theorem z5m(l:List UInt8)(a:Nat){n:Nat}(hn:0<n):z2e l a n<n:=by
 unfold z2e;split
 ·exact hn
 ·exact Gd _ hn
theorem z6v{L:List ByteArray}{i:Nat}(h:i<L.length):L[i]?=some (kAt L i):=by
 unfold kAt;rw[Ax,Ad h];rfl
theorem zh1(L:List ByteArray)(i:Nat)(h:∀w∈L,w.size<=8):(kAt L i).size<=8:=by
 rcases Dy i L.length with h1|h1
 ·have:=z6v h1;exact h _ (Af this)
 ·unfold kAt;rw[Ax,List.getElem?_eq_none h1];exact Aj _
theorem szl(l:List UInt8):(ByteArray.mk (List.toArray l)).size=l.length:=rfl
theorem ym0(l:List UInt8){v:ByteArray}(hv:v.size<=8){rn rt:KFm}{B:Nat}(h1:KOk rn B)(h2:KOk rt B)(k a:Nat):(y2t l v rn rt k a).1.size<=2*B+24/\(y2t l v rn rt k a).2<=a+(2*B+23):=by
 have a1:=zh1 kNums (z2e l a 6) dC0;have a2:=zh1 kUns (z2e l a 5) dC0;have a3:=zh1 kOps (z2e l (rn a).2 11) dC0;have b1:=h1 a;have b2:=h1 (a+1);have b3:=h1 ((rn a).2+1);have b4:=h2 (rn a).2;unfold y2t
 repeat' (first|(split;rename_i h;clear h)|(simp only[A4,szl,A3,A6];omega))
theorem ym1(l:List UInt8){b:ByteArray}(hv:b.size<=8){rn rt:KFm}{B:Nat}(h1:KOk rn B)(h2:KOk rt B)(k a:Nat):(y2u l b rn rt k a).1.size<=2*B+24/\(y2u l b rn rt k a).2<=a+(2*B+23):=by
 have a1:=zh1 kTrs (z2e l a 2) dC0;have a3:=zh1 kCmp (z2e l (rn a).2 6) dC0;have b1:=h1 a;have b3:=h1 ((rn a).2+1);have b4:=h2 a;have b5:=h2 (rt a).2;unfold y2u
 repeat' (first|(split;rename_i h;clear h)|(simp only[A4,szl,A3,A6];omega))
def kB:Nat->Nat
 |0=>24
 |d+1=>2*kB d+24
theorem z7p(l:List UInt8){v b:ByteArray}(hv:v.size<=8)(hb:b.size<=8):∀d,KOk (kNT l v b d).1 (kB d)/\KOk (kNT l v b d).2 (kB d)
 |0=>by
  have h0:KOk (λa=>(s_,a)) 0:=λa=>⟨Ag _,Ag _⟩
  exact⟨λa=>by have:=ym0 l hv h0 h0 (kK l 0 14 6 a) (a+1);simp only[kNT,kB];omega,λa=>by have:=ym1 l hb h0 h0 (kK l 0 10 3 a) (a+1);simp only[kNT,kB];omega⟩
 |d+1=>by
  obtain⟨h1,h2⟩:=z7p l hv hb d;exact⟨λa=>by have:=ym0 l hv h1 h2 (kK l (d+1) 14 6 a) (a+1);simp only[kNT,kB];omega,λa=>by have:=ym1 l hb h1 h2 (kK l (d+1) 10 3 a) (a+1);simp only[kNT,kB];omega⟩
section
attribute [local irreducible] z2e kAt
def MkN(l:List UInt8)(f:FuncId)(v b:ByteArray)(d:Int)(F:KFm)(B:Nat):Prop:=∀a,a+B<=1000000000->SC Tryz.prog f [.ptr 1 0,iStr v,iStr b,iInt d] (mkO l a) (λk=>k∈[]) (iStr (F a).1) (mkO l (F a).2)
theorem z4m(l:List UInt8)(hl:l.length<=9223372036854775807)(n:Nat)(hn:0<n)(a:Nat)(ha:a<=1000000000):SC Tryz.prog 41 [.ptr 1 0,.pv (.val (.int .i64 (n:Int)))] (mkO l a) (λk=>k∈[]) (iInt (z2e l a n:Nat)) (mkO l (a+1)):=sc_pick l a ha n hn hl
theorem z48(d:Nat)(h:d<=1000)(hd:0<d):z3f .sub .i64 ((d:Nat):Int) 1=some (.int .i64 ((d-1:Nat):Int)):=z3e oM0 oM0
theorem y1z(l:List UInt8)(hl:l.length<=9223372036854775807){v b:ByteArray}(hv:v.size<=8)(hb:b.size<=8)(d:Nat)(hd:d<=1000){rn rt:KFm}{B:Nat}(hB:B<=100000000)(h1:KOk rn B)(h2:KOk rt B)
 (sn:0<d->MkN l 21 v b ((d-1:Nat):Int) rn B) (st:0<d->MkN l 22 v b ((d-1:Nat):Int) rt B) :
 MkN l 21 v b (d:Int) (λa=>y2t l v rn rt (kK l d 14 6 a) (a+1)) (2*B+24):=by
 intro a ha;show SC _ _ _ _ _ (iStr (y2t l v rn rt (kK l d 14 6 a) (a+1)).1) (mkO l (y2t l v rn rt (kK l d 14 6 a) (a+1)).2);generalize hR:y2t l v rn rt (kK l d 14 6 a) (a+1)=R;refine K0 tb { jn:=[4] } [] Tryz.func21 rfl rfl ?_;have hk:0<d∨kK l d 14 6 a<6:=by
  rcases Nat.eq_zero_or_pos d with h|h
  ·subst h;exact .inr (Gd _ dC0)
  ·exact .inl h
 refine⟨[],z4m l hl 14 dC0 a oM0,sR,Gg,rfl,Unit,λ_=>[(9,iInt (kK l d 14 6 a:Nat))],λ_=>[],λ_=>True,[],?_,?_⟩
 ·refine z00 (λc=>?_) λc=>?_
  ·have c:=Ap c;exact⟨r64 (z:=((z2e l a 14%6:Nat):Int)) dC0 (by rw[Int.tmod_eq_emod_of_nonneg oM0];omega),(),Gf,⟨ivq (by unfold kK;rw[A5 oM0]),Gf⟩,Gf,rfl,rfl,rfl,rfl⟩
  ·have c:=Am c;exact⟨(),Gf,⟨ivq (by unfold kK;rw[A1 oM0]),Gf⟩,Gf,rfl,rfl,rfl,rfl⟩
 ·rintro _ _;generalize kK l d 14 6 a=K at hk hR⊢;unfold y2t at hR;have n0:=h1 (a+1);have n1:=h1 (a+1+1);have n2:=h1 ((rn (a+1)).2+1);have n3:=h2 (rn (a+1)).2;have g1:=zh1 kUns (z2e l (a+1) 5) dC0;have g2:=zh1 kOps (z2e l (rn (a+1)).2 11) dC0;refine z00 (λc=>?_) λc0=>z00 (λc=>?_) λc1=>z00 (λc=>?_) λc2=>z00 (λc=>?_) λc3=>z00 (λc=>?_) λc4=>z00 (λc=>?_) λc5=>z00 (λc=>?_) λc6=>z00 (λc=>?_) λc7=>?_
  all_goals try replace c0:¬K<2:=by have:=Am c0;omega
  all_goals try replace c1:¬K<5:=by have:=Am c1;omega
  all_goals try replace c2:¬K=5:=by have:=Aa.1 c2;omega
  all_goals try replace c3:¬K=6:=by have:=Aa.1 c3;omega
  all_goals try replace c4:¬K=7:=by have:=Aa.1 c4;omega
  all_goals try replace c5:¬K<11:=by have:=Am c5;omega
  all_goals try replace c6:¬K=11:=by have:=Aa.1 c6;omega
  all_goals try replace c7:¬K=12:=by have:=Aa.1 c7;omega
  ·rw[A5 (by have:=Ap c;omega)]at hR;subst hR;exact⟨[],z4m l hl 6 dC0 (a+1) oM0,sR,Gg,rfl,z02 (f:=eTx) (z6v (L:=kNums) (z5m l (a+1) (n:=6) dC0)),rfl,sI,rfl,Gf⟩
  ·rw[A1 c0,A5 (by have:=Ap c;omega)]at hR;subst hR;exact⟨sI,rfl,Gf⟩
  ·rw[A1 c0,A1 c1,A5 (by have:=Av c;omega)]at hR;subst hR
   repeat' (first|exact⟨sI,rfl,Gf⟩|refine⟨z08 (by simp only[A4,szl,A3,A6];omega),?_⟩)
  ·rw[A1 c0,A1 c1,A1 c2,A5 (by have:=Av c;omega)]at hR;subst hR;have hd0:0<d:=by have:=Av c;omega
   have q1:=sn hd0 (a+1) oM0;refine⟨z48 d hd hd0,[],q1,sR,Gg,rfl,?_⟩
   repeat' (first|exact⟨sI,rfl,Gf⟩|refine⟨z08 (by simp only[A4,szl,A3,A6];omega),?_⟩)
  ·rw[A1 c0,A1 c1,A1 c2,A1 c3,A5 (by have:=Av c;omega)]at hR;subst hR;have hd0:0<d:=by have:=Av c;omega
   have q1:=sn hd0 (a+1+1) oM0;refine⟨[],z4m l hl 5 dC0 (a+1) oM0,sR,Gg,rfl,z02 (f:=eTx) (z6v (L:=kUns) (z5m l (a+1) (n:=5) dC0)),rfl,z08 (by simp only[A4,szl,A3,A6];omega),z48 d hd hd0,[],q1,sR,Gg,rfl,?_⟩
   repeat' (first|exact⟨sI,rfl,Gf⟩|refine⟨z08 (by simp only[A4,szl,A3,A6];omega),?_⟩)
  ·rw[A1 c0,A1 c1,A1 c2,A1 c3,A1 c4,A5 (by have:=Ap c;omega)]at hR;subst hR;have hd0:0<d:=by omega
   have q1:=sn hd0 (a+1) oM0;have q2:=sn hd0 ((rn (a+1)).2+1) oM0;refine⟨z48 d hd hd0,[],q1,sR,Gg,rfl,z08 (by simp only[A4,szl,A3,A6];omega),z08 (by simp only[A4,szl,A3,A6];omega),[],z4m l hl 11 dC0 (rn (a+1)).2 oM0,sR,Gg,rfl,z02 (f:=eTx) (z6v (L:=kOps) (z5m l (rn (a+1)).2 (n:=11) dC0)),rfl,z08 (by simp only[A4,szl,A3,A6];omega),z08 (by simp only[A4,szl,A3,A6];omega),z48 d hd hd0,[],q2,sR,Gg,rfl,?_⟩
   repeat' (first|exact⟨sI,rfl,Gf⟩|refine⟨z08 (by simp only[A4,szl,A3,A6];omega),?_⟩)
  ·rw[A1 c0,A1 c1,A1 c2,A1 c3,A1 c4,A1 c5,A5 (by have:=Av c;omega)]at hR;subst hR;exact⟨sI,rfl,Gf⟩
  ·rw[A1 c0,A1 c1,A1 c2,A1 c3,A1 c4,A1 c5,A1 c6,A5 (by have:=Av c;omega)]at hR;subst hR
   repeat' (first|exact⟨sI,rfl,Gf⟩|refine⟨z08 (by simp only[A4,szl,A3,A6];omega),?_⟩)
  ·rw[A1 c0,A1 c1,A1 c2,A1 c3,A1 c4,A1 c5,A1 c6,A1 c7]at hR;subst hR;have hd0:0<d:=by omega
   have q1:=sn hd0 (a+1) oM0;have q2:=st hd0 (rn (a+1)).2 oM0;refine⟨z48 d hd hd0,[],q1,sR,Gg,rfl,z08 (by simp only[A4,szl,A3,A6];omega),z08 (by simp only[A4,szl,A3,A6];omega),z48 d hd hd0,[],q2,sR,Gg,rfl,?_⟩
   repeat' (first|exact⟨sI,rfl,Gf⟩|refine⟨z08 (by simp only[A4,szl,A3,A6];omega),?_⟩)
theorem zo2(l:List UInt8)(hl:l.length<=9223372036854775807){v b:ByteArray}(hb:b.size<=8)(d:Nat)(hd:d<=1000){rn rt:KFm}{B:Nat}(hB:B<=100000000)(h1:KOk rn B)(h2:KOk rt B)
 (sn:0<d->MkN l 21 v b ((d-1:Nat):Int) rn B) (st:0<d->MkN l 22 v b ((d-1:Nat):Int) rt B) :
 MkN l 22 v b (d:Int) (λa=>y2u l b rn rt (kK l d 10 3 a) (a+1)) (2*B+24):=by
 intro a ha;show SC _ _ _ _ _ (iStr (y2u l b rn rt (kK l d 10 3 a) (a+1)).1) (mkO l (y2u l b rn rt (kK l d 10 3 a) (a+1)).2);generalize hR:y2u l b rn rt (kK l d 10 3 a) (a+1)=R;refine K0 tb { jn:=[4] } [] Tryz.func22 rfl rfl ?_;have hk:0<d∨kK l d 10 3 a<3:=by
  rcases Nat.eq_zero_or_pos d with h|h
  ·subst h;exact .inr (Gd _ dC0)
  ·exact .inl h
 refine⟨[],z4m l hl 10 dC0 a oM0,sR,Gg,rfl,Unit,λ_=>[(9,iInt (kK l d 10 3 a:Nat))],λ_=>[],λ_=>True,[],?_,?_⟩
 ·refine z00 (λc=>?_) λc=>?_
  ·have c:=Ap c;exact⟨r64 (z:=((z2e l a 10%3:Nat):Int)) dC0 (by rw[Int.tmod_eq_emod_of_nonneg oM0];omega),(),Gf,⟨ivq (by unfold kK;rw[A5 oM0]),Gf⟩,Gf,rfl,rfl,rfl,rfl⟩
  ·have c:=Am c;exact⟨(),Gf,⟨ivq (by unfold kK;rw[A1 oM0]),Gf⟩,Gf,rfl,rfl,rfl,rfl⟩
 ·rintro _ _;generalize kK l d 10 3 a=K at hk hR⊢;unfold y2u at hR;have n0:=h1 (a+1);have n1:=h2 (a+1);have n2:=h1 ((rn (a+1)).2+1);have n3:=h2 (rt (a+1)).2;have g2:=zh1 kCmp (z2e l (rn (a+1)).2 6) dC0;refine z00 (λc=>?_) λc0=>z00 (λc=>?_) λc1=>z00 (λc=>?_) λc2=>z00 (λc=>?_) λc3=>z00 (λc=>?_) λc4=>z00 (λc=>?_) λc5=>?_
  all_goals try replace c0:¬K=0:=by have:=Aa.1 c0;omega
  all_goals try replace c1:¬K<3:=by have:=Am c1;omega
  all_goals try replace c2:¬K=3:=by have:=Aa.1 c2;omega
  all_goals try replace c3:¬K<7:=by have:=Am c3;omega
  all_goals try replace c4:¬K=7:=by have:=Aa.1 c4;omega
  all_goals try replace c5:¬K=8:=by have:=Aa.1 c5;omega
  ·rw[A5 (by have:=Av c;omega)]at hR;subst hR;exact⟨[],z4m l hl 2 dC0 (a+1) oM0,sR,Gg,rfl,z02 (f:=eTx) (z6v (L:=kTrs) (z5m l (a+1) (n:=2) dC0)),rfl,sI,rfl,Gf⟩
  ·rw[A1 c0,A5 (by have:=Ap c;omega)]at hR;subst hR;exact⟨sI,rfl,Gf⟩
  ·rw[A1 c0,A1 c1,A5 (by have:=Av c;omega)]at hR;subst hR
   repeat' (first|exact⟨sI,rfl,Gf⟩|refine⟨z08 (by simp only[A4,szl,A3,A6];omega),?_⟩)
  ·rw[A1 c0,A1 c1,A1 c2,A5 (by have:=Ap c;omega)]at hR;subst hR;have hd0:0<d:=by omega
   have q1:=sn hd0 (a+1) oM0;have q2:=sn hd0 ((rn (a+1)).2+1) oM0;refine⟨z48 d hd hd0,[],q1,sR,Gg,rfl,z08 (by simp only[A4,szl,A3,A6];omega),z08 (by simp only[A4,szl,A3,A6];omega),[],z4m l hl 6 dC0 (rn (a+1)).2 oM0,sR,Gg,rfl,z02 (f:=eTx) (z6v (L:=kCmp) (z5m l (rn (a+1)).2 (n:=6) dC0)),rfl,z08 (by simp only[A4,szl,A3,A6];omega),z08 (by simp only[A4,szl,A3,A6];omega),z48 d hd hd0,[],q2,sR,Gg,rfl,?_⟩
   repeat' (first|exact⟨sI,rfl,Gf⟩|refine⟨z08 (by simp only[A4,szl,A3,A6];omega),?_⟩)
  ·rw[A1 c0,A1 c1,A1 c2,A1 c3,A5 (by have:=Av c;omega)]at hR;subst hR;have hd0:0<d:=by omega
   have q1:=st hd0 (a+1) oM0;have q2:=st hd0 (rt (a+1)).2 oM0;refine⟨z48 d hd hd0,[],q1,sR,Gg,rfl,z08 (by simp only[A4,szl,A3,A6];omega),z08 (by simp only[A4,szl,A3,A6];omega),z48 d hd hd0,[],q2,sR,Gg,rfl,?_⟩
   repeat' (first|exact⟨sI,rfl,Gf⟩|refine⟨z08 (by simp only[A4,szl,A3,A6];omega),?_⟩)
  ·rw[A1 c0,A1 c1,A1 c2,A1 c3,A1 c4,A5 (by have:=Av c;omega)]at hR;subst hR;have hd0:0<d:=by omega
   have q1:=st hd0 (a+1) oM0;have q2:=st hd0 (rt (a+1)).2 oM0;refine⟨z48 d hd hd0,[],q1,sR,Gg,rfl,z08 (by simp only[A4,szl,A3,A6];omega),z08 (by simp only[A4,szl,A3,A6];omega),z48 d hd hd0,[],q2,sR,Gg,rfl,?_⟩
   repeat' (first|exact⟨sI,rfl,Gf⟩|refine⟨z08 (by simp only[A4,szl,A3,A6];omega),?_⟩)
  ·rw[A1 c0,A1 c1,A1 c2,A1 c3,A1 c4,A1 c5]at hR;subst hR;have hd0:0<d:=by omega
   have q1:=sn hd0 (a+1) oM0;refine⟨z48 d hd hd0,[],q1,sR,Gg,rfl,?_⟩
   repeat' (first|exact⟨sI,rfl,Gf⟩|refine⟨z08 (by simp only[A4,szl,A3,A6];omega),?_⟩)
theorem y95(l:List UInt8)(hl:l.length<=9223372036854775807){v b:ByteArray}(hv:v.size<=8)(hb:b.size<=8):∀d,d<=3->kB d<=1000/\MkN l 21 v b (d:Int) (kNT l v b d).1 (kB d)/\MkN l 22 v b (d:Int) (kNT l v b d).2 (kB d)
 |0,_=>by
  have h0:KOk (λa=>(s_,a)) 0:=λa=>⟨Ag _,Ag _⟩
  exact⟨by decide,y1z l hl hv hb 0 oM0 oM0 h0 h0 (λh=>A9 h oM0) (λh=>A9 h oM0),zo2 l hl hb 0 oM0 oM0 h0 h0 (λh=>A9 h oM0) (λh=>A9 h oM0)⟩
 |d+1,hd=>by
  obtain⟨h0,h1,h2⟩:=y95 l hl hv hb d oM0;obtain⟨k1,k2⟩:=z7p l hv hb d
  exact⟨by match d,hd with
   |0,_=>decide
   |1,_=>decide
   |2,_=>decide,y1z l hl hv hb (d+1) oM0 oM0 k1 k2 (λ_=>h1) (λ_=>h2),zo2 l hl hb (d+1) oM0 oM0 k1 k2 (λ_=>h1) (λ_=>h2)⟩
end
end
section
def kZ:ByteArray:=⟨#[122]⟩
def kW:ByteArray:=⟨#[119]⟩
def kLv(v b:ByteArray):List ByteArray:=[⟨#[98,114,101,97,107,59,10]⟩,⟨#[99,111,110,116,105,110,117,101,59,10]⟩,⟨#[105,102,32,40]⟩++b++⟨#[41,32,123,10,98,114,101,97,107,59,10,125,10]⟩,⟨#[105,102,32,40]⟩++v++⟨#[32,62,32,51,41,32,123,10,99,111,110,116,105,110,117,101,59,10,125,10]⟩]
def kEn:List ByteArray:=[⟨#[52]⟩,⟨#[57]⟩,⟨#[51,48]⟩]
def kRe(b:ByteArray):List ByteArray:=[⟨#[120]⟩,⟨#[120,32,43,32,49]⟩,⟨#[48]⟩,⟨#[102,40,120,44,32]⟩++b++⟨#[41]⟩]
def kBF:Type:=ByteArray->ByteArray->Bool->KFm
def kStB(l:List UInt8)(v b:ByteArray)(bl:kBF)(D lp:Bool)(k a:Nat):ByteArray×Nat :=
 if k<3 then(v++⟨#[32,61,32]⟩++((kNT l v b 2).1 a).1++⟨#[59,10]⟩,((kNT l v b 2).1 a).2)
 else if k=3 then(b++⟨#[32,61,32]⟩++((kNT l v b 2).2 a).1++⟨#[59,10]⟩,((kNT l v b 2).2 a).2)
 else if k=4 then(⟨#[112,114,105,110,116,40]⟩++((kNT l v b 2).1 a).1++⟨#[41,59,10]⟩,((kNT l v b 2).1 a).2)
 else if k=5 then(⟨#[97,91]⟩++((kNT l v b 1).1 a).1++⟨#[32,38,32,51,93,32,61,32]⟩++((kNT l v b 2).1 ((kNT l v b 1).1 a).2).1++⟨#[59,10]⟩,((kNT l v b 2).1 ((kNT l v b 1).1 a).2).2)
 else if decide (k=6)&&lp then(kAt (kLv v b) (z2e l a 4),a+1)
 else if decide (k=7)&&D then
  (⟨#[105,102,32,40]⟩++b++⟨#[41,32,123,10,105,110,116,32,122,32,61,32]⟩++((kNT l v b 1).1 a).1++⟨#[59,10,98,111,111,108,32,119,32,61,32]⟩++((kNT l kZ b 1).2 ((kNT l v b 1).1 a).2).1++⟨#[59,10]⟩++(bl kZ kW lp ((kNT l kZ b 1).2 ((kNT l v b 1).1 a).2).2).1++v++⟨#[32,61,32,122,59,10,125,10]⟩,(bl kZ kW lp ((kNT l kZ b 1).2 ((kNT l v b 1).1 a).2).2).2)
 else if decide (k<10)&&D then
  if z2e l (bl v b lp ((kNT l v b 2).2 a).2).2 2=1 then(⟨#[105,102,32,40]⟩++((kNT l v b 2).2 a).1++⟨#[41,32,123,10]⟩++(bl v b lp ((kNT l v b 2).2 a).2).1++⟨#[125,32,101,108,115,101,32,123,10]⟩++(bl v b lp ((bl v b lp ((kNT l v b 2).2 a).2).2+1)).1++⟨#[125,10]⟩,(bl v b lp ((bl v b lp ((kNT l v b 2).2 a).2).2+1)).2)
  else(⟨#[105,102,32,40]⟩++((kNT l v b 2).2 a).1++⟨#[41,32,123,10]⟩++(bl v b lp ((kNT l v b 2).2 a).2).1++⟨#[125,10]⟩,(bl v b lp ((kNT l v b 2).2 a).2).2+1)
 else if decide (k<12)&&D then
  (⟨#[119,104,105,108,101,32,40]⟩++((kNT l v b 1).2 a).1++⟨#[41,32,123,10]⟩++(bl v b true ((kNT l v b 1).2 a).2).1++v++⟨#[32,61,32]⟩++v++⟨#[32,43,32,49,59,10,105,102,32,40]⟩++v++⟨#[32,62,32]⟩++kAt kEn (z2e l (bl v b true ((kNT l v b 1).2 a).2).2 3)++⟨#[41,32,123,10,98,114,101,97,107,59,10,125,10,125,10]⟩,(bl v b true ((kNT l v b 1).2 a).2).2+1)
 else if decide (k=12) && !(v.toList==kZ.toList)then(⟨#[105,102,32,40]⟩++b++⟨#[41,32,123,10,114,101,116,117,114,110,32]⟩++kAt (kRe b) (z2e l a 4)++⟨#[59,10,125,10]⟩,a+1)
 else(v++⟨#[32,61,32]⟩++v++⟨#[32,45,32,49,59,10]⟩,a)
def y83(st:KFm):Nat->ByteArray->Nat->ByteArray×Nat
 |0,s,a=>(s,a)
 |i+1,s,a=>y83 st i (s++(st a).1) (st a).2
def kBlB(l:List UInt8)(st:KFm):KFm:=λa=>y83 st (z2e l a 5) s_ (a+1)
def kStm(l:List UInt8):Nat->kBF
 |0,v,b,lp=>λa=>kStB l v b (λ_ _ _ a=>(s_,a)) false lp (z2e l a 13) (a+1)
 |d+1,v,b,lp=>λa=>kStB l v b (λv b lp=>kBlB l (kStm l d v b lp)) true lp (z2e l a 13) (a+1)
def kBlk(l:List UInt8)(d:Nat)(v b:ByteArray)(lp:Bool):KFm:=kBlB l (kStm l d v b lp)
def kBf(bl:kBF)(B:Nat):Prop:=∀v b lp,v.size<=8->b.size<=8->KOk (bl v b lp) B
section
attribute [local irreducible] z2e kAt kNT
def BdM(B C:Nat)(r:ByteArray×Nat):Prop:=r.1.size<=B/\r.2<=C
theorem BdM.ite{B C:Nat}{c:Prop}[Decidable c]{x y:ByteArray×Nat}(h1:BdM B C x)(h2:BdM B C y):BdM B C (if c then x else y):=by split<;>assumption
theorem j1r(l:List UInt8){v b:ByteArray}(hv:v.size<=8)(hb:b.size<=8){bl:kBF}{B:Nat}(hB:kBf bl B)(D lp:Bool)(k a:Nat):(kStB l v b bl D lp k a).1.size<=2*B+600/\(kStB l v b bl D lp k a).2<=a+(2*B+599):=by
 have hz:kZ.size<=8:=by decide
 have hw:kW.size<=8:=by decide
 have e1:kB 1=72:=rfl;have e2:kB 2=168:=rfl;have a1:(kAt (kLv v b) (z2e l a 4)).size<=100:=by
  rcases Dy (z2e l a 4) (kLv v b).length with h1|h1
  ·have:=Af (z6v h1);have key:∀x∈kLv v b,x.size<=100:=λx hx=>by
    unfold kLv at hx;simp only[Aq,C1,Fp]at hx;rcases hx with h|h|h|h<;>rw[h]<;>(first|decide|(simp only[A4,szl,A3,A6];omega))
   exact key _ this
  ·unfold kAt;rw[Ax,List.getElem?_eq_none h1];exact Aj _
 have a2:(kAt (kRe b) (z2e l a 4)).size<=100:=by
  rcases Dy (z2e l a 4) (kRe b).length with h1|h1
  ·have:=Af (z6v h1);have key:∀x∈kRe b,x.size<=100:=λx hx=>by
    unfold kRe at hx;simp only[Aq,C1,Fp]at hx;rcases hx with h|h|h|h<;>rw[h]<;>(first|decide|(simp only[A4,szl,A3,A6];omega))
   exact key _ this
  ·unfold kAt;rw[Ax,List.getElem?_eq_none h1];exact Aj _
 have a3:=λi=>zh1 kEn i dC0;have n1:=λa=>(z7p l hv hb 1).1 a;have n2:=λa=>(z7p l hv hb 2).1 a;have t1:=λa=>(z7p l hv hb 1).2 a;have t2:=λa=>(z7p l hv hb 2).2 a;have z1:=λa=>(z7p l hz hb 1).2 a;have b1:=λlp a=>hB v b lp hv hb a;have b2:=λlp a=>hB kZ kW lp hz hw a;rw[e1]at n1 t1 z1;rw[e2]at n2 t2;unfold kStB;have n1a:=n1 a;have n2a:=n2 a;have t1a:=t1 a;have t2a:=t2 a;have x1:=n2 ((kNT l v b 1).1 a).2;have x2:=z1 ((kNT l v b 1).1 a).2;have x3:=b2 lp ((kNT l kZ b 1).2 ((kNT l v b 1).1 a).2).2;have x4:=b1 lp ((kNT l v b 2).2 a).2;have x5:=b1 lp ((bl v b lp ((kNT l v b 2).2 a).2).2+1);have x6:=b1 true ((kNT l v b 1).2 a).2;have x7:=a3 (z2e l (bl v b true ((kNT l v b 1).2 a).2).2 3);clear n1 n2 t1 t2 z1 b1 b2 a3;show BdM (2*B+600) (a+(2*B+599)) _
 repeat' (first|refine BdM.ite ?_ ?_|(show _/\_;simp only[A4,szl,A3,A6];omega))
theorem yl9{st:KFm}{B:Nat}(h:KOk st B):∀i s a,(y83 st i s a).1.size<=s.size+i*B/\(y83 st i s a).2<=a+i*B
 |0,s,a=>by simp[y83]
 |i+1,s,a=>by
  have h1:=yl9 h i (s++(st a).1) (st a).2;have h2:=h a;rw[A4]at h1;rw[Nat.succ_mul];simp only[y83];omega
def kS:Nat->Nat
 |0=>600
 |d+1=>8*kS d+602
theorem yc9(l:List UInt8){st:KFm}{B:Nat}(h:KOk st B):KOk (kBlB l st) (4*B+1):=λa=>by
 have h1:=yl9 h (z2e l a 5) s_ (a+1);have h2:z2e l a 5<=4:=C7 (z5m l a dC0);have h3:=C2 B h2;have h4:s_.size=0:=rfl;unfold kBlB;omega
theorem y0v(l:List UInt8):∀d,kBf (kStm l d) (kS d)
 |0=>λv b lp hv hb a=>by
  have:=j1r l hv hb (bl:=λ_ _ _ a=>(s_,a)) (B:=0) (λ_ _ _ _ _ a=>⟨Ag _,Ag _⟩) false lp (z2e l a 13) (a+1)
  simp only[kStm,kS];omega
 |d+1=>λv b lp hv hb a=>by
  have h1:kBf (λv b lp=>kBlB l (kStm l d v b lp)) (4*kS d+1):=λv b lp hv hb=>yc9 l (y0v l d v b lp hv hb);have:=j1r l hv hb h1 true lp (z2e l a 13) (a+1);simp only[kStm,kS];omega
def MkS(l:List UInt8)(f:FuncId)(v b:ByteArray)(d:Int)(lp:Bool)(F:KFm)(B:Nat):Prop:=∀a,a+B<=1000000000->SC Tryz.prog f [.ptr 1 0,iStr v,iStr b,iInt d,iBool lp] (mkO l a) (λk=>k∈[]) (iStr (F a).1) (mkO l (F a).2)
theorem y4g(l:List UInt8)(hl:l.length<=9223372036854775807){v b:ByteArray}(d:Int)(lp:Bool){F:KFm}{B:Nat}(hB:B<=100000000)(h0:KOk F B)(h:MkS l 42 v b d lp F B) :
 MkS l 20 v b d lp (kBlB l F) (4*B+1):=by
 intro a ha;refine K0 tb {} [] Tryz.func20 rfl rfl ?_;have hp:z2e l a 5<=4:=C7 (z5m l a dC0);refine⟨[],z4m l hl 5 dC0 a oM0,sR,Gg,rfl,?_⟩;unfold kBlB;generalize hR:y83 F (z2e l a 5) s_ (a+1)=R;refine⟨Nat×ByteArray×Nat,λx=>[(12,iInt ((x.1:Nat):Int)),(11,iStr x.2.1)],λx=>mkO l x.2.2,λx=>x.1,λx=>R=y83 F x.1 x.2.1 x.2.2/\x.1<=4/\x.2.1.size+x.1*B<=4*B/\x.2.2+x.1*B<=a+1+4*B,[],(z2e l a 5,s_,a+1),
  ⟨hR.symm,hp,by have:=C2 B hp;have h4:s_.size=0:=rfl;dsimp only;omega,by have:=C2 B hp;dsimp only;omega⟩,Gi,Gg,?_⟩
 rintro⟨i,s,p⟩ ⟨i1,i2,i3,i4⟩;dsimp only at i1 i2 i3 i4;refine z00 (λc=>?_) λc=>?_
 ·have c:=Ap c;obtain⟨j,rfl⟩:∃j,i=j+1:=⟨i-1,by dsimp only at c;omega⟩;rw[Nat.succ_mul]at i3 i4;have h1:=h0 p;exact⟨[],h p oM0,sR,Gg,rfl,z08 (by dsimp only;omega),z3e (z:=((j:Nat):Int)) (by dsimp only;omega) oM0,(j,s++(F p).1,(F p).2),Ac _,
   ⟨i1,by dsimp only;omega,by rw[A4];dsimp only;omega,by dsimp only;omega⟩,Gi,Gg,rfl,rfl,rfl,rfl⟩
 ·have c:=Am c;obtain rfl:i=0:=by dsimp only at c;omega
  subst i1;exact⟨sI,rfl,Gf⟩
theorem y96(l:List UInt8)(hl:l.length<=9223372036854775807){v b:ByteArray}(hv:v.size<=8)(hb:b.size<=8)(d:Nat)(hd:d<=1000)(D:Bool)(hD:decide (((d:Nat):Int) > 0)=D)(lp:Bool){bl:kBF}{B:Nat}(hB:B<=100000000)(h0:kBf bl B)
 (sb:0<d->∀v b lp,v.size<=8->b.size<=8->MkS l 20 v b ((d-1:Nat):Int) lp (bl v b lp) B) :
 MkS l 42 v b (d:Int) lp (λa=>kStB l v b bl D lp (z2e l a 13) (a+1)) (2*B+600):=by
 intro a ha;show SC _ _ _ _ _ (iStr (kStB l v b bl D lp (z2e l a 13) (a+1)).1) (mkO l (kStB l v b bl D lp (z2e l a 13) (a+1)).2);generalize hR:kStB l v b bl D lp (z2e l a 13) (a+1)=R;refine K0 tb { jn:=[1000001] } [] Tryz.func42 rfl rfl ?_;refine⟨[],z4m l hl 13 dC0 a oM0,sR,Gg,rfl,?_⟩;generalize z2e l a 13=K at hR⊢;unfold kStB at hR;have e6:((K:Int)==6)=decide (K=6):=by rw[Cn];simp;omega
 have e7:((K:Int)==7)=decide (K=7):=by rw[Cn];simp;omega
 have e12:((K:Int)==12)=decide (K=12):=by rw[Cn];simp;omega
 have l10:decide ((K:Int)<10)=decide (K<10):=by rw[Cn];simp;omega
 have l12:decide ((K:Int)<12)=decide (K<12):=by rw[Cn];simp;omega
 have hz:kZ.size<=8:=by decide
 have hw:kW.size<=8:=by decide
 have z8:kZ.size=1:=rfl;have eB1:kB 1=72:=rfl;have eB2:kB 2=168:=rfl;obtain⟨_,N1,T1⟩:=y95 l hl hv hb 1 dC0;obtain⟨_,N2,T2⟩:=y95 l hl hv hb 2 dC0;obtain⟨_,_,Z1⟩:=y95 l hl hz hb 1 dC0;have n1:=(z7p l hv hb 1).1 (a+1);have n2:=(z7p l hv hb 2).1 (a+1);have t1:=(z7p l hv hb 1).2 (a+1);have t2:=(z7p l hv hb 2).2 (a+1);rw[eB1]at N1 T1 Z1 n1 t1;rw[eB2]at N2 T2 n2 t2;have dec:D=true->0<d:=λh=>by rw[h]at hD;have:=Ap hD;omega
 refine⟨Unit,λ_=>[(17,iBool (decide ((K:Int)<3)))],λ_=>[],λ_=>True,[],⟨(),Gf,Gg,Gf,rfl,rfl,rfl,rfl⟩,λ_ _=>z00 (λc=>?_) λc=>?_⟩
 ·rw[A5 (by have:=Ap c;omega)]at hR;subst hR;refine⟨z08 (by simp only[A4,szl,A3,A6];omega),[],N2 (a+1) oM0,sR,Gg,rfl,?_⟩
  repeat' (first|exact⟨sI,rfl,Gf⟩|refine⟨z08 (by simp only[A4,szl,A3,A6];omega),?_⟩)
 have c0:¬(K<3):=by have:=Am c;omega
 clear c;refine⟨Unit,λ_=>[(28,iBool ((K:Int)==3))],λ_=>[],λ_=>True,[],⟨(),Gf,Gg,Gf,rfl,rfl,rfl,rfl⟩,λ_ _=>z00 (λc=>?_) λc=>?_⟩
 ·rw[A1 c0,A5 (by have:=Av c;omega)]at hR;subst hR;refine⟨z08 (by simp only[A4,szl,A3,A6];omega),[],T2 (a+1) oM0,sR,Gg,rfl,?_⟩
  repeat' (first|exact⟨sI,rfl,Gf⟩|refine⟨z08 (by simp only[A4,szl,A3,A6];omega),?_⟩)
 have c1:¬(K=3):=by have:=Aa.1 c;omega
 clear c;refine⟨Unit,λ_=>[(39,iBool ((K:Int)==4))],λ_=>[],λ_=>True,[],⟨(),Gf,Gg,Gf,rfl,rfl,rfl,rfl⟩,λ_ _=>z00 (λc=>?_) λc=>?_⟩
 ·rw[A1 c0,A1 c1,A5 (by have:=Av c;omega)]at hR;subst hR;refine⟨[],N2 (a+1) oM0,sR,Gg,rfl,?_⟩
  repeat' (first|exact⟨sI,rfl,Gf⟩|refine⟨z08 (by simp only[A4,szl,A3,A6];omega),?_⟩)
 have c2:¬(K=4):=by have:=Aa.1 c;omega
 clear c;refine⟨Unit,λ_=>[(48,iBool ((K:Int)==5))],λ_=>[],λ_=>True,[],⟨(),Gf,Gg,Gf,rfl,rfl,rfl,rfl⟩,λ_ _=>z00 (λc=>?_) λc=>?_⟩
 ·rw[A1 c0,A1 c1,A1 c2,A5 (by have:=Av c;omega)]at hR;subst hR;have m2:=(z7p l hv hb 2).1 ((kNT l v b 1).1 (a+1)).2;rw[eB2]at m2;refine⟨[],N1 (a+1) oM0,sR,Gg,rfl,z08 (by simp only[A4,szl,A3,A6];omega),z08 (by simp only[A4,szl,A3,A6];omega),[],N2 ((kNT l v b 1).1 (a+1)).2 oM0,sR,Gg,rfl,?_⟩
  repeat' (first|exact⟨sI,rfl,Gf⟩|refine⟨z08 (by simp only[A4,szl,A3,A6];omega),?_⟩)
 have c3:¬(K=5):=by have:=Aa.1 c;omega
 clear c;refine⟨Unit,λ_=>[(64,iBool (decide (K=6)&&lp))],λ_=>[],λ_=>True,[],z00 (λc=>⟨(),Gf,⟨by rw[<- e6,c];rfl,Gf⟩,Gf,rfl,rfl,rfl,rfl⟩) (λc=>⟨(),Gf,⟨by rw[<- e6,c];rfl,Gf⟩,Gf,rfl,rfl,rfl,rfl⟩),λ_ _=>z00 (λc=>?_) λc=>?_⟩
 ·rw[A1 c0,A1 c1,A1 c2,A1 c3,A5 c]at hR;subst hR;exact⟨z08 (by simp only[A4,szl,A3,A6];omega),z08 (by simp only[A4,szl,A3,A6];omega),z08 (by simp only[A4,szl,A3,A6];omega),z08 (by simp only[A4,szl,A3,A6];omega),[],z4m l hl 4 dC0 (a+1) oM0,sR,Gg,rfl,z02 (f:=eTx) (z6v (L:=kLv v b) (z5m l (a+1) (n:=4) dC0)),rfl,sI,rfl,Gf⟩
 have c4:¬((decide (K=6)&&lp)=true):=by rw[c];decide
 clear c;refine⟨Unit,λ_=>[(81,iBool (decide (K=7)&&D))],λ_=>[],λ_=>True,[],z00 (λc=>⟨(),Gf,⟨by rw[<- e7,c,hD];rfl,Gf⟩,Gf,rfl,rfl,rfl,rfl⟩) (λc=>⟨(),Gf,⟨by rw[<- e7,c];rfl,Gf⟩,Gf,rfl,rfl,rfl,rfl⟩),λ_ _=>z00 (λc=>?_) λc=>?_⟩
 ·rw[A1 c0,A1 c1,A1 c2,A1 c3,A1 c4,A5 c]at hR;subst hR;have hd0:=dec (by cases D with|true=>rfl|false=>rw[D1]at c;cases c);have m1:=(z7p l hz hb 1).2 ((kNT l v b 1).1 (a+1)).2;rw[eB1]at m1;have m2:=h0 kZ kW lp hz hw ((kNT l kZ b 1).2 ((kNT l v b 1).1 (a+1)).2).2;refine⟨z08 (by simp only[A4,szl,A3,A6];omega),z08 (by simp only[A4,szl,A3,A6];omega),[],N1 (a+1) oM0,sR,Gg,rfl,z08 (by simp only[A4,szl,A3,A6];omega),z08 (by simp only[A4,szl,A3,A6];omega),[],Z1 ((kNT l v b 1).1 (a+1)).2 oM0,sR,Gg,rfl,z08 (by simp only[A4,szl,A3,A6];omega),z08 (by simp only[A4,szl,A3,A6];omega),z48 d hd hd0,[],sb hd0 kZ kW lp hz hw ((kNT l kZ b 1).2 ((kNT l v b 1).1 (a+1)).2).2 oM0,sR,Gg,rfl,?_⟩
  repeat' (first|exact⟨sI,rfl,Gf⟩|refine⟨z08 (by simp only[A4,szl,A3,A6];omega),?_⟩)
 have c5:¬((decide (K=7)&&D)=true):=by rw[c];decide
 clear c;refine⟨Unit,λ_=>[(111,iBool (decide (K<10)&&D))],λ_=>[],λ_=>True,[],z00 (λc=>⟨(),Gf,⟨by rw[<- l10,c,hD];rfl,Gf⟩,Gf,rfl,rfl,rfl,rfl⟩) (λc=>⟨(),Gf,⟨by rw[<- l10,c];rfl,Gf⟩,Gf,rfl,rfl,rfl,rfl⟩),λ_ _=>z00 (λc=>?_) λc=>?_⟩
 ·rw[A1 c0,A1 c1,A1 c2,A1 c3,A1 c4,A1 c5,A5 c]at hR;subst hR;have hd0:=dec (by cases D with|true=>rfl|false=>rw[D1]at c;cases c);have m1:=h0 v b lp hv hb ((kNT l v b 2).2 (a+1)).2;have m2:=h0 v b lp hv hb ((bl v b lp ((kNT l v b 2).2 (a+1)).2).2+1);refine⟨[],T2 (a+1) oM0,sR,Gg,rfl,z08 (by simp only[A4,szl,A3,A6];omega),z08 (by simp only[A4,szl,A3,A6];omega),z48 d hd hd0,[],sb hd0 v b lp hv hb ((kNT l v b 2).2 (a+1)).2 oM0,sR,Gg,rfl,z08 (by simp only[A4,szl,A3,A6];omega),?_⟩;refine⟨Unit,λ_=>[(135,iBool ((z2e l (bl v b lp ((kNT l v b 2).2 (a+1)).2).2 2:Int)==1))],λ_=>mkO l ((bl v b lp ((kNT l v b 2).2 (a+1)).2).2+1),λ_=>True,[1],⟨[],z4m l hl 2 dC0 _ oM0,sR,Gg,rfl,(),Gf,Gg,Gg,rfl,rfl,rfl,rfl⟩,λ_ _=>z00 (λk=>?_) λk=>?_⟩
  ·rw[A5 (by have:=Av k;omega)];refine⟨z08 (by simp only[A4,szl,A3,A6];omega),z48 d hd hd0,[],sb hd0 v b lp hv hb _ oM0,sR,Gg,rfl,?_⟩
   repeat' (first|exact⟨sI,rfl,Gf⟩|refine⟨z08 (by simp only[A4,szl,A3,A6];omega),?_⟩)
  ·rw[A1 (by have:=Aa.1 k;omega)]
   repeat' (first|exact⟨sI,rfl,Gf⟩|refine⟨z08 (by simp only[A4,szl,A3,A6];omega),?_⟩)
 have c6:¬((decide (K<10)&&D)=true):=by rw[c];decide
 clear c;refine⟨Unit,λ_=>[(148,iBool (decide (K<12)&&D))],λ_=>[],λ_=>True,[],z00 (λc=>⟨(),Gf,⟨by rw[<- l12,c,hD];rfl,Gf⟩,Gf,rfl,rfl,rfl,rfl⟩) (λc=>⟨(),Gf,⟨by rw[<- l12,c];rfl,Gf⟩,Gf,rfl,rfl,rfl,rfl⟩),λ_ _=>z00 (λc=>?_) λc=>?_⟩
 ·rw[A1 c0,A1 c1,A1 c2,A1 c3,A1 c4,A1 c5,A1 c6,A5 c]at hR;subst hR;have hd0:=dec (by cases D with|true=>rfl|false=>rw[D1]at c;cases c);have m1:=h0 v b true hv hb ((kNT l v b 1).2 (a+1)).2;have m2:=zh1 kEn (z2e l (bl v b true ((kNT l v b 1).2 (a+1)).2).2 3) dC0;refine⟨[],T1 (a+1) oM0,sR,Gg,rfl,z08 (by simp only[A4,szl,A3,A6];omega),z08 (by simp only[A4,szl,A3,A6];omega),z48 d hd hd0,[],sb hd0 v b true hv hb ((kNT l v b 1).2 (a+1)).2 oM0,sR,Gg,rfl,z08 (by simp only[A4,szl,A3,A6];omega),z08 (by simp only[A4,szl,A3,A6];omega),z08 (by simp only[A4,szl,A3,A6];omega),z08 (by simp only[A4,szl,A3,A6];omega),z08 (by simp only[A4,szl,A3,A6];omega),z08 (by simp only[A4,szl,A3,A6];omega),z08 (by simp only[A4,szl,A3,A6];omega),[],z4m l hl 3 dC0 (bl v b true ((kNT l v b 1).2 (a+1)).2).2 oM0,sR,Gg,rfl,z02 (f:=eTx) (z6v (L:=kEn) (z5m l (bl v b true ((kNT l v b 1).2 (a+1)).2).2 (n:=3) dC0)),rfl,?_⟩
  repeat' (first|exact⟨sI,rfl,Gf⟩|refine⟨z08 (by simp only[A4,szl,A3,A6];omega),?_⟩)
 have c7:¬((decide (K<12)&&D)=true):=by rw[c];decide
 clear c;refine⟨Unit,λ_=>[(186,iBool (decide (K=12) && !(v.toList==kZ.toList)))],λ_=>[],λ_=>True,[],z00 (λc=>⟨(),Gf,⟨by rw[<- e12,c];rfl,Gf⟩,Gf,rfl,rfl,rfl,rfl⟩) (λc=>⟨(),Gf,⟨by rw[<- e12,c];rfl,Gf⟩,Gf,rfl,rfl,rfl,rfl⟩),λ_ _=>z00 (λc=>?_) λc=>?_⟩
 ·rw[A1 c0,A1 c1,A1 c2,A1 c3,A1 c4,A1 c5,A1 c6,A1 c7,A5 c]at hR;subst hR;have m2:(kAt (kRe b) (z2e l (a+1) 4)).size<=100:=by
   have:=Af (z6v (L:=kRe b) (z5m l (a+1) (n:=4) dC0));have key:∀x∈kRe b,x.size<=100:=λx hx=>by
    unfold kRe at hx;simp only[Aq,C1,Fp]at hx;rcases hx with h|h|h|h<;>rw[h]<;>(first|decide|(simp only[A4,szl,A3,A6];omega))
   exact key _ this
  refine⟨z08 (by simp only[A4,szl,A3,A6];omega),z08 (by simp only[A4,szl,A3,A6];omega),z08 (by simp only[A4,szl,A3,A6];omega),z08 (by simp only[A4,szl,A3,A6];omega),[],z4m l hl 4 dC0 (a+1) oM0,sR,Gg,rfl,z02 (f:=eTx) (z6v (L:=kRe b) (z5m l (a+1) (n:=4) dC0)),rfl,?_⟩
  repeat' (first|exact⟨sI,rfl,Gf⟩|refine⟨z08 (by simp only[A4,szl,A3,A6];omega),?_⟩)
 have c8:¬((decide (K=12) && !(v.toList==kZ.toList))=true):=by rw[c];decide
 clear c;rw[A1 c0,A1 c1,A1 c2,A1 c3,A1 c4,A1 c5,A1 c6,A1 c7,A1 c8]at hR;subst hR
 repeat' (first|exact⟨sI,rfl,Gf⟩|refine⟨z08 (by simp only[A4,szl,A3,A6];omega),?_⟩)
end
end
section
theorem j1q{d:Nat}(h:d<=3):kS d<=400000:=by
 match d,h with
 |0,_=>decide
 |1,_=>decide
 |2,_=>decide
 |3,_=>decide
theorem y6o(l:List UInt8)(hl:l.length<=9223372036854775807):∀d:Nat,d<=3->∀v b lp,v.size<=8->b.size<=8->MkS l 42 v b (d:Int) lp (kStm l d v b lp) (kS d)/\MkS l 20 v b (d:Int) lp (kBlk l d v b lp) (4*kS d+1)
 |0,_,v,b,lp,hv,hb=>by
  have h0:kBf (λ_ _ _ a=>(s_,a)) 0:=λ_ _ _ _ _ a=>⟨Ag _,Ag _⟩;have h1:=y96 l hl hv hb 0 dC0 false dC0 lp dC0 h0 (λh=>A9 h dC0)
  exact⟨h1,y4g l hl (((0:Nat):Int)) lp dC0 (y0v l 0 v b lp hv hb) h1⟩
 |d+1,hd,v,b,lp,hv,hb=>by
  have ih:=y6o l hl d oM0;have hk:=j1q (d:=d) oM0;have hk2:=j1q hd;have h0:kBf (λv b lp=>kBlk l d v b lp) (4*kS d+1):=λv b lp hv hb=>yc9 l (y0v l d v b lp hv hb);have h1:=y96 l hl hv hb (d+1) oM0 true sI0 lp oM0 h0 (λ_ v b lp hv hb=>(ih v b lp hv hb).2);rw[show 2*(4*kS d+1)+600=kS (d+1) by simp only[kS];omega]at h1;exact⟨h1,y4g l hl (((d+1:Nat):Int)) lp oM0 (y0v l (d+1) v b lp hv hb) h1⟩
def kX:ByteArray:=⟨#[120]⟩
def kB_:ByteArray:=⟨#[98]⟩
def y5i:ByteArray:=⟨#[105,110,116,32,97,91,52,93,59,10,105,110,116,32,99,91,51,93,59,10]⟩
def y5j(l:List UInt8)(s:ByteArray)(a:Nat):ByteArray×Nat :=
 (s++⟨#[105,110,116,32,102,40,105,110,116,32,120,44,32,98,111,111,108,32,98,41,32,123,10]⟩++(kBlk l 2 kX kB_ false a).1++⟨#[114,101,116,117,114,110,32]⟩++((kNT l kX kB_ 2).1 (kBlk l 2 kX kB_ false a).2).1++⟨#[59,10,125,10]⟩,((kNT l kX kB_ 2).1 (kBlk l 2 kX kB_ false a).2).2)
def j1g(l:List UInt8)(s:ByteArray)(a:Nat):ByteArray×Nat :=
 (s++⟨#[98,111,111,108,32,103,40,105,110,116,32,120,41,32,123,10,98,111,111,108,32,98,32,61,32,120,32,62,32,50,59,10]⟩++(kBlk l 1 kX kB_ false a).1++⟨#[114,101,116,117,114,110,32]⟩++((kNT l kX kB_ 2).2 (kBlk l 1 kX kB_ false a).2).1++⟨#[59,10,125,10]⟩,((kNT l kX kB_ 2).2 (kBlk l 1 kX kB_ false a).2).2)
def good3(l:List UInt8)(s:ByteArray)(a:Nat):ByteArray×Nat :=
 (s++⟨#[105,110,116,32,109,97,105,110,40,41,32,123,10,105,110,116,32,120,32,61,32,51,59,10,98,111,111,108,32,98,32,61,32,102,97,108,115,101,59,10]⟩++(kBlk l 3 kX kB_ false a).1++⟨#[114,101,116,117,114,110,32]⟩++((kNT l kX kB_ 2).1 (kBlk l 3 kX kB_ false a).2).1++⟨#[59,10,125,10]⟩,((kNT l kX kB_ 2).1 (kBlk l 3 kX kB_ false a).2).2)
def zg0(l:List UInt8):ByteArray:=(good3 l (j1g l (y5j l y5i 0).1 (y5j l y5i 0).2).1 (j1g l (y5j l y5i 0).1 (y5j l y5i 0).2).2).1
theorem yu0(s:ByteArray)(h:(z1u s).2.1≠0):(z1u s).1=pg0:=by
 unfold z1u at h⊢;split
 ·rename_i h0;rw[A5 h0]at h;split
  ·rfl
  ·rename_i h1;rw[A1 h1]at h;split
   ·rfl
   ·rename_i h2;rw[A1 h2]at h;split
    ·rename_i h3;rw[A5 h3]at h;exact A9 rfl h
    ·rfl
 ·rfl
theorem yd0(l:List UInt8)(d:Nat){v b:ByteArray}(hv:v.size<=8)(hb:b.size<=8)(lp:Bool)(a:Nat):(kBlk l d v b lp a).1.size<=4*kS d+1/\(kBlk l d v b lp a).2<=a+(4*kS d+1):=yc9 l (y0v l d v b lp hv hb) a
section
attribute [local irreducible] kNT kBlk z1u
theorem sc_Good(l:List UInt8)(hl:l.length<=9223372036854775807):SC Tryz.prog 8 [.pv (bts l)] [] (λk=>k∈[]) (.pv (z1u (zg0 l)).1.enc) []:=by
 refine K0 tb { ids:=[(10,1)] } [] Tryz.func8 rfl rfl ?_;have hx:kX.size<=8:=by decide
 have hb:kB_.size<=8:=by decide
 have e2:kB 2=168:=rfl;have s1:=j1q (d:=1) dC0;have s2:=j1q (d:=2) dC0;have s3:=j1q (d:=3) dC0;have b1:=(y6o l hl 1 dC0 kX kB_ false hx hb).2;have b2:=(y6o l hl 2 dC0 kX kB_ false hx hb).2;have b3:=(y6o l hl 3 dC0 kX kB_ false hx hb).2;obtain⟨_,N2,T2⟩:=y95 l hl hx hb 2 dC0;have n2:=(z7p l hx hb 2).1;have t2:=(z7p l hx hb 2).2;rw[e2]at N2 T2 n2 t2;have hP:=yu0 (zg0 l);have hQ:=sc_Parse (zg0 l);unfold zg0 good3 j1g y5j y5i at hP hQ⊢;dsimp only at hP hQ⊢;have p0:=yd0 l 2 hx hb false 0;have p1:=n2 (kBlk l 2 kX kB_ false 0).2;refine⟨z08 (by simp only[A4,szl,A3,A6];omega),[],b2 0 oM0,sR,Gg,rfl,z08 (by simp only[A4,szl,A3,A6];omega),z08 (by simp only[A4,szl,A3,A6];omega),[],N2 _ oM0,sR,Gg,rfl,z08 (by simp only[A4,szl,A3,A6];omega),z08 (by simp only[A4,szl,A3,A6];omega),?_⟩;generalize hr1:(kNT l kX kB_ 2).1 (kBlk l 2 kX kB_ false 0).2=r1 at p1 hP hQ⊢;generalize kBlk l 2 kX kB_ false 0=r0 at p0 p1 hP hQ⊢;clear hr1;have p2:=yd0 l 1 hx hb false r1.2;have p3:=t2 (kBlk l 1 kX kB_ false r1.2).2;refine⟨z08 (by simp only[A4,szl,A3,A6];omega),[],b1 r1.2 oM0,sR,Gg,rfl,z08 (by simp only[A4,szl,A3,A6];omega),z08 (by simp only[A4,szl,A3,A6];omega),[],T2 _ oM0,sR,Gg,rfl,z08 (by simp only[A4,szl,A3,A6];omega),z08 (by simp only[A4,szl,A3,A6];omega),?_⟩;generalize hr3:(kNT l kX kB_ 2).2 (kBlk l 1 kX kB_ false r1.2).2=r3 at p3 hP hQ⊢;generalize kBlk l 1 kX kB_ false r1.2=r2 at p2 p3 hP hQ⊢;clear hr3;have p4:=yd0 l 3 hx hb false r3.2;have p5:=n2 (kBlk l 3 kX kB_ false r3.2).2;refine⟨z08 (by simp only[A4,szl,A3,A6];omega),[],b3 r3.2 oM0,sR,Gg,rfl,z08 (by simp only[A4,szl,A3,A6];omega),z08 (by simp only[A4,szl,A3,A6];omega),[],N2 _ oM0,sR,Gg,rfl,z08 (by simp only[A4,szl,A3,A6];omega),z08 (by simp only[A4,szl,A3,A6];omega),?_⟩
 generalize(kNT l kX kB_ 2).1 (kBlk l 3 kX kB_ false r3.2).2=r5 at p5 hP hQ⊢;generalize kBlk l 3 kX kB_ false r3.2=r4 at p4 p5 hP hQ⊢;replace hQ:=hQ (by simp only[A4,szl,A3,A6];omega);refine⟨[],hQ,sR,Gf,rfl,z00 (λc=>?_) λc=>?_⟩
 ·have:=hP (by simpa using c);rw[this];exact⟨sP (z0g _),Gf⟩
 ·exact⟨sI,Gf⟩
end
end
def j1h:ByteArray:=y5i++⟨#[105,110,116,32,102,40,105,110,116,32,120,44,32,98,111,111,108,32,98,41,32,123,10]⟩
def y3k:Option (Nat×Nat×List Tk):=px j1h 20 1 0 []
theorem j1j:∃l a o,y3k=some (l,a,o)/\14<o.length/\pIs o sSo ⟨14,false,false⟩=false:=by
 have h:(y3k.map λq=>decide (14<q.2.2.length) && !pIs q.2.2 sSo ⟨14,false,false⟩)=some true:=by decide +kernel
 cases hp:y3k with
 |none=>rw[hp]at h;cases h
 |some q =>
  rw[hp]at h;simp only[Da,Cl,A0,Ba,Bi]at h;exact⟨_,_,_,rfl,h.1,h.2⟩
theorem yl4(l:List UInt8):∃R,zg0 l=j1h++R:=by
 unfold zg0;obtain⟨R1,h1⟩:∃R,(y5j l y5i 0).1=j1h++R:=⟨_,by unfold y5j j1h;simp only[ByteArray.append_assoc];rfl⟩;obtain⟨R2,h2⟩:∃R,(j1g l (y5j l y5i 0).1 (y5j l y5i 0).2).1=j1h++R:=⟨_,by rw[h1];unfold j1g;simp only[ByteArray.append_assoc];rfl⟩;exact⟨_,by rw[h2];unfold good3;simp only[ByteArray.append_assoc];rfl⟩
theorem good_arr(l:List UInt8):(z1u (zg0 l)).1.arrays.length<=2:=by
 refine yt9 _ 2 ?_;obtain⟨R,e⟩:=yl4 l;rw[e];obtain⟨l2,a2,o2,h1,h2,h3⟩:=j1j;exact px_is h1 (by decide +kernel) h2 h3
section
variable {T:List Tk}
theorem y57:∀(N:Nat)(p:Pg)(s:Ps),p.arrays.length<=(z2v T N p s).1.arrays.length
 |0,_,_=>Ag _
 |N+1,p,s=>by
  unfold z2v;split
  ·exact Ag _
  split
  ·refine Bm ?_ (y57 N _ _);simp
  ·refine Bm ?_ (y57 N _ _);exact Ag _
theorem arr_ge(hT:TkOk T):∀(k N:Nat)(p:Pg)(s:Ps),p.funcs=[]->k<=N->(∀i<k,pIs T sInt ⟨s.at_+6*i,false,false⟩=true/\pIs T sSo ⟨s.at_+6*i+2,false,false⟩=true)->s.over=false->(z2v T N p s).2.over=false->p.arrays.length+k<=(z2v T N p s).1.arrays.length
 |0,N,p,s,_,_,_,_,_=>y57 N p s
 |k+1,0,_,_,_,h,_,_,_=>A9 h oM0
 |k+1,N+1,p,s,hf,hN,hi,hs,ho=>by
  obtain⟨i1,i2⟩:=hi 0 oM0;rw[Nat.mul_zero,Ca]at i1 i2;have hk:=(z3y i1).2;rw[ps_eq hs]at ho⊢;unfold z2v at ho⊢;have c1:((⟨s.at_,false,false⟩:Ps).over||(tkAt T ⟨s.at_,false,false⟩).kind==3)=false:=by rw[hk];rfl
  rw[A1 (by rw[c1];decide)]at ho⊢;have e1:z0t T ⟨s.at_,false,false⟩=(1,⟨s.at_+1,false,false⟩):=by unfold z0t;rw[A5 i1];rfl
  rw[e1]at ho⊢;dsimp only at ho⊢
  by_cases c:(tkAt T ⟨s.at_+1,false,false⟩).kind=1
  ·have e2:z0k T 1 ⟨s.at_+1,false,false⟩=((tkAt T ⟨s.at_+1,false,false⟩).text,⟨s.at_+2,false,false⟩):=by
    unfold z0k;rw[A1 (show ¬(⟨s.at_+1,false,false⟩:Ps).over=true from Bool.false_ne_true),A5 c];rfl
   rw[e2]at ho⊢;dsimp only at ho⊢;have c2:qArr T p.funcs 1 ⟨s.at_+2,false,false⟩=true:=by unfold qArr;rw[hf,i2];rfl
   rw[A5 c2]at ho⊢;have hb:=(z78 hT N _ _).back ho;obtain⟨a3,o3⟩:=y10 hb;obtain⟨a4,o4⟩:=y10 o3;obtain⟨a5,o5⟩:=yi4 o4;have hat:(z0q T z5b (z0q T sSc (z0k T 0 (⟨s.at_+2,false,false⟩:Ps).next).2)).at_=s.at_+6:=by rw[a3,a4,a5];rfl
   have:=arr_ge hT k N ⟨p.arrays++[⟨(tkAt T ⟨s.at_+1,false,false⟩).text,z8h (z0k T 0 (⟨s.at_+2,false,false⟩:Ps).next).1⟩],p.funcs⟩ _ hf oM0 (λi h=>by
    have:=hi (i+1) oM0;rw[hat,show s.at_+6+6*i=s.at_+6*(i+1) by omega];exact this) hb ho
   rw[B8]at this;simp only[A3,A6]at this;omega
  ·have e2:(z0k T 1 ⟨s.at_+1,false,false⟩).2=⟨s.at_+1,true,false⟩:=by
    unfold z0k;rw[A1 (show ¬(⟨s.at_+1,false,false⟩:Ps).over=true from Bool.false_ne_true),A1 c];rfl
   rw[e2]at ho;have c2:qArr T p.funcs 1 ⟨s.at_+1,true,false⟩=false:=by
    unfold qArr;have:pIs T sSo ⟨s.at_+1,true,false⟩=false:=by unfold pIs Ps.over;rfl
    rw[this,D1]
   rw[A1 (by rw[c2];decide)]at ho;have hb:=(y5g hT).back ((z78 hT N _ _).back ho)
   cases hb
theorem px_pre{P R:ByteArray}{k l2 a2:Nat}{o2:List Tk}(h:px P k 1 0 []=some (l2,a2,o2))(hk:k<=P.size):(z1d (P++R)).1=[]∨∃r,(z1d (P++R)).1=o2++r:=by
 unfold z1d;split
 ·exact .inl rfl
 ·have hs:=@y74 P R;obtain⟨N,hN⟩:∃N,(P++R).size+1=N+k:=⟨(P++R).size+1-k,by omega⟩;rw[hN,y68 N k 1 0 [] h];exact y06 (P++R) N l2 a2 o2
theorem is_pre{o r:List Tk}{w:ByteArray}{i:Nat}(hi:i<o.length):pIs (o++r) w ⟨i,false,false⟩=pIs o w ⟨i,false,false⟩:=by
 have:tkAt (o++r) ⟨i,false,false⟩=tkAt o ⟨i,false,false⟩:=by
  unfold tkAt;rw[Ax,Ax,Au hi]
 unfold pIs;rw[this]
theorem j1i:∃l a o,y3k=some (l,a,o)/\14<o.length/\∀i<2,pIs o sInt ⟨6*i,false,false⟩=true/\pIs o sSo ⟨6*i+2,false,false⟩=true:=by
 have h:(y3k.map λq=>decide (14<q.2.2.length)&&(pIs q.2.2 sInt ⟨0,false,false⟩&&pIs q.2.2 sSo ⟨2,false,false⟩)&&(pIs q.2.2 sInt ⟨6,false,false⟩&&pIs q.2.2 sSo ⟨8,false,false⟩))=some true:=by decide +kernel
 cases hp:y3k with
 |none=>rw[hp]at h;cases h
 |some q =>
  rw[hp]at h;simp only[Da,Cl,A0,Ba]at h;refine⟨_,_,_,rfl,h.1.1,λi hi=>?_⟩
  match i,hi with
  |0,_=>exact h.1.2
  |1,_=>exact h.2
section
attribute [local irreducible] big
theorem good_ge(l:List UInt8):(z1u (zg0 l)).1=pg0∨2<=(z1u (zg0 l)).1.arrays.length:=by
 obtain⟨R,e⟩:=yl4 l;obtain⟨l2,a2,o2,h1,h2,h3⟩:=j1i;have hp:=px_pre (R:=R) h1 (by decide +kernel);rw[<- e]at hp;unfold z1u;split
 ·rename_i h0;obtain⟨hT,_⟩:=ze2 h0;generalize(z1d (zg0 l)).1=T at hp hT;obtain⟨r,hr⟩:=hp.resolve_left λc=>by obtain⟨i,e,h,_⟩:=hT;rw[c]at h;simp at h
  split
  ·exact .inl rfl
  rename_i d1;split
  ·exact .inl rfl
  rename_i d2;split
  ·refine .inr ?_;have ho:(z90 T).2.over=false:=by unfold Ps.over;simp only[Bn];exact⟨by simpa using d2,by simpa using d1⟩
   have:=arr_ge hT 2 (big T) ⟨[],[]⟩ ⟨0,false,false⟩ rfl (by unfold big;omega) (λi hi=>by
    have:=h3 i hi;rw[hr,Bu,is_pre oM0,is_pre oM0];exact this) rfl ho
   exact Bm sI0 this
  ·exact .inl rfl
 ·exact .inl rfl
end
theorem j5m:(z17 un0).1≠0:=by decide +kernel
theorem pg0_bad:(z86 pg0).1≠0:=by decide +kernel
theorem ri_arr(g:Pg)(k:Int)(h:(z17 (y6e g k).1).1=0):(y6e g k).1.arrays=g.arrays/\g≠pg0:=by
 unfold y6e at h⊢;split at h
 ·rename_i h1;rw[A5 h1];have e:(rnOf g).1.arrays=g.arrays/\g≠pg0:=by
   unfold rnOf at h1⊢
   by_cases hy:(z86 g).1=0
   ·refine⟨by rw[A5 hy];rfl,λc=>?_⟩;rw[c]at hy;exact pg0_bad hy
   ·rw[A1 hy]at h1;exact A9 h1 dC0
  split at h
  ·rename_i h2;rw[A5 h2];exact⟨e.1,e.2⟩
  ·exact A9 h j5m
 ·exact A9 h j5m
theorem good_two(l:List UInt8)(h:(z17 (riU (zg0 l)).1).1=0):(riU (zg0 l)).1.arrays.length=2:=by
 have hle:=good_arr l;have hge:=good_ge l;obtain⟨e1,e2⟩:=ri_arr _ _ h;unfold riU;rw[e1];have:=hge.resolve_left e2;omega
end
theorem yx0{u:Un}(hz:(z17 u).1=0):y4c (z3r stB u)=true:=by have:=y49 u;rw[z6a stB hz]at this;exact this
theorem y1w(u:Un){n:Nat}(h:z0j u<=n):z0j (z3r stB u)<=n:=Bm (ys7 stB y3v u) h
theorem i64_two{n:Int}(hn:0<=n/\n<=255):z3f .mul .i64 2 (IntKind.i64.wrap n)=some (.int .i64 (2*n)):=by
 have hw:IntKind.i64.wrap n=n:=D3 n oM0;rw[hw];exact y5k rfl oM0
theorem y1x(l:List UInt8)(ins:List Int)(hi:P64 ins)(n:Int)(hn:0<=n/\n<=255):SC Tryz.prog 3 [.pv (bts l),.pv (ints ins),.pv (.val (.int .u8 n))] [] (λk=>k∈[]) (iBool true) []:=by
 refine K0 tb { gh:=[(0,[.len 0])] } [] Tryz.func3 rfl rfl ?_;intro hl;simp only[Ab]at hl;have hl:l.length<=9223372036854775807:=hl;have hT:=riU_w (zg0 l);have hA:=good_two l;have hF:=sc_Good l hl;have hU:=riU_n (zg0 l);have hR:=sc_Rise (zg0 l);generalize riU (zg0 l)=q at hT hA hU hR;obtain⟨u,e⟩:=q;dsimp only at hT hA hU hR;have hC:=zt0 u hT.1;have hH:=yf5 u hT.1 zu2;have hg:=λhz=>@z6a stB u hz;have hx:=@y38 u;have hrel:=@same_rel u;have hri:=@yx0 u;have hB:=λ(hz:(z17 u).1=0)=>yf6 (hrel hz hU) (hA hz) hT.1 (y1w u hT.1) hz (by rw[hx hz]) hT.2 (ins.take 10) (λy hy=>hi y (List.mem_of_mem_take hy)) (2*n) ⟨by omega,by omega⟩;have hRt:=yq9 (z3r stB u) (y1w u hT.1);refine⟨[],sc_awake,sR,Gf,rfl,[],hF,sR,Gf,rfl,[],hR,sR,Gf,rfl,[],hC,sR,Gf,rfl,z00 (λh1=>?_) λh1=>z00 (λh2=>?_) λh2=>?_⟩
 iterate 2 exact⟨sI,Gf⟩
 ·have hz:(z17 u).1=0:=by simpa using h2
  rw[hg hz]at hH;rw[hri hz]at hRt;exact⟨[],hH,sR,Gf,rfl,[],hRt,sR,Gf,rfl,[],sc_ins ins,sR,Gf,rfl,i64_two hn,[],hB hz,sR,Gf,rfl,sI,Gf⟩
end Go.Proofs.YtjlaalpfpecikaaGreatDoor
