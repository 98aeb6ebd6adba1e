/- PART 7 of 9 of a proof: see the last part. -/
import Derived.Test.YtjlaalpfpecikaaGreatDoorSl6
set_option maxRecDepth 20000
set_option maxHeartbeats 8000000
set_option linter.unusedSimpArgs false
set_option linter.unusedVariables false
set_option linter.unusedSectionVars false
namespace Go.Proofs.YtjlaalpfpecikaaGreatDoor
open Go
theorem sc_idxNd(fq:FuncId)(ws:List IV)(hent:tb.fn fq=true)(p:(Nd)->Bool)(l:List (Nd))(h:∀x∈l,SC Tryz.prog fq (.pv (ndv x)::ws) [] (λk=>k∈[]) (iBool (p x)) []):SC Tryz.prog 234 [.pv (z2e l),.fn (.func fq) [] ws] [] (λk=>k∈[]) (iInt (idxP p l 0)) []:=by
 refine SC.vc tb { gh:=[(0,[.len 0])] } [] Tryz.func234 rfl rfl ?_;intro hl;simp only[A6]at hl;have hl:l.length<=9223372036854775807:=hl;refine⟨Nat,λi=>[(8,iInt ((i:Nat):Int))],λ_=>[],λi=>l.length-i,λi=>i<=l.length/\∀x∈l.take i,p x=false,[],0,⟨Ab _,λx hx=>by simp at hx⟩,Ge,Gd,?_⟩;rintro i ⟨i1,i2⟩;refine z00 (λhc=>?_) λhc=>?_
 ·have hlt:i<l.length:=z12 (f:=Nd.enc) rfl hc;obtain⟨x,x1,x2,x3,x4⟩:=z0s hlt;refine⟨z07 x1,rfl,z58 (b:=tb.fn fq) hent ⟨h x x4,sR,Gd,λk hk=>hk,rfl,rfl,z00 (λc=>?_) λc=>?_⟩⟩
  ·exact⟨sE (by rw[z1e p l 0 i2,x3,idxP,if_pos c,Dv]),Gd⟩
  ·exact⟨z01 rfl oM0,i+1,z04 hlt,⟨hlt,λy hy=>by rw[x2]at hy;rcases Aw.1 hy with g|g;exact i2 y g;rw[Ag.1 g];exact c⟩,Ge,Gd,rfl,rfl,rfl,rfl⟩
 ·have hge:l.length<=i:=z13 (f:=Nd.enc) rfl hc;exact⟨sE (by rw[z1e p l 0 i2,A8 hge];rfl),Gd⟩
theorem sc_hasNd(fq:FuncId)(ws:List IV)(hent:tb.fn fq=true)(p:(Nd)->Bool)(l:List (Nd))(h:∀x∈l,SC Tryz.prog fq (.pv (ndv x)::ws) [] (λk=>k∈[]) (iBool (p x)) []):SC Tryz.prog 206 [.pv (z2e l),.fn (.func fq) [] ws] [] (λk=>k∈[]) (iBool (l.any p)) []:=by
 refine SC.vc tb {} [] Tryz.func206 rfl rfl ?_;exact⟨[],sc_idxNd fq ws hent p l h,sR,Gd,rfl,sE (Aa iBool (z6f p l 0 dC0)),Gd⟩
theorem sc_idxKd(fq:FuncId)(ws:List IV)(hent:tb.fn fq=true)(p:(List Nd)->Bool)(l:List (List Nd))(h:∀x∈l,SC Tryz.prog fq (.pv (z2e x)::ws) [] (λk=>k∈[]) (iBool (p x)) []):SC Tryz.prog 235 [.pv (kids l),.fn (.func fq) [] ws] [] (λk=>k∈[]) (iInt (idxP p l 0)) []:=by
 refine SC.vc tb { gh:=[(0,[.len 0])] } [] Tryz.func235 rfl rfl ?_;intro hl;simp only[A6]at hl;have hl:l.length<=9223372036854775807:=hl;refine⟨Nat,λi=>[(8,iInt ((i:Nat):Int))],λ_=>[],λi=>l.length-i,λi=>i<=l.length/\∀x∈l.take i,p x=false,[],0,⟨Ab _,λx hx=>by simp at hx⟩,Ge,Gd,?_⟩;rintro i ⟨i1,i2⟩;refine z00 (λhc=>?_) λhc=>?_
 ·have hlt:i<l.length:=z12 (f:=eKid) rfl hc;obtain⟨x,x1,x2,x3,x4⟩:=z0s hlt;refine⟨z02 (f:=eKid) x1,rfl,z58 (b:=tb.fn fq) hent ⟨h x x4,sR,Gd,λk hk=>hk,rfl,rfl,z00 (λc=>?_) λc=>?_⟩⟩
  ·exact⟨sE (by rw[z1e p l 0 i2,x3,idxP,if_pos c,Dv]),Gd⟩
  ·exact⟨z01 rfl oM0,i+1,z04 hlt,⟨hlt,λy hy=>by rw[x2]at hy;rcases Aw.1 hy with g|g;exact i2 y g;rw[Ag.1 g];exact c⟩,Ge,Gd,rfl,rfl,rfl,rfl⟩
 ·have hge:l.length<=i:=z13 (f:=eKid) rfl hc;exact⟨sE (by rw[z1e p l 0 i2,A8 hge];rfl),Gd⟩
theorem sc_hasKd(fq:FuncId)(ws:List IV)(hent:tb.fn fq=true)(p:(List Nd)->Bool)(l:List (List Nd))(h:∀x∈l,SC Tryz.prog fq (.pv (z2e x)::ws) [] (λk=>k∈[]) (iBool (p x)) []):SC Tryz.prog 208 [.pv (kids l),.fn (.func fq) [] ws] [] (λk=>k∈[]) (iBool (l.any p)) []:=by
 refine SC.vc tb {} [] Tryz.func208 rfl rfl ?_;exact⟨[],sc_idxKd fq ws hent p l h,sR,Gd,rfl,sE (Aa iBool (z6f p l 0 dC0)),Gd⟩
theorem sc_idxFl(fq:FuncId)(ws:List IV)(hent:tb.fn fq=true)(p:(Fl)->Bool)(l:List (Fl))(h:∀x∈l,SC Tryz.prog fq (.pv (.agg x.enc)::ws) [] (λk=>k∈[]) (iBool (p x)) []):SC Tryz.prog 124 [.pv (flws l),.fn (.func fq) [] ws] [] (λk=>k∈[]) (iInt (idxP p l 0)) []:=by
 refine SC.vc tb { gh:=[(0,[.len 0])] } [] Tryz.func124 rfl rfl ?_;intro hl;simp only[A6]at hl;have hl:l.length<=9223372036854775807:=hl;refine⟨Nat,λi=>[(8,iInt ((i:Nat):Int))],λ_=>[],λi=>l.length-i,λi=>i<=l.length/\∀x∈l.take i,p x=false,[],0,⟨Ab _,λx hx=>by simp at hx⟩,Ge,Gd,?_⟩;rintro i ⟨i1,i2⟩;refine z00 (λhc=>?_) λhc=>?_
 ·have hlt:i<l.length:=z12 (f:=Fl.enc) rfl hc;obtain⟨x,x1,x2,x3,x4⟩:=z0s hlt;refine⟨z02 (f:=Fl.enc) x1,rfl,z58 (b:=tb.fn fq) hent ⟨h x x4,sR,Gd,λk hk=>hk,rfl,rfl,z00 (λc=>?_) λc=>?_⟩⟩
  ·exact⟨sE (by rw[z1e p l 0 i2,x3,idxP,if_pos c,Dv]),Gd⟩
  ·exact⟨z01 rfl oM0,i+1,z04 hlt,⟨hlt,λy hy=>by rw[x2]at hy;rcases Aw.1 hy with g|g;exact i2 y g;rw[Ag.1 g];exact c⟩,Ge,Gd,rfl,rfl,rfl,rfl⟩
 ·have hge:l.length<=i:=z13 (f:=Fl.enc) rfl hc;exact⟨sE (by rw[z1e p l 0 i2,A8 hge];rfl),Gd⟩
theorem sc_idxIn(fq:FuncId)(ws:List IV)(hent:tb.fn fq=true)(p:(Int)->Bool)(l:List (Int))(h:∀x∈l,SC Tryz.prog fq (iInt x::ws) [] (λk=>k∈[]) (iBool (p x)) []):SC Tryz.prog 126 [.pv (ints l),.fn (.func fq) [] ws] [] (λk=>k∈[]) (iInt (idxP p l 0)) []:=by
 refine SC.vc tb { gh:=[(0,[.len 0])] } [] Tryz.func126 rfl rfl ?_;intro hl;simp only[A6]at hl;have hl:l.length<=9223372036854775807:=hl;refine⟨Nat,λi=>[(8,iInt ((i:Nat):Int))],λ_=>[],λi=>l.length-i,λi=>i<=l.length/\∀x∈l.take i,p x=false,[],0,⟨Ab _,λx hx=>by simp at hx⟩,Ge,Gd,?_⟩;rintro i ⟨i1,i2⟩;refine z00 (λhc=>?_) λhc=>?_
 ·have hlt:i<l.length:=z12 (f:=eInt) rfl hc;obtain⟨x,x1,x2,x3,x4⟩:=z0s hlt;refine⟨z02 (f:=eInt) x1,rfl,z58 (b:=tb.fn fq) hent ⟨h x x4,sR,Gd,λk hk=>hk,rfl,rfl,z00 (λc=>?_) λc=>?_⟩⟩
  ·exact⟨sE (by rw[z1e p l 0 i2,x3,idxP,if_pos c,Dv]),Gd⟩
  ·exact⟨z01 rfl oM0,i+1,z04 hlt,⟨hlt,λy hy=>by rw[x2]at hy;rcases Aw.1 hy with g|g;exact i2 y g;rw[Ag.1 g];exact c⟩,Ge,Gd,rfl,rfl,rfl,rfl⟩
 ·have hge:l.length<=i:=z13 (f:=eInt) rfl hc;exact⟨sE (by rw[z1e p l 0 i2,A8 hge];rfl),Gd⟩
theorem sc_hasIn(fq:FuncId)(ws:List IV)(hent:tb.fn fq=true)(p:(Int)->Bool)(l:List (Int))(h:∀x∈l,SC Tryz.prog fq (iInt x::ws) [] (λk=>k∈[]) (iBool (p x)) []):SC Tryz.prog 71 [.pv (ints l),.fn (.func fq) [] ws] [] (λk=>k∈[]) (iBool (l.any p)) []:=by
 refine SC.vc tb {} [] Tryz.func71 rfl rfl ?_;exact⟨[],sc_idxIn fq ws hent p l h,sR,Gd,rfl,sE (Aa iBool (z6f p l 0 dC0)),Gd⟩
theorem j33(fq:FuncId)(ws:List IV)(hent:tb.fn fq=true)(p:(Ar)->Bool)(l:List (Ar))(h:∀x∈l,SC Tryz.prog fq (.pv (.agg x.enc)::ws) [] (λk=>k∈[]) (iBool (p x)) []):SC Tryz.prog 148 [.pv (arrs l),.fn (.func fq) [] ws] [] (λk=>k∈[]) (iInt (idxP p l 0)) []:=by
 refine SC.vc tb { gh:=[(0,[.len 0])] } [] Tryz.func148 rfl rfl ?_;intro hl;simp only[A6]at hl;have hl:l.length<=9223372036854775807:=hl;refine⟨Nat,λi=>[(8,iInt ((i:Nat):Int))],λ_=>[],λi=>l.length-i,λi=>i<=l.length/\∀x∈l.take i,p x=false,[],0,⟨Ab _,λx hx=>by simp at hx⟩,Ge,Gd,?_⟩;rintro i ⟨i1,i2⟩;refine z00 (λhc=>?_) λhc=>?_
 ·have hlt:i<l.length:=z12 (f:=Ar.enc) rfl hc;obtain⟨x,x1,x2,x3,x4⟩:=z0s hlt;refine⟨y2s x1,rfl,z58 (b:=tb.fn fq) hent ⟨h x x4,sR,Gd,λk hk=>hk,rfl,rfl,z00 (λc=>?_) λc=>?_⟩⟩
  ·exact⟨sE (by rw[z1e p l 0 i2,x3,idxP,if_pos c,Dv]),Gd⟩
  ·exact⟨z01 rfl oM0,i+1,z04 hlt,⟨hlt,λy hy=>by rw[x2]at hy;rcases Aw.1 hy with g|g;exact i2 y g;rw[Ag.1 g];exact c⟩,Ge,Gd,rfl,rfl,rfl,rfl⟩
 ·have hge:l.length<=i:=z13 (f:=Ar.enc) rfl hc;exact⟨sE (by rw[z1e p l 0 i2,A8 hge];rfl),Gd⟩
theorem j32(fq:FuncId)(ws:List IV)(hent:tb.fn fq=true)(p:(Ar)->Bool)(l:List (Ar))(h:∀x∈l,SC Tryz.prog fq (.pv (.agg x.enc)::ws) [] (λk=>k∈[]) (iBool (p x)) []):SC Tryz.prog 100 [.pv (arrs l),.fn (.func fq) [] ws] [] (λk=>k∈[]) (iBool (l.any p)) []:=by
 refine SC.vc tb {} [] Tryz.func100 rfl rfl ?_;exact⟨[],j33 fq ws hent p l h,sR,Gd,rfl,sE (Aa iBool (z6f p l 0 dC0)),Gd⟩
theorem z9y(x:Nd):SC Tryz.prog 175 [.pv (ndv x)] [] (λk=>k∈[]) (iBool (z0x x.kind)) []:=by
 refine SC.vc tb {} [] Tryz.func175 rfl rfl ?_;refine z00 (λh=>⟨sE ?_,Gd⟩) λh=>⟨sE ?_,Gd⟩
 ·unfold z0x;rw[show decide (x.kind≥12)=true from h];rfl
 ·unfold z0x;rw[show decide (x.kind≥12)=false from h];rfl
theorem y3z(l:List Nd):SC Tryz.prog 178 [.pv (z2e l)] [] (λk=>k∈[]) (iBool (z8d l)) []:=by
 refine SC.vc tb { gh:=[(0,[.len 0])] } [] Tryz.func178 rfl rfl ?_;intro hl;simp only[A6]at hl;have hl:l.length<=9223372036854775807:=hl;refine z00 (λh=>?_) λh=>?_
 ·have hpos:0<l.length:=by simpa using h
  obtain⟨x,hx⟩:∃x,l[((l.length:Int)-1).toNat]?=some x:=⟨_,A5 oM0⟩;have hT:z8d l=(x.kind==12):=by
   unfold z8d;rw[Ek,show l.length-1=((l.length:Int)-1).toNat by omega,hx]
  have ll:(l.map Nd.enc).length=l.length:=A6 _;have hi:(l.map Nd.enc)[(((l.map Nd.enc).length:Int)-1).toNat]?=some [vInt x.kind,vInt x.op,vInt x.n,vStr x.name,ints x.args,ints x.outs,ints x.params,kids x.kids]:=by
   rw[ll];exact z07 hx
  exact⟨z4b rfl (by rw[ll];omega),hi,(by rw[ll];omega),sE (Aa iBool hT.symm),Gd⟩
 ·have e:l=[]:=by
   cases l with
   |nil=>rfl
   |cons a b=>simp at h
  subst e;exact⟨sI,Gd⟩
theorem yd9(x:Nd)(ih:∀q∈x.kids,SC Tryz.prog 179 [.pv (z2e q)] [] (λk=>k∈[]) (iBool (z0k q)) []):SC Tryz.prog 207 [.pv (ndv x)] [] (λk=>k∈[]) (iBool (z2l x)) []:=by
 refine SC.vc tb {} [] Tryz.func207 rfl rfl ?_;rw[z4d,zm6];refine z00 (λh=>⟨sE ?_,Gd⟩) λh=>z00 (λh2=>?_) λh2=>⟨sE ?_,Gd⟩
 ·rw[show(x.kind==14)=true from h];rfl
 ·exact⟨[],sc_hasKd 179 [] rfl z0k x.kids ih,SubA.same sFn,Gd,rfl,sE (by rw[show(x.kind==14)=false from h,show(x.kind==10)=true from h2];rfl),Gd⟩
 ·rw[show(x.kind==14)=false from h,show(x.kind==10)=false from h2];rfl
theorem y2m(N:Nat):∀(l:List Nd),SizeOf.sizeOf l<N->SC Tryz.prog 179 [.pv (z2e l)] [] (λk=>k∈[]) (iBool (z0k l)) []:=by
 induction N with
 |zero=>intro l hN;exact absurd hN (Ai _)
 |succ N ih =>
  intro l hN;refine SC.vc tb {} [] Tryz.func179 rfl rfl ?_;have h1:=sc_hasNd 207 [] rfl z2l l λx hx=>yd9 x λq hq=>ih q (by
   have h1:=Bo hx;have h2:=Bo hq;obtain⟨k,o,n,nm,a,b,c,ks⟩:=x;simp[Nd.kids]at h1 h2;omega)
  exact⟨[],h1,SubA.same sFn,Gd,rfl,sE (by rw[zv6]),Gd⟩
theorem yv3(l:List Nd):SC Tryz.prog 179 [.pv (z2e l)] [] (λk=>k∈[]) (iBool (z0k l)) []:=y2m _ l (A7 _)
theorem zs1(x:Nd):SC Tryz.prog 128 [.pv (ndv x)] [] (λk=>k∈[]) (iBool (z05 x)) []:=by
 refine SC.vc tb {} [] Tryz.func128 rfl rfl ?_;obtain⟨kind,op,n,name,args,outs,params,kids⟩:=x;rcases(show kind=10∨kind=11∨(kind≠11/\kind≠10) by omega)with rfl|rfl|⟨k8,k9⟩
 ·match kids with
  |[]=>exact⟨[],z9y _,sR,Gd,rfl,sI,Gd⟩
  |[a]=>exact⟨[],z9y _,sR,Gd,rfl,sI,Gd⟩
  |[a,b] =>
   have hT:z05 (.mk 10 op n name args outs params [a,b])=(!z8d a && !z8d b):=by
    rw[<- y21,<- y21];rfl
   rw[hT];have ha:=y3z a;generalize z8d a=ya at ha⊢
   cases ya
   ·exact⟨at0 (a:=[z2e a]),rfl,[],ha,sR,Gd,rfl,at1 (b:=[z2e b]),rfl,[],y3z b,sR,Gd,rfl,sI,Gd⟩
   ·exact⟨at0 (a:=[z2e a]),rfl,[],ha,sR,Gd,rfl,sI,Gd⟩
  |a::b::c::r=>exact⟨[],z9y _,sR,Gd,rfl,sI,Gd⟩
 ·match kids with
  |[]=>exact⟨[],z9y _,sR,Gd,rfl,sI,Gd⟩
  |[a]=>exact⟨at0 (a:=[z2e a]),rfl,[],yv3 a,sR,Gd,rfl,sI,Gd⟩
  |a::b::r=>exact⟨[],z9y _,sR,Gd,rfl,sI,Gd⟩
 ·have no:∀{i:Int},kind≠i->(kind==i)=true->False:=λh e=>h (eq_of_beq e);exact z00 (λh=>(no k9 h).elim) λ_=>z00 (λh=>(no k8 h).elim) λ_=>⟨[],z9y _,sR,Gd,rfl,sE (by simp[z05,Nd.kind,Nd.kids,k8,k9]),Gd⟩
theorem j34(t:Int):SC Tryz.prog 69 [iInt t] [] (λ_=>False) (iBool (isTy t)) []:=by
 refine SC.anyR (SC.vc tb {} [] Tryz.func69 rfl rfl ?_);unfold isTy;refine z00 (λh=>⟨sE ?_,Gd⟩) λh=>⟨sE ?_,Gd⟩
 ·rw[show(t==1)=true from h];rfl
 ·rw[show(t==1)=false from h];rfl
theorem sc_flow1(t:Int):SC Tryz.prog 72 [iInt t] [] (λ_=>False) (iBool (!isTy t)) []:=by
 refine SC.anyR (SC.vc tb {} [] Tryz.func72 rfl rfl ?_);exact⟨[],j34 t,sR,Gd,rfl,sI,Gd⟩
theorem j3e(x:Nd):SC Tryz.prog 175 [.pv (ndv x)] [] (λ_=>False) (iBool (z0x x.kind)) []:=SC.anyR (z9y x)
theorem zj5(x:Nd):SC Tryz.prog 128 [.pv (ndv x)] [] (λ_=>False) (iBool (z05 x)) []:=SC.anyR (zs1 x)
theorem y8u(op:Int):SC Tryz.prog 231 [iInt op] [] (λ_=>False) (.tup [iInt (z39 op).1,iInt (z39 op).2]) []:=by
 refine SC.anyR (SC.vc tb {} [] Tryz.func231 rfl rfl ?_)
 by_cases h:op=22∨op=12∨op=13∨op=14∨op=15∨op=16∨op=17
 ·rcases h with rfl|rfl|rfl|rfl|rfl|rfl|rfl<;>exact⟨sI,Gd⟩
 ·have hT:z39 op=(1,1):=by
   unfold z39;rw[if_neg (by simp;omega),if_neg (by simp;omega),if_neg (by simp;omega)]
  rw[hT]
  repeat' (first|exact⟨sI,Gd⟩|refine z00 (λg=>absurd (eq_of_beq g) oM0) λ_=>?_)
theorem yf5(x:Fl)(s:ByteArray):SC Tryz.prog 125 [.pv (.agg x.enc),.pv (.ept [vStr s] 0)] [] (λk=>k∈[]) (iBool (x.name.toList==s.toList)) []:=by
 refine SC.vc tb {} [] Tryz.func125 rfl rfl ?_;exact⟨sI,Gd⟩
theorem zf1(u:Un)(s:ByteArray):SC Tryz.prog 70 [.pv u.enc,iStr s] [] (λ_=>False) (iInt (z06 s u.flows 0)) []:=by
 refine SC.anyR (SC.vc tb { pb:=[102,103] } [] Tryz.func70 rfl rfl ?_);have h:=sc_idxFl 125 [.pv (.ept [vStr s] 0)] rfl (λf:Fl=>f.name.toList==s.toList) u.flows λx _=>yf5 x s;rw[y37]at h;exact⟨[],h,sR,Gd,rfl,sI,Gd⟩
theorem j3g(x:Ar)(s:ByteArray):SC Tryz.prog 233 [.pv (.agg x.enc),.pv (.ept [vStr s] 0)] [] (λk=>k∈[]) (iBool (x.name.toList==s.toList)) []:=by
 refine SC.vc tb {} [] Tryz.func233 rfl rfl ?_;exact⟨sI,Gd⟩
theorem yo9(u:Un)(s:ByteArray):SC Tryz.prog 205 [.pv u.enc,iStr s] [] (λ_=>False) (iBool (decide (z0i s u.arrays 0≥0))) []:=by
 refine SC.anyR (SC.vc tb { pb:=[102,103],gh:=[(1,[])] } [] Tryz.func205 rfl rfl ?_);rw[y13 s u.arrays 0 dC0];exact⟨[],j32 233 [.pv (.ept [vStr s] 0)] rfl (λa:Ar=>a.name.toList==s.toList) u.arrays λx _=>j3g x s,sR,Gd,rfl,sI,Gd⟩
theorem j07{u:Un}{f:Fl}{it:TypeId}{st:List Int}{k:Nat}(h:look (up (ckS u f it st)) k≠none):k∈[3,4]:=by
 by_cases h3:k=3
 ·subst h3;decide
 ·by_cases h4:k=4
  ·subst h4;decide
  ·exfalso;apply h;simp only[ckS,up,B3,Cs,look,z49 (C0 h3),z49 (C0 h4)];rfl
theorem y67(u:Un)(f:Fl)(st:List Int)(v t:Int):SC Tryz.prog 227 [.ptr 3 0,iInt v,iInt t] (ckS u f 3 st) (λ_=>True) (iBool (z9b f.types v t)) (ckS u f 3 st):=by
 refine SC.sameR (SC.vc tb {} [3,4] Tryz.func227 rfl rfl ?_) λk h _=>j07 h;unfold z9b;refine z00 (λh1=>z00 (λh2=>z00 (λh3=>?_) λh3=>?_) λh2=>?_) λh1=>?_
 ·have h1:decide (v≥0)=true:=h1;have h2:decide (v<(f.types.map eInt).length)=true:=h2;rw[A6]at h2;exact⟨sE (Aa iBool (by rw[show decide (0<=v)=true from h1,h2,show(t==0)=true from h3];rfl)),rfl,rfl,Gd⟩
 ·have h1:decide (v≥0)=true:=h1;have h2:decide (v<(f.types.map eInt).length)=true:=h2;rw[A6]at h2;have g1:=Aq h1;have g2:=Aq h2;exact⟨z02 (f:=eInt) (z3o (show v.toNat<f.types.length by omega)),by omega,sE (Aa iBool (by rw[show decide (0<=v)=true from h1,h2,show(t==0)=false from h3];rfl)),rfl,rfl,Gd⟩
 ·have h1:decide (v≥0)=true:=h1;have h2:decide (v<(f.types.map eInt).length)=false:=h2;rw[A6]at h2;exact⟨sE (Aa iBool (by rw[show decide (0<=v)=true from h1,h2];rfl)),rfl,rfl,Gd⟩
 ·have h1:decide (v≥0)=false:=h1;exact⟨sE (Aa iBool (by rw[show decide (0<=v)=false from h1];rfl)),rfl,rfl,Gd⟩
theorem y6g{tys:List Int}{v t:Int}(h:z9b tys v t=true):0<=v/\v.toNat<tys.length/\v=(v.toNat:Int):=by
 simp only[z9b,A0,B6]at h;omega
theorem j3m(u:Un)(f:Fl)(st:List Int)(hs:st.length=f.types.length)(v t:Int):SC Tryz.prog 229 [iInt v,iInt t,.ptr 5 0] (ckSp u f 3 5 st) (λk=>k∈[3,4,5]) (iBool (zs8 f.types st v t).1) (ckSp u f 3 5 st):=by
 refine SC.vc tb {} [3,4,5] Tryz.func229 rfl rfl ?_;have hV:=y67 u f st v t;unfold zs8
 cases hv:z9b f.types v t
 ·rw[hv]at hV;exact⟨[],hV,sR,⟨rfl,Gd,rfl,Gd,Gd⟩,rfl,sI,rfl,rfl,rfl,Gd⟩
 ·rw[hv]at hV;obtain⟨h1,h2,h3⟩:=y6g hv;exact⟨[],hV,sR,⟨rfl,Gd,rfl,Gd,Gd⟩,rfl,rfl,VIdR.mk (i:=v.toNat) (by rw[A6];omega) h3 (VRow.mk (i:=v.toNat) (j:=0) rfl rfl (z02 (f:=eInt) (z3o oM0)) rfl ⟨sI,rfl,rfl,rfl,Gd⟩)⟩
theorem j3l(u:Un)(f:Fl)(st:List Int)(hs:st.length=f.types.length)(v t:Int):SC Tryz.prog 230 [iInt v,iInt t,.ptr 5 0] (ckSp u f 3 5 st) (λk=>k∈[3,5]) (iBool (z5w f.types st v t).1) (ckSp u f 3 5 (z5w f.types st v t).2):=by
 refine SC.vc tb {} [3,5] Tryz.func230 rfl rfl ?_;have hV:=y67 u f st v t;unfold z5w
 cases hv:z9b f.types v t
 ·rw[hv]at hV;exact⟨[],hV,sR,⟨rfl,Gd,rfl,Gd⟩,rfl,sI,rfl,rfl,rfl,Gd⟩
 ·rw[hv]at hV;obtain⟨h1,h2,h3⟩:=y6g hv;refine⟨[],hV,sR,⟨rfl,Gd,rfl,Gd⟩,rfl,rfl,VIdR.mk (i:=v.toNat) (by rw[A6];omega) h3 (VRow.mk (i:=v.toNat) (j:=0) rfl rfl (z02 (f:=eInt) (z3o oM0)) rfl (z00 (λh=>?_) λh=>?_))⟩
  ·have h:(st.getD v.toNat 0 != 0)=true:=h;have hz:(st.getD v.toNat 0==0)=false:=by simpa using h
   rw[hz];exact⟨sI,rfl,rfl,rfl,Gd⟩
  ·have h:(st.getD v.toNat 0 != 0)=false:=h;have hz:(st.getD v.toNat 0==0)=true:=by simpa using h
   rw[hz];exact⟨rfl,VIdR.mk (i:=v.toNat) (by rw[A6];omega) h3 ⟨v.toNat,0,_,rfl,rfl,z02 (f:=eInt) (z3o oM0),by simp[eInt],sI,rfl,boq (by simp[y4t]),rwq (by simp[eInt,Bt]),Gd⟩⟩
theorem sc_eqW(u:Un)(f:Fl)(fq:FuncId)(hent:tb.fn fq=true)(step:List Int->Int->Int->Bool×List Int)(hlen:∀st v t,(step st v t).2.length=st.length)(h:∀st v t,st.length=f.types.length->SC Tryz.prog fq [iInt v,iInt t,.ptr 5 0] (ckSp u f 3 5 st) (λk=>k∈[3,5]) (iBool (step st v t).1) (ckSp u f 3 5 (step st v t).2))
 (st0:List Int) (hs:st0.length=f.types.length) (a b:List Int):SC Tryz.prog 228 [.pv (ints a),.pv (ints b),.fn (.func fq) [] [.ptr 5 0]] (ckSp u f 3 5 st0) (λk=>k∈[3,5]) (iBool (eqf step st0 a b).1) (ckSp u f 3 5 (eqf step st0 a b).2):=by
 refine SC.vc tb { gh:=[(0,[.len 0])] } [3,5] Tryz.func228 rfl rfl ?_;intro hl;simp only[A6]at hl;have hl:a.length<=9223372036854775807:=hl;unfold eqf;refine z00 (λhc=>?_) λhc=>?_
 ·have hc:¬(a.length:Int)=b.length:=by simpa using hc
  rw[if_neg hc];exact⟨sI,rfl,rfl,rfl,Gd⟩
 have hc:(a.length:Int)=b.length:=by simpa using hc
 rw[if_pos hc];refine⟨Nat×List Int,λq=>[(17,iInt ((q.1:Nat):Int))],λq=>ckSp u f 3 5 q.2,λq=>a.length-q.1,λq=>q.1<=a.length/\q.2.length=f.types.length/\eqGo step st0 a b=eqGo step q.2 (a.drop q.1) (b.drop q.1),[],(0,st0),⟨Ab _,hs,rfl⟩,Ge,Gg,?_⟩;rintro⟨i,st⟩ ⟨i1,i2,i3⟩;dsimp only at i1 i2 i3;refine z00 (λhc2=>?_) λhc2=>?_
 ·have hlt:i<a.length:=z12 (f:=eInt) rfl hc2;obtain⟨x,x1,x2,x3,x4⟩:=z0s hlt;obtain⟨y,y1,y2,y3,y4⟩:=z0s (show i<b.length by omega);have hS:=h st x y i2;have hL:=hlen st x y;rw[x3,y3,eqGo]at i3;generalize step st x y=w at hS hL i3;obtain⟨w1,w2⟩:=w;dsimp only at hS hL i3
  cases w1
  ·simp only[Aj,Br]at i3;rw[i3];exact⟨z02 (f:=eInt) x1,rfl,z02 (f:=eInt) y1,rfl,z58 (b:=tb.fn fq) hent ⟨hS,sR,⟨rfl,by simp,rfl,by simp,rfl,Gd⟩,λk hk=>hk,rfl,rfl,sI,rfl,rfl,rfl,Gd⟩⟩
  ·simp only[C2]at i3;exact⟨z02 (f:=eInt) x1,rfl,z02 (f:=eInt) y1,rfl,z58 (b:=tb.fn fq) hent ⟨hS,sR,⟨rfl,by simp,rfl,by simp,rfl,Gd⟩,λk hk=>hk,rfl,rfl,z01 rfl oM0,(i+1,w2),z04 hlt,⟨hlt,hL.trans i2,i3⟩,Ge,Gg,rfl,rfl,rfl,rfl⟩⟩
 ·have hge:a.length<=i:=z13 (f:=eInt) rfl hc2;rw[i3,A8 hge,eqGo]
  ·exact⟨sI,rfl,rfl,rfl,Gd⟩
  ·intro x r y q hx;cases hx
theorem sc_eqU(u:Un)(f:Fl)(st:List Int)(hs:st.length=f.types.length)(a b:List Int):SC Tryz.prog 228 [.pv (ints a),.pv (ints b),.fn (.func 229) [] [.ptr 5 0]] (ckSp u f 3 5 st) (λk=>k∈[3,4,5]) (iBool (z0w f.types st a b)) (ckSp u f 3 5 st):=by
 refine SC.vc tb { gh:=[(0,[.len 0])] } [3,4,5] Tryz.func228 rfl rfl ?_;intro hl;simp only[A6]at hl;have hl:a.length<=9223372036854775807:=hl;unfold z0w eqf;refine z00 (λhc=>?_) λhc=>?_
 ·have hc:¬(a.length:Int)=b.length:=by simpa using hc
  rw[if_neg hc];exact⟨sI,rfl,rfl,rfl,Gd⟩
 have hc:(a.length:Int)=b.length:=by simpa using hc
 rw[if_pos hc];refine⟨Nat,λi=>[(17,iInt ((i:Nat):Int))],λ_=>ckSp u f 3 5 st,λi=>a.length-i,λi=>i<=a.length/\eqGo (zs8 f.types) st a b=eqGo (zs8 f.types) st (a.drop i) (b.drop i),[],0,⟨Ab _,rfl⟩,Ge,Gg,?_⟩;rintro i ⟨i1,i3⟩;refine z00 (λhc2=>?_) λhc2=>?_
 ·have hlt:i<a.length:=z12 (f:=eInt) rfl hc2;obtain⟨x,x1,x2,x3,x4⟩:=z0s hlt;obtain⟨y,y1,y2,y3,y4⟩:=z0s (show i<b.length by omega);have hS:=j3m u f st hs x y;have hL:(zs8 f.types st x y).2=st:=rfl;rw[x3,y3,eqGo,hL]at i3;generalize(zs8 f.types st x y).1=w at hS i3
  cases w
  ·simp only[Aj,Br]at i3;rw[i3];exact⟨z02 (f:=eInt) x1,rfl,z02 (f:=eInt) y1,rfl,hS,sR,⟨rfl,by simp,rfl,by simp,rfl,by simp,Gd⟩,λk hk=>hk,rfl,rfl,sI,rfl,rfl,rfl,Gd⟩
  ·simp only[C2]at i3;exact⟨z02 (f:=eInt) x1,rfl,z02 (f:=eInt) y1,rfl,hS,sR,⟨rfl,by simp,rfl,by simp,rfl,by simp,Gd⟩,λk hk=>hk,rfl,rfl,z01 rfl oM0,i+1,z04 hlt,⟨hlt,i3⟩,Ge,Gg,rfl,rfl,rfl,rfl⟩
 ·have hge:a.length<=i:=z13 (f:=eInt) rfl hc2;rw[i3,A8 hge,eqGo]
  ·exact⟨sI,rfl,rfl,rfl,Gd⟩
  ·intro x r y q hx;cases hx
theorem z2w(u:Un)(f:Fl)(st:List Int)(hs:st.length=f.types.length)(l want:List Int):SC Tryz.prog 201 [.ptr 3 0,.pv (ints l),.pv (ints want)] (ckS u f 3 st) (λ_=>True) (iBool (z0w f.types st l want)) (ckS u f 3 st):=by
 refine SC.sameR (SC.vc tb { ids:=[(3,5)] } [3,4] Tryz.func201 rfl rfl ?_) λk h _=>j07 h;exact⟨[3,4,5],sc_eqU u f st hs l want,sR,⟨rfl,rfl,rfl,rfl,by simp,rfl,rfl,by simp,Gd⟩,rfl,sI,rfl,rfl,Gd⟩
theorem z52(u:Un)(f:Fl)(st:List Int)(hs:st.length=f.types.length)(l want:List Int):SC Tryz.prog 203 [.ptr 3 0,.pv (ints l),.pv (ints want)] (ckS u f 3 st) (λk=>k=3) (iBool (z1q f.types st l want).1) (ckS u f 3 (z1q f.types st l want).2):=by
 refine SC.sameR (SC.vc tb { ids:=[(3,5)] } [3] Tryz.func203 rfl rfl ?_) λk _ h=>Ag.2 h;exact⟨[3,5],sc_eqW u f 230 rfl (z5w f.types) (za3 f.types) (λst v t h=>j3l u f st h v t) st hs l want,sR,⟨rfl,rfl,rfl,boq (by rw[A6,A6,show(eqf (z5w f.types) st l want).2.length=st.length from z2b f.types st l want]),by simp,rfl,Gd⟩,rfl,sI,boq (by simp[z2b]),rfl,Gd⟩
theorem y65(u:Un)(f:Fl)(st:List Int)(hs:st.length=f.types.length)(l:List Int)(hb:l.length<=34359738368):SC Tryz.prog 202 [.ptr 3 0,.pv (ints l)] (ckS u f 3 st) (λk=>k=3) (iBool (z1q f.types st l (List.replicate l.length 0)).1) (ckS u f 3 (z1q f.types st l (List.replicate l.length 0)).2):=by
 refine SC.sameR (SC.vc tb { pb:=[109] } [3] Tryz.func202 rfl rfl ?_) λk _ h=>Ag.2 h;have h:=z52 u f st hs l (List.replicate l.length 0);refine⟨rfl,VNum.mk (n:=l.length) (by rw[A6]) oM0 ?_⟩;exact⟨[3],h,SubA.same (SubA.same (SubA.cons (sE (by simp[ints,eInt];exact .inr rfl)) SubA.nil)),⟨rfl,boq (by simp[z2b]),rfl,rfl,Gd⟩,rfl,sI,boq (by simp[z2b]),rfl,Gd⟩
theorem yg0(st l:List Int)(x:Int):z3k st (l++[x])=(z3k st l).set x.toNat 2:=by simp[z3k]
theorem y8t(u:Un)(f:Fl)(st:List Int)(hs:st.length=f.types.length)(l:List Int)(hin:∀v∈l,0<=v/\v<f.types.length):SC Tryz.prog 129 [.ptr 3 0,.pv (ints l)] (ckS u f 3 st) (λk=>k=3) (.tup []) (ckS u f 3 (z3k st l)):=by
 refine SC.sameR (SC.vc tb { gh:=[(0,[.len 1])] } [3] Tryz.func129 rfl rfl ?_) λk _ h=>Ag.2 h;intro hl;simp only[A6]at hl;have hl:l.length<=9223372036854775807:=hl;refine⟨Nat,λi=>[(8,iInt ((i:Nat):Int))],λi=>[(4,.row ⟨3,1⟩ ((z3k st (l.take i)).map eInt))],λi=>l.length-i,λi=>i<=l.length,[],0,Ab _,Ge,Ge,?_⟩;intro i hi;have hn:=z4q (l.take i) st;refine z00 (λhc=>?_) λhc=>?_
 ·have hlt:i<l.length:=z12 (f:=eInt) rfl hc;obtain⟨x,x1,x2,x3,x4⟩:=z0s hlt;obtain⟨g1,g2⟩:=hin x x4;exact⟨z02 (f:=eInt) x1,rfl,by simp[hn],VIdR.mk (i:=x.toNat) (by rw[A6];omega) oM0 ⟨x.toNat,0,_,by simp[hn],rfl,z02 (f:=eInt) (z3o oM0),by simp[eInt],z01 rfl oM0,i+1,z04 hlt,hlt,Ge,⟨rwq (by rw[x2,yg0];simp[eInt,Bt]),Gd⟩,rfl,rfl,rfl,rfl⟩⟩
 ·have hge:l.length<=i:=z13 (f:=eInt) rfl hc;rw[As hge];exact⟨sI,boq (by simp[z4q]),rfl,Gd⟩
theorem zs4(u:Un)(f:Fl)(st:List Int)(hs:st.length=f.types.length)(l:List Int)(hb:l.length<=34359738368):SC Tryz.prog 200 [.ptr 3 0,.pv (ints l)] (ckS u f 3 st) (λk=>k<100) (.pv (ints (r8of f.types l))) (ckS u f 3 st):=by
 refine SC.sameR (SC.vc tb { gh:=[(1,[.grow 4 1001 3 1]),(8,[.fz 4 1001])] } [3,4] Tryz.func200 rfl rfl ?_) λk h _=>j07 h;have hr:∀x,z9b f.types x 0=zr4 f.types x:=λx=>by simp[z9b,zr4]
 refine⟨Nat,λi=>[(9,iInt ((i:Nat):Int)),(4,.sl 1001 (((l.take i).map λv=>f.types.getD v.toNat 0).map eInt).length)],λi=>[(1001,.row ⟨3,1⟩ (((l.take i).map λv=>f.types.getD v.toNat 0).map eInt))],λi=>l.length-i,λi=>i<=l.length/\(l.take i).all (zr4 f.types)=true,[],0,⟨Ab _,by simp⟩,Gf,Ge,?_⟩;rintro i ⟨hi,ha⟩;refine z00 (λhc=>?_) λhc=>?_
 ·have hlt:i<l.length:=z12 (f:=eInt) rfl hc;obtain⟨x,x1,x2,x3,x4⟩:=z0s hlt;have hV:=y67 u f st x 0;rw[hr]at hV
  cases hv:zr4 f.types x
  ·rw[hv]at hV;have hT:r8of f.types l=[]:=by
    unfold r8of;rw[if_neg];intro h;rw[Bg]at h;have:=h x x4;rw[hv]at this;cases this
   rw[hT];exact⟨z02 (f:=eInt) x1,rfl,[3,4],hV,sR,⟨rfl,rfl,Gd,rfl,rfl,Gd,Gd⟩,rfl,sN,rfl,rfl,Gd⟩
  ·rw[hv]at hV;obtain⟨h1,h2,h3⟩:=y6g ((hr x).trans hv);refine⟨z02 (f:=eInt) x1,rfl,[3,4],hV,sR,⟨rfl,rfl,Gd,rfl,rfl,Gd,Gd⟩,rfl,z02 (f:=eInt) (z3o h2),h3,rfl,z3y rfl,by simp;omega,z01 rfl oM0,i+1,z04 hlt,⟨hlt,by rw[x2];simp[ha,hv]⟩,⟨rfl,slq (by rw[x2];simp),Gd⟩,⟨rwq (by rw[x2];simp[eInt]),Gd⟩,rfl,rfl,rfl,rfl⟩
 ·have hge:l.length<=i:=z13 (f:=eInt) rfl hc;rw[As hge]at ha⊢;have hT:r8of f.types l=l.map λv=>f.types.getD v.toNat 0:=by unfold r8of;rw[if_pos ha]
  rw[hT];exact⟨rfl,sI,rfl,rfl,Gd⟩
theorem ky{d:TypeDesc}{es:List (Value×PV)}(h:(es.all λe=>z1y d e.1)=true):∀e∈es,z1y d e.1=true:=Bg.1 h
attribute [local simp] z1k r8op r8num ym5 r8kn Nd.kind Nd.op Nd.n Nd.name Nd.kids Nd.params z2d in
theorem j3d(x:Nd):SC Tryz.prog 172 [.pv (ndv x)] [] (λ_=>False) (iBool (z1k x)) []:=by
 refine SC.anyR (SC.vc tb {} [] Tryz.func172 rfl rfl ?_);obtain⟨kind,op,n,name,args,outs,params,kids⟩:=x;rcases(show kind=3∨kind=4∨kind=1∨kind=2∨kind=5∨kind=6∨kind=7∨kind=11∨kind=10∨(kind≠1/\kind≠2/\kind≠3/\kind≠4/\kind≠5/\kind≠6/\kind≠7/\kind≠11/\kind≠10) by omega)with rfl|rfl|rfl|rfl|rfl|rfl|rfl|rfl|rfl|h
 iterate 4 exact⟨rfl,ky rfl,rfl,ky rfl,rfl,ky rfl,rfl,z00 (λh3=>z00 (λh2=>z00 (λh1=>⟨sE (Aa iBool (by simp_all)),Gd⟩) λh1=>⟨sE (Aa iBool (by simp_all)),Gd⟩) λh2=>⟨sE (Aa iBool (by simp_all)),Gd⟩) λh3=>⟨sE (Aa iBool (by simp_all)),Gd⟩⟩
 iterate 3 exact⟨rfl,ky rfl,rfl,ky rfl,rfl,ky rfl,rfl,z00 (λh4=>z00 (λh3=>z00 (λh2=>z00 (λh1=>⟨sE (Aa iBool (by simp_all)),Gd⟩) λh1=>⟨sE (Aa iBool (by simp_all)),Gd⟩) λh2=>⟨sE (Aa iBool (by simp_all)),Gd⟩) λh3=>⟨sE (Aa iBool (by simp_all)),Gd⟩) λh4=>⟨sE (Aa iBool (by simp_all)),Gd⟩⟩
 ·exact⟨rfl,ky rfl,rfl,ky rfl,rfl,ky rfl,rfl,z00 (λh3=>z00 (λh2=>z00 (λh1=>⟨sE (Aa iBool (by simp_all)),Gd⟩) λh1=>⟨sE (Aa iBool (by simp_all)),Gd⟩) λh2=>⟨sE (Aa iBool (by simp_all)),Gd⟩) λh3=>⟨sE (Aa iBool (by simp_all)),Gd⟩⟩
 ·exact⟨rfl,ky rfl,rfl,ky rfl,rfl,ky rfl,rfl,z00 (λh4=>z00 (λh3=>z00 (λh2=>z00 (λh1=>⟨sE (Aa iBool (by simp_all)),Gd⟩) λh1=>⟨sE (Aa iBool (by simp_all)),Gd⟩) λh2=>⟨sE (Aa iBool (by simp_all)),Gd⟩) λh3=>⟨sE (Aa iBool (by simp_all)),Gd⟩) λh4=>⟨sE (Aa iBool (by simp_all)),Gd⟩⟩
 ·obtain⟨k1,k2,k3,k4,k5,k6,k7,k8,k9⟩:=h;have no:∀{i:Int},kind≠i->(kind==i)=true->False:=λh e=>h (eq_of_beq e);exact⟨rfl,ky rfl,rfl,ky rfl,VAsk.mk (p:=vInt 0) (b:=false) rfl (ky rfl) (by simp[Nd.kind,k8,k9,mput,keyB,z1z]<;>rfl) (z00 (λh=>(no k3 h).elim) λ_=>z00 (λh=>(no k4 h).elim) λ_=>z00 (λh=>(no k1 h).elim) λ_=>z00 (λh=>(no k2 h).elim) λ_=>z00 (λh=>(no k5 h).elim) λ_=>z00 (λh=>(no k6 h).elim) λ_=>z00 (λh=>(no k7 h).elim) λ_=>z00 (λh=>(no k8 h).elim) λ_=>z00 (λh4=>z00 (λh3=>z00 (λh2=>z00 (λh1=>⟨sE (Aa iBool (by simp_all)),Gd⟩) λh1=>⟨sE (Aa iBool (by simp_all)),Gd⟩) λh2=>⟨sE (Aa iBool (by simp_all)),Gd⟩) λh3=>⟨sE (Aa iBool (by simp_all)),Gd⟩) λh4=>⟨sE (Aa iBool (by simp_all)),Gd⟩)⟩
theorem yp0(u:Un)(f:Fl)(st:List Int)(hs:st.length=f.types.length)(x:Nd):SC Tryz.prog 204 [.ptr 3 0,.pv (ndv x)] (ckS u f 3 st) (λk=>k=3) (iBool (y96 f st x).1) (ckS u f 3 (y96 f st x).2):=by
 refine SC.sameR (SC.vc tb { pb:=[103] } [3] Tryz.func204 rfl rfl ?_) λk _ h=>Ag.2 h;unfold y96;have hO:=y8u x.op;generalize z39 x.op=q at hO⊢;obtain⟨a,b⟩:=q;dsimp only at hO⊢;have hS:=z52 u f st hs x.outs [b];refine⟨[],hO,sR,Gd,rfl,z00 (λh=>?_) λh=>?_⟩
 ·rw[if_pos h];have hU:=z2w u f st hs x.args [a];refine z00 (λh1=>z00 (λh2=>?_) λh2=>?_) λh1=>?_
  ·rw[show z2u x.op=true by unfold z2u;rw[show decide (x.op≥20)=true from h1,show decide (x.op<=28)=true from h2];rfl,B0];generalize z0w f.types st x.args [a]=c at hU⊢
   cases c
   ·exact⟨[],hU,sR,⟨rfl,Gd,rfl,Gd⟩,rfl,sI,rfl,rfl,Gd⟩
   ·exact⟨[],hU,sR,⟨rfl,Gd,rfl,Gd⟩,rfl,[],hS,sR,Gg,rfl,sI,rfl,rfl,Gd⟩
  ·rw[show z2u x.op=false by unfold z2u;rw[show decide (x.op≥20)=true from h1,show decide (x.op<=28)=false from h2];rfl,Cy];exact⟨sI,rfl,rfl,Gd⟩
  ·rw[show z2u x.op=false by unfold z2u;rw[show decide (x.op≥20)=false from h1];rfl,Cy];exact⟨sI,rfl,rfl,Gd⟩
 ·rw[if_neg (by rw[show(x.kind==3)=false from h];decide)];have hU:=z2w u f st hs x.args [a,a];have hL:=y8z x.op;refine⟨[],hL,sR,Gd,rfl,z00 (λh1=>z00 (λh2=>?_) λh2=>?_) λh1=>?_⟩
  ·rw[show decide (z4j x.op > 0)=true from h1,show decide (x.op<=17)=true from h2,B0,B0]
   cases hc:z0w f.types st x.args [a,a]
   ·rw[hc]at hU;exact⟨[],hU,sR,⟨rfl,Gd,rfl,Gd⟩,rfl,sI,rfl,rfl,Gd⟩
   ·rw[hc]at hU;obtain⟨v,w,e0,e1,e2,e3,e4⟩:=yx8 hc;have hi0:(x.args.map eInt)[0]?=some [vInt v]:=by rw[e0];rfl
    have hi1:(x.args.map eInt)[1]?=some [vInt w]:=by rw[e0];rfl
    rw[show x.args.getD 0 0=v by rw[e0];rfl,show x.args.getD 1 0=w by rw[e0];rfl,B0];refine⟨[],hU,sR,⟨rfl,Gd,rfl,Gd⟩,rfl,hi0,rfl,z02 (f:=eInt) (z3o e2),e1,hi1,rfl,z02 (f:=eInt) (z3o e4),e3,z00 (λh3=>?_) λh3=>?_⟩
    ·rw[show(f.types.getD v.toNat 0==f.types.getD w.toNat 0)=true from h3];exact⟨[],hS,sR,Gg,rfl,sI,rfl,rfl,Gd⟩
    ·rw[show(f.types.getD v.toNat 0==f.types.getD w.toNat 0)=false from h3];exact⟨sI,rfl,rfl,Gd⟩
  ·rw[show decide (z4j x.op > 0)=true from h1,show decide (x.op<=17)=false from h2];exact⟨sI,rfl,rfl,Gd⟩
  ·rw[show decide (z4j x.op > 0)=false from h1];exact⟨sI,rfl,rfl,Gd⟩
theorem sc_shEnd(u:Un)(f:Fl)(st:List Int)(hs:st.length=f.types.length)(x:Nd)(wh:Wh):SC Tryz.prog 176 [.ptr 3 0,.pv (ndv x),.pv (whv wh)] (ckS u f 3 st) (λk=>k=3) (iBool (y93 f st x wh)) (ckS u f 3 st):=by
 refine SC.sameR (SC.vc tb { pb:=[104,105] } [3] Tryz.func176 rfl rfl ?_) λk _ h=>Ag.2 h;unfold y93;have hl:(x.outs.map eInt).length=x.outs.length:=A6 _;generalize hZ:((x.outs.length:Int)==0)=z;have hZ':(((x.outs.map eInt).length:Int)==0)=z:=by rw[hl];exact hZ
 rw[<- hZ'];have hY:=z2w u f st hs x.args wh.Yield;have hN:=z2w u f st hs x.args wh.Next;have hL:=z2w u f st hs x.args wh.Left;have hT:=z2w u f st hs x.args [f.ty];refine z00 (λh12=>?_) λh12=>z00 (λh13=>?_) λh13=>z00 (λh14=>?_) λh14=>?_
 ·rw[if_pos h12];refine z00 (λh1=>?_) λh1=>?_
  ·rw[show(((x.outs.map eInt).length:Int)==0)=true from h1,B0];refine z00 (λh2=>?_) λh2=>?_
   ·rw[show wh.If=true from h2,B0];exact⟨[],hY,sR,⟨rfl,Gd,rfl,Gd⟩,rfl,sI,rfl,rfl,Gd⟩
   ·rw[show wh.If=false from h2];exact⟨sI,rfl,rfl,Gd⟩
  ·rw[show(((x.outs.map eInt).length:Int)==0)=false from h1];exact⟨sI,rfl,rfl,Gd⟩
 ·rw[if_neg (by rw[show(x.kind==12)=false from h12];decide),if_pos h13];refine z00 (λh1=>?_) λh1=>?_
  ·rw[show(((x.outs.map eInt).length:Int)==0)=true from h1,B0];refine z00 (λh2=>?_) λh2=>?_
   ·rw[show wh.Loop=true from h2,B0];exact⟨[],hN,sR,⟨rfl,Gd,rfl,Gd⟩,rfl,sI,rfl,rfl,Gd⟩
   ·rw[show wh.Loop=false from h2];exact⟨sI,rfl,rfl,Gd⟩
  ·rw[show(((x.outs.map eInt).length:Int)==0)=false from h1];exact⟨sI,rfl,rfl,Gd⟩
 ·rw[if_neg (by rw[show(x.kind==12)=false from h12];decide),if_neg (by rw[show(x.kind==13)=false from h13];decide),if_pos h14];refine z00 (λh1=>?_) λh1=>?_
  ·rw[show(((x.outs.map eInt).length:Int)==0)=true from h1,B0];refine z00 (λh2=>?_) λh2=>?_
   ·rw[show wh.Loop=true from h2,B0];exact⟨[],hL,sR,⟨rfl,Gd,rfl,Gd⟩,rfl,sI,rfl,rfl,Gd⟩
   ·rw[show wh.Loop=false from h2];exact⟨sI,rfl,rfl,Gd⟩
  ·rw[show(((x.outs.map eInt).length:Int)==0)=false from h1];exact⟨sI,rfl,rfl,Gd⟩
 ·rw[if_neg (by rw[show(x.kind==12)=false from h12];decide),if_neg (by rw[show(x.kind==13)=false from h13];decide),if_neg (by rw[show(x.kind==14)=false from h14];decide)];refine z00 (λh1=>?_) λh1=>?_
  ·rw[show(((x.outs.map eInt).length:Int)==0)=true from h1,B0];exact⟨[],hT,sR,⟨rfl,Gd,rfl,Gd⟩,rfl,sI,rfl,rfl,Gd⟩
  ·rw[show(((x.outs.map eInt).length:Int)==0)=false from h1];exact⟨sI,rfl,rfl,Gd⟩
theorem yf6(u:Un)(f:Fl)(st:List Int)(hs:st.length=f.types.length)(hg:∀g∈u.flows,0<=g.params/\g.params<=g.types.length)(x:Nd):SC Tryz.prog 177 [.ptr 3 0,.pv (ndv x)] (ckS u f 3 st) (λk=>k=3) (iBool (z2i u f st x).1) (ckS u f 3 (z2i u f st x).2):=by
 refine SC.sameR (SC.vc tb {} [3] Tryz.func177 rfl rfl ?_) λk _ h=>Ag.2 h;obtain⟨kind,op,n,name,args,outs,params,kids⟩:=x;rcases(show kind=1∨kind=2∨kind=3∨kind=4∨kind=5∨kind=6∨kind=8∨kind=9∨kind=7∨(kind≠1/\kind≠2/\kind≠3/\kind≠4/\kind≠5/\kind≠6/\kind≠8/\kind≠9/\kind≠7) by omega)with rfl|rfl|rfl|rfl|rfl|rfl|rfl|rfl|rfl|h
 ·have e:z2i u f st (.mk 1 op n name args outs params kids)=andP (z0w f.types st args []) st (z1q f.types st outs [1]):=rfl;rw[e];have h1:=z2w u f st hs args [];generalize z0w f.types st args []=b at h1⊢
  cases b
  ·exact⟨[],h1,SubA.same (SubA.same (SubA.cons sN SubA.nil)),⟨rfl,Gd,rfl,Gd⟩,rfl,sI,rfl,rfl,Gd⟩
  ·exact⟨[],h1,SubA.same (SubA.same (SubA.cons sN SubA.nil)),⟨rfl,Gd,rfl,Gd⟩,rfl,[],z52 u f st hs outs [1],sR,Gg,rfl,sI,rfl,rfl,Gd⟩
 ·have e:z2i u f st (.mk 2 op n name args outs params kids)=andP ((n==0||n==1)&&z0w f.types st args []) st (z1q f.types st outs [2]):=rfl;rw[e];have h1:=z2w u f st hs args [];generalize z0w f.types st args []=b at h1⊢;rcases(show n=0∨n=1∨((n==0)=false/\(n==1)=false) by simp;omega)with rfl|rfl|⟨h2,h3⟩
  iterate 2
   ·cases b
    ·exact⟨[],h1,SubA.same (SubA.same (SubA.cons sN SubA.nil)),⟨rfl,Gd,rfl,Gd⟩,rfl,sI,rfl,rfl,Gd⟩
    ·exact⟨[],h1,SubA.same (SubA.same (SubA.cons sN SubA.nil)),⟨rfl,Gd,rfl,Gd⟩,rfl,[],z52 u f st hs outs [2],sR,Gg,rfl,sI,rfl,rfl,Gd⟩
  ·rw[show((n==0||n==1)&&b)=false by rw[h2,h3];rfl];refine z00 (λh=>absurd (h.symm.trans h2) dC0) λ_=>z00 (λh=>absurd (h.symm.trans h3) dC0) λ_=>?_;exact⟨sI,rfl,rfl,Gd⟩
 ·exact⟨[],yp0 u f st hs (.mk 3 op n name args outs params kids),sR,Gg,rfl,sI,rfl,rfl,Gd⟩
 ·exact⟨[],yp0 u f st hs (.mk 4 op n name args outs params kids),sR,Gg,rfl,sI,rfl,rfl,Gd⟩
 ·have e:z2i u f st (.mk 5 op n name args outs params kids)=andP (decide (z0i name u.arrays 0≥0)&&z0w f.types st args [1]) st (z1q f.types st outs [1]):=rfl;rw[e];have h0:=yo9 u name;have h1:=z2w u f st hs args [1];generalize z0w f.types st args [1]=b at h1⊢;generalize decide (z0i name u.arrays 0≥0)=c at h0⊢
  cases c
  ·exact⟨[],h0,sR,Gd,rfl,sI,rfl,rfl,Gd⟩
  ·cases b
   ·exact⟨[],h0,sR,Gd,rfl,[],h1,sR,⟨rfl,Gd,rfl,Gd⟩,rfl,sI,rfl,rfl,Gd⟩
   ·exact⟨[],h0,sR,Gd,rfl,[],h1,sR,⟨rfl,Gd,rfl,Gd⟩,rfl,[],z52 u f st hs outs [1],sR,Gg,rfl,sI,rfl,rfl,Gd⟩
 ·have e:z2i u f st (.mk 6 op n name args outs params kids)=andP (decide (z0i name u.arrays 0≥0)&&z0w f.types st args [1,1]) st (z1q f.types st outs []):=rfl;rw[e];have h0:=yo9 u name;have h1:=z2w u f st hs args [1,1];generalize z0w f.types st args [1,1]=b at h1⊢;generalize decide (z0i name u.arrays 0≥0)=c at h0⊢
  cases c
  ·exact⟨[],h0,sR,Gd,rfl,sI,rfl,rfl,Gd⟩
  ·cases b
   ·exact⟨[],h0,sR,Gd,rfl,[],h1,sR,⟨rfl,Gd,rfl,Gd⟩,rfl,sI,rfl,rfl,Gd⟩
   ·exact⟨[],h0,sR,Gd,rfl,[],h1,sR,⟨rfl,Gd,rfl,Gd⟩,rfl,[],z52 u f st hs outs [],SubA.same (SubA.same (SubA.cons sN SubA.nil)),Gg,rfl,sI,rfl,rfl,Gd⟩
 ·have e:z2i u f st (.mk 8 op n name args outs params kids)=andP (z0w f.types st args []) st (z1q f.types st outs [1]):=rfl;rw[e];have h1:=z2w u f st hs args [];generalize z0w f.types st args []=b at h1⊢
  cases b
  ·exact⟨[],h1,SubA.same (SubA.same (SubA.cons sN SubA.nil)),⟨rfl,Gd,rfl,Gd⟩,rfl,sI,rfl,rfl,Gd⟩
  ·exact⟨[],h1,SubA.same (SubA.same (SubA.cons sN SubA.nil)),⟨rfl,Gd,rfl,Gd⟩,rfl,[],z52 u f st hs outs [1],sR,Gg,rfl,sI,rfl,rfl,Gd⟩
 ·have e:z2i u f st (.mk 9 op n name args outs params kids)=andP (z0w f.types st args [1]) st (z1q f.types st outs []):=rfl;rw[e];have h1:=z2w u f st hs args [1];generalize z0w f.types st args [1]=b at h1⊢
  cases b
  ·exact⟨[],h1,sR,⟨rfl,Gd,rfl,Gd⟩,rfl,sI,rfl,rfl,Gd⟩
  ·exact⟨[],h1,sR,⟨rfl,Gd,rfl,Gd⟩,rfl,[],z52 u f st hs outs [],SubA.same (SubA.same (SubA.cons sN SubA.nil)),Gg,rfl,sI,rfl,rfl,Gd⟩
 ·have e:z2i u f st (.mk 7 op n name args outs params kids)=zw5 u f st (.mk 7 op n name args outs params kids):=rfl;rw[e];refine⟨[],zf1 u name,sR,Gd,rfl,z00 (λhc=>?_) λhc=>?_⟩
  ·rw[show zw5 u f st (.mk 7 op n name args outs params kids)=(false,st)from if_pos (Aq hc)];exact⟨sI,rfl,rfl,Gd⟩
  ·have hl:¬z06 name u.flows 0<0:=Ap hc;have hk0:z06 name u.flows 0≥0:=by omega
   obtain⟨g,hgk,_⟩:=ze5 hk0;obtain⟨hgp0,hgpl⟩:=hg g (A9 hgk);have e2:zw5 u f st (.mk 7 op n name args outs params kids)=andP (z0w f.types st args (g.types.take g.params.toNat)) st (z1q f.types st outs [g.ty]):=by
    show(if z06 name u.flows 0<0 then _ else match u.flows[(z06 name u.flows 0).toNat]? with|some g=>_|none=>_)=_;rw[if_neg hl,hgk];rfl
   rw[e2];have h1:=z2w u f st hs args (g.types.take g.params.toNat);generalize z0w f.types st args (g.types.take g.params.toNat)=b at h1⊢;have hi:=z02 (f:=Fl.enc) hgk;have hkn:(((z06 name u.flows 0).toNat:Nat):Int)=z06 name u.flows 0:=by omega
   have hpn:((g.params.toNat:Nat):Int)=g.params:=by omega
   have hle:0<=g.params.toNat:=Ab _;have hge:g.params.toNat<=(g.types.map eInt).length:=by simp;omega
   cases b
   ·exact⟨hi,hkn.symm,_,hpn.symm,hle,hge,zl2,[],h1,SubA.same (SubA.same (SubA.cons (sP (by simp only[ints,Ei];exact PSub.refl _)) SubA.nil)),⟨rfl,Gd,rfl,Gd⟩,rfl,sI,rfl,rfl,Gd⟩
   ·exact⟨hi,hkn.symm,_,hpn.symm,hle,hge,zl2,[],h1,SubA.same (SubA.same (SubA.cons (sP (by simp only[ints,Ei];exact PSub.refl _)) SubA.nil)),⟨rfl,Gd,rfl,Gd⟩,rfl,[],z52 u f st hs outs [g.ty],sR,Gg,rfl,sI,rfl,rfl,Gd⟩
 ·obtain⟨h1,h2,h3,h4,h5,h6,h8,h9,h7⟩:=h;rw[show z2i u f st (.mk kind op n name args outs params kids)=(false,st) by unfold z2i;simp[Nd.kind,h1,h2,h3,h4,h5,h6,h7,h8,h9]];have no:∀{i:Int},kind≠i->(kind==i)=true->False:=λh e=>h (eq_of_beq e);exact z00 (λh=>(no h1 h).elim) λ_=>z00 (λh=>(no h2 h).elim) λ_=>z00 (λh=>(no h3 h).elim) λ_=>z00 (λh=>(no h4 h).elim) λ_=>z00 (λh=>(no h5 h).elim) λ_=>z00 (λh=>(no h6 h).elim) λ_=>z00 (λh=>(no h8 h).elim) λ_=>z00 (λh=>(no h9 h).elim) λ_=>z00 (λh=>(no h7 h).elim) λ_=>⟨sI,rfl,rfl,Gd⟩
theorem zz5(f:Fl){x:Nd}(st:List Int){c:Bool}(h:((x.outs.length:Int)==0 || !z05 x)=c):z4g f x st=andP c st (z1q f.types st x.outs (List.replicate x.outs.length 0)):=by rw[z4g,h]
theorem yf4(u:Un)(f:Fl)(st:List Int)(hs:st.length=f.types.length)(x:Nd)(ka kb:List Nd)(hkids:x.kids=[ka,kb])(wh:Wh)(deep:Int)(hbo:x.outs.length<=34359738368)(ih:∀q∈x.kids,∀(w:Wh)(st:List Int),st.length=f.types.length->SC Tryz.prog 73 [.ptr 3 0,.pv (z2e q),.pv (whv w),iInt deep] (ckS u f 3 st) (λk=>k=3) (iBool (z22 u f deep w st q).1) (ckS u f 3 (z22 u f deep w st q).2)):SC Tryz.prog 173 [.ptr 3 0,.pv (ndv x),.pv (whv wh),iInt deep] (ckS u f 3 st) (λk=>k=3) (iBool (if z0w f.types st x.args [2]then andQ (z22 u f deep ⟨true,wh.Loop,r8of f.types x.outs,wh.Next,wh.Left⟩ st ka) (λs1=>andQ (z22 u f deep ⟨true,wh.Loop,r8of f.types x.outs,wh.Next,wh.Left⟩ s1 kb) λs2=>z4g f x s2)else(false,st)).1) (ckS u f 3 (if z0w f.types st x.args [2]then andQ (z22 u f deep ⟨true,wh.Loop,r8of f.types x.outs,wh.Next,wh.Left⟩ st ka) (λs1=>andQ (z22 u f deep ⟨true,wh.Loop,r8of f.types x.outs,wh.Next,wh.Left⟩ s1 kb) λs2=>z4g f x s2)else(false,st)).2):=by
 refine SC.sameR (SC.vc tb {} [3] Tryz.func173 rfl rfl ?_) λk _ h=>Ag.2 h;have hi0:(x.kids.map eKid)[0]?=some [z2e ka]:=by rw[hkids];rfl
 have hi1:(x.kids.map eKid)[1]?=some [z2e kb]:=by rw[hkids];rfl
 have hm0:ka∈x.kids:=by rw[hkids];exact .head _
 have hm1:kb∈x.kids:=by rw[hkids];exact .tail _ (.head _)
 have hT:=zs4 u f st hs x.outs hbo;have h1:=z2w u f st hs x.args [2];have h2:=ih ka hm0 ⟨true,wh.Loop,r8of f.types x.outs,wh.Next,wh.Left⟩ st hs;have l2:=(za1 u f deep ⟨true,wh.Loop,r8of f.types x.outs,wh.Next,wh.Left⟩ st ka).trans hs;have hC:=zj5 x;generalize z0w f.types st x.args [2]=b1 at h1⊢;generalize z22 u f deep ⟨true,wh.Loop,r8of f.types x.outs,wh.Next,wh.Left⟩ st ka=R2 at h2 l2⊢;obtain⟨b2,st2⟩:=R2;have h3:=ih kb hm1 ⟨true,wh.Loop,r8of f.types x.outs,wh.Next,wh.Left⟩ st2 l2;have l3:=(za1 u f deep ⟨true,wh.Loop,r8of f.types x.outs,wh.Next,wh.Left⟩ st2 kb).trans l2
 cases b1
 ·exact⟨[],hT,sR,⟨rfl,by decide,rfl,Gd⟩,rfl,[],h1,sR,⟨rfl,Gd,rfl,Gd⟩,rfl,sI,rfl,rfl,Gd⟩
 cases b2
 ·exact⟨[],hT,sR,⟨rfl,by decide,rfl,Gd⟩,rfl,[],h1,sR,⟨rfl,Gd,rfl,Gd⟩,rfl,hi0,rfl,[],h2,sR,Gg,rfl,sI,rfl,rfl,Gd⟩
 rw[show andQ (true,st2) (λs1=>andQ (z22 u f deep ⟨true,wh.Loop,r8of f.types x.outs,wh.Next,wh.Left⟩ s1 kb) λs2=>z4g f x s2)=andQ (z22 u f deep ⟨true,wh.Loop,r8of f.types x.outs,wh.Next,wh.Left⟩ st2 kb) (λs2=>z4g f x s2)from rfl];generalize z22 u f deep ⟨true,wh.Loop,r8of f.types x.outs,wh.Next,wh.Left⟩ st2 kb=R3 at h3 l3⊢;obtain⟨b3,st3⟩:=R3
 cases b3
 ·exact⟨[],hT,sR,⟨rfl,by decide,rfl,Gd⟩,rfl,[],h1,sR,⟨rfl,Gd,rfl,Gd⟩,rfl,hi0,rfl,[],h2,sR,Gg,rfl,hi1,rfl,[],h3,sR,Gg,rfl,sI,rfl,rfl,Gd⟩
 rw[show andQ (true,st3) (λs2=>z4g f x s2)=z4g f x st3 from rfl];have hA:=y65 u f st3 l3 x.outs hbo;refine⟨[],hT,sR,⟨rfl,by decide,rfl,Gd⟩,rfl,[],h1,sR,⟨rfl,Gd,rfl,Gd⟩,rfl,hi0,rfl,[],h2,sR,Gg,rfl,hi1,rfl,[],h3,sR,Gg,rfl,z00 (λh=>?_) λh=>?_⟩
 ·rw[zz5 f st3 (c:=true) (by rw[A6]at h;rw[h,Ba])];exact⟨[],hA,sR,Gg,rfl,sI,rfl,rfl,Gd⟩
 ·rw[A6]at h;have hq:((x.outs.length:Int)==0 || !z05 x) = !z05 x:=by rw[h,C9]
  rw[zz5 f st3 hq];generalize z05 x=c at hC⊢
  cases c
  ·exact⟨[],hC,sR,Gd,rfl,[],hA,sR,Gg,rfl,sI,rfl,rfl,Gd⟩
  ·exact⟨[],hC,sR,Gd,rfl,sI,rfl,rfl,Gd⟩
theorem j3j(u:Un)(f:Fl)(st:List Int)(hs:st.length=f.types.length)(x:Nd)(ka:List Nd)(hkids:x.kids=[ka])(deep:Int)(hbo:x.outs.length<=34359738368)(hbp:x.params.length<=34359738368)(ih:∀q∈x.kids,∀(w:Wh)(st:List Int),st.length=f.types.length->SC Tryz.prog 73 [.ptr 3 0,.pv (z2e q),.pv (whv w),iInt deep] (ckS u f 3 st) (λk=>k=3) (iBool (z22 u f deep w st q).1) (ckS u f 3 (z22 u f deep w st q).2)):SC Tryz.prog 174 [.ptr 3 0,.pv (ndv x),iInt deep] (ckS u f 3 st) (λk=>k=3) (iBool (if z0w f.types st x.args (r8of f.types x.params)then andQ (z1q f.types st x.params (List.replicate x.params.length 0)) (λs1=>andQ (z22 u f deep ⟨false,true,[],r8of f.types x.params,r8of f.types x.outs⟩ s1 ka) λs2=>z4g f x (z3k s2 x.params))else(false,st)).1) (ckS u f 3 (if z0w f.types st x.args (r8of f.types x.params)then andQ (z1q f.types st x.params (List.replicate x.params.length 0)) (λs1=>andQ (z22 u f deep ⟨false,true,[],r8of f.types x.params,r8of f.types x.outs⟩ s1 ka) λs2=>z4g f x (z3k s2 x.params))else(false,st)).2):=by
 refine SC.sameR (SC.vc tb {} [3] Tryz.func174 rfl rfl ?_) λk _ h=>Ag.2 h;have hi0:(x.kids.map eKid)[0]?=some [z2e ka]:=by rw[hkids];rfl
 have hm0:ka∈x.kids:=by rw[hkids];exact .head _
 have hT:=zs4 u f st hs x.params hbp;have hT2:=zs4 u f st hs x.outs hbo;have h1:=z2w u f st hs x.args (r8of f.types x.params);have hA1:=y65 u f st hs x.params hbp;have l1:=(z2b f.types st x.params (List.replicate x.params.length 0)).trans hs;have hC:=zj5 x;generalize z0w f.types st x.args (r8of f.types x.params)=b1 at h1⊢
 cases b1
 ·exact⟨[],hT,sR,⟨rfl,by decide,rfl,Gd⟩,rfl,[],hT2,sR,⟨rfl,by decide,rfl,Gd⟩,rfl,[],h1,sR,⟨rfl,Gd,rfl,Gd⟩,rfl,sI,rfl,rfl,Gd⟩
 have hpin:(z1q f.types st x.params (List.replicate x.params.length 0)).1=true->∀v∈x.params,0<=v/\v<f.types.length:=λh=>y1y h;generalize z1q f.types st x.params (List.replicate x.params.length 0)=R2 at hA1 l1 hpin⊢;obtain⟨b2,st1⟩:=R2
 cases b2
 ·exact⟨[],hT,sR,⟨rfl,by decide,rfl,Gd⟩,rfl,[],hT2,sR,⟨rfl,by decide,rfl,Gd⟩,rfl,[],h1,sR,⟨rfl,Gd,rfl,Gd⟩,rfl,[],hA1,sR,Gg,rfl,sI,rfl,rfl,Gd⟩
 have hpin:=hpin rfl;have h2:=ih ka hm0 ⟨false,true,[],r8of f.types x.params,r8of f.types x.outs⟩ st1 l1;have l2:=(za1 u f deep ⟨false,true,[],r8of f.types x.params,r8of f.types x.outs⟩ st1 ka).trans l1;rw[show andQ (true,st1) (λs1=>andQ (z22 u f deep ⟨false,true,[],r8of f.types x.params,r8of f.types x.outs⟩ s1 ka) λs2=>z4g f x (z3k s2 x.params))=andQ (z22 u f deep ⟨false,true,[],r8of f.types x.params,r8of f.types x.outs⟩ st1 ka) (λs2=>z4g f x (z3k s2 x.params))from rfl];generalize z22 u f deep ⟨false,true,[],r8of f.types x.params,r8of f.types x.outs⟩ st1 ka=R3 at h2 l2⊢;obtain⟨b3,st2⟩:=R3
 cases b3
 ·exact⟨[],hT,sR,⟨rfl,by decide,rfl,Gd⟩,rfl,[],hT2,sR,⟨rfl,by decide,rfl,Gd⟩,rfl,[],h1,sR,⟨rfl,Gd,rfl,Gd⟩,rfl,[],hA1,sR,Gg,rfl,hi0,rfl,[],h2,SubA.same (SubA.same (SubA.cons (sP (z0g _)) sR)),Gg,rfl,sI,rfl,rfl,Gd⟩
 have hH:=y8t u f st2 l2 x.params hpin;have l3:=(z4q x.params st2).trans l2;rw[show andQ (true,st2) (λs2=>z4g f x (z3k s2 x.params))=z4g f x (z3k st2 x.params)from rfl];generalize z3k st2 x.params=st3 at hH l3⊢;have hA:=y65 u f st3 l3 x.outs hbo;refine⟨[],hT,sR,⟨rfl,by decide,rfl,Gd⟩,rfl,[],hT2,sR,⟨rfl,by decide,rfl,Gd⟩,rfl,[],h1,sR,⟨rfl,Gd,rfl,Gd⟩,rfl,[],hA1,sR,Gg,rfl,hi0,rfl,[],h2,SubA.same (SubA.same (SubA.cons (sP (z0g _)) sR)),Gg,rfl,[],hH,sR,Gg,rfl,z00 (λh=>?_) λh=>?_⟩
 ·rw[zz5 f st3 (c:=true) (by rw[A6]at h;rw[h,Ba])];exact⟨[],hA,sR,Gg,rfl,sI,rfl,rfl,Gd⟩
 ·rw[A6]at h;have hq:((x.outs.length:Int)==0 || !z05 x) = !z05 x:=by rw[h,C9]
  rw[zz5 f st3 hq];generalize z05 x=c at hC⊢
  cases c
  ·exact⟨[],hC,sR,Gd,rfl,[],hA,sR,Gg,rfl,sI,rfl,rfl,Gd⟩
  ·exact⟨[],hC,sR,Gd,rfl,sI,rfl,rfl,Gd⟩
theorem j3k(u:Un)(f:Fl)(hg:∀g∈u.flows,0<=g.params/\g.params<=g.types.length)(x:Nd)(deep:Int)(hd:0<=deep/\deep<=100)(wh:Wh)(st:List Int)(hs:st.length=f.types.length)(hbo:x.outs.length<=34359738368)(hbp:x.params.length<=34359738368)(ih:∀q∈x.kids,∀(w:Wh)(st:List Int),st.length=f.types.length->SC Tryz.prog 73 [.ptr 3 0,.pv (z2e q),.pv (whv w),iInt (deep+1)] (ckS u f 3 st) (λk=>k=3) (iBool (z22 u f (deep+1) w st q).1) (ckS u f 3 (z22 u f (deep+1) w st q).2)) :
 SC Tryz.prog 127 [.ptr 3 0,.pv (ndv x),.pv (whv wh),iInt deep] (ckS u f 3 st) (λk=>k=3) (iBool (z60 u f deep wh st x).1) (ckS u f 3 (z60 u f deep wh st x).2):=by
 refine SC.sameR (SC.vc tb { pb:=[105,106] } [3] Tryz.func127 rfl rfl ?_) λk _ h=>Ag.2 h;have hB:=j3d x
 cases hb:z1k x
 ·rw[hb]at hB;rw[zj7 u f deep wh st hb];exact⟨[],hB,sR,Gd,rfl,sI,rfl,rfl,Gd⟩
 rw[hb]at hB;refine⟨[],hB,sR,Gd,rfl,z00 (λh10=>?_) λh10=>?_⟩
 ·have hk:x.kind=10:=eq_of_beq h10;obtain⟨a,b,hkids⟩:=z3f hb hk;rw[y1x u f deep wh st hb hk hkids];have hC:=yf4 u f st hs x a b hkids wh (deep+1) hbo ih;generalize(if z0w f.types st x.args [2]then andQ (z22 u f (deep+1) ⟨true,wh.Loop,r8of f.types x.outs,wh.Next,wh.Left⟩ st a) (λs1=>andQ (z22 u f (deep+1) ⟨true,wh.Loop,r8of f.types x.outs,wh.Next,wh.Left⟩ s1 b) λs2=>z4g f x s2)else(false,st))=r at hC⊢;exact⟨z01 rfl oM0,[],hC,sR,Gg,rfl,sI,rfl,rfl,Gd⟩
 refine z00 (λh11=>?_) λh11=>?_
 ·have hk:x.kind=11:=eq_of_beq h11;obtain⟨a,hkids⟩:=z25 hb hk;rw[zj8 u f deep wh st hb hk hkids];have hC:=j3j u f st hs x a hkids (deep+1) hbo hbp ih;generalize(if z0w f.types st x.args (r8of f.types x.params)then andQ (z1q f.types st x.params (List.replicate x.params.length 0)) (λs1=>andQ (z22 u f (deep+1) ⟨false,true,[],r8of f.types x.params,r8of f.types x.outs⟩ s1 a) λs2=>z4g f x (z3k s2 x.params))else(false,st))=r at hC⊢;exact⟨z01 rfl oM0,[],hC,sR,Gg,rfl,sI,rfl,rfl,Gd⟩
 have hE:=j3e x
 cases he:z0x x.kind
 ·rw[he]at hE;rw[za2 u f deep wh st hb h10 h11 he];have hC:=yf6 u f st hs hg x;generalize z2i u f st x=r at hC⊢;exact⟨[],hE,sR,Gd,rfl,[],hC,sR,Gg,rfl,sI,rfl,rfl,Gd⟩
 ·rw[he]at hE;rw[zs7 u f deep wh st hb h10 h11 he];exact⟨[],hE,sR,Gd,rfl,[],sc_shEnd u f st hs x wh,sR,Gg,rfl,sI,rfl,rfl,Gd⟩
theorem zh0(st:List Int)(l:List Nd)(x:Nd):z4f st (l++[x])=z3k (z4f st l) x.outs:=by simp[z4f]
theorem y66(N:Nat):∀(u:Un)(f:Fl)(hg:∀g∈u.flows,0<=g.params/\g.params<=g.types.length)(l:List Nd)(deep:Int)(hd:0<=deep/\deep<=101)(wh:Wh)(st:List Int)(hs:st.length=f.types.length)(hb:lsW l<=34359738368),SizeOf.sizeOf l<N->SC Tryz.prog 73 [.ptr 3 0,.pv (z2e l),.pv (whv wh),iInt deep] (ckS u f 3 st) (λk=>k=3) (iBool (z22 u f deep wh st l).1) (ckS u f 3 (z22 u f deep wh st l).2):=by
 induction N with
 |zero=>intro u f hg l deep hd wh st hs hb hN;exact absurd hN (Ai _)
 |succ N ih =>
  intro u f hg l deep hd wh st hs hb hN;refine SC.sameR (SC.vc tb { pb:=[106,110,112],gh:=[(0,[.len 1])] } [3] Tryz.func73 rfl rfl ?_) λk _ h=>Ag.2 h;intro hl;simp only[A6]at hl;have hl:l.length<=9223372036854775807:=hl;have ll:(l.map Nd.enc).length=l.length:=A6 _;unfold z22;refine⟨Nat×List Int,λq=>[(15,iInt ((q.1:Nat):Int))],λq=>ckS u f 3 q.2,λq=>l.length-q.1,λq=>q.1<=l.length/\q.2.length=f.types.length/\shGo u f deep wh st l=shGo u f deep wh q.2 (l.drop q.1),[],(0,st),⟨Ab _,hs,rfl⟩,Ge,Gf,?_⟩;rintro⟨i,s⟩ ⟨i1,i2,i3⟩;dsimp only at i1 i2 i3;refine z00 (λhc=>?_) λhc=>?_
  ·have hlt:i<l.length:=z12 (f:=Nd.enc) rfl hc;obtain⟨x,x1,x2,x3,x4⟩:=z0s hlt;have hw:=y0q x4;rw[z87]at hw;rw[x3,shGo]at i3;refine⟨z07 x1,rfl,z00 (λh1=>?_) λh1=>?_⟩
   ·have h1:deep > 100:=Aq h1;rw[if_pos h1]at i3;rw[i3];exact⟨sI,rfl,rfl,Gd⟩
   have h1:¬deep > 100:=Ap h1;rw[if_neg h1]at i3;have hX:=j3k u f hg x deep ⟨hd.1,by omega⟩ wh s i2 oM0 oM0 λq hq w st hs=>ih u f hg q (deep+1) ⟨by omega,by omega⟩ w st hs (by have:=z7n hq;omega) (Bb (zc4 x4 rfl hq) (C3 hN));have hXl:=(zn8 u f x deep wh s).trans i2;generalize z60 u f deep wh s x=r at hX hXl i3;obtain⟨b,s2⟩:=r;dsimp only at hX hXl
   cases b
   ·rw[show andQ (false,s2) (λs1=>if (z05 x != (l.drop (i+1)).isEmpty)=true then(false,s1)else shGo u f deep wh s1 (l.drop (i+1)))=(false,s2)from rfl]at i3;rw[i3];exact⟨[],hX,sR,Gg,rfl,sI,rfl,rfl,Gd⟩
   rw[show andQ (true,s2) (λs1=>if (z05 x != (l.drop (i+1)).isEmpty)=true then(false,s1)else shGo u f deep wh s1 (l.drop (i+1)))=(if (z05 x != (l.drop (i+1)).isEmpty)=true then(false,s2)else shGo u f deep wh s2 (l.drop (i+1)))from rfl]at i3;have hem:(l.drop (i+1)).isEmpty=((i:Int)==((l.map Nd.enc).length:Int)-1):=by
    rw[D3,Ft,List.drop_eq_nil_iff,Ak,ll];omega
   rw[hem]at i3;refine⟨[],hX,sR,Gg,rfl,[],zj5 x,sR,Gd,rfl,z4b rfl (by rw[ll];omega),z00 (λh2=>?_) λh2=>?_⟩
   ·have h2:(z05 x != ((i:Int)==((l.map Nd.enc).length:Int)-1))=true:=h2;rw[if_pos h2]at i3;rw[i3];exact⟨sI,rfl,rfl,Gd⟩
   ·rw[if_neg (by rw[show(z05 x != ((i:Int)==((l.map Nd.enc).length:Int)-1))=false from h2];decide)]at i3;exact⟨z01 rfl oM0,(i+1,s2),z04 hlt,⟨hlt,hXl,i3⟩,Ge,Gf,rfl,rfl,rfl,rfl⟩
  ·have hge:l.length<=i:=z13 (f:=Nd.enc) rfl hc;have hgo:shGo u f deep wh st l=(true,s):=by rw[i3,A8 hge,shGo]
   have ho:=y95 (u:=u) (f:=f) (deep:=deep) (w:=wh) (l:=l) (st:=st) (by rw[hgo]);rw[hgo,show andQ (true,s) (y94 l)=(decide ((l.length:Int) > 0),z4f s l)from rfl];refine⟨Nat,λj=>[(43,iInt ((j:Nat):Int))],λj=>ckS u f 3 (z4f s (l.take j)),λj=>l.length-j,λj=>j<=l.length,[],0,Ab _,Ge,Gf,?_⟩;intro j hj;refine z00 (λhc=>?_) λhc=>?_
   ·have hlt:j<l.length:=z12 (f:=Nd.enc) rfl hc;obtain⟨x,x1,x2,x3,x4⟩:=z0s hlt;have hH:=y8t u f (z4f s (l.take j)) ((z70 (l.take j) s).trans i2) x.outs (ho x x4);exact⟨z07 x1,rfl,[],hH,sR,Gg,rfl,z01 rfl oM0,j+1,z04 hlt,hlt,Ge,⟨boq (by rw[x2,zh0]),rwq (by rw[x2,zh0]),Gd⟩,rfl,rfl,rfl,rfl⟩
   ·have hge:l.length<=j:=z13 (f:=Nd.enc) rfl hc;rw[As hge];exact⟨sE (by rw[ll]),rfl,rfl,Gd⟩
theorem j3i(u:Un)(f:Fl)(hg:∀g∈u.flows,0<=g.params/\g.params<=g.types.length)(l:List Nd)(deep:Int)(hd:0<=deep/\deep<=101)(wh:Wh)(st:List Int)(hs:st.length=f.types.length)(hb:lsW l<=34359738368):SC Tryz.prog 73 [.ptr 3 0,.pv (z2e l),.pv (whv wh),iInt deep] (ckS u f 3 st) (λk=>k=3) (iBool (z22 u f deep wh st l).1) (ckS u f 3 (z22 u f deep wh st l).2):=y66 _ u f hg l deep hd wh st hs hb (A7 _)
theorem j3f(u:Un)(f:Fl)(hg:∀g∈u.flows,0<=g.params/\g.params<=g.types.length)(hp:0<=f.params/\f.params<=f.types.length)(hb:lsW f.body<=34359738368):SC Tryz.prog 40 [.pv u.enc,.pv (.agg f.enc)] [] (λ_=>False) (iBool (y1w u f)) []:=by
 refine SC.anyR (SC.vc tb { pb:=[102,103],ids:=[(26,4),(28,3)] } [] Tryz.func40 rfl rfl ?_);unfold y1w;have hl:((f.types.map eInt).length:Int)=f.types.length:=by rw[A6]
 refine z00 (λh1=>?_) λh1=>?_
 ·rw[show decide (f.params > 8)=true from h1];exact⟨sI,Gd⟩
 rw[show decide (f.params > 8)=false from h1,C9];refine z00 (λh2=>?_) λh2=>?_
 ·have h2:decide (((f.types.map eInt).length:Int) > 20000)=true:=h2;rw[hl]at h2;rw[h2];exact⟨sI,Gd⟩
 have h2:decide (((f.types.map eInt).length:Int) > 20000)=false:=h2;rw[hl]at h2;rw[h2,C9];have hT:=sc_hasIn 72 [] rfl (λt=>!isTy t) f.types λx _=>SC.anyR (sc_flow1 x);generalize(f.types.any λt=>!isTy t)=c at hT⊢
 cases c
 ·have h2':=Ap h2;refine⟨[],hT,SubA.same sFn,Gd,rfl,rfl,VNum.mk (n:=f.types.length) hl oM0 ?_⟩;refine⟨by simp,Nat,λi=>[(31,iInt ((i:Nat):Int))],λi=>ckS u f 3 (zn6 i f.types.length),λi=>f.params.toNat-i,λi=>(i:Int)<=f.params,[],0,by show((0:Nat):Int)<=_;omega,Ge,⟨boq (by simp[y4t,zn6];rfl),rwq (by simp[zn6,eInt];exact .inr rfl),Gd⟩,?_⟩;intro i hi;have hsl:=zw4 (k:=i) (n:=f.types.length) oM0;refine z00 (λhc=>?_) λhc=>?_
  ·have hlt:(i:Int)<f.params:=Aq hc;have hss:=j3z (k:=i) (n:=f.types.length) oM0;exact⟨rfl,VIdR.mk (i:=i) (by rw[A6];omega) rfl ⟨i,0,_,rfl,rfl,z02 (f:=eInt) (z3o (show i<(zn6 i f.types.length).length by omega)),by simp[eInt],z01 rfl oM0,i+1,(by show f.params.toNat-(i+1)<f.params.toNat-i;omega),(by show((i+1:Nat):Int)<=f.params;omega),Ge,⟨boq (by rw[<- hss];simp[y4t]),rwq (by rw[<- hss];simp[eInt,Bt]),Gd⟩,rfl,rfl,rfl,rfl⟩⟩
  ·have hge:¬(i:Int)<f.params:=Ap hc;have hi2:i=f.params.toNat:=by omega
   subst hi2;have hL:=j3i u f hg f.body 1 ⟨by decide,by decide⟩ z43 (zn6 f.params.toNat f.types.length) oM0 hb;exact⟨[],hL,SubA.same (SubA.same (SubA.cons (sP (z0g _)) (SubA.same SubA.nil))),Gf,rfl,sI,Gd⟩
 ·exact⟨[],hT,SubA.same sFn,Gd,rfl,sI,Gd⟩
theorem j3h(u:Un)(hW:z0h u<=34359738368):SC Tryz.prog 39 [.pv u.enc] [] (λ_=>False) (iBool (z9a u)) []:=by
 refine SC.anyR (SC.vc tb {} [] Tryz.func39 rfl rfl ?_);have hw1:u.arrays.length<=z0h u:=by unfold z0h;omega
 have hw2:u.flows.length<=z0h u:=by unfold z0h;omega
 refine⟨Nat×List (Value×PV),λ(k,_)=>[(13,iInt k)],λ(_,es)=>[(109,.map es)],λ(k,_)=>u.arrays.length-k,λ(k,es)=>k<=u.arrays.length/\u.arrays.all zx3=(u.arrays.drop k).all zx3/\y05 [] u.arrays=y05 es (u.arrays.drop k)/\Cnt es,[],(0,[]),⟨Ab _,rfl,rfl,Cnt.nil⟩,Ge,Ge,?_⟩;rintro⟨k,es⟩ ⟨hk,hA,hC,hes⟩;refine z00 (λhc=>?_) λhc=>?_
 ·have hlt:=z12 (f:=Ar.enc) rfl hc;obtain⟨a,ha,_,hd,_⟩:=z0s hlt;rw[hd]at hA hC;rw[D9]at hA;obtain⟨n,hn⟩:=hes.find (.string a.name);have bad:zx3 a=false->SubI (iBool false) (iBool (z9a u)):=λh=>sE (by unfold z9a;rw[hA,h];rfl);have hNm:=z7y a.name
  cases hN:z0m a.name with
  |false =>
   rw[hN]at hNm
   exact⟨z02 (f:=Ar.enc) ha,rfl,VAsk.mk (p:=vInt n) (b:=(z1z (.string a.name) es).isSome) rfl hes.1 (Ea hn rfl) ⟨rfl,rfl,hes.1,[],hNm,sR,Gd,rfl,bad (by unfold zx3;rw[hN];rfl),Gd⟩⟩
  |true =>
   rw[hN]at hNm;refine⟨z02 (f:=Ar.enc) ha,rfl,VAsk.mk (p:=vInt n) (b:=(z1z (.string a.name) es).isSome) rfl hes.1 (Ea hn rfl) ⟨rfl,rfl,hes.1,[],hNm,sR,Gd,rfl,z00 (λh1=>⟨bad (by unfold zx3;rw[hN,show decide (a.size<1)=true from h1];rfl),Gd⟩) λh1=>z00 (λh2=>⟨bad (by unfold zx3;rw[hN,show decide (a.size<1)=false from h1,show decide (a.size > 1000)=true from h2];rfl),Gd⟩) λh2=>?_⟩⟩;have good:zx3 a=true:=by unfold zx3;rw[hN,show decide (a.size<1)=false from h1,show decide (a.size > 1000)=false from h2];rfl
   exact⟨z01 rfl oM0,(k+1,bump a.name es),z04 hlt,⟨hlt,by rw[hA,good];rfl,hC,hes.bump _⟩,Ge,⟨mpq (zh3 hn).symm,Gd⟩,rfl,rfl,rfl,rfl⟩
 ·have hge:=z13 (f:=Ar.enc) rfl hc;rw[A8 hge]at hA hC;refine⟨Nat×List (Value×PV),λ(k,_)=>[(40,iInt k)],λ(_,es)=>[(109,.map es)],λ(k,_)=>u.flows.length-k,λ(k,es)=>k<=u.flows.length/\u.flows.all zn7=(u.flows.drop k).all zn7/\y2x (y05 [] u.arrays) u.flows=y2x es (u.flows.drop k)/\Cnt es,[],(0,es),⟨Ab _,rfl,by rw[hC];rfl,hes⟩,Ge,Ge,?_⟩;rintro⟨k,es⟩ ⟨hk,hF,hC,hes⟩;refine z00 (λhc=>?_) λhc=>?_
  ·have hlt:=z12 (f:=Fl.enc) rfl hc;obtain⟨f,hf,_,hd,hm⟩:=z0s hlt;rw[hd]at hF hC;rw[D9]at hF;obtain⟨n,hn⟩:=hes.find (.string f.name);have bad:zn7 f=false->SubI (iBool false) (iBool (z9a u)):=λh=>sE (by unfold z9a;rw[hA,hF,h];rfl);have hNm:=z7y f.name
   cases hN:z0m f.name with
   |false =>
    rw[hN]at hNm
    exact⟨z02 (f:=Fl.enc) hf,rfl,VAsk.mk (p:=vInt n) (b:=(z1z (.string f.name) es).isSome) rfl hes.1 (Ea hn rfl) ⟨rfl,rfl,hes.1,[],hNm,sR,Gd,rfl,bad (by unfold zn7;rw[hN];rfl),Gd⟩⟩
   |true =>
    rw[hN]at hNm;have hT:=j34 f.ty
    cases hty:isTy f.ty with
    |false =>
     rw[hty]at hT
     exact⟨z02 (f:=Fl.enc) hf,rfl,VAsk.mk (p:=vInt n) (b:=(z1z (.string f.name) es).isSome) rfl hes.1 (Ea hn rfl) ⟨rfl,rfl,hes.1,[],hNm,sR,Gd,rfl,[],hT,sR,Gd,rfl,bad (by unfold zn7;rw[hN,hty];rfl),Gd⟩⟩
    |true =>
     rw[hty]at hT;refine⟨z02 (f:=Fl.enc) hf,rfl,VAsk.mk (p:=vInt n) (b:=(z1z (.string f.name) es).isSome) rfl hes.1 (Ea hn rfl) ⟨rfl,rfl,hes.1,[],hNm,sR,Gd,rfl,[],hT,sR,Gd,rfl,z00 (λh1=>⟨bad (by unfold zn7;rw[hN,hty,show decide (f.params<0)=true from h1];rfl),Gd⟩) λh1=>z00 (λh2=>⟨bad (by unfold zn7;rw[hN,hty,show decide (f.params<0)=false from h1,show decide (f.params > f.types.length)=true by simpa using h2];rfl),Gd⟩) λh2=>?_⟩⟩;have good:zn7 f=true:=by unfold zn7;rw[hN,hty,show decide (f.params<0)=false from h1,show decide (f.params > f.types.length)=false by simpa using h2];rfl
     exact⟨z01 rfl oM0,(k+1,bump f.name es),z04 hlt,⟨hlt,by rw[hF,good];rfl,hC,hes.bump _⟩,Ge,⟨mpq (zh3 hn).symm,Gd⟩,rfl,rfl,rfl,rfl⟩
  ·have hge:=z13 (f:=Fl.enc) rfl hc;rw[A8 hge]at hF hC;have hG:z9a u=((es.length:Int)==u.arrays.length+u.flows.length&&zb3 u):=by unfold z9a;rw[hA,hF,hC];rfl
   rw[hG];have N:∀{P:Prop}{b:Bool},b=true->b=false->P:=λh g=>by rw[h]at g;cases g
   cases hb:((es.length:Int)==u.arrays.length+u.flows.length)with
   |false=>exact⟨[],zf1 u z0u,sR,Gd,rfl,z01 rfl (by simp;omega),z00 (λh=>N (show((es.length:Int)==u.arrays.length+u.flows.length)=true by simpa using h) hb) λ_=>⟨sI,Gd⟩⟩
   |true =>
    cases hp:decide (z06 z0u u.flows 0≥0)with
    |false=>exact⟨[],zf1 u z0u,sR,Gd,rfl,z01 rfl (by simp;omega),z00 (λ_=>z00 (λh=>N h hp) λ_=>⟨sE (by unfold zb3;rw[hp];rfl),Gd⟩) λh=>N hb (by simpa using h)⟩
    |true =>
     have h0:z06 z0u u.flows 0≥0:=by simpa using hp
     obtain⟨g,hg,_⟩:=ze5 h0;have hD:u.flows.getD (z06 z0u u.flows 0).toNat y78=g:=by rw[At,hg];rfl
     have hi:=z02 (f:=Fl.enc) hg;refine⟨[],zf1 u z0u,sR,Gd,rfl,z01 rfl (by simp;omega),z00 (λ_=>z00 (λ_=>⟨hi,by omega,z00 (λh1=>⟨hi,by omega,sE ?_,Gd⟩) λh1=>⟨sE ?_,Gd⟩⟩) λh=>N hp h) λh=>N hb (by simpa using h)⟩
     ·unfold zb3;rw[hp,hD,show(g.ty==1)=true from h1];rfl
     ·unfold zb3;rw[hp,hD,show(g.ty==1)=false from h1];rfl
theorem flow_leW{u:Un}{f:Fl}(hf:f∈u.flows):lsW f.body<=z0h u:=by
 have h1:=yh9 hf;have h2:=y7n f.body;unfold z0h z0y at *
 omega
theorem y98(u:Un)(l:List Fl)(i:Nat){f:Fl}(h:l.drop i=f::l.drop (i+1)):za4 u (l.drop i) i=if y1w u f then za4 u (l.drop (i+1)) ((i+1:Nat):Int)else(80,(i:Int)):=by
 rw[h,za4];rfl
theorem y49(u:Un)(hW:z0h u<=34359738368):SC Tryz.prog 19 [.pv u.enc] [] (λ_=>False) (.tup [iInt (z4x u).1,iInt (z4x u).2]) []:=by
 refine SC.anyR (SC.vc tb { pb:=[101,105] } [] Tryz.func19 rfl rfl ?_);have hH:=j3h u hW;have hw2:u.flows.length<=z0h u:=by unfold z0h;omega
 unfold z4x
 cases hh:z9a u
 ·rw[hh]at hH;exact⟨[],hH,sR,Gd,rfl,sI,Gd⟩
 rw[hh]at hH;have hg:=y6e hh;rw[if_pos rfl];refine⟨[],hH,sR,Gd,rfl,Nat,λi=>[(12,iInt ((i:Nat):Int))],λ_=>[],λi=>u.flows.length-i,λi=>i<=u.flows.length/\za4 u u.flows 0=za4 u (u.flows.drop i) i,[],0,⟨Ab _,rfl⟩,Ge,Gd,?_⟩;rintro i ⟨i1,i2⟩;refine z00 (λhc=>?_) λhc=>?_
 ·have hlt:i<u.flows.length:=z12 (f:=Fl.enc) rfl hc;obtain⟨x,x1,x2,x3,x4⟩:=z0s hlt;have hF:=j3f u x hg (hg x x4) (Bi (flow_leW x4) hW);rw[y98 u u.flows i x3]at i2;generalize y1w u x=b at hF i2
  cases b
  ·rw[if_neg dC0]at i2;rw[i2];exact⟨z02 (f:=Fl.enc) x1,rfl,[],hF,sR,Gd,rfl,sI,Gd⟩
  ·rw[if_pos rfl]at i2;exact⟨z02 (f:=Fl.enc) x1,rfl,[],hF,sR,Gd,rfl,z01 rfl oM0,i+1,z04 hlt,⟨hlt,i2⟩,Ge,Gd,rfl,rfl,rfl,rfl⟩
 ·have hge:u.flows.length<=i:=z13 (f:=Fl.enc) rfl hc;rw[i2,A8 hge];exact⟨sI,Gd⟩
set_option maxRecDepth 100000 in
set_option maxHeartbeats 4000000 in
theorem y6v(b:Nat)(r:Array MapEntry)(ck:Nat)(w:World)(hb:w.heap[b]?=some (.map r ck)) :
 Calls Tryz.prog 91 #[.map (some b)] w λe w'=>e=.returned (.map (some w.heap.size))/\w'=w.alloc (.map r ck):=by
 have hq:=λw=>run_eql_map_nil_sl (P:=Tryz.prog) w 70 _ _ (some b) Tryz.underlying70
 go_enter Tryz.func91,Tryz.ntmps91
 go_wp2
 rw[run_callFunc_extern Tryz.func142 kR0 kR0 kR0 (e:=Extern.MapsClone.clone) kR0,run_maps_clone_sl w 70 hb];simp only[Result.andThen];rw[Co]
 go_wp2
 rw[run_typeAssert_map_sl _ 70 20 _ _ _ Tryz.underlying70];simp only[Result.andThen];rw[Co]
 go_wp2
 go_ret
 exact⟨rfl,rfl⟩
set_option maxRecDepth 100000 in
set_option maxHeartbeats 4000000 in
theorem y6w(b:Nat)(r:Array MapEntry)(ck:Nat)(w:World)(hb:w.heap[b]?=some (.map r ck)) :
 Calls Tryz.prog 90 #[.map (some b)] w λe w'=>e=.returned (.map (some w.heap.size))/\w'=w.alloc (.map r ck):=by
 have hq:=λw=>run_eql_map_nil_sl (P:=Tryz.prog) w 69 _ _ (some b) Tryz.underlying69
 go_enter Tryz.func90,Tryz.ntmps90
 go_wp2
 rw[run_callFunc_extern Tryz.func142 kR0 kR0 kR0 (e:=Extern.MapsClone.clone) kR0,run_maps_clone_sl w 69 hb];simp only[Result.andThen];rw[Co]
 go_wp2
 rw[run_typeAssert_map_sl _ 69 20 _ _ _ Tryz.underlying69];simp only[Result.andThen];rw[Co]
 go_wp2
 go_ret
 exact⟨rfl,rfl⟩
theorem key5E:∃f0 f1 f2 f3 f4,K5 Tryz.prog 171 f0 f1 f2 f3 f4:=⟨_,_,_,_,_,⟨Tryz.underlying171,by kernel_rfl,Tryz.underlying3,Tryz.underlying3,Tryz.underlying3,Tryz.underlying3,Tryz.underlying3,by decide,by decide,by decide,by decide,by decide,rfl,rfl,rfl,rfl,rfl⟩⟩
mutual
def kdN:Nd->Bool
 |.mk kind _ _ _ _ _ _ ks=>decide (1<=kind)&&kdK ks
def kdL:List Nd->Bool
 |[]=>true
 |x::r=>kdN x&&kdL r
def kdK:List (List Nd)->Bool
 |[]=>true
 |l::r=>kdL l&&kdK r
end
theorem kdN_eq(x:Nd):kdN x=(decide (1<=x.kind)&&kdK x.kids):=by cases x;simp only[kdN];rfl
theorem yu7{u:Un}{f:Fl}{x:Nd}{s:List Int}{w:Wh}{tys outs:List Int}(h:(z8r u f x s w).ok tys outs=true):1<=x.kind:=by
 rcases Int.lt_or_le x.kind 1 with hk|hk
 ·exfalso;have e:∀n:Int,1<=n->(x.kind==n)=false:=λn hn=>by simp only[Ad];omega
  unfold z8r at h;simp only[e 1 oM0,e 2 oM0,e 3 oM0,e 4 oM0,e 5 oM0,e 6 oM0,e 7 oM0,e 8 oM0,e 9 oM0,e 12 oM0,e 13 oM0,e 14 oM0,e 15 oM0,Aj,Br]at h;simp[SForm.ok]at h
 ·exact hk
mutual
theorem j10(u:Un)(f:Fl):∀(x:Nd)(deep:Int)(w:Wh)(s:List Int),z82 u f deep w s x=true->kdN x=true
 |.mk kind op n name args outs params ks,deep,w,s,h=>by
  have hb:=z2r u f deep w s h;simp only[kdN,A0,B6]
  by_cases h10:kind=10
  ·refine⟨by omega,?_⟩;obtain⟨a,b,hk⟩:=z3f hb h10;rw[z6k u f deep w s hb h10 hk]at h;simp only[A0,z4r]at h;simp only[Nd.kids]at hk
   match ks,hk with
   |[a',b'],hk =>
    cases hk
    simp only[kdK,A0,C8];exact⟨zc3 u f a _ _ _ h.1.1.1.2.2,zc3 u f b _ _ _ h.1.1.2.2⟩
  ·by_cases h11:kind=11
   ·refine⟨by omega,?_⟩;obtain⟨a,hk⟩:=z25 hb h11;rw[z4s u f deep w s hb h11 hk]at h;simp only[A0,z4r]at h;simp only[Nd.kids]at hk
    match ks,hk with
    |[a'],hk =>
     cases hk
     simp only[kdK,C8];exact zc3 u f a _ _ _ h.1.1.2.2
   ·have e10:(kind==10)=false:=by simpa using h10
    have e11:(kind==11)=false:=by simpa using h11
    have hk0:=z61 hb e10 e11;simp only[Nd.kids]at hk0;rw[z1c u f deep w s hb e10 e11]at h;exact⟨yu7 h,by rw[hk0];rfl⟩
theorem zc3(u:Un)(f:Fl):∀(l:List Nd)(deep:Int)(w:Wh)(s:List Int),vGo u f deep w s l=true->kdL l=true
 |[],_,_,_,_=>rfl
 |x::r,deep,w,s,h=>by
  simp only[vGo,A0]at h;simp only[kdL,A0];exact⟨j10 u f x _ _ _ h.1.1.2,zc3 u f r _ _ _ h.2⟩
end
theorem kd_valid{u:Un}(h:(z4x u).1=0):∀f∈u.flows,kdL f.body=true:=by
 rw[z99]at h;intro f hf;have hF:=((z6l u).1 h).2 f hf;unfold z5g at hF;simp only[A0]at hF;obtain⟨h1,h2⟩:=hF;have hp:f.params.toNat<=f.types.length:=by
  have a1:=h1.1.1.1.1;have a2:=h1.1.1.2;simp only[Bf,Cc]at a1 a2;omega
 have hn:(z5e f.params.toNat f.types.length).length=f.types.length:=z4k hp;rw[ze6 u f f.body 1 z43 _ _ hn]at h2;have hv:=h2.1;simp only[z4r,A0]at hv;exact zc3 u f f.body _ _ _ hv.2
def z6d(a b:Nd):Bool:=a.kind==b.kind&&a.op==b.op&&a.n==b.n&&decide (a.kind<=4)&&a.args==b.args
mutual
def onN(pre:List Nd):Nd->Bool
 |.mk kind op n name args outs params ks=>!(pre.any λy=>z6d y (.mk kind op n name args outs params ks))&&onK ks
def onL(pre:List Nd):List Nd->Bool
 |[]=>true
 |x::r=>onN pre x&&onL (pre++[x]) r
def onK:List (List Nd)->Bool
 |[]=>true
 |l::r=>onL [] l&&onK r
end
theorem j1q(pre:List Nd)(x:Nd):onN pre x=(!(pre.any λy=>z6d y x)&&onK x.kids):=by cases x;simp only[onN,Nd.kids]
def y3y(u:Un):Bool:=u.flows.all λf=>onL [] f.body
theorem y6s{y x:Nd}(h:z6d y x=true):y.kind=x.kind/\y.kind<=4/\z3v y=z3v x:=by
 simp only[z6d,A0,Ak,B6]at h;obtain⟨⟨⟨⟨h1,h2⟩,h3⟩,h4⟩,h5⟩:=h;refine⟨h1,h4,?_⟩;unfold z3v;rw[h1,h2,h3,h5]
theorem pre_no{pre:List Nd}{x:Nd}(h:∀y∈pre,z6d y x=false):(pre.any λy=>z6d y x)=false:=by
 rw[List.any_eq_false];exact λy hy=>by rw[h y hy];simp
def Known(tb:Tb)(pre:List Nd):Prop:=∀y∈pre,stK y.kind=true->aGet (z3v y) tb.seen≠none
mutual
theorem on_node:∀(x:Nd)(tb:Tb)(to:TT)(pre:List Nd),Known tb pre->kdN x=true->onL pre (z0q tb to x).1=true/\Known (z0q tb to x).2.1 (pre++(z0q tb to x).1)
 |.mk kind op n name args outs params ks,tb,to,pre,hk,hd=>by
  rw[kdN_eq]at hd;simp only[A0,B6,Nd.kids]at hd;have hks:=j1r ks tb to hd.2;unfold z0q
  by_cases hK:stK kind=true
  ·rw[if_pos hK];dsimp only;unfold z76
   cases hp:z4y tb.nums (.mk kind op n name (args.map (z10 to)) outs params (z0l tb to ks).1)with
   |some y=>exact⟨by simp[onL],by simpa using hk⟩
   |none =>
    dsimp only
    cases hs:aGet (z3v (.mk kind op n name (args.map (z10 to)) outs params (z0l tb to ks).1)) tb.seen with
    |some y=>exact⟨by simp[onL],by simpa using hk⟩
    |none =>
     refine⟨?_,λy hy hyk=>?_⟩
     ·simp only[C2,onL,C8];rw[j1q];have:=pre_no (pre:=pre) (x:=.mk kind op n name (args.map (z10 to)) outs params (z0l tb to ks).1) λy hy=>by
       cases ha:z6d y (.mk kind op n name (args.map (z10 to)) outs params (z0l tb to ks).1)with
       |false=>rfl
       |true =>
        obtain⟨e1,e2,e3⟩:=y6s ha;exact absurd (e3▸hs) (hk y hy (by rw[e1];exact hK))
      rw[this,Dl,B0];exact hks
     ·simp only[C2]at hy;rw[z42]
      by_cases e:z3v y=z3v (.mk kind op n name (args.map (z10 to)) outs params (z0l tb to ks).1)
      ·rw[if_pos e];simp
      ·rw[if_neg e];rcases Aw.1 hy with hy|hy
       ·exact hk y hy hyk
       ·obtain rfl:=Ag.1 hy;exact absurd rfl e
  ·rw[if_neg hK];refine⟨?_,λy hy hyk=>?_⟩
   ·simp only[onL,C8];rw[j1q];have:=pre_no (pre:=pre) (x:=.mk kind op n name (args.map (z10 to)) outs params (z0l tb to ks).1) λy hy=>by
     cases ha:z6d y (.mk kind op n name (args.map (z10 to)) outs params (z0l tb to ks).1)with
     |false=>rfl
     |true =>
      obtain⟨e1,e2,_⟩:=y6s ha;have h1:1<=kind:=hd.1;have e1':y.kind=kind:=e1;exfalso;apply hK;simp only[stK,B7,Ak];omega
    rw[this,Dl,B0];exact hks
   ·rcases Aw.1 hy with hy|hy
    ·exact hk y hy hyk
    ·obtain rfl:=Ag.1 hy;exact absurd hyk hK
theorem yc7:∀(l:List Nd)(tb:Tb)(to:TT)(pre:List Nd),Known tb pre->kdL l=true->onL pre (z0e tb to l).1=true
 |[],_,_,_,_,_=>by simp[z0e,onL]
 |x::r,tb,to,pre,hk,hd=>by
  simp only[kdL,A0]at hd;obtain⟨h1,h2⟩:=on_node x tb to pre hk hd.1;have h3:=yc7 r (z0q tb to x).2.1 (z0q tb to x).2.2 _ h2 hd.2;simp only[z0e];have hl:=y4k tb to x
  match hn:(z0q tb to x).1,hl with
  |[],_=>rw[hn]at h3;simpa using h3
  |[y],_ =>
   rw[hn]at h1 h3;simp only[onL,C8]at h1;simp only[List.singleton_append,onL,h1,B0];exact h3
theorem j1r:∀(ks:List (List Nd)) (tb:Tb) (to:TT),kdK ks=true->onK (z0l tb to ks).1=true
 |[],_,_,_=>by simp[z0l,onK]
 |l::r,tb,to,hd=>by
  simp only[kdK,A0]at hd;simp only[z0l,onK,A0];exact⟨yc7 l tb to [] (λy hy=>by simp at hy) hd.1,j1r r tb _ hd.2⟩
end
theorem y3v(u:Un):y3y (z93 stB u).1=true:=by
 by_cases h:(z18 u).1=0
 ·rw[z69 stB h];unfold y3y;rw[Bg];intro g hg;obtain⟨f,hf,rfl⟩:=Bx.1 (show g∈u.flows.map (z5l stB)from hg);exact yc7 f.body _ _ [] (λy hy=>by simp at hy) (kd_valid (by rw[z99];exact h) f hf)
 ·rw[y3l stB h];rfl
def inEs(l:TT):List (Value×PV):=l.map λe=>(vKey e.1,vInt e.2)
def tH(tb:Tb)(to:TT):List (Nat×HO):=[(3001,.map (kyEs tb.seen)),(3002,.map (inEs tb.nums)),(3003,.map (inEs to))]
abbrev tV:IV:=.agg [.mp 3001,.mp 3002,.mp 3003]
theorem z3s(l:TT):∀e∈inEs l,z1y (.int .i64) e.1=true:=λe he=>by
 obtain⟨x,_,rfl⟩:=Bx.1 he;rfl
theorem j12(a b:Int):keyB (vKey a) (vKey b)=decide (a=b):=by
 show(a==b)=_
 by_cases h:a=b<;>simp[h]
theorem y7g(v:Int):∀l:TT,z1z (vKey v) (inEs l)=(aGet v l).map vInt
 |[]=>rfl
 |(a,b)::r=>by
  have ih:=y7g v r;unfold inEs at ih⊢;simp only[B3,z1z,aGet,j12,B6]
  by_cases h:v=a
  ·rw[if_pos h,if_pos h];rfl
  ·rw[if_neg h,if_neg h];exact ih
theorem zy1(k v:Int):∀l:TT,mput (vKey k) (vInt v) (inEs l)=inEs (aPut k v l)
 |[]=>rfl
 |(a,b)::r=>by
  have ih:=zy1 k v r;unfold inEs at ih⊢;simp only[B3,mput,aPut,j12,B6]
  by_cases h:k=a
  ·rw[if_pos h,if_pos h];rfl
  ·rw[if_neg h,if_neg h,ih];rfl
theorem y0i(v:Int)(l:TT):((z1z (vKey v) (inEs l)).getD (.val (.int .i64 0)),(z1z (vKey v) (inEs l)).isSome)=(vInt ((aGet v l).getD 0),(aGet v l).isSome):=by
 rw[y7g]
 cases aGet v l<;>rfl
theorem yy1{to:TT}{v:Int}(h:(aGet v to).isSome=true):(aGet v to).getD 0=z10 to v:=by
 unfold z10
 cases hg:aGet v to with
 |none=>rw[hg]at h;cases h
 |some y=>rfl
theorem yy0{to:TT}{v:Int}(h:(aGet v to).isSome=false):z10 to v=v:=by
 unfold z10
 cases hg:aGet v to with
 |none=>rfl
 |some y=>rw[hg]at h;cases h
theorem yp5{nums:TT}{v:Int}{q:Int->Bool}:y2n nums v q=((aGet v nums).isSome&&q ((aGet v nums).getD 0)):=by
 unfold y2n
 cases aGet v nums<;>rfl
theorem j19:∀l:List Nd,l.length<=lsW l
 |[]=>by simp
 |x::r=>by
  have h1:=j19 r;have h2:1<=ndW x:=by cases x;simp only[ndW];omega
  simp only[lsW,Al];omega
theorem args_ne{l m:List Int}(h:¬(l.length:Int)=m.length):(l==m)=false:=by
 cases hb:(l==m)with
 |false=>rfl
 |true=>exact absurd (by rw[eq_of_beq hb]) h
theorem ym2{o:Oper}{fr:Fr}{hp:Hp}{Rl:List Nat}{x y:Operand}{k:Nat}{l:List (Ky×Int)}{q:Ky}{n:Int}{b:Bool}(hq:((aGet q l).getD 0,(aGet q l).isSome)=(n,b))(ho:o.op=.lookup 69 x y true)(hx:fr.ev x=some (.mp k))(hy:fr.ev y=some (.pv (kyP q)))(hk:look hp k=some (.map (kyEs l))):OkF Tryz.prog Rl o fr hp ⟨.tup [iInt n,iBool b],[],[k],[]⟩:=by
 have hops:o.op.operands.toList=[x,y]:=by rw[ho];rfl
 obtain⟨f0,f1,f2,f3,f4,K⟩:=key5E;refine .pure λc R1 fr2 hp2 hg hh hR=>?_;have h:=yc4 (c:=c) (R1:=R1) K ho (hg.ev hx (by rw[hops];simp)) (hg.ev hy (by rw[hops];simp)) (hh.at hk (.head _)) Tryz.underlying69 tZ3 (hR _ (.head _));obtain⟨h1,h2⟩:=Eg hq;rw[h1,h2]at h;exact h
theorem okf_setK{o:Oper}{fr:Fr}{hp:Hp}{Rl:List Nat}{x y z:Operand}{k:Nat}{l:List (Ky×Int)}{q:Ky}{v:Int}(hnew:aGet q l=none)(ho:o.op=.mapUpdate 69 x y z)(hx:fr.ev x=some (.mp k))(hy:fr.ev y=some (.pv (kyP q)))(hz:fr.ev z=some (iInt v))(hk:look hp k=some (.map (kyEs l)))(hR:nIn k Rl=false):OkF Tryz.prog Rl o fr hp ⟨.pv (.val undef),[(k,some (.map (kyEs (aPut q v l))))],[k],[]⟩:=by
 have hops:o.op.operands.toList=[x,y,z]:=by rw[ho];rfl
 obtain⟨f0,f1,f2,f3,f4,K⟩:=key5E;exact λc fr2 hp2 hc _ hg hh _=>y5i K ho (hg.ev hx (by rw[hops];simp)) (hg.ev hy (by rw[hops];simp)) (hg.ev hz (by rw[hops];simp)) (hh.at hk (.head _)) (notR hc hR) Tryz.underlying69 hnew
theorem y4b(op:Int):SC Tryz.prog 144 [iInt op] [] (λk=>k∈[]) (iBool (z8t op)) []:=by
 refine SC.vc tb {} [] Tryz.func144 rfl rfl ?_;rcases(show op=1∨op=3∨op=6∨op=7∨op=8∨op=16∨op=17∨(op≠1/\op≠3/\op≠6/\op≠7/\op≠8/\op≠16/\op≠17) by omega)with rfl|rfl|rfl|rfl|rfl|rfl|rfl|⟨k1,k2,k3,k4,k5,k6,k7⟩
 iterate 7 exact⟨sI,Gd⟩
 have no:∀{i:Int},op≠i->(op==i)=true->False:=λh e=>h (eq_of_beq e);exact z00 (λh=>(no k1 h).elim) λ_=>z00 (λh=>(no k2 h).elim) λ_=>z00 (λh=>(no k3 h).elim) λ_=>z00 (λh=>(no k4 h).elim) λ_=>z00 (λh=>(no k5 h).elim) λ_=>z00 (λh=>(no k6 h).elim) λ_=>z00 (λh=>(no k7 h).elim) λ_=>⟨sE (Aa iBool (by simp[z8t,k1,k2,k3,k4,k5,k6,k7])),Gd⟩
theorem y4a(op n:Int):SC Tryz.prog 143 [iInt op,iInt n] [] (λk=>k∈[]) (iBool (z71 op n)) []:=by
 refine SC.vc tb {} [] Tryz.func143 rfl rfl ?_;rcases(show op=1∨op=2∨op=7∨op=8∨op=9∨op=10∨op=11∨op=3∨op=4∨op=6∨(op≠1/\op≠2/\op≠7/\op≠8/\op≠9/\op≠10/\op≠11/\op≠3/\op≠4/\op≠6) by omega)with rfl|rfl|rfl|rfl|rfl|rfl|rfl|rfl|rfl|rfl|⟨k1,k2,k3,k4,k5,k6,k7,k8,k9,k10⟩
 iterate 10 exact⟨sI,Gd⟩
 have no:∀{i:Int},op≠i->(op==i)=true->False:=λh e=>h (eq_of_beq e);exact z00 (λh=>(no k1 h).elim) λ_=>z00 (λh=>(no k2 h).elim) λ_=>z00 (λh=>(no k3 h).elim) λ_=>z00 (λh=>(no k4 h).elim) λ_=>z00 (λh=>(no k5 h).elim) λ_=>z00 (λh=>(no k6 h).elim) λ_=>z00 (λh=>(no k7 h).elim) λ_=>z00 (λh=>(no k8 h).elim) λ_=>z00 (λh=>(no k9 h).elim) λ_=>z00 (λh=>(no k10 h).elim) λ_=>⟨sE (Aa iBool (by simp[z71,k1,k2,k3,k4,k5,k6,k7,k8,k9,k10])),Gd⟩
theorem sc_stKey(x:Nd)(h3:x.kind=3->0<x.args.length)(h4:x.kind=4->1<x.args.length):SC Tryz.prog 93 [.pv (ndv x)] [] (λk=>k∈[]) (.pv (kyP (z3v x))) []:=by
 refine SC.vc tb { pb:=[101] } [] Tryz.func93 rfl rfl ?_;obtain⟨kind,op,n,name,args,outs,params,kids⟩:=x;simp only[Nd.kind,Nd.args]at h3 h4;rcases(show kind=3∨kind=4∨(kind≠3/\kind≠4) by omega)with rfl|rfl|⟨k1,k2⟩
 ·match args,h3 rfl with
  |a::r,_=>exact⟨(show((a::r).map eInt)[0]?=some [vInt a]from rfl),rfl,sI,Gd⟩
 ·match args,h4 rfl with
  |[_],h=>exact absurd h sI0
  |a::b::r,_ =>
   have hT:=y4b op;have hk:z3v (.mk 4 op n name (a::b::r) outs params kids)=if z8t op&&decide (a > b)then⟨4,op,n,b,a⟩else⟨4,op,n,a,b⟩:=rfl
   rw[hk];generalize z8t op=c at hT
   cases c
   ·exact⟨(show((a::b::r).map eInt)[0]?=some [vInt a]from rfl),rfl,(show((a::b::r).map eInt)[1]?=some [vInt b]from rfl),rfl,[],hT,sR,Gd,rfl,sI,Gd⟩
   ·exact⟨(show((a::b::r).map eInt)[0]?=some [vInt a]from rfl),rfl,(show((a::b::r).map eInt)[1]?=some [vInt b]from rfl),rfl,[],hT,sR,Gd,rfl,z00 (λh=>⟨sE (by rw[show decide (a > b)=true from h];rfl),Gd⟩) λh=>⟨sE (by rw[show decide (a > b)=false from h];rfl),Gd⟩⟩
 ·have no:∀{i:Int},kind≠i->(kind==i)=true->False:=λh e=>h (eq_of_beq e);exact z00 (λh=>(no k1 h).elim) λ_=>z00 (λh=>(no k2 h).elim) λ_=>⟨sE (by simp[z3v,Nd.kind,Nd.op,Nd.n,k1,k2,kyP];rfl),Gd⟩
theorem j3r(l:List Int)(tb0:Tb)(to:TT)(hb:l.length<=34359738368):SC Tryz.prog 49 [tV,.pv (ints l)] (tH tb0 to) (λk=>k∈[3001,3002,3003]) (.pv (ints (l.map (z10 to)))) (tH tb0 to):=by
 refine SC.vc tb { gh:=[(1,[.grow 4 104 3 1]),(9,[.fz 4 104])] } [3001,3002,3003] Tryz.func49 rfl rfl ?_;refine⟨Nat×List Int,λq=>[(11,iInt ((q.1:Nat):Int)),(4,.sl 104 (q.2.map eInt).length)],λq=>[(104,.row ⟨3,1⟩ (q.2.map eInt))],λq=>l.length-q.1,λq=>q.1<=l.length/\q.2.length<=q.1/\q.2++(l.drop q.1).map (z10 to)=l.map (z10 to),[],(0,[]),⟨Ab _,Ae _,rfl⟩,Gf,Ge,?_⟩;rintro⟨k,acc⟩ ⟨k1,k2,k3⟩;dsimp only at k1 k2 k3;refine z00 (λhc=>?_) λhc=>?_
 ·have hlt:k<l.length:=z12 (f:=eInt) rfl hc;obtain⟨x,x1,x2,x3,x4⟩:=z0s hlt;rw[x3,B3]at k3;have hg:=y0i x to
  cases hs:(aGet x to).isSome
  ·rw[hs]at hg;rw[yy0 hs]at k3;exact⟨z02 (f:=eInt) x1,rfl,VAsk.mk (p:=vInt ((aGet x to).getD 0)) (b:=false) rfl (z3s _) hg ⟨rfl,z3y rfl,by simp;omega,z01 rfl oM0,(k+1,acc++[x]),z04 hlt,⟨hlt,by rw[B5];exact Nat.succ_le_succ k2,by rw[Ce];exact k3⟩,⟨rfl,slq sI0,Gd⟩,⟨rwq (by simp[eInt]),Gd⟩,rfl,rfl,rfl,rfl⟩⟩
  ·rw[hs,yy1 hs]at hg;exact⟨z02 (f:=eInt) x1,rfl,VAsk.mk (p:=vInt (z10 to x)) (b:=true) rfl (z3s _) hg ⟨rfl,z3y rfl,by simp;omega,z01 rfl oM0,(k+1,acc++[z10 to x]),z04 hlt,⟨hlt,by rw[B5];exact Nat.succ_le_succ k2,by rw[Ce];exact k3⟩,⟨rfl,slq sI0,Gd⟩,⟨rwq (by simp[eInt]),Gd⟩,rfl,rfl,rfl,rfl⟩⟩
 ·have hge:l.length<=k:=z13 (f:=eInt) rfl hc;rw[A8 hge,Cs,Cu]at k3;exact⟨rfl,sE (by rw[<- k3];rfl),rfl,rfl,rfl,Gd⟩
theorem yw6(x:Nd)(tb0:Tb)(to:TT)(h4:x.kind=4->1<x.args.length):SC Tryz.prog 92 [tV,.pv (ndv x)] (tH tb0 to) (λk=>k∈[3001,3002,3003]) (.tup [iInt ((z4y tb0.nums x).getD 0),iBool (z4y tb0.nums x).isSome]) (tH tb0 to):=by
 refine SC.vc tb { pb:=[103],jn:=[6] } [3001,3002,3003] Tryz.func92 rfl rfl ?_;obtain⟨kind,op,n,name,args,outs,params,kids⟩:=x;simp only[Nd.kind,Nd.args]at h4;refine z00 (λh=>?_) λh=>?_
 ·have h:(kind != 4)=true:=h;have e:z4y tb0.nums (.mk kind op n name args outs params kids)=none:=by unfold z4y;rw[if_pos (show((Nd.mk kind op n name args outs params kids).kind != 4)=true from h)]
  rw[e];exact⟨sI,rfl,rfl,rfl,Gd⟩
 ·have h:(kind != 4)=false:=h;obtain rfl:kind=4:=by simpa using h
  match args,h4 rfl with
  |[_],h=>exact absurd h sI0
  |a::b::r,_ =>
   have e:z4y tb0.nums (.mk 4 op n name (a::b::r) outs params kids)=if y2n tb0.nums b (z71 op)then some a else if y2n tb0.nums a (λm=>z8t op&&z71 op m)then some b else none:=rfl
   rw[e,yp5,yp5];have ga:=y0i a tb0.nums;have gb:=y0i b tb0.nums;have i0:((a::b::r).map eInt)[0]?=some [vInt a]:=rfl;have i1:((a::b::r).map eInt)[1]?=some [vInt b]:=rfl;generalize(aGet a tb0.nums).getD 0=va at ga;generalize(aGet b tb0.nums).getD 0=vb at gb;generalize(aGet a tb0.nums).isSome=sa at ga;generalize(aGet b tb0.nums).isSome=sb at gb;have hRb:=y4a op vb;have hRa:=y4a op va;have hT:=y4b op;generalize z71 op vb=rb at hRb;generalize z71 op va=ra at hRa;generalize z8t op=ta at hT;refine⟨Unit,λ_=>[],λ_=>[],λ_=>(sb&&rb)=false,[],?_,?_⟩
   ·cases sb
    ·exact⟨i1,rfl,VAsk.mk (p:=vInt vb) (b:=false) rfl (z3s _) gb ⟨(),rfl,Gd,Gd,rfl,rfl,rfl,rfl⟩⟩
    ·cases rb
     ·exact⟨i1,rfl,VAsk.mk (p:=vInt vb) (b:=true) rfl (z3s _) gb ⟨[],hRb,sR,Gd,rfl,(),rfl,Gd,Gd,rfl,rfl,rfl,rfl⟩⟩
     ·exact⟨i1,rfl,VAsk.mk (p:=vInt vb) (b:=true) rfl (z3s _) gb ⟨[],hRb,sR,Gd,rfl,i0,rfl,sI,rfl,rfl,rfl,Gd⟩⟩
   ·intro _ hI;rw[hI]
    cases sa
    ·exact⟨i0,rfl,VAsk.mk (p:=vInt va) (b:=false) rfl (z3s _) ga ⟨sI,rfl,rfl,rfl,Gd⟩⟩
    ·cases ta
     ·exact⟨i0,rfl,VAsk.mk (p:=vInt va) (b:=true) rfl (z3s _) ga ⟨[],hT,sR,Gd,rfl,sI,rfl,rfl,rfl,Gd⟩⟩
     ·cases ra
      ·exact⟨i0,rfl,VAsk.mk (p:=vInt va) (b:=true) rfl (z3s _) ga ⟨[],hT,sR,Gd,rfl,[],hRa,sR,Gd,rfl,sI,rfl,rfl,rfl,Gd⟩⟩
      ·exact⟨i0,rfl,VAsk.mk (p:=vInt va) (b:=true) rfl (z3s _) ga ⟨[],hT,sR,Gd,rfl,[],hRa,sR,Gd,rfl,i1,rfl,sI,rfl,rfl,rfl,Gd⟩⟩
theorem j3q(x:Nd)(tb0:Tb)(to:TT)(ho:x.outs≠[])(h3:x.kind=3->0<x.args.length)(h4:x.kind=4->1<x.args.length):SC Tryz.prog 51 [tV,.pv (ndv x)] (tH tb0 to) (λk=>k∈[]) (iBool (z76 tb0 to x).1) (tH (z76 tb0 to x).2.1 (z76 tb0 to x).2.2):=by
 refine SC.vc tb { pb:=[103],an:=[7003,11004] } [] Tryz.func51 rfl rfl ?_;have hP:=yw6 x tb0 to h4;have hK:=sc_stKey x h3 h4
 have e:z76 tb0 to x=(match z4y tb0.nums x with
  |some y=>(false,tb0,aPut (x.outs.headD 0) y to)
  |none=>match aGet (z3v x) tb0.seen with
   |some y=>(false,tb0,aPut (x.outs.headD 0) y to)
   |none=>(true,⟨aPut (z3v x) (x.outs.headD 0) tb0.seen,if x.kind==1 then aPut (x.outs.headD 0) x.n tb0.nums else tb0.nums⟩,to)):=rfl
 rw[e];clear e;generalize z4y tb0.nums x=pl at hP;generalize z3v x=ky at hK;obtain⟨kind,op,n,name,args,outs,params,kids⟩:=x;obtain⟨o0,ors,rfl⟩:=Ca (show outs≠[]from ho);have i0:((o0::ors).map eInt)[0]?=some [vInt o0]:=rfl
 cases pl with
 |some y =>
  exact⟨i0,rfl,[3001,3002,3003],hP,sR,Gk,rfl,rfl,z3s _,sI,rfl,rfl,mpq (zy1 _ _ _),Gd⟩
 |none =>
  cases hq:aGet ky tb0.seen with
  |some y =>
   exact⟨i0,rfl,[3001,3002,3003],hP,sR,Gk,rfl,[],hK,sR,Gd,rfl,ym2 (n:=y) (b:=true) (by rw[hq];rfl) rfl rfl rfl rfl,rfl,z3s _,sI,rfl,rfl,mpq (zy1 _ _ _),Gd⟩
  |none =>
   refine⟨i0,rfl,[3001,3002,3003],hP,sR,Gk,rfl,[],hK,sR,Gd,rfl,ym2 (n:=0) (b:=false) (by rw[hq];rfl) rfl rfl rfl rfl,okf_setK hq rfl rfl rfl rfl rfl rfl,z00 (λh=>?_) λh=>?_⟩
   ·have h:(kind==1)=true:=h;refine⟨rfl,z3s _,sI,rfl,mpq ?_,rfl,Gd⟩;show mput _ _ _=inEs (if (kind==1)=true then _ else _);rw[if_pos h];exact zy1 _ _ _
   ·have h:(kind==1)=false:=h;refine⟨sI,rfl,mpq ?_,rfl,Gd⟩;show inEs tb0.nums=inEs (if (kind==1)=true then _ else _);rw[if_neg (by rw[h];decide)]
theorem sc_stKid(tb0:Tb)(to:TT):SC Tryz.prog 50 [tV] (tH tb0 to) (λk=>k∈[3001,3002,3003]) (.agg [.mp 3101,.mp 3102,.mp 3003]) ([(3101,.map (kyEs tb0.seen)),(3102,.map (inEs tb0.nums))]++tH tb0 to):=by
 refine SC.vc tb {} [3001,3002,3003] Tryz.func50 rfl rfl ?_;have hC1:SC Tryz.prog 90 [.mp 3001] [(3001,.map (kyEs tb0.seen))] (λk=>k∈[3001]) (.mp 3101) [(3101,.map (kyEs tb0.seen)),(3001,.map (kyEs tb0.seen))]:=SC.sameR (((SC.clone (es:=kyEs tb0.seen) y6w).sw 1 3001).sw 8 3101) λk _ hk=>by rw[Ag.1 hk];exact D1
 have hC2:SC Tryz.prog 91 [.mp 3002] [(3002,.map (inEs tb0.nums))] (λk=>k∈[3002]) (.mp 3102) [(3102,.map (inEs tb0.nums)),(3002,.map (inEs tb0.nums))]:=SC.sameR (((SC.clone (es:=inEs tb0.nums) y6v).sw 1 3002).sw 8 3102) λk _ hk=>by rw[Ag.1 hk];exact D1
 exact⟨[3001],hC1,sR,⟨rfl,rfl,by simp,Gd⟩,rfl,[3002],hC2,sR,⟨rfl,rfl,by simp,Gd⟩,rfl,sI,rfl,rfl,rfl,rfl,rfl,Gd⟩
theorem zn5:∀(N:Nat)(l:List Nd)(tb0:Tb)(to:TT),zt2 l=true->lsW l<=34359738368->SizeOf.sizeOf l<N->SC Tryz.prog 26 [tV,.pv (z2e l)] (tH tb0 to) (λk=>k∈[]) (.pv (z2e (z0e tb0 to l).1)) (tH (z0e tb0 to l).2.1 (z0e tb0 to l).2.2)
 |0,_,_,_,_,_,h=>absurd h (Ai _)
 |N+1,l,tb0,to,hok,hb,hN=>by
  refine SC.vc tb { gh:=[(1,[.grow 4 104 47 8]),(6,[.grow 7 107 48 1]),(11,[.fz 7 107]),(20,[.fz 4 104])] } [] Tryz.func26 rfl rfl ?_;have hle:=j19 l;have hlen:=zf4 l tb0 to;generalize hR:z0e tb0 to l=R at hlen;refine⟨Nat×List Nd×Tb×TT,λq=>[(12,iInt ((q.1:Nat):Int)),(4,.sl 104 q.2.1.length)],λq=>[(104,.row ⟨47,8⟩ (q.2.1.map Nd.enc)),(3001,.map (kyEs q.2.2.1.seen)),(3002,.map (inEs q.2.2.1.nums)),(3003,.map (inEs q.2.2.2))],λq=>l.length-q.1,λq=>q.1<=l.length/\(q.2.1++(z0e q.2.2.1 q.2.2.2 (l.drop q.1)).1,(z0e q.2.2.1 q.2.2.2 (l.drop q.1)).2)=R,[],(0,[],tb0,to),⟨Ab _,hR⟩,Gf,Gi,?_⟩;clear hR;rintro⟨k,out,t,o⟩ ⟨k1,k2⟩;dsimp only at k1 k2;refine z00 (λhc=>?_) λhc=>?_
  ·have hlt:k<l.length:=z12 (f:=Nd.enc) rfl hc;obtain⟨x,x1,x2,x3,x4⟩:=z0s hlt;have hWx:=z87 x;have hWl:=y0q x4;have hkl:=yk1 x.kids;have hxok:=y9a hok x4;rw[zf5]at hxok;simp only[A0,B7,Bf,bne_iff_ne,ne_eq,B6]at hxok;rw[x3,z0e]at k2;have hO:(out.map Nd.enc).length=out.length:=A6 _;refine⟨z07 x1,rfl,[3001,3002,3003],j3r x.args t o oM0,sR,Gk,rfl,Nat×List (List Nd)×TT,λq=>[(24,iInt ((q.1:Nat):Int)),(7,.sl 107 q.2.1.length)],λq=>[(107,.row ⟨48,1⟩ (q.2.1.map eKid)),(3003,.map (inEs q.2.2))],λq=>x.kids.length-q.1,λq=>q.1<=x.kids.length/\q.2.1.length=q.1/\(q.2.1++(z0l t q.2.2 (x.kids.drop q.1)).1,(z0l t q.2.2 (x.kids.drop q.1)).2)=z0l t o x.kids,[],(0,[],o),⟨Ab _,rfl,rfl⟩,Gf,Gf,?_⟩;rintro⟨j,acc,o2⟩ ⟨j1,j2,j3⟩;dsimp only at j1 j2 j3;refine z00 (λhc2=>?_) λhc2=>?_
   ·have hlt2:j<x.kids.length:=z12 (f:=eKid) rfl hc2;obtain⟨q,q1,q2,q3,q4⟩:=z0s hlt2;have hqW:=z7n q4;have hQ:=((zn5 N q t o2 (y99 hxok.2 q4) oM0 (Bb (zc4 x4 rfl q4) (C3 hN))).sw 3001 3101).sw 3002 3102;have hQ:SC Tryz.prog 26 [.agg [.mp 3101,.mp 3102,.mp 3003],.pv (z2e q)] [(3101,.map (kyEs t.seen)),(3102,.map (inEs t.nums)),(3003,.map (inEs o2))] (λk=>k∈[]) (.pv (z2e (z0e t o2 q).1)) [(3101,.map (kyEs (z0e t o2 q).2.1.seen)),(3102,.map (inEs (z0e t o2 q).2.1.nums)),(3003,.map (inEs (z0e t o2 q).2.2))]:=SC.sameR hQ λk _ h=>by cases h
    rw[q3,z0l]at j3;have hA:(acc.map eKid).length=acc.length:=A6 _;exact⟨z02 (f:=eKid) q1,rfl,[3001,3002,3003],sc_stKid t o2,sR,Gk,rfl,[],hQ,sR,Gg,rfl,hA,z3y rfl,by simp;omega,z01 rfl oM0,(j+1,acc++[(z0e t o2 q).1],(z0e t o2 q).2.2),z04 hlt2,⟨hlt2,by simp[j2],by rw[Ce];exact j3⟩,⟨rfl,slq sI0,Gd⟩,⟨rwq (by simp[eKid]),rfl,Gd⟩,rfl,rfl,rfl,rfl⟩
   have hge2:x.kids.length<=j:=z13 (f:=eKid) rfl hc2;rw[A8 hge2,z0l,Cu]at j3;have hA:(acc.map eKid).length=acc.length:=A6 _;have hkl2:acc.length<=x.kids.length:=by omega
   refine⟨hA,?_⟩;rw[z9c,<- j3]at k2;have hnew:z17 t o x=.mk x.kind x.op x.n x.name (x.args.map (z10 o)) x.outs x.params acc:=by unfold z17;rw[<- j3]
   rw[hnew]at k2;have ha3:x.kind=3->0<(x.args.map (z10 o)).length:=λe=>by rw[A6];rcases hxok.1.1.2 with h|h<;>omega
   have ha4:x.kind=4->1<(x.args.map (z10 o)).length:=λe=>by rw[A6];rcases hxok.1.2 with h|h<;>omega
   have hlen2:=Aa (λr:List Nd×Tb×TT=>r.1.length) k2;dsimp only at hlen2;simp only[B5]at hlen2;obtain⟨kind,op,n,name,args,outs,params,ks⟩:=x;simp only[Nd.kind,Nd.op,Nd.n,Nd.name,Nd.args,Nd.outs,Nd.params,Nd.kids]at k2 ha3 ha4 hlen2 hxok hWx
   by_cases hk:stK kind=true
   ·have ho:outs≠[]:=by
     rcases hxok.1.1.1 with h|h
     ·rw[hk]at h;cases h
     ·intro e;rw[e]at h;cases h
    have hP:=j3q (.mk kind op n name (args.map (z10 o)) outs params acc) t o2 ho ha3 ha4;simp only[hk,C2]at k2 hlen2;rcases hE:z76 t o2 (.mk kind op n name (args.map (z10 o)) outs params acc)with⟨b,t2,o3⟩;rw[hE]at hP;simp only[hE]at k2 hlen2;have hkk:kind=1∨kind=2∨kind=3∨kind=4:=by simpa[stK,or_assoc]using hk
    cases b
    ·simp only[Aj,Br,Dp]at k2;rcases hkk with rfl|rfl|rfl|rfl <;>
     exact⟨[],hP,sR,Gg,rfl,z01 rfl oM0,(k+1,out,t2,o3),z04 hlt,⟨hlt,k2⟩,Gf,Gi,rfl,rfl,rfl,rfl⟩
    ·simp only[C2]at k2 hlen2;simp only[Al,Az]at hlen2;rw[<- Ce]at k2;rcases hkk with rfl|rfl|rfl|rfl <;>
     exact⟨[],hP,sR,Gg,rfl,hO,z3y rfl,by simp;omega,z01 rfl oM0,(k+1,out++[_],t2,o3),z04 hlt,⟨hlt,k2⟩,⟨rfl,slq sI0,Gd⟩,⟨rwq (by rw[yj2];rfl),rfl,rfl,rfl,Gd⟩,rfl,rfl,rfl,rfl⟩
   ·simp only[show stK kind=false by simpa using hk,Aj,Br]at k2 hlen2;simp only[Al,Az]at hlen2;rw[<- Ce]at k2;have hkk:kind≠1/\kind≠2/\kind≠3/\kind≠4:=by simpa[stK,and_assoc]using hk
    obtain⟨n1,n2,n3,n4⟩:=hkk;have no:∀{i:Int},kind≠i->(kind==i)=true->False:=λh e=>h (eq_of_beq e);exact z00 (λh=>(no n1 h).elim) λ_=>z00 (λh=>(no n2 h).elim) λ_=>z00 (λh=>(no n3 h).elim) λ_=>z00 (λh=>(no n4 h).elim) λ_=>⟨hO,z3y rfl,by simp;omega,z01 rfl oM0,(k+1,out++[_],t,o2),z04 hlt,⟨hlt,k2⟩,⟨rfl,slq sI0,Gd⟩,⟨rwq (by rw[yj2];rfl),rfl,rfl,rfl,Gd⟩,rfl,rfl,rfl,rfl⟩
  ·have hge:l.length<=k:=z13 (f:=Nd.enc) rfl hc;rw[A8 hge,z0e,Cu]at k2;subst k2;exact⟨A6 _,sI,rfl,rfl,rfl,Gd⟩
theorem j3p(l:List Nd)(tb0:Tb)(to:TT)(hok:zt2 l=true)(hb:lsW l<=34359738368):SC Tryz.prog 26 [tV,.pv (z2e l)] (tH tb0 to) (λk=>k∈[]) (.pv (z2e (z0e tb0 to l).1)) (tH (z0e tb0 to l).2.1 (z0e tb0 to l).2.2):=zn5 _ l tb0 to hok hb (A7 _)
theorem yd7(u:Un)(hW:z0h u<=34000000000)(hok:(z4x u).1=0->∀f∈u.flows,zt2 f.body=true):SC Tryz.prog 10 [.pv u.enc] [] (λk=>k∈[]) (.tup [.pv (z93 stB u).1.enc,iInt (z93 stB u).2]) []:=by
 have hK:=y49 u (Bi hW dC0);have hw2:u.flows.length<=z0h u:=by unfold z0h;omega
 have hres:z93 stB u=if (z4x u).1=0 then(z3t stB u,0)else(⟨[],[]⟩,1):=by unfold z93;by_cases h:(z4x u).1=0<;>simp[h]
 rw[hres];clear hres;generalize z4x u=c at hK hok⊢;obtain⟨c1,c2⟩:=c;dsimp only at hK hok⊢
 by_cases h:c1=0
 case neg =>
  rw[if_neg h];refine SC.vc tb { pb:=[101] } [] Tryz.func10 rfl rfl ?_;exact⟨[],hK,sR,Gd,rfl,z00 (λ_=>⟨sT2 (sP (z0g _)),Gd⟩) λh2=>absurd h2 (by simp[h])⟩
 rw[if_pos h];subst h;refine SC.vc tb { pb:=[101],ids:=[(27,3001),(28,3002),(29,3003)],gh:=[(5,[.growC 106 1 9 59 5]),(11,[.fzC 106 1 9])] } [] Tryz.func10 rfl rfl ?_;refine⟨[],hK,sR,Gd,rfl,?_⟩;refine⟨Nat,λi=>[(23,iInt ((i:Nat):Int))],λi=>[(106,.box [.pv (arrs u.arrays),.sl 9 i]),(9,.row ⟨59,5⟩ ((u.flows.take i).map λf=>(z5l stB f).enc))],λi=>u.flows.length-i,λi=>i<=u.flows.length,[],0,Ab _,Ge,Gf,?_⟩;intro i hi;have hl:((u.flows.take i).map λf=>(z5l stB f).enc).length=i:=by rw[A6,D6];omega
 refine z00 (λhc=>?_) λhc=>?_
 ·have hlt:i<u.flows.length:=z12 (f:=Fl.enc) rfl hc;obtain⟨x,x1,x2,x3,x4⟩:=z0s hlt;have hx:=z9h x4;have hL:=j3p x.body ⟨[],[]⟩ [] (hok rfl x x4) oM0;exact⟨z02 (f:=Fl.enc) x1,rfl,[],hL,sR,Gg,rfl,hl,z3y rfl,by simp;omega,by simp;omega,z01 rfl oM0,i+1,z04 hlt,hlt,Ge,⟨boq rfl,rwq (by rw[x2];simp[z5l,stB,Fl.enc]),Gd⟩,rfl,rfl,rfl,rfl⟩
 ·have hge:u.flows.length<=i:=z13 (f:=Fl.enc) rfl hc;rw[As hge];have he:(z3t stB u).enc=.agg [arrs u.arrays,.seq (u.flows.map λf=>(z5l stB f).enc)]:=by simp[z3t,Un.enc,flws]
  rw[he];rw[As hge]at hl;exact⟨hl,sI,Gd⟩
def run0(ins:List Int)(fuel:Int):Rs:={ ins:=ins,ar:=[],st:=0,code:=0,out:=[],cost:=0,fuel:=if fuel<0 then 0 else fuel,spent:=false }
def mEnd(r:Int×Rs):Rs:=if z0z r.2 then r.2 else { r.2 with st:=1,code:=r.1 }
def runv(s:Rs):PV:=.agg [vInt s.st,vInt s.code,ints s.out,vInt s.cost,vInt s.fuel]
theorem j4d(fs:List Fl)(hW:z0h ⟨[],fs⟩<=34000000000)(hz:(z18 ⟨[],fs⟩).1=0)(ins:List Int)(fuel:Int)(d:Nat)(r:Int×Rs)(h:z40 ⟨[],fs⟩ d (z06 z0u fs 0) [] { run0 ins fuel with ar:=[] }=some r):SC Tryz.prog 16 [.pv (Un.enc ⟨[],fs⟩),.pv (ints ins),iInt fuel] [] (λ_=>False) (.pv (runv (mEnd r))) []:=by
 refine SC.anyR (SC.vc tb { gh:=[(5,[.growC 1001 6 1002 3 1]),(12,[.fzC 1001 6 1002])],ids:=[(26,1001),(45,1004),(47,1003)] } [] Tryz.func16 rfl rfl ?_);have hub:∀f∈fs,lsW f.body<=34359738368:=λf hf=>Bi (z9h (u:=⟨[],fs⟩) hf) (Bi hW oM0);have hcall:=(zf3 ⟨[],fs⟩ hub (d+1)).1 d (A7 d) _ _ _ _ h sI0;have hal:=y9t h;have hC:=ze9 ⟨[],fs⟩ hW;rw[hz]at hC;have hP:=z3w ⟨[],fs⟩ z0u;obtain⟨n,ins',ar',st',code',out',cost',fuel',spent'⟩:=r;obtain rfl:ar'=[]:=Au hal;have hO:=z2z ⟨[],fs⟩ ⟨ins',[],st',code',out',cost',fuel',spent'⟩;obtain⟨ov,hov⟩:∃b,z0z ⟨ins',[],st',code',out',cost',fuel',spent'⟩=b:=⟨_,rfl⟩;rw[hov]at hO;have hend:mEnd (n,⟨ins',[],st',code',out',cost',fuel',spent'⟩)=if ov then(⟨ins',[],st',code',out',cost',fuel',spent'⟩:Rs)else⟨ins',[],1,n,out',cost',fuel',spent'⟩:=by unfold mEnd;rw[hov]
 rw[hend];clear hend;refine⟨[],hC,sR,Gd,rfl,Unit,λ_=>[(10,iInt 0)],λ_=>[],λ_=>0,λ_=>True,[],(),Gd,Ge,Gd,λ_ _=>⟨[],hP,sR,Gd,rfl,[],hcall,SubA.same (SubA.same (SubA.cons sN sR)),Gf,rfl,[],hO,sR,Gf,rfl,?_⟩⟩
 cases ov with
 |true=>exact⟨rfl,sI,Gd⟩
 |false=>exact⟨rfl,sI,Gd⟩
theorem sr_run1(fs:List Fl)(A:Ar)(hW:z0h ⟨[A],fs⟩<=34000000000)(hz:(z18 ⟨[A],fs⟩).1=0)(ins:List Int)(fuel:Int)(d:Nat)(r:Int×Rs)(h:z40 ⟨[A],fs⟩ d (z06 z0u fs 0) [] { run0 ins fuel with ar:=[List.replicate A.size.toNat 0] }=some r)(hsz:0<=A.size/\A.size<=1000):SC Tryz.prog 16 [.pv (Un.enc ⟨[A],fs⟩),.pv (ints ins),iInt fuel] [] (λ_=>False) (.pv (runv (mEnd r))) []:=by
 refine SC.anyR (SC.vc tb { gh:=[(5,[.growC 1001 6 1002 3 1]),(12,[.fzC 1001 6 1002])],ids:=[(26,1001),(45,1004),(47,1003)] } [] Tryz.func16 rfl rfl ?_);have hub:∀f∈fs,lsW f.body<=34359738368:=λf hf=>Bi (z9h (u:=⟨[A],fs⟩) hf) (Bi hW oM0);have hcall:=(zf3 ⟨[A],fs⟩ hub (d+1)).1 d (A7 d) _ _ _ _ h sI0;have hal:=y9t h;have hC:=ze9 ⟨[A],fs⟩ hW;rw[hz]at hC;have hP:=z3w ⟨[A],fs⟩ z0u;obtain⟨n,ins',ar',st',code',out',cost',fuel',spent'⟩:=r;obtain⟨q2,rfl⟩:∃q2,ar'=[q2]:=Ci.1 hal;have hO:=z2z ⟨[A],fs⟩ ⟨ins',[q2],st',code',out',cost',fuel',spent'⟩;obtain⟨ov,hov⟩:∃b,z0z ⟨ins',[q2],st',code',out',cost',fuel',spent'⟩=b:=⟨_,rfl⟩;rw[hov]at hO;have hend:mEnd (n,⟨ins',[q2],st',code',out',cost',fuel',spent'⟩)=if ov then(⟨ins',[q2],st',code',out',cost',fuel',spent'⟩:Rs)else⟨ins',[q2],1,n,out',cost',fuel',spent'⟩:=by unfold mEnd;rw[hov]
 rw[hend];clear hend;have hTl:((A.size:Int))=(A.size.toNat:Nat):=by omega
 refine⟨[],hC,sR,Gd,rfl,Bool,λb=>[(10,iInt (if b then 1 else 0))],λb=>if b then[(1001,rBox ⟨[A],fs⟩ { run0 ins fuel with ar:=[List.replicate A.size.toNat 0] }),(1003,.box [.sl 1004 ((List.replicate A.size.toNat (0:Int)).map eInt).length]),(1004,rowI (List.replicate A.size.toNat 0))]else[(1001,rBox ⟨[A],fs⟩ { run0 ins fuel with ar:=[] })],λb=>if b then 0 else 1,λ_=>True,[],false,Gd,Ge,Ge,λb _=>?_⟩
 cases b with
 |false =>
  exact⟨at0 (a:=Ar.enc A),rfl,rfl,hTl,by omega,by simp,rfl,Bc,by decide,z01 (m:=0) (n:=1) rfl dC0,true,Bc,Gd,Ge,⟨rfl,boq (show[IV.sl 1004 A.size.toNat]=_ by simp),rwq (by simp[eInt];exact .inr rfl),Gd⟩,rfl,rfl,rfl,rfl⟩
 |true =>
  refine⟨[],hP,sR,Gd,rfl,[],hcall,SubA.same (SubA.same (SubA.cons sN sR)),Gi,rfl,[],hO,sR,Gi,rfl,?_⟩
  cases ov with
  |true=>exact⟨rfl,sI,Gd⟩
  |false=>exact⟨rfl,sI,Gd⟩
theorem sr_run2(fs:List Fl)(A B:Ar)(hW:z0h ⟨[A,B],fs⟩<=34000000000)(hz:(z18 ⟨[A,B],fs⟩).1=0)(ins:List Int)(fuel:Int)(d:Nat)(r:Int×Rs)(h:z40 ⟨[A,B],fs⟩ d (z06 z0u fs 0) [] { run0 ins fuel with ar:=[List.replicate A.size.toNat 0,List.replicate B.size.toNat 0] }=some r)(hsz:0<=A.size/\A.size<=1000)(hszB:0<=B.size/\B.size<=1000):SC Tryz.prog 16 [.pv (Un.enc ⟨[A,B],fs⟩),.pv (ints ins),iInt fuel] [] (λ_=>False) (.pv (runv (mEnd r))) []:=by
 refine SC.anyR (SC.vc tb { gh:=[(5,[.growC 1001 6 1002 3 1]),(12,[.fzC 1001 6 1002])],ids:=[(26,1001),(45,1004),(47,1003)] } [] Tryz.func16 rfl rfl ?_);have hub:∀f∈fs,lsW f.body<=34359738368:=λf hf=>Bi (z9h (u:=⟨[A,B],fs⟩) hf) (Bi hW oM0);have hcall:=(zf3 ⟨[A,B],fs⟩ hub (d+1)).1 d (A7 d) _ _ _ _ h sI0;have hal:=y9t h;have hC:=ze9 ⟨[A,B],fs⟩ hW;rw[hz]at hC;have hP:=z3w ⟨[A,B],fs⟩ z0u;obtain⟨n,ins',ar',st',code',out',cost',fuel',spent'⟩:=r;obtain⟨q2,q3,rfl⟩:=zq5 (l:=ar') hal;have hO:=z2z ⟨[A,B],fs⟩ ⟨ins',[q2,q3],st',code',out',cost',fuel',spent'⟩;obtain⟨ov,hov⟩:∃b,z0z ⟨ins',[q2,q3],st',code',out',cost',fuel',spent'⟩=b:=⟨_,rfl⟩;rw[hov]at hO;have hend:mEnd (n,⟨ins',[q2,q3],st',code',out',cost',fuel',spent'⟩)=if ov then(⟨ins',[q2,q3],st',code',out',cost',fuel',spent'⟩:Rs)else⟨ins',[q2,q3],1,n,out',cost',fuel',spent'⟩:=by unfold mEnd;rw[hov]
 rw[hend];clear hend;have hTl:((A.size:Int))=(A.size.toNat:Nat):=by omega
 have hTB:((B.size:Int))=(B.size.toNat:Nat):=by omega
 refine⟨[],hC,sR,Gd,rfl,Nat,λb=>[(10,iInt (b:Nat))],λb=>match b with|0=>[(1001,rBox ⟨[A,B],fs⟩ { run0 ins fuel with ar:=[] })]|1=>[(1001,rBox ⟨[A,B],fs⟩ { run0 ins fuel with ar:=[List.replicate A.size.toNat 0] }),(1003,.box [.sl 1004 ((List.replicate A.size.toNat (0:Int)).map eInt).length]),(1004,rowI (List.replicate A.size.toNat 0))]|_=>[(1001,rBox ⟨[A,B],fs⟩ { run0 ins fuel with ar:=[List.replicate A.size.toNat 0,List.replicate B.size.toNat 0] }),(1013,.box [.sl 1004 ((List.replicate A.size.toNat (0:Int)).map eInt).length,.sl 1014 ((List.replicate B.size.toNat (0:Int)).map eInt).length]),(1004,rowI (List.replicate A.size.toNat 0)),(1014,rowI (List.replicate B.size.toNat 0))],λb=>2-b,λb=>b<=2,[],0,Ab _,Ge,Ge,λb hb=>?_⟩
 match b,hb with
 |0,_ =>
  exact⟨at0 (a:=Ar.enc A),rfl,rfl,hTl,by omega,by simp,rfl,Bc,by decide,z01 (m:=0) (n:=1) rfl dC0,1,by decide,by decide,Ge,⟨rfl,boq (show[IV.sl 1004 A.size.toNat]=_ by simp),rwq (by simp[eInt];exact .inr rfl),Gd⟩,rfl,rfl,rfl,rfl⟩
 |1,_ =>
  exact⟨(show([A,B].map Ar.enc)[1]?=some (Ar.enc B)from rfl),rfl,rfl,hTB,by omega,by simp,by simp,rfl,rfl,Bc,Bc,by decide,z01 (m:=1) (n:=1) rfl dC0,2,by decide,by decide,Ge,⟨rfl,boq (show[IV.sl 1004 ((List.replicate A.size.toNat (0:Int)).map eInt).length,IV.sl 1014 B.size.toNat]=_ by simp),rfl,rwq (by simp[eInt];exact .inr rfl),Gd⟩,rfl,rfl,rfl,rfl⟩
 |2,_ =>
  refine⟨[],hP,sR,Gd,rfl,[],hcall,SubA.same (SubA.same (SubA.cons sN sR)),Gj,rfl,[],hO,sR,Gj,rfl,?_⟩
  cases ov with
  |true=>exact⟨rfl,sI,Gd⟩
  |false=>exact⟨rfl,sI,Gd⟩
mutual
theorem nsz_W:∀x:Nd,nsz x<=ndW x
 |.mk _ _ _ _ _ _ _ ks=>by have:=kdz_W ks;simp only[nsz,ndW];omega
theorem lsz_W:∀l:List Nd,lsz l<=lsW l
 |[]=>Ae _
 |x::r=>by have:=nsz_W x;have:=lsz_W r;simp only[lsz,lsW];omega
theorem kdz_W:∀ks:List (List Nd),kdz ks<=kdW ks
 |[]=>Ae _
 |l::r=>by have:=lsz_W l;have:=kdz_W r;simp only[kdz,kdW];omega
end
def szK:List Nd->Nat
 |[]=>0
 |x::r=>kdz x.kids+szK r
theorem yg6:∀a b:List Nd,szK (a++b)=szK a+szK b
 |[],b=>by simp[szK]
 |x::r,b=>by simp only[B9,szK,yg6 r b];omega
theorem yb0:∀a b:List (List Nd),kdz (a++b)=kdz a+kdz b
 |[],b=>by simp[kdz]
 |x::r,b=>by simp only[B9,kdz,yb0 r b];omega
theorem j1a:∀l:List Nd,lsz l=l.length+szK l
 |[]=>rfl
 |x::r=>by simp only[lsz,szK,Al,y3i,j1a r];omega
theorem j3n:∀(N:Nat)(l:List Nd),SizeOf.sizeOf l<N->lsW l<=34359738368->SC Tryz.prog 55 [.pv (z2e l)] [] (λk=>k∈[]) (iInt (lsz l)) []
 |0,_,h,_=>absurd h (Ai _)
 |N+1,l,hN,hb=>by
  refine SC.vc tb {} [] Tryz.func55 rfl rfl ?_;have hl:=j1a l;have hw:=lsz_W l;refine⟨Nat,λi=>[(4,iInt i),(3,iInt ((l.length+szK (l.take i):Nat)))],λ_=>[],λi=>l.length-i,λi=>i<=l.length,[],0,Ab _,⟨rfl,ivq (by simp[szK]),Gd⟩,Gd,?_⟩;intro i hi;refine z00 (λhc=>?_) λhc=>?_
  ·have hlt:=z12 (f:=Nd.enc) rfl hc;obtain⟨x,hx,ht,hd,hm⟩:=z0s hlt;have happ:szK l=szK (l.take i)+(kdz x.kids+szK (l.drop (i+1))):=by
    conv=>lhs;rw[<- D7 i l,hd]
    rw[yg6];rfl
   have hone:szK (l.take (i+1))=szK (l.take i)+kdz x.kids:=by rw[ht,yg6];simp[szK]
   have hxw:=(@zu8 l).2 x hm;have hxe:=z87 x;refine⟨Nat,λj=>[(5,iInt j),(3,iInt ((l.length+szK (l.take i)+kdz (x.kids.take j):Nat)))],λ_=>[],λj=>x.kids.length-j,λj=>j<=x.kids.length,[],0,Ab _,⟨rfl,ivq (by simp[kdz]),Gd⟩,Gd,?_⟩;intro j hj;refine⟨z07 hx,rfl,z00 (λhc2=>?_) λhc2=>?_⟩
   ·have hlt2:=z12 (f:=eKid) rfl hc2;obtain⟨q,hq,ht2,hd2,hm2⟩:=z0s hlt2;have happ2:kdz x.kids=kdz (x.kids.take j)+(lsz q+kdz (x.kids.drop (j+1))):=by
     conv=>lhs;rw[<- D7 j x.kids,hd2]
     rw[yb0];rfl
    have hone2:kdz (x.kids.take (j+1))=kdz (x.kids.take j)+lsz q:=by rw[ht2,yb0];simp[kdz]
    have hqw:=z7n hm2;have hkl:=yk1 x.kids;exact⟨z07 hx,rfl,z02 (f:=eKid) hq,rfl,[],j3n N q (Bb (zc4 hm rfl hm2) (C3 hN)) oM0,sR,Gd,rfl,z01 rfl oM0,z01 rfl oM0,j+1,z04 hlt2,hlt2,⟨rfl,ivq (by rw[hone2];omega),Gd⟩,Gd,rfl,rfl,rfl,rfl⟩
   ·have hge:=z13 (f:=eKid) rfl hc2;exact⟨z01 rfl oM0,i+1,z04 hlt,hlt,⟨rfl,ivq (by rw[hone,As hge];omega),Gd⟩,Gd,rfl,rfl,rfl,rfl⟩
  ·exact⟨sE (by rw[As (z13 (f:=Nd.enc) rfl hc),hl]),Gd⟩
def uSz:List Fl->Nat
 |[]=>0
 |f::r=>lsz f.body+uSz r
theorem yh2:∀a b:List Fl,uSz (a++b)=uSz a+uSz b
 |[],b=>by simp[uSz]
 |x::r,b=>by simp only[B9,uSz,yh2 r b];omega
theorem uSz_W:∀l:List Fl,uSz l<=wtF l
 |[]=>Ae _
 |f::r=>by have:=uSz_W r;have:=lsz_W f.body;have:=y7n f.body;simp only[uSz,wtF,z0y];omega
theorem sc_nodes(u:Un)(hW:z0h u<=34000000000):SC Tryz.prog 29 [.pv u.enc] [] (λk=>k∈[]) (iInt (uSz u.flows)) []:=by
 refine SC.vc tb {} [] Tryz.func29 rfl rfl ?_;have hw:=uSz_W u.flows;have hw2:wtF u.flows<=z0h u:=by unfold z0h;omega
 have hw3:u.flows.length<=z0h u:=by unfold z0h;omega
 refine⟨Nat,λi=>[(4,iInt i),(3,iInt (uSz (u.flows.take i)))],λ_=>[],λi=>u.flows.length-i,λi=>i<=u.flows.length,[],0,Ab _,Gf,Gd,?_⟩;intro i hi;refine z00 (λhc=>?_) λhc=>?_
 ·have hlt:=z12 (f:=Fl.enc) rfl hc;obtain⟨f,hf,ht,hd,hm⟩:=z0s hlt;have happ:uSz u.flows=uSz (u.flows.take i)+(lsz f.body+uSz (u.flows.drop (i+1))):=by
   conv=>lhs;rw[<- D7 i u.flows,hd]
   rw[yh2];rfl
  have hone:uSz (u.flows.take (i+1))=uSz (u.flows.take i)+lsz f.body:=by rw[ht,yh2];simp[uSz]
  exact⟨z02 (f:=Fl.enc) hf,rfl,[],j3n _ f.body (A7 _) (Bi (z9h hm) (Bi hW oM0)),sR,Gd,rfl,z01 rfl oM0,z01 rfl oM0,i+1,z04 hlt,hlt,⟨rfl,ivq (by rw[hone];omega),Gd⟩,Gd,rfl,rfl,rfl,rfl⟩
 ·exact⟨sE (by rw[As (z13 (f:=Fl.enc) rfl hc)]),Gd⟩
theorem sc_ins(l:List Int):SC Tryz.prog 13 [.pv (ints l)] [] (λk=>k∈[]) (.pv (ints (l.take 10))) []:=by
 refine SC.vc tb {} [] Tryz.func13 rfl rfl ?_;refine z00 (λh=>?_) λh=>?_
 ·have h2:(10:Int)<l.length:=by simpa using h
  exact⟨10,rfl,by omega,by simp;omega,zl2,sE (by simp[ints]),Gd⟩
 ·have h2:(l.length:Int)<=10:=by simpa using h
  have:l.length<=10:=by omega
  exact⟨sE (by rw[As this]),Gd⟩
theorem y48(l:List Int):SC Tryz.prog 53 [.pv (ints l),.pv (ints l)] [] (λk=>k∈[]) (iBool true) []:=by
 refine SC.vc tb { gh:=[(1,[.len 0])] } [] Tryz.func53 rfl rfl ?_;intro hl;simp only[A6]at hl;refine z00 (λh1=>absurd h1 sI0) λ_=>?_;refine⟨Nat,λk=>[(5,iInt k)],λ_=>[],λk=>l.length-k,λk=>k<=l.length,[],0,Ab _,Ge,Gd,?_⟩;intro k hk;refine z00 (λhc=>?_) λhc=>?_
 ·have hlt:=z12 (f:=eInt) rfl hc;obtain⟨x,hx,ht,hd,_⟩:=z0s hlt;exact⟨z02 (f:=eInt) hx,rfl,z02 (f:=eInt) hx,rfl,z00 (λh2=>absurd h2 sI0) λ_=>⟨z01 rfl oM0,k+1,z04 hlt,hlt,Ge,Gd,rfl,rfl,rfl,rfl⟩⟩
 ·exact⟨sI,Gd⟩
theorem sc_alike(a b:Rs)(h1:b.st=a.st)(h2:b.code=a.code)(h3:b.out=a.out):SC Tryz.prog 54 [.pv (runv a),.pv (runv b)] [] (λk=>k∈[]) (iBool true) []:=by
 refine SC.vc tb {} [] Tryz.func54 rfl rfl ?_;have hS:=y48 a.out;obtain⟨ins,ar,st,code,out,cost,fuel,spent⟩:=a;obtain⟨ins',ar',st',code',out',cost',fuel',spent'⟩:=b;obtain rfl:st'=st:=h1;obtain rfl:code'=code:=h2;obtain rfl:out'=out:=h3;refine z00 (λ_=>?_) λh=>absurd h sI0;refine z00 (λ_=>?_) λh=>absurd h sI0;exact⟨[],hS,sR,Gd,rfl,sI,Gd⟩
def Fol(a b:Rs):Prop:=(a.st=0/\a.out <+: b.out)∨(a.st≠0/\b.st=a.st/\b.code=a.code/\b.out=a.out)
theorem y40(a b:Rs)(h:Fol a b)(hb:b.out.length<=1073741824):SC Tryz.prog 28 [.pv (runv a),.pv (runv b)] [] (λk=>k∈[]) (iBool true) []:=by
 refine SC.vc tb {} [] Tryz.func28 rfl rfl ?_;rcases h with⟨h1,h2⟩|⟨h1,h2,h3,h4⟩
 ·have hS:=y48 a.out;obtain⟨ins,ar,st,code,out,cost,fuel,spent⟩:=a;obtain⟨ins',ar',st',code',out',cost',fuel',spent'⟩:=b;obtain rfl:st=0:=h1;obtain⟨t,rfl⟩:∃t,out++t=out':=h2;refine z00 (λ_=>?_) λh=>absurd h (by simp;omega);exact⟨out.length,by simp,by omega,by simp,zl2,[],hS,SubA.same (SubA.cons (sE (by simp[ints])) sR),Gd,rfl,sI,Gd⟩
 ·have hA:=sc_alike a b h2 h3 h4;obtain⟨ins,ar,st,code,out,cost,fuel,spent⟩:=a;refine z00 (λh=>absurd (by simpa using h) h1) λ_=>?_;exact⟨[],hA,sR,Gd,rfl,sI,Gd⟩
def runA(u:Un)(ins:List Int)(fuel:Int):Rs:={ run0 ins fuel with ar:=u.arrays.map λa=>List.replicate a.size.toNat 0 }
theorem y5u(u:Un)(ins:List Int){fuel:Int}(h0:0<=fuel){B M:Int}(hB:fuel<=B)(hM:fuel<=M):Inv u.arrays.length B M (runA u ins fuel):=by
 have e:(runA u ins fuel).fuel=fuel:=by show(if fuel<0 then 0 else fuel)=fuel;rw[if_neg oM0]
 refine⟨⟨by rw[e];exact h0,D8 _,by rw[e];show(0:Int)+fuel<=B;omega⟩,by rw[e];show((0:Nat):Int)+fuel<=M;omega,by simp[runA]⟩
theorem main_ok{u:Un}(h:(z18 u).1=0):0<=z06 z0u u.flows 0/\∃g,u.flows[(z06 z0u u.flows 0).toNat]?=some g/\g.params=0:=by
 obtain⟨h1,_⟩:=(z6l u).1 h;unfold z1g at h1;simp only[A0]at h1;have h2:=h1.2;unfold zb3 at h2;simp only[A0,B6,Ak]at h2;obtain⟨⟨h3,h4⟩,h5⟩:=h2;obtain⟨j,hj,hjl⟩:=zr3 z0u u.flows 0 oM0 h3;refine⟨h3,_,A5 oM0,?_⟩;rw[At,A5 oM0]at h5;exact h5
theorem y5v{u:Un}(hz:(z18 u).1=0)(ins:List Int){fuel:Int}(h0:0<=fuel){B M:Int}(hB:B<=4611686018427387903)(hM:M<=1073741824)(hfB:fuel<=B)(hfM:fuel<=M) :
 ∃d r,z40 u d (z06 z0u u.flows 0) [] (runA u ins fuel)=some r/\Inv u.arrays.length B M r.2:=by
 obtain⟨m1,g,m2,m3⟩:=main_ok hz;have hi:=y5u u ins h0 hfB hfM;have e:(runA u ins fuel).fuel=fuel:=by show(if fuel<0 then 0 else fuel)=fuel;rw[if_neg oM0]
 obtain⟨r,h1,h2⟩:=(j4p hB hM rfl (vf_of hz) (3*fuel.toNat+2)).2.2.1 _ [] _ m1 ⟨g,m2,by rw[m3];rfl⟩ hi (by rw[e];omega);exact⟨_,r,h1,h2⟩
structure URel(u v:Un):Prop where
 ar:v.arrays=u.arrays
 pl:∀name,z06 name v.flows 0=z06 name u.flows 0
 fl:∀(i:Nat) f g,u.flows[i]?=some f->v.flows[i]?=some g->FRel (uSz u.flows) f g
theorem j4u:∀{l:List Fl}{f:Fl},f∈l->lsz f.body<=uSz l
 |g::r,f,h=>by
  rcases Am.1 h with rfl|h
  ·simp only[uSz];omega
  ·have:=j4u h;simp only[uSz];omega
theorem ym6(m:Bool){u v:Un}(R:URel u v)(ins:List Int)(hi:P64 ins){F F':Int}(h0:0<=F)(h0':0<=F'){B M:Int}(hB:B<=4611686018427387903)(hfB:F<=B)(hfB':F'<=B)(hfM:F<=M)(hfM':F'<=M)
 (hG:G m (uSz u.flows) 0 (uSz u.flows+1) F F') {d d':Nat} {q q':Int×Rs} (h:z40 u d (z06 z0u u.flows 0) [] (runA u ins F)=some q) (h':z40 v d' (z06 z0u v.flows 0) [] (runA v ins F')=some q'):RC m (uSz u.flows) q q':=by
 have e:∀(u:Un){fuel:Int},0<=fuel->(runA u ins fuel).fuel=fuel:=λu fuel h0=>by show(if fuel<0 then 0 else fuel)=fuel;rw[if_neg oM0]
 rw[R.pl]at h';refine y6z (B:=B) hB R.ar R.pl R.fl (d+1) d d' _ [] _ _ _ _ (A7 _) (λ_ h=>by simp at h) h h' (y5u u ins h0 hfB hfM).ok (y5u v ins h0' hfB' hfM').ok ⟨⟨⟨rfl,rfl⟩,⟨rfl,rfl⟩,rfl,?_,rfl,rfl,hi,λrow hr y hy=>?_⟩,?_,?_⟩
 ·simp only[runA,R.ar]
 ·obtain⟨a,_,rfl⟩:=Bx.1 hr;rw[(List.mem_replicate.1 hy).2];simp[I64]
 ·rw[e u h0,e v h0'];exact hG
 ·exact D8 _
theorem ze1{q:Int×Rs}(h:z0z q.2=true):mEnd q=q.2:=if_pos h
theorem zx7{q:Int×Rs}(h:Live q.2):mEnd q={ q.2 with st:=1,code:=q.1 }:=if_neg (by rw[z0r h];decide)
theorem zp9(q:Int×Rs):(mEnd q).out=q.2.out:=by unfold mEnd;split<;>rfl
theorem rc_fol{N:Nat}{q q':Int×Rs}(h:RC true N q q'):Fol (mEnd q) (mEnd q')/\((mEnd q).st≠0->(mEnd q').cost<=(mEnd q).cost/\(mEnd q).fuel<=(mEnd q').fuel):=by
 cases h with
 |ok hv _ hr =>
  rw[zx7 hr.al.l,zx7 hr.al.l'];have hg:=hr.g;unfold G at hg;simp only[C2]at hg;have hc:=hr.co
  exact⟨.inr ⟨show(1:Int)≠0 by decide,rfl,hv,hr.al.out⟩,λ_=>⟨by simpa using hc,by simpa using hg⟩⟩
 |halt hh =>
  obtain⟨o1,o2⟩:=hh.over;rw[ze1 o1,ze1 o2]
  exact⟨.inr ⟨hh.st,hh.st',hh.code,hh.out⟩,λ_=>⟨hh.co,hh.fu rfl⟩⟩
 |cut hc =>
  unfold Cut at hc;simp only[C2]at hc;have e:=ze1 (z7j hc.1);refine⟨.inl ⟨by rw[e];exact hc.2.1,by rw[zp9,zp9];exact hc.2.2⟩,λh=>absurd (by rw[e];exact hc.2.1) h⟩
theorem rc_fol2{N:Nat}{q q':Int×Rs}(h:RC false N q q'):Fol (mEnd q') (mEnd q):=by
 cases h with
 |ok hv _ hr =>
  rw[zx7 hr.al.l,zx7 hr.al.l']
  exact .inr ⟨show(1:Int)≠0 by decide,rfl,hv.symm,hr.al.out.symm⟩
 |halt hh =>
  obtain⟨o1,o2⟩:=hh.over;rw[ze1 o1,ze1 o2]
  exact .inr ⟨by rw[hh.st'];exact hh.st,hh.st'.symm,hh.code.symm,hh.out.symm⟩
 |cut hc =>
  unfold Cut at hc;simp only[Aj,Br]at hc;have e:=ze1 (z7j hc.1);exact .inl ⟨by rw[e];exact hc.2.1,by rw[zp9,zp9];exact hc.2.2⟩
section
structure Bd(a b:Nat)(g g':Gn):Prop where
 lf:g'.left<=g.left
 ps:g'.pos+60*g'.left<=g.pos+60*g.left+a
 t1:g.types.length<=g'.types.length
 t2:g'.types.length+10*g'.left<=g.types.length+10*g.left+b
section
variable (l:List UInt8)
end
section
variable (l:List UInt8)
end
end
theorem iota_mem{n:Nat}{v:Int}(h:v∈iota n):0<=v/\v<n:=by
 simp only[iota,Bx,El]at h;obtain⟨i,hi,rfl⟩:=h;omega
theorem else_s(u:Un)(f:Fl)(x:Nd)(hK:stK x.kind=false)(h10:x.kind≠10)(h11:x.kind≠11):SNd u f x:=by
 intro deep w all all' tb to nw hto hi hv hn r R' t0 S0 S1 tb0 tb1 y lv he hl0 hl1 h12 hlv hL hC;have hb:=z2r u f deep _ all hv;have e10:(x.kind==10)=false:=by simpa using h10
 have e11:(x.kind==11)=false:=by simpa using h11
 have hk0:x.kids=[]:=z61 hb e10 e11;have e2:(z0l tb to x.kids).2=to:=by rw[hk0];simp[z0l]
 rw[z1c u f deep w all hb e10 e11]at hv;obtain⟨a1,ho1,a3,a4,a5⟩:=za5 hv;rw[z7k tb to x hK,e2]at hL⊢;show LRel 0 0 (IS to all tb) (x::r) [] (z17 tb to x::R') _;have mo:∀v∈x.outs,v∈dN x:=λv h=>by rw[y70];simp[h]
 have cl:z05 x=z0x x.kind:=by unfold z05;rw[e10,e11];rfl
 have hXa:(z17 tb to x).args=x.args.map (z10 to):=rfl;have hof:∀{a b q:List Int},IS to all tb a b->mOf a x.args=some q->mOf b (z17 tb to x).args=some q:=λ{a b q} hI g=>by rw[hXa,hI.1.mof a1];exact g
 by_cases hE:12<=x.kind
 ·have hle:=a5 hE;have ce:z05 x=true:=by
   rw[cl];rcases(show x.kind=12∨x.kind=13∨x.kind=14∨x.kind=15 by omega)with e|e|e|e<;>rw[e]<;>rfl
  obtain⟨rfl,rfl⟩:=hC ce;refine .ender hE hle rfl (.inl rfl) λa b q q' hI g g'=>?_;have h64:=hI.2.1.of (hof hI g);rw[hof hI g]at g'
  cases g'
  refine⟨h64,rfl,?_⟩;rcases(show x.kind=12∨x.kind=13∨x.kind=14∨x.kind=15 by omega)with e|e|e|e
  ·exact .inl ⟨e,h12 e,hI.to he.s0 hl0⟩
  ·exact .inr (.inl ⟨e,hI.to he.s1 hl1⟩)
  ·exact .inr (.inr (.inl ⟨e,hlv (by rw[z4d,e];rfl),hI.to he.s1 hl1⟩))
  ·exact .inr (.inr (.inr e))
 ·have ce:z05 x=false:=by
   rw[cl];simp[z0x];omega
  simp only[stK,Bm,Ad]at hK;refine .eff (J:=IS to (all++x.outs) tb) oM0 rfl rfl rfl rfl (λa b p hI g=>hI.2.1.of (hof hI g)) (λa b p p' hI g g'=>?_) (λa b p a2 b2 z hI g hz htw s1 s2=>?_) (hL ce)
  ·rw[hof hI g]at g';exact(Bv g').symm
  ·exact hI.seto hz ho1 s1 s2 (λv hv hm=>nw.stv v hv _ (mo _ hm) rfl) (λv hv=>nw.ft v (mo v hv)) hi λv hv hm=>nw.fb v (mo v hm) hv
theorem restS{J:VR}{r:List Nd}{R':List Nd}{E:ER}{x:Nd}(hL:z05 x=false->LRel 0 0 J r [] R' E):LRel 0 0 (λa b=>z05 x=false/\J a b) r [] R' E:=by
 cases hc:z05 x with
 |true=>exact .dead λ_ _ h=>by cases h.1
 |false=>exact .weak (λ_ _ h=>h.2) (hL hc)
theorem if_s(u:Un)(f:Fl)(x:Nd)(ih:∀q∈x.kids,SA u f q)(h10:x.kind=10):SNd u f x:=by
 intro deep w all all' tb to nw hto hi hv hn r R' t0 S0 S1 tb0 tb1 y lv he hl0 hl1 h12 hlv hL hC;have hok:=z4h u f x deep w all hv;have hb:=z2r u f deep _ all hv;obtain⟨a,b,hk⟩:=z3f hb h10;rw[z6k u f deep w all hb h10 hk]at hv;simp only[A0]at hv;rw[zf5,hk]at hok;simp only[zt1,C8,A0]at hok;rw[j1d,hk]at hn;simp only[nIK,C8,A0]at hn;have hdn:dN x=dL a++(dL b++x.outs):=dN_if hb h10 hk;have hva:=hv.1.1.1.2;have hvb:=hv.1.1.2;simp only[z4r,A0]at hva hvb;have hna:a≠[]:=by intro e;subst e;simp at hva
 have hnb:b≠[]:=by intro e;subst e;simp at hvb
 obtain⟨n1,n2,n3⟩:=Cn.1 (hdn▸nw.nd);obtain⟨n4,n5,n6⟩:=Cn.1 n2;have ma:∀v∈dL a,v∈dN x:=λv h=>by rw[hdn];simp[h]
 have mb:∀v∈dL b,v∈dN x:=λv h=>by rw[hdn];simp[h]
 have mo:∀v∈x.outs,v∈dN x:=λv h=>by rw[hdn];simp[h]
 have nwa:=nw.sub n1 ma;have pa:=z6e a tb to hok.2.1;have k1:∀v∈all,aGet v (z0e tb to a).2.2=aGet v to:=λv hv'=>pa v λhm=>nw.na (ma v hm) hv';have nwb:New f (dL b) all all' (z0e tb to a).2.2:=(nw.sub n4 mb).to k1 λv hm=>pa v λh=>n3 v h v (by simp[hm]) rfl;have pb:=z6e b tb (z0e tb to a).2.2 hok.2.2;have k3:∀v∈all,z10 (z0e tb (z0e tb to a).2.2 b).2.2 v=z10 to v:=λv hv'=>za7 ((pb v λhm=>nw.na (mb v hm) hv').trans (k1 v hv'));have hse:=z2j hv.1.1.1.1;have hK2:stK x.kind=false:=by rw[h10];rfl
 have ekk:z0l tb to x.kids=([(z0e tb to a).1,(z0e tb (z0e tb to a).2.2 b).1],(z0e tb (z0e tb to a).2.2 b).2.2):=by rw[hk];simp[z0l]
 rw[z7k tb to x hK2,ekk]at hL⊢;have hkn:(z17 tb to x).kids=[(z0e tb to a).1,(z0e tb (z0e tb to a).2.2 b).1]:=by show(z0l tb to x.kids).1=_;rw[ekk]
 show LRel 0 0 (IS to all tb) (x::r) [] (z17 tb to x::R') _;have hcx:z05 x=(z2v a != 12&&z2v b != 12):=by unfold z05;rw[h10,hk];rfl
 have hy:∀q,(q=a∨q=b)->z2v q=12->(!z05 x)=true:=λq hq e=>by
  rw[hcx];rcases hq with rfl|rfl<;>rw[e]<;>simp
 have hlq:∀q,(q=a∨q=b)->z0k q=true->z2l x=true:=λq hq e=>by
  rw[z4d,h10,hk];rcases hq with rfl|rfl<;>simp[z38,e]
 refine .ite (J:=λa' b'=>z05 x=false/\IS (z0e tb (z0e tb to a).2.2 b).2.2 (all++x.outs) tb a' b') (E2:=SE to all S1 tb tb1 (!z05 x) (z2l x)) h10 h10 hk hkn (λa b p p' hI g g'=>?_) ?_ ?_ (λn p p' a' b' he2=>?_) (restS hL)
 ·have e:=hI.1.mof hse;rw[g]at e;have e2:mOf b (x.args.map (z10 to))=some p':=g';rw[e]at e2;rw[Bv e2]
 ·exact ih a (by rw[hk];simp) (deep+1) (w1 w f x) all all' tb to hna nwa hto hi hva.2 hn.2.1 to all S1 tb tb1 _ _ ⟨λv hv=>⟨hv,rfl⟩,λv hv=>⟨(he.s1 v hv).1,rfl⟩⟩ (.refl _) hl1 (hy a (.inl rfl)) (hlq a (.inl rfl))
 ·exact .weak (λa' b' hI=>hI.to (λv hv=>⟨hv,(za7 (k1 v hv)).symm⟩) (.refl _)) (ih b (by rw[hk];simp) (deep+1) (w1 w f x) all all' tb _ hnb nwb hto hi hvb.2 hn.2.2 to all S1 tb tb1 _ _ ⟨λv hv=>⟨hv,za7 (k1 v hv)⟩,λv hv=>⟨(he.s1 v hv).1,za7 (k1 v (he.s1 v hv).1)⟩⟩ (.refl _) hl1 (hy b (.inr rfl)) (hlq b (.inr rfl)))
 ·obtain⟨h64,rfl,he2⟩:=he2;rcases he2 with⟨rfl,hy2,hI⟩|⟨rfl,hI⟩|⟨rfl,hy2,hI⟩|rfl
  ·refine .inl ⟨rfl,λa2 b2 g g'=>⟨by simpa using hy2,IS.sets (hI.to (λv hv=>⟨hv,(k3 v hv).symm⟩) (.refl _)) h64 g g' (λv hv hm=>?_) (λv hv=>?_) hi λv hv hm=>nw.fb v (mo v hm) hv⟩⟩
   ·rw[k3 v hv]at hm;exact nw.stv v hv _ (mo _ hm) rfl
   ·rw[pb v λhm=>n6 v hm v hv rfl,pa v λhm=>n3 v hm v (by simp[hv]) rfl];exact nw.ft v (mo v hv)
  ·exact .inr ⟨by decide,by decide,.inl rfl,h64,rfl,.inr (.inl ⟨rfl,hI.to (λv hv=>⟨hv,(he.s1 v hv).2⟩) (.refl _)⟩)⟩
  ·exact .inr ⟨by decide,by decide,.inl rfl,h64,rfl,.inr (.inr (.inl ⟨rfl,hlv hy2,hI.to (λv hv=>⟨hv,(he.s1 v hv).2⟩) (.refl _)⟩))⟩
  ·exact .inr ⟨by decide,by decide,.inr rfl,h64,rfl,.inr (.inr (.inr rfl))⟩
theorem loop_s(u:Un)(f:Fl)(x:Nd)(ih:∀q∈x.kids,SA u f q)(h11:x.kind=11):SNd u f x:=by
 intro deep w all all' tb to nw hto hi hv hn r R' t0 S0 S1 tb0 tb1 y lv he hl0 hl1 h12 hlv hL hC;have hok:=z4h u f x deep w all hv;have hb:=z2r u f deep _ all hv;obtain⟨a,hk⟩:=z25 hb h11;rw[z4s u f deep w all hb h11 hk]at hv;simp only[A0]at hv;rw[zf5,hk]at hok;simp only[zt1,C8,A0]at hok;rw[j1d,hk]at hn;simp only[nIK,C8,A0]at hn;have hdn:dN x=x.params++(dL a++x.outs):=y9z hk;have hva:=hv.1.1.2;simp only[z4r,A0]at hva;have hne:a≠[]:=by intro e;subst e;simp at hva
 obtain⟨n1,n2,n3⟩:=Cn.1 (hdn▸nw.nd);obtain⟨n4,n5,n6⟩:=Cn.1 n2;have mp:∀v∈x.params,v∈dN x:=λv h=>by rw[hdn];simp[h]
 have ma:∀v∈dL a,v∈dN x:=λv h=>by rw[hdn];simp[h]
 have mo:∀v∈x.outs,v∈dN x:=λv h=>by rw[hdn];simp[h]
 have hinp:inR f.types.length x.params:=z2x hv.1.1.1.2;have hse:=z2j hv.1.1.1.1;have hda:∀v∈dL a,(all++x.params).contains v=false:=λv hm=>by
  rw[Cg,nw.fa v (ma v hm),C9,<- Du,List.contains_iff_mem];exact λhp=>n3 v hp v (by simp[hm]) rfl
 have hinr:inR f.types.length (all++x.params):=λv hv=>by
  rcases Aw.1 hv with h|h
  ·exact nw.inr v h
  ·exact hinp v h
 have pa:=z6e a tb to hok.2;have hrp:Rel f.types to (all++x.params) (all'++x.params):=nw.rel.outs λv hv=>nw.ft v (mp v hv);have nwa:New f (dL a) (all++x.params) (all'++x.params) to:=⟨n4,hda,λv hm hh=>by
  rcases Aw.1 hh with h|h
  ·exact nw.fb v (ma v hm) h
  ·exact n3 v h v (by simp[hm]) rfl,λv hm=>nw.ft v (ma v hm),hrp,hinr⟩
 have k2:∀v∈all,z10 (z0e tb to a).2.2 v=z10 to v:=λv hv=>za7 (pa v λhm=>nw.na (ma v hm) hv);have hK2:stK x.kind=false:=by rw[h11];rfl
 have ekk:z0l tb to x.kids=([(z0e tb to a).1],(z0e tb to a).2.2):=by rw[hk];simp[z0l]
 rw[z7k tb to x hK2,ekk]at hL⊢;have hkn:(z17 tb to x).kids=[(z0e tb to a).1]:=by show(z0l tb to x.kids).1=_;rw[ekk]
 show LRel 0 0 (IS to all tb) (x::r) [] (z17 tb to x::R') _;have hcl:z05 x = !z0k a:=by unfold z05;rw[h11,hk];rfl
 have sp:∀a b p a2 b2,IS to all tb a b->P64 p->mSet a x.params p=some a2->mSet b x.params p=some b2->IS to (all++x.params) tb a2 b2:=λa b p a2 b2 hI h64 g g' =>
  hI.sets h64 g g' (λv hv hm=>nw.stv v hv _ (mp _ hm) rfl) (λv hv=>nw.ft v (mp v hv)) hi λv hv hm=>nw.fb v (mp v hm) hv
 refine .loop (I2:=IS to (all++x.params) tb) (J:=λa' b'=>z05 x=false/\IS (z0e tb to a).2.2 (all++x.outs) tb a' b') (E2:=SE to [] all tb tb false (z0k a)) h11 h11 hk hkn (λa b p p' a2 b2 hI g g' t t'=>?_) ?_ (λn p p' a' b' he2=>?_) (restS hL)
 ·have e:=hI.1.mof hse;rw[g]at e;have e2:mOf b (x.args.map (z10 to))=some p':=g';have h64:=hI.2.1.of e2;rw[e]at e2;obtain rfl:=Bv e2;exact sp _ _ _ _ _ hI h64 t t'
 ·exact ih a (by rw[hk];simp) (deep+1) (w2 f x) (all++x.params) (all'++x.params) tb to hne nwa (hto.mono _) (hi.mono λv hv=>Bn _ hv) hva.2 hn.2 to [] all tb tb false _ ⟨λv hv=>by simp at hv,λv hv=>⟨Bn _ hv,rfl⟩⟩ (.refl _) (.refl _) (λh=>by
   have:=j16 hva.2 h
   cases this) λh=>h
 ·obtain⟨h64,rfl,he2⟩:=he2;rcases he2 with⟨_,hy2,_⟩|⟨rfl,hI⟩|⟨rfl,hy2,hI⟩|rfl
  ·cases hy2
  ·exact .inr (.inr ⟨rfl,λa2 b2 g g'=>sp _ _ _ _ _ hI h64 g g'⟩)
  ·refine .inr (.inl ⟨rfl,λa2 b2 g g'=>⟨by rw[hcl,hy2];rfl,IS.sets (hI.to (λv hv=>⟨hv,(k2 v hv).symm⟩) (.refl _)) h64 g g' (λv hv hm=>?_) (λv hv=>?_) hi λv hv hm=>nw.fb v (mo v hm) hv⟩⟩)
   ·rw[k2 v hv]at hm;exact nw.stv v hv _ (mo _ hm) rfl
   ·rw[pa v λhm=>n6 v hm v hv rfl];exact nw.ft v (mo v hv)
  ·exact .inl ⟨rfl,h64,rfl,.inr (.inr (.inr rfl))⟩
theorem node_s(u:Un)(f:Fl)(x:Nd)(ih:∀q∈x.kids,SA u f q):SNd u f x:=by
 by_cases hK:stK x.kind=true
 ·exact pure_s u f x hK
 have hK2:stK x.kind=false:=by simpa using hK
 by_cases h10:x.kind=10
 ·exact if_s u f x ih h10
 by_cases h11:x.kind=11
 ·exact loop_s u f x ih h11
 ·exact else_s u f x hK2 h10 h11
theorem yu8{u:Un}{f:Fl}{deep:Int}{w:Wh}{all:List Int}{x:Nd}(h:z82 u f deep w all x=true):inR f.types.length x.outs:=by
 have hb:=z2r u f deep _ all h
 by_cases h10:x.kind=10
 ·obtain⟨a,b,hk⟩:=z3f hb h10;rw[z6k u f deep w all hb h10 hk]at h;simp only[A0]at h;exact z2x h.2
 by_cases h11:x.kind=11
 ·obtain⟨a,hk⟩:=z25 hb h11;rw[z4s u f deep w all hb h11 hk]at h;simp only[A0]at h;exact z2x h.2
 rw[z1c u f deep w all hb (by simpa using h10) (by simpa using h11)]at h;exact ok_in h
theorem j1i{u:Un}{f:Fl}{x:Nd}{D:List Int}{deep:Int}{w:Wh}{all all':List Int}{tb:Tb}{to:TT}(nw:New f (dN x++D) all all' to)(hto:TabOk f.types tb all')(hi:TabIn tb all')(hv:z82 u f deep w all x=true) :
 ∃all2,New f D (all++x.outs) all2 (z0q tb to x).2.2/\TabOk f.types (z0q tb to x).2.1 all2/\TabIn (z0q tb to x).2.1 all2/\TabLe tb (z0q tb to x).2.1:=by
 obtain⟨n1,n2,n3⟩:=Cn.1 nw.nd;have nwx:=nw.sub n1 λv h=>Bn _ h;have hok:=z4h u f x deep w all hv;have hkx:=za6 x tb to hok;have hE:=node_e u f x (λq _=>j0j u f _ q (A7 _)) deep w all all' tb to n1 nwx.fa nwx.ft nw.rel hto hv;have mo:∀v∈x.outs,v∈dN x:=λv h=>by rw[y70];simp[h]
 have base:∀all2,(∀v∈all2,v∈all'∨v∈x.outs)->Rel f.types (z0q tb to x).2.2 (all++x.outs) all2->New f D (all++x.outs) all2 (z0q tb to x).2.2:=λall2 h2 hr=>by
  refine⟨n2,λv hm=>?_,λv hm hh=>?_,λv hm=>(hkx v λhn=>n3 v hn v hm rfl).trans (nw.ft v (C4 _ hm)),hr,λv hh=>?_⟩
  ·rw[Cg,nw.fa v (C4 _ hm),C9,<- Du,List.contains_iff_mem];exact λho=>n3 v (mo v ho) v hm rfl
  ·rcases h2 v hh with h|h
   ·exact nw.fb v (C4 _ hm) h
   ·exact n3 v (mo v h) v hm rfl
  ·rcases Aw.1 hh with h|h
   ·exact nw.inr v h
   ·exact yu8 hv v h
 have ta:TabIn (z0q tb to x).2.1 (all'++(z0q tb to x).1.flatMap Nd.outs)/\TabLe tb (z0q tb to x).2.1:=by
  by_cases hK:stK x.kind=true
  ·have hb:=z2r u f deep _ all hv;have hkk:x.kind=1∨x.kind=2∨x.kind=3∨x.kind=4:=by simp only[stK,B7,Ak]at hK;omega
   have e10:(x.kind==10)=false:=by simp;omega
   have e11:(x.kind==11)=false:=by simp;omega
   have hk0:x.kids=[]:=z61 hb e10 e11;have e2:(z0l tb to x.kids).2=to:=by rw[hk0];simp[z0l]
   have hv2:=hv;rw[z1c u f deep w all hb e10 e11]at hv2;obtain⟨o,ho,_⟩:=zy9 hK hv2;have a1:=(za5 hv2).1;have hXo:(z17 tb to x).outs=[o]:=ho;have hXa:(z17 tb to x).args=x.args.map (z10 to):=rfl;rw[zf5]at hok;simp only[A0]at hok;rw[z9c,if_pos hK,e2];rcases y3n (tb:=tb) (to:=to) hXo with⟨y1,hp,hd⟩|⟨hp,hs⟩
   ·rw[hp];exact⟨hi.mono λv hv=>Bn _ hv,.refl _⟩
   ·rw[hp];have hod:o∈dN x:=mo o (by rw[ho];simp);refine⟨?_,kept_le hi (nwx.fb o hod) hs⟩;have:([z17 tb to x]:List Nd).flatMap Nd.outs=[o]:=by simp[hXo]
    show TabIn (zl4 tb (z17 tb to x) o) (all'++([z17 tb to x]:List Nd).flatMap Nd.outs);rw[this];refine kept_in hi (yl8 nwx a1) (λh=>?_) λh=>?_
    ·have h:x.kind=3:=h;have:=hok.1.1.2;rw[h]at this;rw[hXa,A6];simpa using this
    ·have h:x.kind=4:=h;have:=hok.1.2;rw[h]at this;rw[hXa,A6];simpa using this
  ·rw[z7k tb to x (by simpa using hK)];exact⟨hi.mono λv hv=>Bn _ hv,.refl _⟩
 rcases hE with⟨h1,h2,h3,h4⟩|⟨z,h1,h2,h3,h4,h5,h6⟩
 ·rw[h1]at ta;have e:all'++([]:List Nd).flatMap Nd.outs=all':=by simp
  rw[e]at ta;exact⟨all',base all' (λv hv=>.inl hv) h3,h4,ta.1,ta.2⟩
 ·rw[h1]at ta;have e:([z]:List Nd).flatMap Nd.outs=x.outs:=by simp[h4]
  rw[e]at ta;exact⟨all'++x.outs,base _ (λv hv=>Aw.1 hv) h5,h6,ta.1,ta.2⟩
theorem go_s(u:Un)(f:Fl):∀(l:List Nd),(∀x∈l,SNd u f x)->SA u f l
 |[],_=>λ_ _ _ _ _ _ h=>absurd rfl h
 |x::r,ih=>λdeep w all all' tb to _ nw hto hi hv hn t0 S0 S1 tb0 tb1 y lv he hl0 hl1 h12 hlv=>by
  unfold vGo at hv;simp only[A0,Ak]at hv;simp only[nIL,A0]at hn;simp only[dL]at nw;obtain⟨n1,n2,n3⟩:=Cn.1 nw.nd;have nwx:=nw.sub n1 λv h=>Bn _ h;rw[show(z0e tb to (x::r)).1=(z0q tb to x).1++(z0e (z0q tb to x).2.1 (z0q tb to x).2.2 r).1 by rw[z0e]];obtain⟨all2,m1,m2,m3,m4⟩:=j1i nw hto hi hv.1.1.2;have hx:=hv.1.1.2;have hcr:=hv.1.2;refine ih x (.head _) deep w all all' tb to nwx hto hi hx hn.1 r _ t0 S0 S1 tb0 tb1 y lv he hl0 hl1 (λe=>?_) (λe=>hlv (by simp[z0k,e])) (λhc=>?_) λhc=>?_
  ·have hc:z05 x=true:=by
    unfold z05;rw[e];rfl
   rw[hc]at hcr;have:r=[]:=by cases r with|nil=>rfl|cons _ _=>cases hcr
   subst this;exact h12 (by rw[yk4,e];rfl)
  ·have hne:r≠[]:=by rw[hc]at hcr;intro e;rw[e]at hcr;cases hcr
   exact go_s u f r (λz hz=>ih z (.tail _ hz)) deep w _ all2 _ _ hne m1 m2 m3 hv.2 hn.2 t0 S0 S1 tb0 tb1 y lv
    (he.step (λv hv=>Bn _ hv) λv hv=>za6 x tb to (z4h u f x deep w all hx) v λhm=>nwx.na hm hv)
    (hl0.trans m4) (hl1.trans m4) (λe=>h12 (by rw[yl2 hne];exact e)) λe=>hlv (by simp[z0k,e])
  ·have:r=[]:=by rw[hc]at hcr;cases r with|nil=>rfl|cons _ _=>cases hcr
   subst this;exact⟨rfl,by simp[z0e]⟩
theorem sa_all(u:Un)(f:Fl):∀(N:Nat)(l:List Nd),SizeOf.sizeOf l<N->SA u f l
 |0,_,h=>absurd h (Ai _)
 |N+1,l,hN=>go_s u f l λx hx=>node_s u f x λq hq=>sa_all u f N q (Bb (zc4 hx rfl hq) (C3 hN))
theorem j2v{u:Un}(hz:(z18 u).1=0){f:Fl}(hf:f∈u.flows)(hn:nIL f.body=true):FRel (uSz u.flows) f (z5l stB f):=by
 refine⟨rfl,j4u hf,?_⟩;have hF:=((z6l u).1 hz).2 f hf;have h:=y0c hF;have hp:=z9i hF;have hv:=h.1;simp only[z4r,A0]at hv;have hne:f.body≠[]:=by intro e;rw[e]at hv;simp at hv
 have fa:∀v∈dL f.body,(iota f.params.toNat).contains v=false:=λv hm=>by
  have:=h.2.2 v hm
  cases hc:(iota f.params.toNat).contains v with
  |false=>rfl
  |true=>rw[y0b hp hc]at this;cases this
 have nw:New f (dL f.body) (iota f.params.toNat) (iota f.params.toNat) []:=⟨h.2.1,fa,λv hm hh=>Bool.noConfusion ((fa v hm).symm.trans (List.contains_iff_mem.2 hh)),λ_ _=>rfl,λv hv v0 v1=>⟨hv,v0,v1,rfl⟩,λv hv=>by
  have:=iota_mem hv;omega⟩
 have hA:=sa_all u f _ f.body (A7 _) 1 z43 _ _ ⟨[],[]⟩ [] hne nw (λe he=>by simp at he) ⟨λ_ _ h=>(by cases h),λ_ _ h=>(by cases h)⟩ hv.2 hn [] [] [] ⟨[],[]⟩ ⟨[],[]⟩ true true ⟨λv hv=>by simp at hv,λv hv=>by simp at hv⟩ (.refl _) (.refl _) (λ_=>rfl) λ_=>rfl;refine .weak (λa b h=>⟨λv hv=>by rw[h.1];rfl,by rw[<- h.1];exact h.2.2,⟨λ_ _ h=>(by cases h),λ_ _ h=>(by cases h)⟩⟩) (hA.monoE λn p p' a b h=>?_);obtain⟨h64,rfl,_⟩:=h;refine⟨rfl,?_⟩
 cases p' with
 |nil=>simp[I64]
 |cons z r=>exact h64 z (.head _)
theorem same_rel{u:Un}(hz:(z18 u).1=0)(hn:∀f∈u.flows,nIL f.body=true):URel u (z3t stB u):=by
 refine⟨rfl,λname=>zr2 stB name u.flows 0,λi f g h h'=>?_⟩;have:(z3t stB u).flows[i]?=(u.flows[i]?).map (z5l stB):=B8 ..;rw[h',h]at this;obtain rfl:g=z5l stB f:=Bv this;exact j2v hz (A9 h) (hn f (A9 h))
theorem y51{m n z:Int}(hn:n≠0)(h:m.tdiv n=z)(h1:-9223372036854775808<=z/\z<=9223372036854775807):z3i .quo .i64 m n=some (.int .i64 z):=by
 subst h;simp only[z3i];rw[if_neg hn,Cz _ h1]
theorem j30(u v:Un)(hW:z0h u<=34000000000)(ins:List Int)(fuel q:Int)(hf:0<=fuel/\fuel<=1000000)(hq:fuel.tdiv 4=q)(a b c d:Rs)
 (hA:SC Tryz.prog 16 [.pv u.enc,.pv (ints ins),iInt fuel] [] (λ_=>False) (.pv (runv a)) [])
 (hB:SC Tryz.prog 16 [.pv v.enc,.pv (ints ins),iInt fuel] [] (λ_=>False) (.pv (runv b)) [])
 (hC:SC Tryz.prog 16 [.pv v.enc,.pv (ints ins),iInt q] [] (λ_=>False) (.pv (runv c)) [])
 (hD:SC Tryz.prog 16 [.pv u.enc,.pv (ints ins),iInt ((q+1)*((uSz u.flows:Int)+1))] [] (λ_=>False) (.pv (runv d)) [])
 (h1:Fol a b) (h2:a.st≠0->b.cost<=a.cost/\a.fuel<=b.fuel) (h3:Fol c d) (hb:b.out.length<=1073741824) (hd:d.out.length<=1073741824) :
 SC Tryz.prog 12 [.pv u.enc,.pv v.enc,.pv (ints ins),iInt fuel] [] (λk=>k∈[]) (iBool true) []:=by
 refine SC.vc tb {} [] Tryz.func12 rfl rfl ?_;have hF1:=y40 a b h1 hb;have hF2:=y40 c d h3 hd;have hN:=sc_nodes u hW;have hw:=uSz_W u.flows;have hw2:wtF u.flows<=z0h u:=by unfold z0h;omega
 have hqb:0<=q/\q<=1000000:=by
  rw[<- hq,Dt hf.1];omega
 have hm:-9223372036854775808<=(q+1)*((uSz u.flows:Int)+1)/\(q+1)*((uSz u.flows:Int)+1)<=9223372036854775807:=by
  have x1:0<=(q+1)*((uSz u.flows:Int)+1):=G3 oM0 oM0;have x2:(q+1)*((uSz u.flows:Int)+1)<=1000001*34000000001:=Int.mul_le_mul oM0 oM0 oM0 oM0;omega
 obtain⟨ains,aar,ast,acode,aout,acost,afuel,asp⟩:=a;obtain⟨bins,bar,bst,bcode,bout,bcost,bfuel,bsp⟩:=b;dsimp only at h2;refine⟨[],hA,sR,Gd,rfl,[],hB,sR,Gd,rfl,[],hF1,sR,Gd,rfl,?_⟩;refine z00 (λh5=>?_) λh5=>?_
 ·have hst:ast≠0:=by simpa using h5
  obtain⟨c1,c2⟩:=h2 hst;refine z00 (λh6=>absurd h6 (by simp;omega)) λ_=>z00 (λh6=>absurd h6 (by simp;omega)) λ_=>?_;exact⟨y51 dC0 hq oM0,[],hC,sR,Gd,rfl,y51 dC0 hq oM0,z01 rfl oM0,[],hN,sR,Gd,rfl,z01 rfl oM0,y50 rfl hm,[],hD,sR,Gd,rfl,[],hF2,sR,Gd,rfl,sI,Gd⟩
 ·exact⟨y51 dC0 hq oM0,[],hC,sR,Gd,rfl,y51 dC0 hq oM0,z01 rfl oM0,[],hN,sR,Gd,rfl,z01 rfl oM0,y50 rfl hm,[],hD,sR,Gd,rfl,[],hF2,sR,Gd,rfl,sI,Gd⟩
theorem gA_mem{A:Ar}(u:Un):∀(l:List Ar)(p:Int),r8gA u l p=true->A∈l->0<=A.size/\A.size<=1000
 |[],_,_,h=>by cases h
 |B::r,p,h1,h=>by
  simp only[r8gA,gArr,A0,Bf,Cc]at h1;rcases Am.1 h with rfl|h
  ·omega
  ·exact gA_mem u r _ h1.2 h
theorem arr_size{u:Un}{A:Ar}(hz:(z18 u).1=0)(h:A∈u.arrays):0<=A.size/\A.size<=1000:=by
 obtain⟨h1,_⟩:=(z6l u).1 hz;unfold z1g at h1;simp only[A0]at h1;exact gA_mem _ _ _ h1.1.1 h
theorem yp4(u:Un)(h1:u.arrays.length<=2)(hW:z0h u<=34000000000)(hz:(z18 u).1=0)(ins:List Int)(fuel:Int)(d:Nat)(r:Int×Rs)(h:z40 u d (z06 z0u u.flows 0) [] (runA u ins fuel)=some r) :
 SC Tryz.prog 16 [.pv u.enc,.pv (ints ins),iInt fuel] [] (λ_=>False) (.pv (runv (mEnd r))) []:=by
 have hs:=@arr_size u;obtain⟨ar,fs⟩:=u;rcases ar with _|⟨A,_|⟨A2,_|⟨A3,t⟩⟩⟩
 ·exact j4d fs hW hz ins fuel d r h
 ·exact sr_run1 fs A hW hz ins fuel d r h (hs hz (.head _))
 ·exact sr_run2 fs A A2 hW hz ins fuel d r h (hs hz (.head _)) (hs hz (.tail _ (.head _)))
 ·simp at h1
theorem yd8{u v:Un}(R:URel u v)(h1:u.arrays.length<=2)(hW:z0h u<=34000000000)(hW':z0h v<=34000000000)(hz:(z18 u).1=0)(hz':(z18 v).1=0)(hN:uSz u.flows<=4000000)(ins:List Int)(hi:P64 ins)(fuel:Int)(hf:0<=fuel/\fuel<=510) :
 SC Tryz.prog 12 [.pv u.enc,.pv v.enc,.pv (ints ins),iInt fuel] [] (λk=>k∈[]) (iBool true) []:=by
 have hq:0<=fuel.tdiv 4/\fuel.tdiv 4<=127:=by rw[Dt hf.1];omega
 have hfD0:0<=(fuel.tdiv 4+1)*((uSz u.flows:Int)+1):=G3 oM0 oM0;have hfD:(fuel.tdiv 4+1)*((uSz u.flows:Int)+1)<=128*4000001:=Int.mul_le_mul oM0 oM0 oM0 oM0;have B:(1073741824:Int)<=4611686018427387903:=by decide
 have M:(1073741824:Int)<=1073741824:=by decide
 have hav:v.arrays.length<=2:=by rw[R.ar];exact h1
 obtain⟨da,qa,ra,ia⟩:=y5v hz ins hf.1 B M oM0 oM0;obtain⟨db,qb,rb,ib⟩:=y5v hz' ins hf.1 B M oM0 oM0;obtain⟨dc,qc,rc,ic⟩:=y5v hz' ins hq.1 B M oM0 oM0;obtain⟨dd,qd,rd,id⟩:=y5v hz ins hfD0 B M oM0 oM0;have k1:=rc_fol (ym6 true R ins hi hf.1 hf.1 B (M:=1073741824) oM0 oM0 oM0 oM0 (by unfold G;simp) ra rb);have k2:=rc_fol2 (ym6 false R ins hi hfD0 hq.1 B (M:=1073741824) oM0 oM0 oM0 oM0 (by
  unfold G;simp only[Aj,Br];rw[Int.add_mul];generalize fuel.tdiv 4*((uSz u.flows:Int)+1)=P;omega) rd rc)
 have ob:qb.2.out.length<=1073741824:=by have:=ib.out;have:=ib.ok.1;omega
 have od:qd.2.out.length<=1073741824:=by have:=id.out;have:=id.ok.1;omega
 exact j30 u v hW ins fuel (fuel.tdiv 4) oM0 rfl _ _ _ _ (yp4 u h1 hW hz ins fuel da qa ra) (yp4 v hav hW' hz' ins fuel db qb rb) (yp4 v hav hW' hz' ins _ dc qc rc) (yp4 u h1 hW hz ins _ dd qd rd) k1.1 k1.2 k2 (by rw[zp9];exact ob) (by rw[zp9];exact od)
theorem sc_run0(u:Un)(hu:u.arrays=[])(hW:z0h u<=34000000000)(hz:(z18 u).1=0)(ins:List Int)(fuel:Int)(d:Nat)(r:Int×Rs)(h:z40 u d (z06 z0u u.flows 0) [] (run0 ins fuel)=some r):SC Tryz.prog 16 [.pv u.enc,.pv (ints ins),iInt fuel] [] (λ_=>False) (.pv (runv (mEnd r))) []:=by
 obtain⟨ar,fs⟩:=u;obtain rfl:ar=[]:=hu;exact j4d fs hW hz ins fuel d r h
theorem eq_drop{l m:List Int}{i:Nat}{x y:Int}(hl:l.drop i=x::l.drop (i+1))(hm:m.drop i=y::m.drop (i+1)):(l.drop i==m.drop i)=(x==y&&(l.drop (i+1)==m.drop (i+1))):=by
 rw[hl,hm];rfl
theorem yw5(a b:Nd)(ha:a.args.length<=34359738368):SC Tryz.prog 52 [.pv (ndv a),.pv (ndv b)] [] (λk=>k∈[]) (iBool (z6d a b)) []:=by
 refine SC.vc tb { pb:=[102,103] } [] Tryz.func52 rfl rfl ?_;unfold z6d;have ne:∀{p q:Int},(p != q)=true->(p==q)=false:=λh=>by simpa using h
 have nf:∀{p q:Int},(p != q)=false->(p==q)=true:=λh=>by simpa using h
 refine z00 (λh=>?_) λh=>?_
 ·have h:(a.kind==b.kind)=false:=ne h;exact⟨sE (by rw[h];rfl),Gd⟩
 have h1:(a.kind==b.kind)=true:=nf h;refine z00 (λh=>?_) λh=>?_
 ·have h:(a.op==b.op)=false:=ne h;exact⟨sE (by rw[h1,h];rfl),Gd⟩
 have h2:(a.op==b.op)=true:=nf h;refine z00 (λh=>?_) λh=>?_
 ·have h:(a.n==b.n)=false:=ne h;exact⟨sE (by rw[h1,h2,h];rfl),Gd⟩
 have h3:(a.n==b.n)=true:=nf h;refine z00 (λh=>?_) λh=>?_
 ·have h:decide (a.kind > 4)=true:=h;exact⟨sE (by rw[h1,h2,h3,show decide (a.kind<=4)=false by simp at h⊢;omega];rfl),Gd⟩
 have h4:decide (a.kind<=4)=true:=by have h:decide (a.kind > 4)=false:=h;simp at h⊢;omega
 refine z00 (λh=>?_) λh=>?_
 ·have h:(((a.args.map eInt).length:Int) != ((b.args.map eInt).length:Int))=true:=h;simp only[A6]at h;exact⟨sE (by rw[h1,h2,h3,h4,args_ne (by simpa using h)];rfl),Gd⟩
 have h:(((a.args.map eInt).length:Int) != ((b.args.map eInt).length:Int))=false:=h;simp only[A6]at h;have h5:a.args.length=b.args.length:=by simp at h;omega
 rw[h1,h2,h3,h4];refine⟨Nat,λi=>[(5,iInt ((i:Nat):Int))],λ_=>[],λi=>a.args.length-i,λi=>i<=a.args.length/\(a.args==b.args)=(a.args.drop i==b.args.drop i),[],0,⟨Ab _,rfl⟩,Ge,Gd,?_⟩;rintro i ⟨i1,i2⟩;refine z00 (λhc=>?_) λhc=>?_
 ·have hlt:i<a.args.length:=z12 (f:=eInt) rfl hc;obtain⟨x,x1,x2,x3,x4⟩:=z0s hlt;obtain⟨y,y1,y2,y3,y4⟩:=z0s (show i<b.args.length by omega);rw[eq_drop x3 y3]at i2;refine⟨z02 (f:=eInt) x1,rfl,z02 (f:=eInt) y1,rfl,z00 (λh=>?_) λh=>?_⟩
  ·exact⟨sE (by rw[i2,ne h];rfl),Gd⟩
  ·rw[nf h,B0]at i2;exact⟨z01 rfl oM0,i+1,z04 hlt,⟨hlt,i2⟩,Ge,Gd,rfl,rfl,rfl,rfl⟩
 ·have hge:a.args.length<=i:=z13 (f:=eInt) rfl hc;rw[A8 hge,A8 (show b.args.length<=i by omega)]at i2;exact⟨sE (by rw[i2];rfl),Gd⟩
theorem y1n:∀(N:Nat)(l:List Nd),SizeOf.sizeOf l<N->lsW l<=34359738368->SC Tryz.prog 27 [.pv (z2e l)] [] (λk=>k∈[]) (iBool (onL [] l)) []
 |0,_,h=>absurd h (Ai _)
 |N+1,l,hN=>λhb=>by
  refine SC.vc tb {} [] Tryz.func27 rfl rfl ?_;have hle:=j19 l;refine⟨Nat,λi=>[(3,iInt ((i:Nat):Int))],λ_=>[],λi=>l.length-i,λi=>i<=l.length/\onL [] l=onL (l.take i) (l.drop i),[],0,⟨Ab _,rfl⟩,Ge,Gd,?_⟩;rintro i ⟨i1,i2⟩;refine z00 (λhc=>?_) λhc=>?_
  ·have hlt:i<l.length:=z12 (f:=Nd.enc) rfl hc;obtain⟨x,x1,x2,x3,x4⟩:=z0s hlt;have hWx:=z87 x;have hWl:=y0q x4;have hkl:=yk1 x.kids;rw[x3,onL,j1q,<- x2]at i2;refine⟨Nat,λk=>[(4,iInt ((k:Nat):Int))],λ_=>[],λk=>i-k,λk=>k<=i/\((l.take i).any λy=>z6d y x)=((l.take i).drop k).any λy=>z6d y x,[],0,⟨Ab _,rfl⟩,Ge,Gd,?_⟩;rintro k ⟨k1,k2⟩;refine z00 (λhc2=>?_) λhc2=>?_
   ·have hlt2:k<i:=by simpa using hc2
    have hti:k<(l.take i).length:=by rw[D6];omega
    obtain⟨y,y1,y2,y3,y4⟩:=z0s hti;have hym:=List.mem_of_mem_take y4;have hyl:l[k]?=some y:=by rw[Bz,if_pos hlt2]at y1;exact y1
    have hWy:=z87 y;have hWm:=y0q hym;rw[y3,Ga]at k2;have hA:=yw5 y x oM0;generalize z6d y x=c at hA k2
    cases c
    ·exact⟨z07 hyl,rfl,z07 x1,rfl,[],hA,sR,Gd,rfl,z01 rfl oM0,k+1,z04 hlt2,⟨hlt2,k2⟩,Ge,Gd,rfl,rfl,rfl,rfl⟩
    ·exact⟨z07 hyl,rfl,z07 x1,rfl,[],hA,sR,Gd,rfl,sE (by rw[i2,k2];rfl),Gd⟩
   ·have hge2:i<=k:=by simpa using hc2
    rw[A8 (by rw[D6];omega)]at k2;rw[k2]at i2;refine⟨Nat,λj=>[(5,iInt ((j:Nat):Int))],λ_=>[],λj=>x.kids.length-j,λj=>j<=x.kids.length/\onK x.kids=onK (x.kids.drop j),[],0,⟨Ab _,rfl⟩,Ge,Gd,?_⟩;rintro j ⟨j1,j2⟩;refine⟨z07 x1,rfl,z00 (λhc2=>?_) λhc2=>?_⟩
    ·have hlt2:j<x.kids.length:=z12 (f:=eKid) rfl hc2;obtain⟨q,q1,q2,q3,q4⟩:=z0s hlt2;have hqW:=z7n q4;have hQ:=y1n N q (Bb (zc4 x4 rfl q4) (C3 hN)) oM0;rw[q3,onK]at j2;generalize onL [] q=c at hQ j2
     cases c
     ·exact⟨z07 x1,rfl,z02 (f:=eKid) q1,rfl,[],hQ,sR,Gd,rfl,sE (by rw[i2,j2];rfl),Gd⟩
     ·exact⟨z07 x1,rfl,z02 (f:=eKid) q1,rfl,[],hQ,sR,Gd,rfl,z01 rfl oM0,j+1,z04 hlt2,⟨hlt2,j2⟩,Ge,Gd,rfl,rfl,rfl,rfl⟩
    ·have hge2:x.kids.length<=j:=z13 (f:=eKid) rfl hc2;rw[A8 hge2]at j2;rw[j2]at i2;exact⟨z01 rfl oM0,i+1,z04 hlt,⟨hlt,i2⟩,Ge,Gd,rfl,rfl,rfl,rfl⟩
  ·have hge:l.length<=i:=z13 (f:=Nd.enc) rfl hc;rw[A8 hge]at i2;exact⟨sE (by rw[i2];rfl),Gd⟩
theorem yo8(u:Un)(hW:z0h u<=34000000000):SC Tryz.prog 11 [.pv u.enc] [] (λk=>k∈[]) (iBool (y3y u)) []:=by
 refine SC.vc tb { pb:=[101] } [] Tryz.func11 rfl rfl ?_;have hw2:u.flows.length<=z0h u:=by unfold z0h;omega
 unfold y3y;refine⟨Nat,λi=>[(3,iInt ((i:Nat):Int))],λ_=>[],λi=>u.flows.length-i,λi=>i<=u.flows.length/\(u.flows.all λf=>onL [] f.body)=((u.flows.drop i).all λf=>onL [] f.body),[],0,⟨Ab _,rfl⟩,Ge,Gd,?_⟩;rintro i ⟨i1,i2⟩;refine z00 (λhc=>?_) λhc=>?_
 ·have hlt:i<u.flows.length:=z12 (f:=Fl.enc) rfl hc;obtain⟨x,x1,x2,x3,x4⟩:=z0s hlt;rw[x3,D9]at i2;have hx:=z9h x4;have hF:=y1n _ x.body (A7 _) oM0;generalize onL [] x.body=b at hF i2
  cases b
  ·exact⟨z02 (f:=Fl.enc) x1,rfl,[],hF,sR,Gd,rfl,sE (by rw[i2];rfl),Gd⟩
  ·exact⟨z02 (f:=Fl.enc) x1,rfl,[],hF,sR,Gd,rfl,z01 rfl oM0,i+1,z04 hlt,⟨hlt,i2⟩,Ge,Gd,rfl,rfl,rfl,rfl⟩
 ·have hge:u.flows.length<=i:=z13 (f:=Fl.enc) rfl hc;rw[A8 hge]at i2;exact⟨sE (by rw[i2];rfl),Gd⟩
theorem j3y(ts:List Int)(l:List Nd):SC Tryz.prog 15 [.pv (ints ts),.pv (z2e l)] [] (λk=>k∈[]) (.pv (.agg [.val (.slice none 0 0),flws [⟨z0u,1,0,ts,l⟩]])) []:=by
 refine SC.vc tb {} [] Tryz.func15 rfl rfl ?_;exact⟨sI,Gd⟩
def wakeL:List Nd:=[(.mk 8 0 0 ⟨#[]⟩ [] [0] [] []),(.mk 4 3 0 ⟨#[]⟩ [0,0] [1] [] []),(.mk 4 3 0 ⟨#[]⟩ [0,0] [2] [] []),(.mk 15 0 0 ⟨#[]⟩ [2] [] [] [])]
def y6o:Un:=⟨[],[⟨z0u,1,0,[1,1,1],wakeL⟩]⟩
theorem zf6:(z18 y6o).1=0:=by decide +kernel
theorem y2d:z0h y6o<=34000000000:=by decide +kernel
theorem j5h:((z40 (z3t stB y6o) 20 (z06 z0u (z3t stB y6o).flows 0) [] (run0 [3] 4)).map λr=>(z0z r.2,r.1))=some (false,9):=by decide +kernel
theorem wake_run:∃r,z40 (z3t stB y6o) 20 (z06 z0u (z3t stB y6o).flows 0) [] (run0 [3] 4)=some r/\(mEnd r).st=1/\(mEnd r).code=9:=by
 have h:=j5h;rw[A1]at h;obtain⟨r,h1,h2⟩:=h;simp only[Dx]at h2;refine⟨r,h1,?_,?_⟩
 ·simp only[mEnd,h2.1,Aj,Br]
 ·simp only[mEnd,h2.1,Aj,Br,h2.2]
def j5g:PV:=.seq [[vInt 8,vInt 0,vInt 0,vStr ⟨#[]⟩,.val (.slice none 0 0),.seq [[vInt 0]],.val (.slice none 0 0),.val (.slice none 0 0)],[vInt 4,vInt 3,vInt 0,vStr ⟨#[]⟩,.seq [[vInt 0],[vInt 0]],.seq [[vInt 1]],.val (.slice none 0 0),.val (.slice none 0 0)],[vInt 4,vInt 3,vInt 0,vStr ⟨#[]⟩,.seq [[vInt 0],[vInt 0]],.seq [[vInt 2]],.val (.slice none 0 0),.val (.slice none 0 0)],[vInt 15,vInt 0,vInt 0,vStr ⟨#[]⟩,.seq [[vInt 2]],.val (.slice none 0 0),.val (.slice none 0 0),.val (.slice none 0 0)]]
theorem wake_sub:PSub j5g (z2e wakeL):=by
 show PSub _ (.seq [_,_,_,_])
 repeat' (first|exact PSub.nil|exact PSub.refl _|exact trivial|refine And.intro ?_ ?_|refine PSub.seq (ps:=[_,_,_,_]) (qs:=[_,_,_,_]) ?_|refine PSub.seq (ps:=[_]) (qs:=[_]) ?_)
theorem yr5:z93 stB ⟨[],[]⟩=(⟨[],[]⟩,1):=y3l stB (by decide +kernel)
theorem j2z(L:List Nd)(hL:PSub j5g (z2e L))(V:Un)(hH:z93 stB (⟨[],[⟨z0u,1,0,[1,1,1],L⟩]⟩:Un)=(V,0))(hW:z0h (⟨[],[⟨z0u,1,0,[1,1,1],L⟩]⟩:Un)<=34000000000)(hVa:V.arrays=[])(hVl:V.flows.length=1)(hVr:y3y V=true)(hVW:z0h V<=34000000000)(hVz:(z18 V).1=0)(r:Int×Rs)(hr:z40 V 20 (z06 z0u V.flows 0) [] (run0 [3] 4)=some r)(h1:(mEnd r).st=1)(h2:(mEnd r).code=9):SC Tryz.prog 6 [] [] (λk=>k∈[]) (iBool true) []:=by
 refine SC.vc tb {} [] Tryz.func6 rfl rfl ?_;have hsc:=yd7 (⟨[],[⟨z0u,1,0,[1,1,1],L⟩]⟩:Un) hW zt3;rw[hH]at hsc;have hse:=yd7 ⟨[],[]⟩ dC0 zt3;rw[yr5]at hse;have hR:=yo8 V hVW;rw[hVr]at hR;have hrun:=sc_run0 V hVa hVW hVz [3] 4 20 r hr;have hv:runv (mEnd r)=.agg [vInt 1,vInt 9,ints (mEnd r).out,vInt (mEnd r).cost,vInt (mEnd r).fuel]:=by unfold runv;rw[h1,h2]
 rw[hv]at hrun;obtain⟨va,vf⟩:=V;obtain⟨f0,rfl⟩:=Ci.1 (show vf.length=1 from hVl);exact⟨[],j3y [1,1,1] L,SubA.same (SubA.cons (sP hL) SubA.nil),Gd,rfl,[],hsc,SubA.cons (sP (z0g _)) SubA.nil,Gd,rfl,[],hrun,sR,Gd,rfl,[],hR,sR,Gd,rfl,[],hse,SubA.cons (sP (z0g _)) SubA.nil,Gd,rfl,sI,Gd⟩
theorem sc_awake:SC Tryz.prog 6 [] [] (λk=>k∈[]) (iBool true) []:=by
 obtain⟨r,hr,h1,h2⟩:=wake_run;have hc:=y2u zf6;exact j2z wakeL wake_sub (z3t stB y6o) (z69 stB zf6) y2d rfl rfl (by have:=y3v y6o;rw[z69 stB zf6]at this;exact this) (by have:=y5l stB y3h y6o;rw[z69 stB zf6]at this;exact Bi this y2d) (by rw[hc]) r hr h1 h2
def riH(p:Pg)(lo:Lo)(vs:List (Value×PV))(s:RiS):List (Nat×HO):=riBx p s.ts lo++riLx vs s.ns
def j2a(k:Int)(n:Nat)(b:Bool):Bool:=if k=5 then n==2 else if k=1∨k=2∨k=3∨k=4∨k=6∨k=8 then true else b
mutual
def riOk(p:Pg):Ex->Bool
 |.mk k _ _ nm args=>j2a k args.length (decide (0<=z3m p nm))&&zm8 p args
def zm8(p:Pg):List Ex->Bool
 |[]=>true
 |x::r=>riOk p x&&zm8 p r
end
theorem zd6{p:Pg}{x:Ex}:∀{l:List Ex},zm8 p l=true->x∈l->riOk p x=true
 |y::r,h,hm=>by
  simp only[zm8,A0]at h;rcases Am.1 hm with rfl|hm
  ·exact h.1
  ·exact zd6 h.2 hm
def fRX(p:Pg)(lo:Lo)(vs:List (Value×PV))(e:Ex):Prop:=∀s:RiS,s.ts.length+4*xz e<=34000000000->s.ns.length+4*xz e<=34000000000->SC Tryz.prog 119 [.ptr 4 0,.pv (exv e)] (riH p lo vs s) (λk=>k∈[]) (iInt (riX p vs e s).1) (riH p lo vs (riX p vs e s).2)
def riLe(s s':RiS)(n:Nat):Prop:=s'.ts.length<=s.ts.length+4*n/\s'.ns.length<=s.ns.length+4*n
theorem riTop_le(p:Pg)(k o n:Int)(nm:ByteArray)(l:List Int)(s:RiS):riLe s (zj0 p k o n nm l s).2 1:=by
 unfold zj0 riLe
 repeat' split
 all_goals simp[z5y]
theorem yu2(o a:Int)(ns:List Nd)(r:Int×RiS):(z5r o a ns r).2.ts.length=r.2.ts.length+2/\(z5r o a ns r).2.ns.length=ns.length+1:=by
 unfold z5r;split<;>simp[z5y]
theorem zw0(p:Pg)(vs:List (Value×PV)):∀(N:Nat),(∀e:Ex,SizeOf.sizeOf e<N->∀s,riLe s (riX p vs e s).2 (xz e))/\(∀l:List Ex,SizeOf.sizeOf l<N->∀s,riLe s (riXL p vs l s).2 (xzL l))/\(∀(o:Int)(l:List Ex),SizeOf.sizeOf l<N->∀s,riLe s (riSh p vs o l s).2 (1+xzL l))/\(∀(o a:Int)(s:RiS)(l:List Ex),SizeOf.sizeOf l<N->riLe s (zi8 p vs o a s l).2 (1+xzL l))
 |0=>⟨λ_ h=>absurd h (Ai _),λ_ h=>absurd h (Ai _),λ_ _ h=>absurd h (Ai _),λ_ _ _ _ h=>absurd h (Ai _)⟩
 |N+1=>by
  obtain⟨h1,h2,h3,h4⟩:=zw0 p vs N;refine⟨λe he s=>?_,λl hl s=>?_,λo l hl s=>?_,λo a s l hl=>?_⟩
  ·obtain⟨k,o,n,nm,args⟩:=e;simp at he;rw[riX];split
   ·exact⟨Bj _ _,Bj _ _⟩
   ·split
    ·have:=h3 o args oM0 s;simp only[xz];exact this
    ·have g1:=h2 args oM0 s;have g2:=riTop_le p k o n nm (riXL p vs args s).1 (riXL p vs args s).2;simp only[xz];unfold riLe at g1 g2⊢;omega
  ·match l with
   |[]=>rw[riXL];exact⟨Bj _ _,Bj _ _⟩
   |e::r =>
    simp at hl;have g1:=h1 e oM0 s;have g2:=h2 r oM0 (riX p vs e s).2;rw[riXL];simp only[xzL];unfold riLe at g1 g2⊢;omega
  ·match l with
   |[]=>rw[riSh];exact⟨Bj _ _,Bj _ _⟩
   |e::r =>
    simp at hl;have g1:=h1 e oM0 s;have g2:=h4 o (riX p vs e s).1 (riX p vs e s).2 r oM0;rw[riSh];simp only[xzL];unfold riLe at g1 g2⊢;omega
  ·match l with
   |[]=>rw[zi8];exact⟨Bj _ _,Bj _ _⟩
   |e::r =>
    simp at hl;have g1:=h1 e oM0 ⟨s.ts,[]⟩;have g2:=yu2 o a s.ns (riX p vs e ⟨s.ts,[]⟩);rw[zi8];simp only[xzL];unfold riLe at g1⊢;dsimp only at g1;omega
def riLk(a b c:Nat)(vs:List (Value×PV))(ns:List Nd):List (Nat×HO):=[(a,.box [.ptr 1 0,.mp b,.sl c (ns.map Nd.enc).length]),(b,.map vs),(c,.row ndRt (ns.map Nd.enc))]
theorem riK14{f:FuncId}{p p':Pg}{ts ts':List Int}{lo lo':Lo}{vs vs':List (Value×PV)}{ns ns':List Nd}{x:PV}{r:PV}(h:SC Tryz.prog f [.ptr 4 0,.pv x] (riBx p ts lo++riLx vs ns) (λk=>k∈[]) (.pv r) (riBx p' ts' lo'++riLx vs' ns')) :
 SC Tryz.prog f [.ptr 14 0,.pv x] (riBx p ts lo++riLk 14 15 16 vs ns) (λk=>k∈[]) (.pv r) (riBx p' ts' lo'++riLk 14 15 16 vs' ns'):=SC.sameR (((h.sw 4 14).sw 5 15).sw 6 16) λk _ hk=>absurd hk C5
theorem y46(p:Pg)(ts:List Int)(lo:Lo)(vs:List (Value×PV))(ns:List Nd):SC Tryz.prog 166 [.ptr 4 0] (riBx p ts lo++riLx vs ns) (λk=>k∈[1,2,3,4,5,6]) (.ptr 24 0) ([(24,.box [.ptr 1 0,.mp 25,.pv (.val (.slice none 0 0))]),(25,.map vs)]++(riBx p ts lo++riLx vs ns)) :=
 SC.sameR (((zf0 p ts lo vs ns).sw 14 24).sw 15 25) λk _ hk=>by
  simp only[Am,C5,Gb]at hk;rcases hk with rfl|rfl|rfl|rfl|rfl|rfl<;>decide
theorem riP24(p:Pg)(ts:List Int)(lo:Lo)(vs:List (Value×PV))(ns:List Nd)(t k o n:Int)(nm:ByteArray)(args:List Int)(ks:List (List Nd))(ht:ts.length<=34359738368)(hb:ns.length<=34359738368) :
 SC Tryz.prog 169 [.ptr 24 0,.pv (.val (.int .i64 t)),.pv (.agg [vInt k,vInt o,vInt n,vStr nm,ints args,ints [],ints [],kids ks])] (riBx p ts lo++riLk 24 25 26 vs ns) (λk=>k∈[]) (iInt (z5y t k o n nm args ks ⟨ts,ns⟩).1) (riBx p (z5y t k o n nm args ks ⟨ts,ns⟩).2.ts lo++riLk 24 25 26 vs (z5y t k o n nm args ks ⟨ts,ns⟩).2.ns) :=
 SC.sameR ((((z6i p ts lo vs ns t k o n nm args ks ht hb).sw 4 24).sw 5 25).sw 6 26) λk _ hk=>absurd hk C5
theorem riA14(p:Pg)(ts:List Int)(lo:Lo)(vs:List (Value×PV))(ns:List Nd)(x:Nd)(hb:ns.length<=34359738368):SC Tryz.prog 117 [.ptr 14 0,.pv (.agg [vInt x.kind,vInt x.op,vInt x.n,vStr x.name,ints x.args,ints x.outs,ints x.params,kids x.kids])] (riBx p ts lo++riLk 14 15 16 vs ns) (λk=>k∈[]) (.tup []) (riBx p ts lo++riLk 14 15 16 vs (ns++[x])) :=
 SC.sameR ((((z47 p ts lo vs ns x hb).sw 4 14).sw 5 15).sw 6 16) λk _ hk=>absurd hk C5
theorem riA24(p:Pg)(ts:List Int)(lo:Lo)(vs:List (Value×PV))(ns:List Nd)(x:Nd)(hb:ns.length<=34359738368):SC Tryz.prog 117 [.ptr 24 0,.pv (.agg [vInt x.kind,vInt x.op,vInt x.n,vStr x.name,ints x.args,ints x.outs,ints x.params,kids x.kids])] (riBx p ts lo++riLk 24 25 26 vs ns) (λk=>k∈[]) (.tup []) (riBx p ts lo++riLk 24 25 26 vs (ns++[x])) :=
 SC.sameR ((((z47 p ts lo vs ns x hb).sw 4 24).sw 5 25).sw 6 26) λk _ hk=>absurd hk C5
theorem y8r(p:Pg)(lo:Lo)(vs:List (Value×PV))(n:Int)(nm:ByteArray)(e1 e2:Ex)(s:RiS)(h1:fRX p lo vs e1)(h2:fRX p lo vs e2)(hts:s.ts.length+4*(1+xz e1+xz e2)<=34000000000)(hns:s.ns.length+4*(1+xz e1+xz e2)<=34000000000) :
 SC Tryz.prog 168 [.ptr 4 0,.pv (.agg [vInt 5,vInt 18,vInt n,vStr nm,exs [e1,e2]])] (riH p lo vs s) (λk=>k∈[]) (iInt (riSh p vs 18 [e1,e2] s).1) (riH p lo vs (riSh p vs 18 [e1,e2] s).2):=by
 refine SC.vc tb { pb:=[103],ids:=[(35,30),(43,31)],ob:=[30,31],gh:=[(3,[.growC 14 2 16 47 8]),(5,[.fzC 14 2 16]),(9,[.growC 24 2 26 47 8]),(10,[.fzC 24 2 26]),(11,[.fz 9 30])] } [] Tryz.func168 rfl rfl ?_;have g1:=h1 s oM0 oM0;have l1:=(zw0 p vs _).1 e1 (A7 _) s;rw[riSh,zi8];generalize riX p vs e1 s=r1 at g1 l1⊢;obtain⟨a,s1⟩:=r1;unfold riLe at l1;dsimp only at g1 l1⊢;have g2:=riK14 (h2 ⟨s1.ts,[]⟩ (by dsimp only;omega) (by simp;omega));have l2:=(zw0 p vs _).1 e2 (A7 _) ⟨s1.ts,[]⟩;generalize riX p vs e2 ⟨s1.ts,[]⟩=r2 at g2 l2⊢;obtain⟨b,s2⟩:=r2;unfold riLe at l2;dsimp only at g2 l2;have g3:=riA14 p s2.ts lo vs s2.ns (.mk 12 0 0 ⟨#[]⟩ [b] [] [] []) (by simp at l2;omega);refine⟨z1d (i:=0) rfl,rfl,[],g1,sR,Gk,rfl,[1,2,3,4,5,6],zf0 p s1.ts lo vs s1.ns,sR,⟨rfl,rfl,rfl,rfl,rfl,rfl,rfl,rfl,rfl,rfl,rfl,rfl,Gd⟩,rfl,[1,2,3,4,5,6],y46 p s1.ts lo vs s1.ns,sR,⟨rfl,rfl,rfl,rfl,rfl,rfl,rfl,rfl,rfl,rfl,rfl,rfl,Gd⟩,rfl,?_⟩;refine⟨z1d (i:=1) rfl,rfl,[],g2,sR,Gk,rfl,[],g3,SubA.same (SubA.cons (sP (z0g _)) SubA.nil),Gk,rfl,?_⟩;have g4:=riP24 p s2.ts lo vs [] 2 2 0 0 ⟨#[]⟩ [] [] oM0 sI0;have g5:=riA24 p (s2.ts++[2]) lo vs [.mk 2 0 0 ⟨#[]⟩ [] [(s2.ts.length:Int)] [] []] (.mk 12 0 0 ⟨#[]⟩ [(s2.ts.length:Int)] [] [] []) sI0;have g6:=z6i p (s2.ts++[2]) lo vs s1.ns 2 10 0 0 ⟨#[]⟩ [a] [z6b 12 ⟨#[]⟩ [b] s2.ns,z6b 12 ⟨#[]⟩ [(s2.ts.length:Int)] [.mk 2 0 0 ⟨#[]⟩ [] [(s2.ts.length:Int)] [] []]] (by simp;omega) oM0;refine⟨rfl,[],g4,SubA.same (SubA.same (SubA.cons (sP (z0g _)) SubA.nil)),Gk,rfl,[],g5,SubA.same (SubA.cons (sP (z0g _)) SubA.nil),Gk,rfl,?_⟩;refine⟨rfl,rfl,(by decide:1<2),rfl,1,0,_,rfl,rfl,rfl,Bc,rfl,?_⟩;exact⟨[],g6,SubA.same (SubA.same (SubA.cons (sP (z0g _)) SubA.nil)),Gk,rfl,sI,rfl,rfl,rfl,rfl,rfl,rfl,Gd⟩
theorem y8s(p:Pg)(lo:Lo)(vs:List (Value×PV))(n:Int)(nm:ByteArray)(e1 e2:Ex)(s:RiS)(h1:fRX p lo vs e1)(h2:fRX p lo vs e2)(hts:s.ts.length+4*(1+xz e1+xz e2)<=34000000000)(hns:s.ns.length+4*(1+xz e1+xz e2)<=34000000000) :
 SC Tryz.prog 168 [.ptr 4 0,.pv (.agg [vInt 5,vInt 19,vInt n,vStr nm,exs [e1,e2]])] (riH p lo vs s) (λk=>k∈[]) (iInt (riSh p vs 19 [e1,e2] s).1) (riH p lo vs (riSh p vs 19 [e1,e2] s).2):=by
 refine SC.vc tb { pb:=[103],ids:=[(35,30),(43,31)],ob:=[30,31],gh:=[(3,[.growC 14 2 16 47 8]),(5,[.fzC 14 2 16]),(9,[.growC 24 2 26 47 8]),(10,[.fzC 24 2 26]),(11,[.fz 9 31])] } [] Tryz.func168 rfl rfl ?_;have g1:=h1 s oM0 oM0;have l1:=(zw0 p vs _).1 e1 (A7 _) s;rw[riSh,zi8];generalize riX p vs e1 s=r1 at g1 l1⊢;obtain⟨a,s1⟩:=r1;unfold riLe at l1;dsimp only at g1 l1⊢;have g2:=riK14 (h2 ⟨s1.ts,[]⟩ (by dsimp only;omega) (by simp;omega));have l2:=(zw0 p vs _).1 e2 (A7 _) ⟨s1.ts,[]⟩;generalize riX p vs e2 ⟨s1.ts,[]⟩=r2 at g2 l2⊢;obtain⟨b,s2⟩:=r2;unfold riLe at l2;dsimp only at g2 l2;have g3:=riA14 p s2.ts lo vs s2.ns (.mk 12 0 0 ⟨#[]⟩ [b] [] [] []) (by simp at l2;omega);refine⟨z1d (i:=0) rfl,rfl,[],g1,sR,Gk,rfl,[1,2,3,4,5,6],zf0 p s1.ts lo vs s1.ns,sR,⟨rfl,rfl,rfl,rfl,rfl,rfl,rfl,rfl,rfl,rfl,rfl,rfl,Gd⟩,rfl,[1,2,3,4,5,6],y46 p s1.ts lo vs s1.ns,sR,⟨rfl,rfl,rfl,rfl,rfl,rfl,rfl,rfl,rfl,rfl,rfl,rfl,Gd⟩,rfl,?_⟩;refine⟨z1d (i:=1) rfl,rfl,[],g2,sR,Gk,rfl,[],g3,SubA.same (SubA.cons (sP (z0g _)) SubA.nil),Gk,rfl,?_⟩;have g4:=riP24 p s2.ts lo vs [] 2 2 0 1 ⟨#[]⟩ [] [] oM0 sI0;have g5:=riA24 p (s2.ts++[2]) lo vs [.mk 2 0 1 ⟨#[]⟩ [] [(s2.ts.length:Int)] [] []] (.mk 12 0 0 ⟨#[]⟩ [(s2.ts.length:Int)] [] [] []) sI0;have g6:=z6i p (s2.ts++[2]) lo vs s1.ns 2 10 0 0 ⟨#[]⟩ [a] [z6b 12 ⟨#[]⟩ [(s2.ts.length:Int)] [.mk 2 0 1 ⟨#[]⟩ [] [(s2.ts.length:Int)] [] []],z6b 12 ⟨#[]⟩ [b] s2.ns] (by simp;omega) oM0;refine⟨rfl,[],g4,SubA.same (SubA.same (SubA.cons (sP (z0g _)) SubA.nil)),Gk,rfl,[],g5,SubA.same (SubA.cons (sP (z0g _)) SubA.nil),Gk,rfl,?_⟩;refine⟨rfl,rfl,(by decide:0<2),rfl,0,0,_,rfl,rfl,rfl,Bc,rfl,?_⟩;exact⟨[],g6,SubA.same (SubA.same (SubA.cons (sP (z0g _)) SubA.nil)),Gk,rfl,sI,rfl,rfl,rfl,rfl,rfl,rfl,Gd⟩
theorem y89(p:Pg)(vs:List (Value×PV)):∀(l:List Ex)(e:Ex)(s:RiS),riXL p vs (l++[e]) s=((riXL p vs l s).1++[(riX p vs e (riXL p vs l s).2).1],(riX p vs e (riXL p vs l s).2).2)
 |[],e,s=>by simp[riXL]
 |x::r,e,s=>by
  have:=y89 p vs r e (riX p vs x s).2;simp only[B9,riXL,this]
theorem yn2(p:Pg)(vs:List (Value×PV)):∀(l:List Ex)(s:RiS),(riXL p vs l s).1.length=l.length
 |[],_=>by rw[riXL];rfl
 |x::r,s=>by rw[riXL];simp[yn2 p vs r]
theorem yq9:∀(l:List Ex)(i:Nat),xzL (l.take i)+xzL (l.drop i)=xzL l
 |[],i=>by simp[xzL]
 |_::_,0=>by simp[xzL]
 |x::r,i+1=>by have:=yq9 r i;simp only[Fd,Fb,xzL];omega
theorem yo7(p:Pg)(hp:szP p)(lo:Lo)(vs:List (Value×PV))(hv:Cnt vs):∀(N:Nat)(e:Ex),SizeOf.sizeOf e<N->xz e<=100000000->riOk p e=true->fRX p lo vs e
 |0,_,h,_,_=>absurd h (Ai _)
 |N+1,.mk k o n nm args,hN,hx,hok=>by
  intro s hts hns;have hx0:=hx;simp only[xz]at hx hts hns;have hl:=zc5 args;rw[riOk,A0]at hok;have ih:∀x∈args,fRX p lo vs x:=λx hm=>yo7 p hp lo vs hv N x (by have:=Bo hm;simp at hN;omega) (by have:=zh2 hm;omega) (zd6 hok.2 hm)
  by_cases hs:k=5/\(o=18∨o=19)
  ·obtain⟨rfl,ho⟩:=hs;have h2:args.length=2:=by have:=hok.1;unfold j2a at this;rw[if_pos rfl]at this;exact eq_of_beq this
   obtain⟨e1,e2,rfl⟩:∃e1 e2,args=[e1,e2]:=by
    match args,h2 with
    |[a,b],_=>exact⟨a,b,rfl⟩
   simp only[xzL]at hts hns;rw[riX,if_neg dC0,if_pos ⟨rfl,ho⟩];rcases ho with rfl|rfl
   ·refine SC.vc tb { pb:=[103] } [] Tryz.func119 rfl rfl ?_;exact⟨[],y8r p lo vs n nm e1 e2 s (ih e1 sI0) (ih e2 sI0) oM0 oM0,sR,Gk,rfl,sI,rfl,rfl,rfl,rfl,rfl,rfl,Gd⟩
   ·refine SC.vc tb { pb:=[103] } [] Tryz.func119 rfl rfl ?_;exact⟨[],y8s p lo vs n nm e1 e2 s (ih e1 sI0) (ih e2 sI0) oM0 oM0,sR,Gk,rfl,sI,rfl,rfl,rfl,rfl,rfl,rfl,Gd⟩
  by_cases h3:k=3
  ·subst h3;rw[riX,if_pos rfl];refine SC.vc tb { pb:=[103] } [] Tryz.func119 rfl rfl ?_;exact VAsk.mk (p:=vInt (y2k vs nm)) (b:=(z1z (.string nm) vs).isSome) rfl hv.1 (Ea (hv.getI nm) rfl) ⟨sI,rfl,rfl,rfl,rfl,rfl,rfl,Gd⟩
  rw[riX,if_neg h3,if_neg hs];refine SC.vc tb { pb:=[103],jn:=[5],gh:=[(6,[.grow 5 1001 3 1]),(11,[.fz 5 1001])] } [] Tryz.func119 rfl rfl ?_;refine⟨Unit,λ_=>[],λ_=>[],λ_=>True,[],?_,?_⟩
  ·refine z00 (λc=>absurd (eq_of_beq c) h3) λ_=>z00 (λc=>?_) λc=>?_
   ·have c:k=5:=eq_of_beq c;exact z00 (λc2=>absurd ⟨c,.inl (eq_of_beq c2)⟩ hs) λ_=>z00 (λc2=>absurd ⟨c,.inr (eq_of_beq c2)⟩ hs) λ_=>⟨(),Gd,Gd,Gd,rfl,rfl,rfl,rfl⟩
   ·exact⟨(),Gd,Gd,Gd,rfl,rfl,rfl,rfl⟩
  rintro _ _;have hle0:=(zw0 p vs _).2.1 args (A7 _) s;unfold riLe at hle0;have h00:riXL p vs (args.take 0) s=([],s):=by rw[List.take_zero,riXL]
  refine⟨Nat,λi=>[(40,iInt ((i:Nat):Int)),(5,.sl 1001 ((riXL p vs (args.take i) s).1.map eInt).length)],λi=>(1001,.row inRt ((riXL p vs (args.take i) s).1.map eInt))::riH p lo vs (riXL p vs (args.take i) s).2,λi=>args.length-i,λi=>i<=args.length,[],0,Ab _,⟨rfl,(by simp only[h00];rfl),Gd⟩,(by simp only[h00];exact Gl),?_⟩;clear h00 hs;intro i hi;have hle:=(zw0 p vs _).2.1 (args.take i) (A7 _) s;unfold riLe at hle;have hxt:=yq9 args i;have hlen:=yn2 p vs (args.take i) s;refine z00 (λhc=>?_) λhc=>?_
  ·have hlt:i<args.length:=z12 (f:=Ex.enc) rfl hc;obtain⟨x,x1,x2,x3,x4⟩:=z0s hlt;rw[x3]at hxt;simp only[xzL]at hxt;have hsn:=y89 p vs (args.take i) x s;rw[<- x2]at hsn;generalize riXL p vs (args.take i) s=L at hle hlen hsn⊢;obtain⟨L1,q⟩:=L;dsimp only at hle hlen hsn;have hX:=ih x x4 q oM0 oM0;generalize riX p vs x q=W at hX hsn;obtain⟨w1,w2⟩:=W;dsimp only at hX hsn;exact⟨z1d x1,rfl,[],hX,sR,Gk,rfl,rfl,z3y rfl,by simp at hlen⊢;omega,z01 rfl oM0,i+1,z04 hlt,hlt,⟨rfl,slq (by rw[hsn];simp),Gd⟩,⟨rwq (by rw[hsn];simp[eInt]),by rw[hsn];rfl,by rw[hsn];rfl,rfl,by rw[hsn];rfl,rfl,by rw[hsn];rfl,Gd⟩,rfl,rfl,rfl,rfl⟩
  ·have hge:args.length<=i:=z13 (f:=Ex.enc) rfl hc;rw[As hge]at hlen⊢;clear hle hxt;generalize riXL p vs args s=L at hle0 hlen⊢;obtain⟨l,q⟩:=L;dsimp only at hle0 hlen⊢;have hpl:k≠1->k≠2->k≠4->k≠5->k≠6->k≠8->0<=z3m p nm:=λa b c d e f=>by
    have:=hok.1;unfold j2a at this;rw[if_neg d,if_neg oM0]at this;exact Aq this
   clear hok ih;generalize hT:zj0 p k o n nm l q=T;unfold zj0 at hT;refine⟨rfl,z00 (λc=>?_) λc1=>z00 (λc=>?_) λc2=>z00 (λc=>?_) λc4=>z00 (λc=>?_) λc5=>z00 (λc=>?_) λc6=>z00 (λc=>?_) λc8=>?_⟩
   ·have c:k=1:=eq_of_beq c;rw[if_pos c]at hT;subst hT;exact⟨[],z6i p q.ts lo vs q.ns 1 1 0 n ⟨#[]⟩ [] [] oM0 oM0,SubA.same (SubA.same (SubA.cons (sP (z0g _)) SubA.nil)),Gk,rfl,sI,rfl,rfl,rfl,rfl,rfl,rfl,Gd⟩
   ·have c1:¬k=1:=Ad.1 c1;have c:k=2:=eq_of_beq c;rw[if_neg c1,if_pos c]at hT;subst hT;exact⟨[],z6i p q.ts lo vs q.ns 2 2 0 n ⟨#[]⟩ [] [] oM0 oM0,SubA.same (SubA.same (SubA.cons (sP (z0g _)) SubA.nil)),Gk,rfl,sI,rfl,rfl,rfl,rfl,rfl,rfl,Gd⟩
   ·have c1:¬k=1:=Ad.1 c1;have c2:¬k=2:=Ad.1 c2;have c:k=4:=eq_of_beq c;rw[if_neg c1,if_neg c2,if_pos c]at hT;subst hT;exact⟨[],y8p o,sR,Gd,rfl,[],z6i p q.ts lo vs q.ns (y1a o) 3 o 0 ⟨#[]⟩ l [] oM0 oM0,SubA.same (SubA.same (SubA.cons (sP (z0g _)) SubA.nil)),Gk,rfl,sI,rfl,rfl,rfl,rfl,rfl,rfl,Gd⟩
   ·have c1:¬k=1:=Ad.1 c1;have c2:¬k=2:=Ad.1 c2;have c4:¬k=4:=Ad.1 c4;have c:k=5:=eq_of_beq c;rw[if_neg c1,if_neg c2,if_neg c4,if_pos c]at hT;subst hT;exact⟨[],y8p o,sR,Gd,rfl,[],z6i p q.ts lo vs q.ns (y1a o) 4 o 0 ⟨#[]⟩ l [] oM0 oM0,SubA.same (SubA.same (SubA.cons (sP (z0g _)) SubA.nil)),Gk,rfl,sI,rfl,rfl,rfl,rfl,rfl,rfl,Gd⟩
   ·have c1:¬k=1:=Ad.1 c1;have c2:¬k=2:=Ad.1 c2;have c4:¬k=4:=Ad.1 c4;have c5:¬k=5:=Ad.1 c5;have c:k=6:=eq_of_beq c;rw[if_neg c1,if_neg c2,if_neg c4,if_neg c5,if_pos c]at hT;subst hT;exact⟨[],z6i p q.ts lo vs q.ns 1 5 0 0 nm l [] oM0 oM0,SubA.same (SubA.same (SubA.cons (sP (z0g _)) SubA.nil)),Gk,rfl,sI,rfl,rfl,rfl,rfl,rfl,rfl,Gd⟩
   ·have c1:¬k=1:=Ad.1 c1;have c2:¬k=2:=Ad.1 c2;have c4:¬k=4:=Ad.1 c4;have c5:¬k=5:=Ad.1 c5;have c6:¬k=6:=Ad.1 c6;have c:k=8:=eq_of_beq c;rw[if_neg c1,if_neg c2,if_neg c4,if_neg c5,if_neg c6,if_pos c]at hT;subst hT;exact⟨[],z6i p q.ts lo vs q.ns 1 8 0 0 ⟨#[]⟩ [] [] oM0 oM0,SubA.same (SubA.same (SubA.cons (sP (z0g _)) SubA.nil)),Gk,rfl,sI,rfl,rfl,rfl,rfl,rfl,rfl,Gd⟩
   ·have c1:¬k=1:=Ad.1 c1;have c2:¬k=2:=Ad.1 c2;have c4:¬k=4:=Ad.1 c4;have c5:¬k=5:=Ad.1 c5;have c6:¬k=6:=Ad.1 c6;have c8:¬k=8:=Ad.1 c8;rw[if_neg c1,if_neg c2,if_neg c4,if_neg c5,if_neg c6,if_neg c8]at hT;subst hT;obtain⟨j,j1,j2⟩:=zy0 (hpl c1 c2 c4 c5 c6 c8);exact⟨[],zf2 p nm hp.1,sR,Gd,rfl,zb0 j2,j1,[],z6i p q.ts lo vs q.ns (fuAt p (z3m p nm)).ty 7 0 0 nm l [] oM0 oM0,SubA.same (SubA.same (SubA.cons (sP (z0g _)) SubA.nil)),Gk,rfl,sI,rfl,rfl,rfl,rfl,rfl,rfl,Gd⟩
def riW(p:Pg)(lo:List (List ByteArray))(s:RiT):List (Nat×HO):=riBx p s.ts ⟨lo,s.jk⟩++riLx s.vs s.ns
def scB(p:Pg)(l:List St)(lo:List (List ByteArray))(s:RiT)(a:Bool×RiT):Prop:=SC Tryz.prog 38 [.ptr 4 0,.pv (sts l)] (riW p lo s) (λk=>k∈[]) (iBool a.1) (riW p lo a.2)
theorem scB14{p:Pg}{l:List St}{lo:List (List ByteArray)}{s:RiT}{a:Bool×RiT}(h:scB p l lo s a):SC Tryz.prog 38 [.ptr 14 0,.pv (sts l)] (riBx p s.ts ⟨lo,s.jk⟩++riLk 14 15 16 s.vs s.ns) (λk=>k∈[]) (iBool a.1) (riBx p a.2.ts ⟨lo,a.2.jk⟩++riLk 14 15 16 a.2.vs a.2.ns):=SC.sameR (((h.sw 4 14).sw 5 15).sw 6 16) λk _ hk=>absurd hk C5
theorem y8q(vs:List (Value×PV))(hv:Cnt vs)(l:List ByteArray)(hl:l.length<=34359738368):SC Tryz.prog 118 [.mp 15,.pv (txs l)] [(15,.map vs)] (λk=>k∈[15]) (.pv (ints (riOf vs l))) [(15,.map vs)]:=SC.sameR ((zj4 vs hv l hl).sw 5 15) λk _ hk=>by rw[Ag.1 hk];exact D1
theorem yo6(p:Pg)(l:List St)(z03:List ByteArray)(lo:List (List ByteArray))(vs:List (Value×PV))(ts:List Int)(jk:List (List ByteArray))(ns:List Nd)(a:Bool×RiT)(hB:scB p l lo ⟨vs,ts,[],jk⟩ a)(hv:Cnt a.2.vs)(hnm:z03.length<=34359738368)(hns:a.2.ns.length<=34359738368) :
 SC Tryz.prog 163 [.ptr 4 0,.pv (sts l),.pv (txs z03)] (riW p lo ⟨vs,ts,ns,jk⟩) (λk=>k∈[]) (.pv (z2e (z5b 12 z03 a))) (riW p lo ⟨vs,a.2.ts,ns,a.2.jk⟩):=by
 refine SC.vc tb { ids:=[(9,14)],gh:=[(2,[.growC 14 2 16 47 8]),(4,[.fzC 14 2 16])] } [] Tryz.func163 rfl rfl ?_;have hK:=zf0 p ts ⟨lo,jk⟩ vs ns;have hB:=scB14 hB;obtain⟨b,q⟩:=a;dsimp only at hv hns hB⊢;refine⟨[1,2,3,4,5,6],hK,sR,⟨rfl,rfl,rfl,rfl,rfl,rfl,rfl,rfl,rfl,rfl,rfl,rfl,Gd⟩,rfl,[],hB,sR,Gk,rfl,?_⟩
 cases b
 ·exact⟨[15],y8q q.vs hv z03 hnm,sR,Gf,rfl,[],riA14 p q.ts ⟨lo,q.jk⟩ q.vs q.ns (.mk 12 0 0 ⟨#[]⟩ (riOf q.vs z03) [] [] []) hns,SubA.same (SubA.cons (sP (z0g _)) SubA.nil),Gk,rfl,rfl,sI,rfl,rfl,rfl,rfl,rfl,rfl,Gd⟩
 ·exact⟨rfl,sI,rfl,rfl,rfl,rfl,rfl,rfl,Gd⟩
structure NmOk(vs:List (Value×PV))(ls:List (List St))(n:Nat):Prop where
 sz:∀l∈ls,szL l<=1073741824
 tx:∀e∈z8o vs ls,(z78 e.1).size<=maxLen
 len:(z8o vs ls).length<=1073741824
 at_:∀v∈riOf vs (z0b vs ls),0<=v/\v<n
theorem z9v(vs:List (Value×PV))(ls:List (List St)):(z0b vs ls).length=(z8o vs ls).length:=by simp[z0b,zo0]
theorem ye9(p:Pg)(x:St)(lo:List (List ByteArray))(s:RiT)(hv:Cnt s.vs)(e:Ex)(he:x.args[0]?=some e)(c:Int×RiS)
 (hX:SC Tryz.prog 119 [.ptr 4 0,.pv (exv e)] (riH p ⟨lo,s.jk⟩ s.vs ⟨s.ts,s.ns⟩) (λk=>k∈[]) (iInt c.1) (riH p ⟨lo,s.jk⟩ s.vs c.2)) (a b:Bool×RiT)
 (hA:scB p x.thn lo ⟨s.vs,c.2.ts,[],s.jk⟩ a) (hB:scB p x.els lo ⟨s.vs,a.2.ts,[],a.2.jk⟩ b) (ha:Cnt a.2.vs) (hb:Cnt b.2.vs) (han:a.2.ns.length<=34000000000) (hbn:b.2.ns.length<=34000000000)
 (hN:NmOk s.vs [x.thn,x.els] b.2.ts.length) (hcn:c.2.ns.length<=34000000000) (hbt:b.2.ts.length<=33000000000) :
 SC Tryz.prog 115 [.ptr 4 0,.pv (stv x)] (riW p lo s) (λk=>k∈[]) (iBool (ze8 s (z0b s.vs [x.thn,x.els]) c a b).1) (riW p lo (ze8 s (z0b s.vs [x.thn,x.els]) c a b).2):=by
 refine SC.vc tb { pb:=[103] } [] Tryz.func115 rfl rfl ?_;have hC:=zw2 s.vs hv [x.thn,x.els] sI0 hN.sz hN.tx hN.len;have hln:=z9v s.vs [x.thn,x.els];have hl1:=hN.len;have hat:=hN.at_;generalize z0b s.vs [x.thn,x.els]=z03 at hC hln hat⊢;have hA:=yo6 p x.thn z03 lo s.vs c.2.ts s.jk c.2.ns a hA ha oM0 oM0;have hB:=yo6 p x.els z03 lo s.vs a.2.ts a.2.jk c.2.ns b hB hb oM0 oM0;have hK:=zs1 (.mk 10 0 0 ⟨#[]⟩ [c.1] [] [] [z5b 12 z03 a,z5b 12 z03 b]);obtain⟨c1,c2⟩:=c;obtain⟨a1,a2⟩:=a;obtain⟨b1,b2⟩:=b;unfold ze8 z5q;dsimp only at hX hA hB hK hcn hbt hat⊢;refine⟨z1d he,rfl,[],hX,sR,Gk,rfl,[5],hC,sR,Gf,rfl,[],hA,sR,Gk,rfl,[],hB,sR,Gk,rfl,?_⟩;refine⟨[],hK,SubA.cons (sP (z0g _)) SubA.nil,Gd,rfl,?_⟩;generalize z05 (.mk 10 0 0 ⟨#[]⟩ [c1] [] [] [z5b 12 z03 (a1,a2),z5b 12 z03 (b1,b2)])=k
 cases k
 ·have hO:=zj4 s.vs hv z03 oM0;have hlen:(riOf s.vs z03).length=z03.length:=by simp[riOf]
  have hL:=y1q p b2.ts ⟨lo,b2.jk⟩ (riOf s.vs z03) hat oM0;have hl2:=z3g (riOf s.vs z03) b2.ts;have hS:=y64 s.vs hv z03 (z15 b2.ts (riOf s.vs z03)).1 oM0 oM0;have hD:=z47 p (z15 b2.ts (riOf s.vs z03)).2 ⟨lo,b2.jk⟩ (zm9 s.vs z03 (z15 b2.ts (riOf s.vs z03)).1) c2.ns (.mk 10 0 0 ⟨#[]⟩ [c1] (z15 b2.ts (riOf s.vs z03)).1 [] [z5b 12 z03 (a1,a2),z5b 12 z03 (b1,b2)]) oM0;exact⟨[5],hO,sR,Gf,rfl,[],hL,sR,Gg,rfl,[],hS,sR,Ge,rfl,[],hD,SubA.same (SubA.cons (sP (z0g _)) SubA.nil),Gk,rfl,sI,rfl,rfl,rfl,rfl,rfl,rfl,Gd⟩
 ·have hD:=z47 p b2.ts ⟨lo,b2.jk⟩ s.vs c2.ns (.mk 10 0 0 ⟨#[]⟩ [c1] [] [] [z5b 12 z03 (a1,a2),z5b 12 z03 (b1,b2)]) oM0;exact⟨[],hD,SubA.same (SubA.cons (sP (z0g _)) SubA.nil),Gk,rfl,sI,rfl,rfl,rfl,rfl,rfl,rfl,Gd⟩
theorem yf1(p:Pg)(x:St)(z03:List ByteArray)(lo:List (List ByteArray))(s:RiT)(e:Ex)(he:x.args[0]?=some e)(ht:zd7 e=true)(a:Bool×RiT)(hA:scB p x.thn lo s a)(ha:Cnt a.2.vs)(hnm:z03.length<=34359738368)(han:a.2.ns.length<=34000000000) :
 SC Tryz.prog 167 [.ptr 4 0,.pv (stv x),.pv (txs z03)] (riW p lo s) (λk=>k∈[]) (.tup []) (riW p lo ⟨a.2.vs,a.2.ts,z5b 13 z03 a,a.2.jk⟩):=by
 refine SC.vc tb { pb:=[104,106] } [] Tryz.func167 rfl rfl ?_;unfold zd7 at ht;rw[A0]at ht;refine⟨z1d he,rfl,z00 (λh1=>z00 (λh2=>?_) λh2=>absurd (ht.2.symm.trans h2) dC0) λh1=>absurd (ht.1.symm.trans h1) dC0⟩;obtain⟨b,q⟩:=a;unfold z5b;dsimp only at hA ha han⊢;refine⟨[],hA,sR,Gk,rfl,?_⟩
 cases b
 ·exact⟨[5],zj4 q.vs ha z03 hnm,sR,Gf,rfl,[],z47 p q.ts ⟨lo,q.jk⟩ q.vs q.ns (.mk 13 0 0 ⟨#[]⟩ (riOf q.vs z03) [] [] []) oM0,SubA.same (SubA.cons (sP (z0g _)) SubA.nil),Gk,rfl,sI,rfl,rfl,rfl,rfl,rfl,rfl,Gd⟩
 ·exact⟨sI,rfl,rfl,rfl,rfl,rfl,rfl,Gd⟩
theorem yf2(p:Pg)(x:St)(z03:List ByteArray)(lo:List (List ByteArray))(s:RiT)(hv:Cnt s.vs)(e:Ex)(he:x.args[0]?=some e)(ht:zd7 e=false)(c:Int×RiS)
 (hX:SC Tryz.prog 119 [.ptr 4 0,.pv (exv e)] (riH p ⟨lo,s.jk⟩ s.vs ⟨s.ts,s.ns⟩) (λk=>k∈[]) (iInt c.1) (riH p ⟨lo,s.jk⟩ s.vs c.2)) (a:Bool×RiT)
 (hA:scB p x.thn lo ⟨s.vs,c.2.ts,[],s.jk⟩ a) (ha:Cnt a.2.vs) (hnm:z03.length<=34359738368) (han:a.2.ns.length<=34000000000) (hcn:c.2.ns.length<=34000000000) :
 SC Tryz.prog 167 [.ptr 4 0,.pv (stv x),.pv (txs z03)] (riW p lo s) (λk=>k∈[]) (.tup []) (riW p lo ⟨s.vs,a.2.ts,z8p z03 s.vs c a,a.2.jk⟩):=by
 refine SC.vc tb { pb:=[104,106],ids:=[(43,14)],gh:=[(7,[.growC 14 2 16 47 8]),(9,[.fzC 14 2 16])] } [] Tryz.func167 rfl rfl ?_;have hA:=scB14 hA;have hK:=zf0 p c.2.ts ⟨lo,s.jk⟩ s.vs c.2.ns;have hD:=z47 p a.2.ts ⟨lo,a.2.jk⟩ s.vs c.2.ns (.mk 10 0 0 ⟨#[]⟩ [c.1] [] [] [z5b 13 z03 a,z6b 14 ⟨#[]⟩ (riOf s.vs z03) []]) oM0;unfold z8p;obtain⟨c1,c2⟩:=c;obtain⟨b,q⟩:=a;unfold z5b at hD⊢;dsimp only at hX hA hK hD ha han hcn⊢;have hS:∀(l:List Nd),SubI (.pv (.agg [vInt 10,vInt 0,vInt 0,vStr ⟨#[]⟩,ints [c1],.val (.slice none 0 0),.val (.slice none 0 0),.seq [[z2e l],[.seq [[vInt 14,vInt 0,vInt 0,vStr ⟨#[]⟩,ints (riOf s.vs z03),.val (.slice none 0 0),.val (.slice none 0 0),.val (.slice none 0 0)]]]]])) (.pv (.agg [vInt 10,vInt 0,vInt 0,vStr ⟨#[]⟩,ints [c1],ints [],ints [],kids [l,z6b 14 ⟨#[]⟩ (riOf s.vs z03) []]])):=λl=>sP (PSub.agg ⟨PSub.refl _,PSub.refl _,PSub.refl _,PSub.refl _,PSub.refl _,PSub.nil,PSub.nil,PSub.seq ⟨⟨PSub.refl _,Gd⟩,⟨PSub.seq ⟨y0r _,Gd⟩,Gd⟩,Gd⟩,Gd⟩)
 cases b
 ·refine⟨z1d he,rfl,z00 (λh1=>z00 (λh2=>absurd (show zd7 e=true by unfold zd7;rw[show(e.kind==2)=true from h1,show(e.n==1)=true from h2];rfl) (by rw[ht];decide)) λh2=>?_) λh1=>?_⟩
  all_goals exact⟨z1d he,rfl,[],hX,sR,Gk,rfl,[1,2,3,4,5,6],hK,sR,⟨rfl,rfl,rfl,rfl,rfl,rfl,rfl,rfl,rfl,rfl,rfl,rfl,Gd⟩,rfl,[],hA,sR,Gk,rfl,[15],y8q q.vs ha z03 hnm,sR,Gf,rfl,[],riA14 p q.ts ⟨lo,q.jk⟩ q.vs q.ns (.mk 13 0 0 ⟨#[]⟩ (riOf q.vs z03) [] [] []) oM0,SubA.same (SubA.cons (sP (z0g _)) SubA.nil),Gk,rfl,rfl,[5],zj4 s.vs hv z03 hnm,sR,Gf,rfl,[],hD,SubA.same (SubA.cons (hS _) SubA.nil),Gk,rfl,sI,rfl,rfl,rfl,rfl,rfl,rfl,Gd⟩
 ·refine⟨z1d he,rfl,z00 (λh1=>z00 (λh2=>absurd (show zd7 e=true by unfold zd7;rw[show(e.kind==2)=true from h1,show(e.n==1)=true from h2];rfl) (by rw[ht];decide)) λh2=>?_) λh1=>?_⟩
  all_goals exact⟨z1d he,rfl,[],hX,sR,Gk,rfl,[1,2,3,4,5,6],hK,sR,⟨rfl,rfl,rfl,rfl,rfl,rfl,rfl,rfl,rfl,rfl,rfl,rfl,Gd⟩,rfl,[],hA,sR,Gk,rfl,rfl,[5],zj4 s.vs hv z03 hnm,sR,Gf,rfl,[],hD,SubA.same (SubA.cons (hS _) SubA.nil),Gk,rfl,sI,rfl,rfl,rfl,rfl,rfl,rfl,Gd⟩
def scR(p:Pg)(x:St)(z03:List ByteArray)(lo:List (List ByteArray))(s r:RiT):Prop:=SC Tryz.prog 167 [.ptr 4 0,.pv (stv x),.pv (txs z03)] (riW p lo s) (λk=>k∈[]) (.tup []) (riW p lo r)
theorem scR14{p:Pg}{x:St}{z03:List ByteArray}{lo:List (List ByteArray)}{s r:RiT}(h:scR p x z03 lo s r):SC Tryz.prog 167 [.ptr 14 0,.pv (stv x),.pv (txs z03)] (riBx p s.ts ⟨lo,s.jk⟩++riLk 14 15 16 s.vs s.ns) (λk=>k∈[]) (.tup []) (riBx p r.ts ⟨lo,r.jk⟩++riLk 14 15 16 r.vs r.ns):=SC.sameR (((h.sw 4 14).sw 5 15).sw 6 16) λk _ hk=>absurd hk C5
theorem yw3(vs:List (Value×PV))(hv:Cnt vs)(l:List ByteArray)(q:List Int)(hq:l.length=q.length)(hl:l.length<=34359738368):SC Tryz.prog 165 [.mp 15,.pv (txs l),.pv (ints q)] [(15,.map vs)] (λk=>k∈[]) (.tup []) [(15,.map (zm9 vs l q))]:=SC.sameR ((y64 vs hv l q hq hl).sw 5 15) λk _ hk=>absurd hk C5
theorem tail_app{α:Type}(a b:List α)(x:α):(b=[]/\a++[x]++b.tail=a++b++[x])∨(b≠[]/\a++[x]++b.tail=(a++b).set a.length x):=by
 cases b with
 |nil=>exact .inl ⟨rfl,by simp⟩
 |cons y r=>exact .inr ⟨by simp,by simp⟩
theorem y8o(p:Pg)(x:St)(lo:List (List ByteArray))(s:RiT)(hv:Cnt s.vs)(r:RiT)(hR:scR p x (z0b s.vs [x.thn]) (lo++[z0b s.vs [x.thn]]) (z2a s (z0b s.vs [x.thn])) r)
 (hN:NmOk s.vs [x.thn] s.ts.length) (hts:s.ts.length<=33000000000) (hns:s.ns.length<=34000000000) (hrt:s.ts.length<=r.ts.length) (hrt2:r.ts.length<=33000000000) (hlo:lo.length<=1000000000) (hjk:s.jk.length<=1000000000) :
 SC Tryz.prog 116 [.ptr 4 0,.pv (stv x)] (riW p lo s) (λk=>k∈[])
  (iBool (z5q s.vs (z0b s.vs [x.thn]) r.ts s.ns (z0b s.vs [x.thn]::r.jk) 11 (riOf s.vs (z0b s.vs [x.thn])) (z15 s.ts (riOf s.vs (z0b s.vs [x.thn]))).1 [r.ns]).1)
  (riW p lo (z5q s.vs (z0b s.vs [x.thn]) r.ts s.ns (z0b s.vs [x.thn]::r.jk) 11 (riOf s.vs (z0b s.vs [x.thn])) (z15 s.ts (riOf s.vs (z0b s.vs [x.thn]))).1 [r.ns]).2):=by
 refine SC.vc tb { pb:=[103],ids:=[(32,14)],gh:=[(5,[.growC 14 2 16 47 8]),(9,[.fzC 14 2 16])] } [] Tryz.func116 rfl rfl ?_;have hC:=zw2 s.vs hv [x.thn] sI0 hN.sz hN.tx hN.len;have hln:=z9v s.vs [x.thn];have hl1:=hN.len;have hat:=hN.at_;generalize z0b s.vs [x.thn]=z03 at hC hln hat hR⊢;have hO:=zj4 s.vs hv z03 oM0;have hlen:(riOf s.vs z03).length=z03.length:=by simp[riOf]
 have hL:=y1q p s.ts ⟨lo,s.jk⟩ (riOf s.vs z03) hat oM0;have hl2:=z3g (riOf s.vs z03) s.ts;have hK:=zf0 p (z15 s.ts (riOf s.vs z03)).2 ⟨lo,s.jk⟩ s.vs s.ns;have hS:=yw3 s.vs hv z03 (z15 s.ts (riOf s.vs z03)).1 oM0 oM0;have hR:=scR14 hR;unfold z2a at hR;have hQ:=zs1 (.mk 11 0 0 ⟨#[]⟩ (riOf s.vs z03) [] (z15 s.ts (riOf s.vs z03)).1 [r.ns]);unfold z5q;refine⟨[5],hC,sR,Gf,rfl,[5],hO,sR,Gf,rfl,[],hL,sR,Gg,rfl,?_⟩;refine⟨[1,2,3,4,5,6],hK,sR,⟨rfl,rfl,rfl,rfl,rfl,rfl,rfl,rfl,rfl,rfl,rfl,rfl,Gd⟩,rfl,[],hS,sR,Ge,rfl,?_⟩;refine VApp1.mk (m':=((lo++[z03]++s.jk.tail).map eTxs).length) (els':=(lo++[z03]++s.jk.tail).map eTxs) rfl (z3y rfl) (by simp;omega) ?_ ?_
 ·rcases tail_app lo s.jk z03 with⟨h1,h2⟩|⟨h1,h2⟩
  ·rw[h2,h1];exact .inr ⟨by simp,by simp[eTxs];rfl,by simp⟩
  ·have:=Cw.2 h1;rw[h2];exact .inl ⟨by simp;omega,by simp[Bt];rfl,by simp⟩
 refine⟨rfl,[],hR,sR,⟨boq sI0,rfl,rfl,rfl,rfl,rfl,Gd⟩,rfl,?_⟩;refine⟨rfl,z4b (z:=(lo.length:Int)) sI0 oM0,rfl,lo.length,rfl,by simp,rfl,?_⟩;refine⟨rfl,[],hQ,SubA.cons (sP (z0g _)) SubA.nil,Gd,rfl,?_⟩;generalize z05 (.mk 11 0 0 ⟨#[]⟩ (riOf s.vs z03) [] (z15 s.ts (riOf s.vs z03)).1 [r.ns])=k
 cases k
 ·have hL2:=y1q p r.ts ⟨lo,z03::r.jk⟩ (riOf s.vs z03) (λv hv=>⟨(hat v hv).1,by have:=(hat v hv).2;omega⟩) oM0;have hl3:=z3g (riOf s.vs z03) r.ts;have hS2:=y64 s.vs hv z03 (z15 r.ts (riOf s.vs z03)).1 oM0 oM0;have hD:=z47 p (z15 r.ts (riOf s.vs z03)).2 ⟨lo,z03::r.jk⟩ (zm9 s.vs z03 (z15 r.ts (riOf s.vs z03)).1) s.ns (.mk 11 0 0 ⟨#[]⟩ (riOf s.vs z03) (z15 r.ts (riOf s.vs z03)).1 (z15 s.ts (riOf s.vs z03)).1 [r.ns]) oM0;exact⟨[5],hO,sR,Gf,rfl,[],hL2,sR,⟨boq sI0,rfl,rwq sI0,Gd⟩,rfl,[],hS2,sR,Ge,rfl,[],hD,sR,Gk,rfl,sI,rfl,rfl,rfl,rfl,rfl,rfl,Gd⟩
 ·have hD:=z47 p r.ts ⟨lo,z03::r.jk⟩ s.vs s.ns (.mk 11 0 0 ⟨#[]⟩ (riOf s.vs z03) [] (z15 s.ts (riOf s.vs z03)).1 [r.ns]) oM0;exact⟨[],hD,SubA.same (SubA.cons (sP (z0g _)) SubA.nil),⟨boq sI0,rfl,rwq sI0,rfl,rfl,rfl,Gd⟩,rfl,sI,rfl,rfl,rfl,rfl,rfl,rfl,Gd⟩
abbrev scX(p:Pg)(e:Ex)(lo:List (List ByteArray))(vs:List (Value×PV))(jk:List (List ByteArray))(s:RiS)(c:Int×RiS):Prop:=SC Tryz.prog 119 [.ptr 4 0,.pv (exv e)] (riH p ⟨lo,jk⟩ vs s) (λk=>k∈[]) (iInt c.1) (riH p ⟨lo,jk⟩ vs c.2)
theorem y1r(p:Pg)(k ty:Int)(nm:ByteArray)(args:List Ex)(thn els:List St)(lo:List (List ByteArray))(s:RiT)(hv:Cnt s.vs)(e:Ex)(he:args[0]?=some e)(hX:scX p e lo s.vs s.jk ⟨s.ts,s.ns⟩ (riX p s.vs e ⟨s.ts,s.ns⟩))(hn:(riX p s.vs e ⟨s.ts,s.ns⟩).2.ns.length<=34000000000)
 (h3:k=3->∃e2,args[1]?=some e2/\scX p e2 lo s.vs s.jk (riX p s.vs e ⟨s.ts,s.ns⟩).2 (riX p s.vs e2 (riX p s.vs e ⟨s.ts,s.ns⟩).2)/\(riX p s.vs e2 (riX p s.vs e ⟨s.ts,s.ns⟩).2).2.ns.length<=34000000000) :
 SC Tryz.prog 120 [.ptr 4 0,.pv (stv (.mk k ty nm args thn els))] (riW p lo s) (λk=>k∈[]) (.tup []) (riW p lo (z8a p k nm args s)):=by
 refine SC.vc tb { pb:=[103] } [] Tryz.func120 rfl rfl ?_;have g0:args.getD 0 ex0=e:=by rw[At,he];rfl
 unfold z8a;rw[g0];generalize riX p s.vs e ⟨s.ts,s.ns⟩=c at hX hn h3⊢;obtain⟨c1,c2⟩:=c;dsimp only at hX hn h3⊢;refine⟨z1d he,rfl,[],hX,sR,Gk,rfl,?_⟩;rcases(show k=1∨k=2∨k=3∨k=9∨(k≠1/\k≠2/\k≠3/\k≠9) by omega)with rfl|rfl|rfl|rfl|⟨k1,k2,k3,k9⟩
 iterate 2 exact⟨rfl,hv.1,sI,rfl,rfl,rfl,rfl,rfl,rfl,Gd⟩
 ·obtain⟨e2,i1,i2,i3⟩:=h3 rfl;have g1:args.getD 1 ex0=e2:=by rw[At,i1];rfl
  rw[g1];generalize riX p s.vs e2 c2=d at i2 i3⊢;obtain⟨d1,d2⟩:=d;dsimp only at i2 i3⊢;exact⟨z1d i1,rfl,[],i2,sR,Gk,rfl,[],z47 p d2.ts ⟨lo,s.jk⟩ s.vs d2.ns (.mk 6 0 0 nm [c1,d1] [] [] []) oM0,SubA.same (SubA.cons (sP (z0g _)) SubA.nil),Gk,rfl,sI,rfl,rfl,rfl,rfl,rfl,rfl,Gd⟩
 ·exact⟨[],z47 p c2.ts ⟨lo,s.jk⟩ s.vs c2.ns (.mk 9 0 0 ⟨#[]⟩ [c1] [] [] []) oM0,SubA.same (SubA.cons (sP (z0g _)) SubA.nil),Gk,rfl,sI,rfl,rfl,rfl,rfl,rfl,rfl,Gd⟩
 ·rw[if_neg oM0,if_neg k3,if_neg k9];have no:∀{i:Int},k≠i->(k==i)=true->False:=λh e=>h (eq_of_beq e);exact z00 (λh=>(no k1 h).elim) λ_=>z00 (λh=>(no k2 h).elim) λ_=>z00 (λh=>(no k3 h).elim) λ_=>z00 (λh=>(no k9 h).elim) λ_=>⟨sI,rfl,rfl,rfl,rfl,rfl,rfl,Gd⟩
def scS(p:Pg)(x:St)(lo:List (List ByteArray))(s:RiT)(a:Bool×RiT):Prop:=SC Tryz.prog 67 [.ptr 4 0,.pv (stv x)] (riW p lo s) (λk=>k∈[]) (iBool a.1) (riW p lo a.2)
theorem yw1(p:Pg)(ty:Int)(nm:ByteArray)(args:List Ex)(thn els:List St)(lo:List (List ByteArray))(s:RiT)(a:Bool×RiT)
 (h:SC Tryz.prog 115 [.ptr 4 0,.pv (stv (.mk 4 ty nm args thn els))] (riW p lo s) (λk=>k∈[]) (iBool a.1) (riW p lo a.2)):scS p (.mk 4 ty nm args thn els) lo s a:=by
 refine SC.vc tb { pb:=[103] } [] Tryz.func67 rfl rfl ?_;exact⟨[],h,sR,Gk,rfl,sI,rfl,rfl,rfl,rfl,rfl,rfl,Gd⟩
theorem y45(p:Pg)(ty:Int)(nm:ByteArray)(args:List Ex)(thn els:List St)(lo:List (List ByteArray))(s:RiT)(a:Bool×RiT)
 (h:SC Tryz.prog 116 [.ptr 4 0,.pv (stv (.mk 5 ty nm args thn els))] (riW p lo s) (λk=>k∈[]) (iBool a.1) (riW p lo a.2)):scS p (.mk 5 ty nm args thn els) lo s a:=by
 refine SC.vc tb { pb:=[103] } [] Tryz.func67 rfl rfl ?_;exact⟨[],h,sR,Gk,rfl,sI,rfl,rfl,rfl,rfl,rfl,rfl,Gd⟩
theorem yf0(p:Pg)(k ty:Int)(hk:k=6∨k=7)(nm:ByteArray)(args:List Ex)(thn els:List St)(lo:List (List ByteArray))(hlo:lo≠[])(s:RiT)(hv:Cnt s.vs)(hl:lo.length<=1000000000)(hln:(lo.getLastD []).length<=1000000000)(hn:s.ns.length<=34000000000):scS p (.mk k ty nm args thn els) lo s (riS p (.mk k ty nm args thn els) lo s):=by
 have hO:=zj4 s.vs hv (lo.getLastD []) oM0;have hpos:=Cw.2 hlo;have hg:((lo++s.jk).map eTxs)[lo.length-1]?=some (eTxs (lo.getLastD [])):=by
  rw[B8,An oM0,<- Ek]
  cases lo with
  |nil=>exact absurd rfl hlo
  |cons y r=>simp[List.getLast?_cons,List.getLastD_eq_getLast?]
 rw[riS];refine SC.vc tb { pb:=[103] } [] Tryz.func67 rfl rfl ?_;rcases hk with rfl|rfl
 ·refine⟨rfl,z4b (z:=((lo.length:Nat):Int)-1) sI0 oM0,rfl,VIdR.mk (i:=lo.length-1) (by simp;omega) oM0 (VRow.mk (i:=lo.length-1) (j:=0) rfl rfl hg rfl ?_)⟩;exact⟨[5],hO,sR,Gf,rfl,[],z47 p s.ts ⟨lo,s.jk⟩ s.vs s.ns (.mk 14 0 0 ⟨#[]⟩ (riOf s.vs (lo.getLastD [])) [] [] []) oM0,SubA.same (SubA.cons (sP (z0g _)) SubA.nil),Gk,rfl,sI,rfl,rfl,rfl,rfl,rfl,rfl,Gd⟩
 ·refine⟨rfl,z4b (z:=((lo.length:Nat):Int)-1) sI0 oM0,rfl,VIdR.mk (i:=lo.length-1) (by simp;omega) oM0 (VRow.mk (i:=lo.length-1) (j:=0) rfl rfl hg rfl ?_)⟩;exact⟨[5],hO,sR,Gf,rfl,[],z47 p s.ts ⟨lo,s.jk⟩ s.vs s.ns (.mk 13 0 0 ⟨#[]⟩ (riOf s.vs (lo.getLastD [])) [] [] []) oM0,SubA.same (SubA.cons (sP (z0g _)) SubA.nil),Gk,rfl,sI,rfl,rfl,rfl,rfl,rfl,rfl,Gd⟩
theorem yw2(p:Pg)(ty:Int)(nm:ByteArray)(args:List Ex)(thn els:List St)(lo:List (List ByteArray))(s:RiT)(e:Ex)(he:args[0]?=some e)(hX:scX p e lo s.vs s.jk ⟨s.ts,s.ns⟩ (riX p s.vs e ⟨s.ts,s.ns⟩))(hn:(riX p s.vs e ⟨s.ts,s.ns⟩).2.ns.length<=34000000000):scS p (.mk 8 ty nm args thn els) lo s (riS p (.mk 8 ty nm args thn els) lo s):=by
 have g0:args.getD 0 ex0=e:=by rw[At,he];rfl
 rw[riS,if_neg dC0,if_neg dC0,if_neg dC0,if_neg dC0,if_pos rfl,g0];refine SC.vc tb { pb:=[103] } [] Tryz.func67 rfl rfl ?_;generalize riX p s.vs e ⟨s.ts,s.ns⟩=c at hX hn⊢;obtain⟨c1,c2⟩:=c;dsimp only at hX hn⊢;exact⟨z1d he,rfl,[],hX,sR,Gk,rfl,[],z47 p c2.ts ⟨lo,s.jk⟩ s.vs c2.ns (.mk 15 0 0 ⟨#[]⟩ [c1] [] [] []) oM0,SubA.same (SubA.cons (sP (z0g _)) SubA.nil),Gk,rfl,sI,rfl,rfl,rfl,rfl,rfl,rfl,Gd⟩
theorem y44(p:Pg)(k ty:Int)(h4:k≠4)(h5:k≠5)(h6:k≠6)(h7:k≠7)(h8:k≠8)(nm:ByteArray)(args:List Ex)(thn els:List St)(lo:List (List ByteArray))(s:RiT)
 (h:SC Tryz.prog 120 [.ptr 4 0,.pv (stv (.mk k ty nm args thn els))] (riW p lo s) (λk=>k∈[]) (.tup []) (riW p lo (z8a p k nm args s))):scS p (.mk k ty nm args thn els) lo s (riS p (.mk k ty nm args thn els) lo s):=by
 rw[riS,if_neg h4,if_neg h5,if_neg h6,if_neg h7,if_neg h8];refine SC.vc tb { pb:=[103] } [] Tryz.func67 rfl rfl ?_;have no:∀{i:Int},k≠i->(k==i)=true->False:=λh e=>h (eq_of_beq e);exact z00 (λh=>(no h4 h).elim) λ_=>z00 (λh=>(no h5 h).elim) λ_=>z00 (λh=>(no h6 h).elim) λ_=>z00 (λh=>(no h7 h).elim) λ_=>z00 (λh=>(no h8 h).elim) λ_=>⟨[],h,sR,Gk,rfl,sI,rfl,rfl,rfl,rfl,rfl,rfl,Gd⟩
def riIx(p:Pg)(lo:List (List ByteArray)):List St->Int->RiT->Int
 |[],_,_=>-1
 |x::r,j,s=>if (riS p x lo s).1 then j else riIx p lo r (j+1) (riS p x lo s).2
theorem j2c(p:Pg)(lo:List (List ByteArray)):∀(l:List St)(j:Int)(s:RiT),0<=j->decide (riIx p lo l j s≥0)=(riB p l lo s).1
 |[],_,_,_=>by rw[riIx,riB];rfl
 |x::r,j,s,hj=>by
  rw[riIx,riB];split
  ·simp[hj]
  ·exact j2c p lo r (j+1) _ oM0
theorem sc_riIdx(p:Pg)(lo:List (List ByteArray))(l:List St)(s0:RiT)(I:Nat->RiT->Prop)(h0:I 0 s0)(hS:∀i x s,l[i]?=some x->I i s->scS p x lo s (riS p x lo s)/\((riS p x lo s).1=false->I (i+1) (riS p x lo s).2)) :
 SC Tryz.prog 114 [.pv (sts l),.fn (.func 67) [.ptr 4 0] []] (riW p lo s0) (λk=>k∈[]) (iInt (riIx p lo l 0 s0)) (riW p lo (riB p l lo s0).2):=by
 refine SC.vc tb { gh:=[(0,[.len 0])] } [] Tryz.func114 rfl rfl ?_;intro hl;simp only[A6]at hl;have hl:l.length<=9223372036854775807:=hl;refine⟨Nat×RiT,λa=>[(8,iInt ((a.1:Nat):Int))],λa=>riW p lo a.2,λa=>l.length-a.1,λa=>a.1<=l.length/\I a.1 a.2/\riIx p lo l 0 s0=riIx p lo (l.drop a.1) a.1 a.2/\riB p l lo s0=riB p (l.drop a.1) lo a.2,[],(0,s0),⟨Ab _,h0,rfl,rfl⟩,Ge,Gk,?_⟩;rintro⟨i,s⟩ ⟨i1,i2,i3,i4⟩;dsimp only at i1 i2 i3 i4;refine z00 (λhc=>?_) λhc=>?_
 ·have hlt:i<l.length:=z12 (f:=St.enc) rfl hc;obtain⟨x,x1,x2,x3,x4⟩:=z0s hlt;obtain⟨hx,hI⟩:=hS i x s x1 i2;rw[x3,riIx]at i3;rw[x3,riB]at i4;unfold scS at hx;generalize riS p x lo s=a at hx hI i3 i4;obtain⟨b,q⟩:=a;dsimp only at hx hI i3 i4
  cases b
  ·simp only[Aj,Br]at i3 i4;exact⟨zk0 x1,rfl,hx,sR,Gk,λk hk=>hk,rfl,rfl,z01 rfl oM0,(i+1,q),z04 hlt,⟨hlt,hI rfl,i3,i4⟩,Ge,Gk,rfl,rfl,rfl,rfl⟩
  ·simp only[C2]at i3 i4;rw[i3,i4];exact⟨zk0 x1,rfl,hx,sR,Gk,λk hk=>hk,rfl,rfl,sI,rfl,rfl,rfl,rfl,rfl,rfl,Gd⟩
 ·have hge:l.length<=i:=z13 (f:=St.enc) rfl hc;rw[i3,i4,A8 hge,riIx,riB];exact⟨sI,rfl,rfl,rfl,rfl,rfl,rfl,Gd⟩
theorem sc_riHas(p:Pg)(lo:List (List ByteArray))(l:List St)(s0:RiT)(I:Nat->RiT->Prop)(h0:I 0 s0)(hS:∀i x s,l[i]?=some x->I i s->scS p x lo s (riS p x lo s)/\((riS p x lo s).1=false->I (i+1) (riS p x lo s).2)) :
 SC Tryz.prog 66 [.pv (sts l),.fn (.func 67) [.ptr 4 0] []] (riW p lo s0) (λk=>k∈[]) (iBool (riB p l lo s0).1) (riW p lo (riB p l lo s0).2):=by
 refine SC.vc tb {} [] Tryz.func66 rfl rfl ?_;exact⟨[],sc_riIdx p lo l s0 I h0 hS,sR,Gk,rfl,sE (Aa iBool (j2c p lo l 0 s0 dC0)),rfl,rfl,rfl,rfl,rfl,rfl,Gd⟩
theorem yw4(p:Pg)(lo:List (List ByteArray))(l:List St)(s0:RiT)(I:Nat->RiT->Prop)(h0:I 0 s0)(hS:∀i x s,l[i]?=some x->I i s->scS p x lo s (riS p x lo s)/\((riS p x lo s).1=false->I (i+1) (riS p x lo s).2)):scB p l lo s0 (riB p l lo s0):=by
 refine SC.vc tb {} [] Tryz.func38 rfl rfl ?_;exact⟨[],sc_riHas p lo l s0 I h0 hS,sR,Gk,rfl,sI,rfl,rfl,rfl,rfl,rfl,rfl,Gd⟩
mutual
def cnS:St->Nat
 |.mk _ _ _ _ thn els=>1+cnL thn+cnL els
def cnL:List St->Nat
 |[]=>0
 |x::r=>cnS x+cnL r
end
mutual
def grS:St->Nat
 |.mk _ _ _ args thn els=>2+8*xzL args+2*(cnL thn+cnL els)+grL thn+grL els
def grL:List St->Nat
 |[]=>0
 |x::r=>grS x+grL r
end
def gA(p:Pg)(n:Nat)(args:List Ex):Bool:=decide (n<=args.length)&&zm8 p args
mutual
def gS(p:Pg)(b lp:Bool):St->Bool
 |.mk k _ _ args thn els =>
  if k=4 then gA p 1 args&&gB p b lp thn&&gB p b lp els
  else if k=5 then gA p 1 args&&gB p b true thn
  else if k=6∨k=7 then lp
  else if k=3 then gA p 2 args
  else gA p 1 args&&(b||(args.getD 0 ex0).kind != 3)
def gB(p:Pg)(b lp:Bool):List St->Bool
 |[]=>true
 |x::r=>gS p b lp x&&gB p (b||x.kind==1) lp r
end
structure RiI(vs:List (Value×PV))(n:Nat)(b:Bool):Prop where
 cnt:Cnt vs
 rng:∀e∈vs,∃v:Int,e.2=vInt v/\0<=v/\v<n
 ne:b=true->vs≠[]
theorem RiI.get{vs:List (Value×PV)}{n:Nat}{b:Bool}(h:RiI vs n b)(nm:ByteArray)(hb:b=true∨(z1z (.string nm) vs).isSome=true):0<=y2k vs nm/\y2k vs nm<n:=by
 unfold y2k
 cases hf:z1z (.string nm) vs with
 |none =>
  rcases hb with hb|hb
  ·obtain⟨e,r,he⟩:=Ca (h.ne hb);obtain⟨v,_,h1,h2⟩:=h.rng e (he▸ .head _);exact⟨D8 _,by dsimp only;omega⟩
  ·rw[hf]at hb;cases hb
 |some q =>
  obtain⟨a,ha⟩:=z8x hf;obtain⟨v,h1,h2,h3⟩:=h.rng _ ha;dsimp only at h1;subst h1;exact⟨h2,h3⟩
theorem RiI.mono{vs:List (Value×PV)}{n m:Nat}{b:Bool}(h:RiI vs n b)(hm:n<=m):RiI vs m b:=⟨h.cnt,λe he=>by obtain⟨v,h1,h2,h3⟩:=h.rng e he;exact⟨v,h1,h2,by omega⟩,h.ne⟩
theorem RiI.weak{vs:List (Value×PV)}{n:Nat}{b c:Bool}(h:RiI vs n b)(hc:c=true->b=true):RiI vs n c:=⟨h.cnt,h.rng,λe=>h.ne (hc e)⟩
theorem mput_ne{k:Value}{v:PV}:∀{es:List (Value×PV)},mput k v es≠[]
 |[],h=>by simp[mput]at h
 |(a,q)::r,h=>by
  simp only[mput]at h;split at h<;>cases h
theorem RiI.put{vs:List (Value×PV)}{n:Nat}{b:Bool}(h:RiI vs n b)(nm:ByteArray){v:Int}(h0:0<=v)(h1:v<n):RiI (riSt vs nm v) n true :=
 ⟨h.cnt.putI nm v,λe he=>by
  rcases z56 he with rfl|he
  ·exact⟨v,rfl,h0,h1⟩
  ·exact h.rng e he,λ_=>mput_ne⟩
theorem RiI.set{n:Nat}{b:Bool}:∀(l:List ByteArray) (q:List Int) {vs:List (Value×PV)},RiI vs n b->(∀v∈q,0<=v/\v<n)->RiI (zm9 vs l q) n b
 |[],[],_,h,_=>h
 |[],_::_,_,h,_=>h
 |_::_,[],_,h,_=>h
 |x::a,y::c,_,h,hq=>RiI.set a c ((h.put x (hq y (.head _)).1 (hq y (.head _)).2).weak λ_=>rfl) λv hv=>hq v (.tail _ hv)
theorem zr7:∀(l ts:List Int),∀v∈(z15 ts l).1,0<=v/\v<(z15 ts l).2.length
 |[],ts,v,h=>by cases h
 |x::r,ts,v,h=>by
  have hl:=z3g r (ts++[ts.getD x.toNat 0]);simp only[z15,Am]at h⊢;rcases h with rfl|h
  ·have:=hl.2;rw[B5]at this;simp only[Al,Az]at this;omega
  ·exact zr7 r _ v h
theorem zm7(vs:List (Value×PV))(Q:Value->Prop)(hQ:∀nm,(z1z (.string nm) vs).isSome=true->Q (.string nm)):∀(N:Nat)(l:List St),SizeOf.sizeOf l<N->∀out:List (Value×PV),(∀e∈out,Q e.1)->∀e∈z4o vs l out,Q e.1
 |0,_,h,_,_=>absurd h (Ai _)
 |N+1,[],_,out,h=>by rw[z4o];exact h
 |N+1,x::r,hN,out,h=>by
  have hx:=zs9 x;simp at hN;rw[z4o,zd5];refine zm7 vs Q hQ N r oM0 _ (zm7 vs Q hQ N x.els oM0 _ (zm7 vs Q hQ N x.thn oM0 _ ?_));split
  ·rename_i hc;rw[A0]at hc;intro e he;rcases z56 he with rfl|he
   ·exact hQ _ hc.1
   ·exact h e he
  ·exact h
theorem yl6(k:Value)(v:PV):∀es:List (Value×PV),(mput k v es).length<=es.length+1
 |[]=>by simp[mput]
 |(a,q)::r=>by
  simp only[mput];split
  ·simp
  ·have:=yl6 k v r;simp;omega
theorem z98(vs:List (Value×PV)):∀(N:Nat)(l:List St),SizeOf.sizeOf l<N->∀out:List (Value×PV),(z4o vs l out).length<=out.length+cnL l
 |0,_,h,_=>absurd h (Ai _)
 |N+1,[],_,out=>by rw[z4o];simp[cnL]
 |N+1,x::r,hN,out=>by
  have hx:=zs9 x;simp at hN;rw[z4o,zd5];have h1:(if (z1z (.string x.name) vs).isSome&&x.kind==2 then mput (.string x.name) (.agg []) out else out).length<=out.length+1:=by
   split
   ·exact yl6 _ _ _
   ·omega
  generalize(if (z1z (.string x.name) vs).isSome&&x.kind==2 then mput (.string x.name) (.agg []) out else out)=o1 at h1;have h2:=z98 vs N x.thn oM0 o1;have h3:=z98 vs N x.els oM0 (z4o vs x.thn o1);have h4:=z98 vs N r oM0 (z4o vs x.els (z4o vs x.thn o1));have h5:cnS x=1+cnL x.thn+cnL x.els:=by cases x;rw[cnS];rfl
  rw[cnL];omega
theorem j2f(vs:List (Value×PV))(Q:Value->Prop)(hQ:∀nm,(z1z (.string nm) vs).isSome=true->Q (.string nm))(ls:List (List St)):∀e∈z8o vs ls,Q e.1:=by
 suffices ∀(ls:List (List St)) (o:List (Value×PV)),(∀e∈o,Q e.1)->∀e∈ls.foldl (λo l=>z4o vs l o) o,Q e.1 from this ls [] λe he=>by cases he
 intro ls
 induction ls with
 |nil=>exact λo h=>h
 |cons l r ih=>exact λo h=>ih _ (zm7 vs Q hQ _ l (A7 _) o h)
theorem y3s(vs:List (Value×PV))(l:List St):(z8o vs [l]).length<=cnL l:=by
 have:=z98 vs _ l (A7 _) [];simpa[z8o]using this
theorem y3t(vs:List (Value×PV))(l m:List St):(z8o vs [l,m]).length<=cnL l+cnL m:=by
 have h1:=z98 vs _ l (A7 _) [];have h2:=z98 vs _ m (A7 _) (z4o vs l []);simp[z8o]at h1⊢;omega
theorem y3r{vs:List (Value×PV)}{n:Nat}{b:Bool}(h:RiI vs n b)(ls:List (List St)):∀v∈riOf vs (z0b vs ls),0<=v/\v<n:=by
 intro v hv;obtain⟨nm,h1,rfl⟩:=Bx.1 hv;refine h.get nm (.inr ?_);have hq:=j2f vs (λk=>∀s,k=.string s->(z1z (.string s) vs).isSome=true) (λnm h s e=>by cases e;exact h) ls;obtain⟨l,h2,rfl⟩:=Bx.1 h1;have h3:l∈((z8o vs ls).map λe=>z78 e.1).map λs=>s.data.toList:=List.mem_mergeSort.1 h2;obtain⟨s,h4,rfl⟩:=Bx.1 h3;obtain⟨e,h5,rfl⟩:=Bx.1 h4;have h6:=y1b vs ls e h5;have h7:=hq e h5
 cases hk:e.1<;>rw[hk]at h6<;>simp[z1y]at h6
 rename_i t;exact h7 t hk
structure RiR(b:Bool)(s r:RiT)(n g:Nat):Prop where
 I:RiI r.vs r.ts.length b
 lo:s.ts.length<=r.ts.length
 hi:r.ts.length<=s.ts.length+g
 ns:r.ns.length<=s.ns.length+g
 jk:r.jk.length<=s.jk.length+n
theorem j2g(t k o n:Int)(nm:ByteArray)(args:List Int)(kids:List (List Nd))(s:RiS):0<=(z5y t k o n nm args kids s).1/\(z5y t k o n nm args kids s).1<(z5y t k o n nm args kids s).2.ts.length/\s.ts.length<=(z5y t k o n nm args kids s).2.ts.length:=by
 simp[z5y];omega
theorem y1d(p:Pg)(k o n:Int)(nm:ByteArray)(l:List Int)(s:RiS):0<=(zj0 p k o n nm l s).1/\(zj0 p k o n nm l s).1<(zj0 p k o n nm l s).2.ts.length/\s.ts.length<=(zj0 p k o n nm l s).2.ts.length:=by
 unfold zj0
 repeat' split
 all_goals exact j2g _ _ _ _ _ _ _ _
theorem zi9(o a:Int)(ns:List Nd)(r:Int×RiS):0<=(z5r o a ns r).1/\(z5r o a ns r).1<(z5r o a ns r).2.ts.length/\r.2.ts.length<=(z5r o a ns r).2.ts.length:=by
 unfold z5r;split<;>(simp[z5y];omega)
theorem riX_ge(p:Pg)(vs:List (Value×PV)):∀(N:Nat),(∀e:Ex,SizeOf.sizeOf e<N->∀s,s.ts.length<=(riX p vs e s).2.ts.length)/\(∀l:List Ex,SizeOf.sizeOf l<N->∀s,s.ts.length<=(riXL p vs l s).2.ts.length)/\(∀(o:Int)(l:List Ex),SizeOf.sizeOf l<N->∀s,s.ts.length<=(riSh p vs o l s).2.ts.length)/\(∀(o a:Int)(s:RiS)(l:List Ex),SizeOf.sizeOf l<N->s.ts.length<=(zi8 p vs o a s l).2.ts.length)
 |0=>⟨λ_ h=>absurd h (Ai _),λ_ h=>absurd h (Ai _),λ_ _ h=>absurd h (Ai _),λ_ _ _ _ h=>absurd h (Ai _)⟩
 |N+1=>by
  obtain⟨h1,h2,h3,h4⟩:=riX_ge p vs N;refine⟨λe he s=>?_,λl hl s=>?_,λo l hl s=>?_,λo a s l hl=>?_⟩
  ·obtain⟨k,o,n,nm,args⟩:=e;simp at he;rw[riX];split
   ·exact Ae _
   ·split
    ·exact h3 o args oM0 s
    ·exact Bi (h2 args oM0 s) (y1d p k o n nm _ _).2.2
  ·match l with
   |[]=>rw[riXL];exact Ae _
   |e::r =>
    simp at hl;rw[riXL];exact Bi (h1 e oM0 s) (h2 r oM0 _)
  ·match l with
   |[]=>rw[riSh];exact Ae _
   |e::r =>
    simp at hl;rw[riSh];exact Bi (h1 e oM0 s) (h4 o _ _ r oM0)
  ·match l with
   |[]=>rw[zi8];exact Ae _
   |e::r =>
    simp at hl;rw[zi8];exact Bi (h1 e oM0 ⟨s.ts,[]⟩) (zi9 o a s.ns _).2.2
theorem riX_rng(p:Pg){vs:List (Value×PV)}{b:Bool}(e:Ex)(s:RiS)(h:RiI vs s.ts.length b)(hb:b=true∨e.kind≠3)(hok:riOk p e=true):0<=(riX p vs e s).1/\(riX p vs e s).1<(riX p vs e s).2.ts.length:=by
 obtain⟨k,o,n,nm,args⟩:=e;rw[riX]
 by_cases h3:k=3
 ·rw[if_pos h3];rcases hb with hb|hb
  ·exact h.get nm (.inl hb)
  ·exact absurd h3 hb
 ·rw[if_neg h3]
  by_cases hs:k=5/\(o=18∨o=19)
  ·rw[if_pos hs];rw[riOk,A0]at hok;have h2:args.length=2:=by have:=hok.1;unfold j2a at this;rw[if_pos hs.1]at this;exact eq_of_beq this
   match args,h2 with
   |[e1,e2],_ =>
    rw[riSh,zi8];exact⟨(zi9 _ _ _ _).1,(zi9 _ _ _ _).2.1⟩
  ·rw[if_neg hs];exact⟨(y1d _ _ _ _ _ _ _).1,(y1d _ _ _ _ _ _ _).2.1⟩
theorem zr6{b:Bool}{vs:List (Value×PV)}{z03:List ByteArray}{n0:Nat}(h:RiI vs n0 b)(ts:List Int)(ns:List Nd)(jk:List (List ByteArray))(k:Int)(args params:List Int)(kids:List (List Nd))(hts:n0<=ts.length) :
 RiI (z5q vs z03 ts ns jk k args params kids).2.vs (z5q vs z03 ts ns jk k args params kids).2.ts.length b/\ts.length<=(z5q vs z03 ts ns jk k args params kids).2.ts.length/\(z5q vs z03 ts ns jk k args params kids).2.ts.length<=ts.length+z03.length/\(z5q vs z03 ts ns jk k args params kids).2.ns.length=ns.length+1/\(z5q vs z03 ts ns jk k args params kids).2.jk=jk:=by
 unfold z5q;split
 ·exact⟨h.mono hts,Ae _,Bj _ _,by simp,rfl⟩
 ·have hl:=z3g (riOf vs z03) ts;have hn:(riOf vs z03).length=z03.length:=by simp[riOf]
  refine⟨RiI.set _ _ (h.mono (by dsimp only;omega)) λv hv=>zr7 _ _ v hv,by dsimp only;omega,by dsimp only;omega,by simp,rfl⟩
theorem zb1{p:Pg}{args:List Ex}(h:gA p 1 args=true):∃e,args[0]?=some e/\args.getD 0 ex0=e/\riOk p e=true/\xz e<=xzL args:=by
 unfold gA at h;rw[A0]at h;have h1:=Aq h.1
 match args,h1 with
 |e::r,_=>exact⟨e,rfl,rfl,zd6 h.2 (.head _),zh2 (.head _)⟩
theorem j0r{p:Pg}{args:List Ex}(h:gA p 2 args=true):∃e e2,args[0]?=some e/\args[1]?=some e2/\args.getD 0 ex0=e/\args.getD 1 ex0=e2/\riOk p e=true/\riOk p e2=true/\xz e+xz e2<=xzL args:=by
 unfold gA at h;rw[A0]at h;have h1:=Aq h.1
 match args,h1 with
 |e::e2::r,_=>exact⟨e,e2,rfl,rfl,rfl,rfl,zd6 h.2 (.head _),zd6 h.2 (.tail _ (.head _)),by simp only[xzL];omega⟩
theorem z89(vs:List (Value×PV))(l:List St):(z0b vs [l]).length<=cnL l:=(z9v vs [l]).symm▸y3s vs l
theorem zv9(vs:List (Value×PV))(l m:List St):(z0b vs [l,m]).length<=cnL l+cnL m:=(z9v vs [l,m]).symm▸y3t vs l m
theorem z5s(p:Pg)(vs:List (Value×PV))(e:Ex)(s:RiS):s.ts.length<=(riX p vs e s).2.ts.length/\(riX p vs e s).2.ts.length<=s.ts.length+4*xz e/\(riX p vs e s).2.ns.length<=s.ns.length+4*xz e :=
 ⟨(riX_ge p vs _).1 e (A7 _) s,(zw0 p vs _).1 e (A7 _) s⟩
theorem y18{s:RiT}{b:Bool}(h:RiI s.vs s.ts.length b)(z03:List ByteArray):RiI (z2a s z03).vs (z2a s z03).ts.length b/\(z2a s z03).ts.length=s.ts.length+z03.length:=by
 have hl:=z3g (riOf s.vs z03) s.ts;have hn:(riOf s.vs z03).length=z03.length:=by simp[riOf]
 unfold z2a;refine⟨RiI.set _ _ (h.mono (by dsimp only;omega)) λv hv=>zr7 _ _ v hv,by dsimp only;omega⟩
theorem j2h(p:Pg):∀N,(∀x:St,SizeOf.sizeOf x<N->∀b lp lo s,gS p b lp x=true->RiI s.vs s.ts.length b->RiR (b||x.kind==1) s (riS p x lo s).2 (cnS x) (grS x))/\(∀l:List St,SizeOf.sizeOf l<N->∀b lp lo s,gB p b lp l=true->RiI s.vs s.ts.length b->RiR b s (riB p l lo s).2 (cnL l) (grL l))
 |0=>⟨λ_ h=>absurd h (Ai _),λ_ h=>absurd h (Ai _)⟩
 |N+1=>by
  obtain⟨hS,hB⟩:=j2h p N;refine⟨λx hx b lp lo s hg hI=>?_,λl hl b lp lo s hg hI=>?_⟩
  ·obtain⟨k,ty,nm,args,thn,els⟩:=x;simp at hx;rw[gS]at hg;rw[riS];simp only[cnS,grS,St.kind]
   by_cases h4:k=4
   ·subst h4;rw[if_pos rfl,A0,A0]at hg;rw[if_pos rfl,show(b||(4:Int)==1)=b by simp];obtain⟨e,i1,i2,i3,i4⟩:=zb1 hg.1.1;rw[i2];obtain⟨j1,j2,j3⟩:=z5s p s.vs e ⟨s.ts,s.ns⟩;generalize riX p s.vs e ⟨s.ts,s.ns⟩=c at j1 j2 j3⊢;dsimp only at j1 j2 j3;have hA:=hB thn oM0 b lp lo ⟨s.vs,c.2.ts,[],s.jk⟩ hg.1.2 (hI.mono j1);generalize riB p thn lo ⟨s.vs,c.2.ts,[],s.jk⟩=a at hA⊢;have hE:=hB els oM0 b lp lo ⟨s.vs,a.2.ts,[],a.2.jk⟩ hg.2 (hI.mono (Bi j1 hA.lo));generalize riB p els lo ⟨s.vs,a.2.ts,[],a.2.jk⟩=d at hE⊢;have hn:=zv9 s.vs thn els;generalize z0b s.vs [thn,els]=z03 at hn⊢;obtain⟨a1,a2,a3,a4,a5⟩:=hA;obtain⟨d1,d2,d3,d4,d5⟩:=hE;dsimp only at a2 a3 a4 a5 d2 d3 d4 d5;unfold ze8;obtain⟨r1,r2,r3,r4,r5⟩:=zr6 (z03:=z03) hI d.2.ts c.2.ns d.2.jk 10 [c.1] [] [z5b 12 z03 a,z5b 12 z03 d] oM0;exact⟨r1,by omega,by omega,by omega,by rw[r5];omega⟩
   by_cases h5:k=5
   ·subst h5;rw[if_neg dC0,if_pos rfl,A0]at hg;rw[if_neg dC0,if_pos rfl,show(b||(5:Int)==1)=b by simp];obtain⟨e,i1,i2,i3,i4⟩:=zb1 hg.1;rw[i2];have hn:=z89 s.vs thn;generalize z0b s.vs [thn]=z03 at hn⊢;obtain⟨k1,k2⟩:=y18 hI z03;have ht:s.jk.tail.length<=s.jk.length:=by simp
    split
    ·have hA:=hB thn oM0 b true (lo++[z03]) (z2a s z03) hg.2 k1;generalize riB p thn (lo++[z03]) (z2a s z03)=a at hA⊢;obtain⟨a1,a2,a3,a4,a5⟩:=hA;have a5:a.2.jk.length<=s.jk.tail.length+cnL thn:=a5;unfold y5r;obtain⟨r1,r2,r3,r4,r5⟩:=zr6 (z03:=z03) hI a.2.ts s.ns (z03::a.2.jk) 11 (riOf s.vs z03) (z15 s.ts (riOf s.vs z03)).1 [z5b 13 z03 a] oM0;exact⟨r1,by omega,by omega,by omega,by rw[r5,Al];omega⟩
    ·obtain⟨j1,j2,j3⟩:=z5s p (z2a s z03).vs e ⟨(z2a s z03).ts,[]⟩;generalize riX p (z2a s z03).vs e ⟨(z2a s z03).ts,[]⟩=c at j1 j2 j3⊢;dsimp only at j1 j2 j3;have hA:=hB thn oM0 b true (lo++[z03]) ⟨(z2a s z03).vs,c.2.ts,[],s.jk.tail⟩ hg.2 (k1.mono j1);generalize riB p thn (lo++[z03]) ⟨(z2a s z03).vs,c.2.ts,[],s.jk.tail⟩=a at hA⊢;obtain⟨a1,a2,a3,a4,a5⟩:=hA;dsimp only at a2 a3 a4 a5;unfold y5s;obtain⟨r1,r2,r3,r4,r5⟩:=zr6 (z03:=z03) hI a.2.ts s.ns (z03::a.2.jk) 11 (riOf s.vs z03) (z15 s.ts (riOf s.vs z03)).1 [z8p z03 (z2a s z03).vs c a] oM0;exact⟨r1,by omega,by omega,by omega,by rw[r5,Al];omega⟩
   rw[if_neg h4,if_neg h5]at hg;rw[if_neg h4,if_neg h5]
   by_cases h6:k=6
   ·subst h6;rw[if_pos rfl,show(b||(6:Int)==1)=b by simp];exact⟨hI,Ae _,Bj _ _,by simp[z6b];omega,Bj _ _⟩
   by_cases h7:k=7
   ·subst h7;rw[if_neg dC0,if_pos rfl,show(b||(7:Int)==1)=b by simp];exact⟨hI,Ae _,Bj _ _,by simp[z6b];omega,Bj _ _⟩
   rw[if_neg oM0]at hg;rw[if_neg h6,if_neg h7]
   by_cases h8:k=8
   ·subst h8;rw[if_neg dC0,A0]at hg;rw[if_pos rfl,show(b||(8:Int)==1)=b by simp];obtain⟨e,i1,i2,i3,i4⟩:=zb1 hg.1;rw[i2];obtain⟨j1,j2,j3⟩:=z5s p s.vs e ⟨s.ts,s.ns⟩;dsimp only at j1 j2 j3;exact⟨hI.mono j1,j1,by dsimp only;omega,by simp[z6b];omega,Bj _ _⟩
   rw[if_neg h8];unfold z8a
   by_cases h3:k=3
   ·subst h3;rw[if_pos rfl]at hg;obtain⟨e,e2,i1,i2,i3,i4,i5,i6,i7⟩:=j0r hg;rw[if_neg dC0,if_pos rfl,i3,i4,show(b||(3:Int)==1)=b by simp];obtain⟨j1,j2,j3⟩:=z5s p s.vs e ⟨s.ts,s.ns⟩;obtain⟨m1,m2,m3⟩:=z5s p s.vs e2 (riX p s.vs e ⟨s.ts,s.ns⟩).2;dsimp only at j1 j2 j3;exact⟨hI.mono (Bi j1 m1),Bi j1 m1,by dsimp only;omega,by simp[z6b];omega,Bj _ _⟩
   rw[if_neg h3,A0]at hg;obtain⟨e,i1,i2,i3,i4⟩:=zb1 hg.1;have hg2:=hg.2;rw[i2]at hg2⊢;obtain⟨j1,j2,j3⟩:=z5s p s.vs e ⟨s.ts,s.ns⟩;dsimp only at j1 j2 j3
   by_cases h12:k=1∨k=2
   ·rw[if_pos h12];have hr:=riX_rng p e ⟨s.ts,s.ns⟩ hI (by
     rw[B7]at hg2;rcases hg2 with h|h
     ·exact .inl h
     ·exact .inr (by simpa using h)) i3
    exact⟨((hI.mono j1).put nm hr.1 hr.2).weak λ_=>rfl,j1,by dsimp only;omega,by dsimp only;omega,Bj _ _⟩
   ·rw[if_neg h12,if_neg h3,show(b||k==1)=b by rw[show(k==1)=false from Ad.2 λe=>h12 (.inl e)];simp];split
    ·exact⟨hI.mono j1,j1,by dsimp only;omega,by simp[z6b];omega,Bj _ _⟩
    ·exact⟨hI.mono j1,j1,by dsimp only;omega,by dsimp only;omega,Bj _ _⟩
  ·match l with
   |[]=>rw[riB];exact⟨hI,Ae _,Bj _ _,Bj _ _,Bj _ _⟩
   |x::r =>
    simp at hl;rw[gB,A0]at hg;have h1:=hS x oM0 b lp lo s hg.1 hI;rw[riB];simp only[cnL,grL];obtain⟨a1,a2,a3,a4,a5⟩:=h1;split
    ·exact⟨a1.weak λh=>by rw[h];rfl,a2,by dsimp only;omega,by dsimp only;omega,by dsimp only;omega⟩
    ·obtain⟨d1,d2,d3,d4,d5⟩:=hB r oM0 _ lp lo (riS p x lo s).2 hg.2 a1;exact⟨d1.weak λh=>by rw[h];rfl,by omega,by omega,by omega,by omega⟩
end Go.Proofs.YtjlaalpfpecikaaGreatDoor
