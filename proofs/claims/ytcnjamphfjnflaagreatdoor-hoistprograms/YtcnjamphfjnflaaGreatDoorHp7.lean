/- PART 7 of 9 of a proof: see the last part. -/
import Derived.Test.YtcnjamphfjnflaaGreatDoorHp6
set_option maxRecDepth 20000
set_option maxHeartbeats 8000000
set_option linter.unusedSimpArgs false
set_option linter.unusedVariables false
set_option linter.unusedSectionVars false
namespace Go.Proofs.YtcnjamphfjnflaaGreatDoor
open Go
theorem yy2{u:Un}{f:Fl}{it:TypeId}{st:List Int}{k:Nat}(h:look (up (ckS u f it st)) k≠none):k∈[3,4]:=by
 by_cases h3:k=3
 ·subst h3;decide
 ·by_cases h4:k=4
  ·subst h4;decide
  ·exfalso;apply h;simp only[ckS,up,B8,D6,look,z49 (C4 h3),z49 (C4 h4)];rfl
theorem y64(u:Un)(f:Fl)(st:List Int)(v t:Int):SC Tryz.prog 224 [.ptr 3 0,iInt v,iInt t] (ckS u f 3 st) (λ_=>True) (iBool (z9n f.types v t)) (ckS u f 3 st):=by
 refine SC.sameR (SC.vc tb {} [3,4] Tryz.func224 rfl rfl ?_) λk h _=>yy2 h;unfold z9n;refine z00 (λh1=>z00 (λh2=>z00 (λh3=>?_) λh3=>?_) λh2=>?_) λh1=>?_
 ·have h1:decide (v≥0)=true:=h1;have h2:decide (v<(f.types.map eInt).length)=true:=h2;rw[A8]at h2;exact⟨sE (Af iBool (by rw[show decide (0<=v)=true from h1,h2,show(t==0)=true from h3];rfl)),rfl,rfl,Gd⟩
 ·have h1:decide (v≥0)=true:=h1;have h2:decide (v<(f.types.map eInt).length)=true:=h2;rw[A8]at h2;have g1:=Am h1;have g2:=Am h2;exact⟨z02 (f:=eInt) (z3q (show v.toNat<f.types.length by omega)),by omega,sE (Af iBool (by rw[show decide (0<=v)=true from h1,h2,show(t==0)=false from h3];rfl)),rfl,rfl,Gd⟩
 ·have h1:decide (v≥0)=true:=h1;have h2:decide (v<(f.types.map eInt).length)=false:=h2;rw[A8]at h2;exact⟨sE (Af iBool (by rw[show decide (0<=v)=true from h1,h2];rfl)),rfl,rfl,Gd⟩
 ·have h1:decide (v≥0)=false:=h1;exact⟨sE (Af iBool (by rw[show decide (0<=v)=false from h1];rfl)),rfl,rfl,Gd⟩
theorem y6c{tys:List Int}{v t:Int}(h:z9n tys v t=true):0<=v/\v.toNat<tys.length/\v=(v.toNat:Int):=by
 simp only[z9n,A0,Bj]at h;omega
theorem j2u(u:Un)(f:Fl)(st:List Int)(hs:st.length=f.types.length)(v t:Int):SC Tryz.prog 226 [iInt v,iInt t,.ptr 5 0] (ckSp u f 3 5 st) (λk=>k∈[3,4,5]) (iBool (zs3 f.types st v t).1) (ckSp u f 3 5 st):=by
 refine SC.vc tb {} [3,4,5] Tryz.func226 rfl rfl ?_;have hV:=y64 u f st v t;unfold zs3
 cases hv:z9n f.types v t
 ·rw[hv]at hV;exact⟨[],hV,sR,⟨rfl,Gd,rfl,Gd,Gd⟩,rfl,sI,rfl,rfl,rfl,Gd⟩
 ·rw[hv]at hV;obtain⟨h1,h2,h3⟩:=y6c hv;exact⟨[],hV,sR,⟨rfl,Gd,rfl,Gd,Gd⟩,rfl,rfl,VIdR.mk (i:=v.toNat) (by rw[A8];omega) h3 (VRow.mk (i:=v.toNat) (j:=0) rfl rfl (z02 (f:=eInt) (z3q oM0)) rfl ⟨sI,rfl,rfl,rfl,Gd⟩)⟩
theorem j2t(u:Un)(f:Fl)(st:List Int)(hs:st.length=f.types.length)(v t:Int):SC Tryz.prog 227 [iInt v,iInt t,.ptr 5 0] (ckSp u f 3 5 st) (λk=>k∈[3,5]) (iBool (z5u f.types st v t).1) (ckSp u f 3 5 (z5u f.types st v t).2):=by
 refine SC.vc tb {} [3,5] Tryz.func227 rfl rfl ?_;have hV:=y64 u f st v t;unfold z5u
 cases hv:z9n f.types v t
 ·rw[hv]at hV;exact⟨[],hV,sR,⟨rfl,Gd,rfl,Gd⟩,rfl,sI,rfl,rfl,rfl,Gd⟩
 ·rw[hv]at hV;obtain⟨h1,h2,h3⟩:=y6c hv;refine⟨[],hV,sR,⟨rfl,Gd,rfl,Gd⟩,rfl,rfl,VIdR.mk (i:=v.toNat) (by rw[A8];omega) h3 (VRow.mk (i:=v.toNat) (j:=0) rfl rfl (z02 (f:=eInt) (z3q oM0)) rfl (z00 (λh=>?_) λh=>?_))⟩
  ·have h:(st.getD v.toNat 0 != 0)=true:=h;have hz:(st.getD v.toNat 0==0)=false:=by simpa using h
   rw[hz];exact⟨sI,rfl,rfl,rfl,Gd⟩
  ·have h:(st.getD v.toNat 0 != 0)=false:=h;have hz:(st.getD v.toNat 0==0)=true:=by simpa using h
   rw[hz];exact⟨rfl,VIdR.mk (i:=v.toNat) (by rw[A8];omega) h3 ⟨v.toNat,0,_,rfl,rfl,z02 (f:=eInt) (z3q oM0),by simp[eInt],sI,rfl,boq (by simp[y4l]),rwq (by simp[eInt,By]),Gd⟩⟩
theorem sc_eqW(u:Un)(f:Fl)(fq:FuncId)(hent:tb.fn fq=true)(step:List Int->Int->Int->Bool×List Int)(hlen:∀st v t,(step st v t).2.length=st.length)(h:∀st v t,st.length=f.types.length->SC Tryz.prog fq [iInt v,iInt t,.ptr 5 0] (ckSp u f 3 5 st) (λk=>k∈[3,5]) (iBool (step st v t).1) (ckSp u f 3 5 (step st v t).2))
 (st0:List Int) (hs:st0.length=f.types.length) (a b:List Int):SC Tryz.prog 225 [.pv (ints a),.pv (ints b),.fn (.func fq) [] [.ptr 5 0]] (ckSp u f 3 5 st0) (λk=>k∈[3,5]) (iBool (eqf step st0 a b).1) (ckSp u f 3 5 (eqf step st0 a b).2):=by
 refine SC.vc tb { gh:=[(0,[.len 0])] } [3,5] Tryz.func225 rfl rfl ?_;intro hl;simp only[A8]at hl;have hl:a.length<=9223372036854775807:=hl;unfold eqf;refine z00 (λhc=>?_) λhc=>?_
 ·have hc:¬(a.length:Int)=b.length:=by simpa using hc
  rw[if_neg hc];exact⟨sI,rfl,rfl,rfl,Gd⟩
 have hc:(a.length:Int)=b.length:=by simpa using hc
 rw[if_pos hc];refine⟨Nat×List Int,λq=>[(17,iInt ((q.1:Nat):Int))],λq=>ckSp u f 3 5 q.2,λq=>a.length-q.1,λq=>q.1<=a.length/\q.2.length=f.types.length/\eqGo step st0 a b=eqGo step q.2 (a.drop q.1) (b.drop q.1),[],(0,st0),⟨Ac _,hs,rfl⟩,Ge,Gg,?_⟩;rintro⟨i,st⟩ ⟨i1,i2,i3⟩;dsimp only at i1 i2 i3;refine z00 (λhc2=>?_) λhc2=>?_
 ·have hlt:i<a.length:=z0x (f:=eInt) rfl hc2;obtain⟨x,x1,x2,x3,x4⟩:=z0o hlt;obtain⟨y,y1,y2,y3,y4⟩:=z0o (show i<b.length by omega);have hS:=h st x y i2;have hL:=hlen st x y;rw[x3,y3,eqGo]at i3;generalize step st x y=w at hS hL i3;obtain⟨w1,w2⟩:=w;dsimp only at hS hL i3
  cases w1
  ·simp only[Ap,C3]at i3;rw[i3];exact⟨z02 (f:=eInt) x1,rfl,z02 (f:=eInt) y1,rfl,z56 (b:=tb.fn fq) hent ⟨hS,sR,⟨rfl,by simp,rfl,by simp,rfl,Gd⟩,λk hk=>hk,rfl,rfl,sI,rfl,rfl,rfl,Gd⟩⟩
  ·simp only[Ca]at i3;exact⟨z02 (f:=eInt) x1,rfl,z02 (f:=eInt) y1,rfl,z56 (b:=tb.fn fq) hent ⟨hS,sR,⟨rfl,by simp,rfl,by simp,rfl,Gd⟩,λk hk=>hk,rfl,rfl,z01 rfl oM0,(i+1,w2),z03 hlt,⟨hlt,hL.trans i2,i3⟩,Ge,Gg,rfl,rfl,rfl,rfl⟩⟩
 ·have hge:a.length<=i:=z0y (f:=eInt) rfl hc2;rw[i3,Ad hge,eqGo]
  ·exact⟨sI,rfl,rfl,rfl,Gd⟩
  ·intro x r y q hx;cases hx
theorem sc_eqU(u:Un)(f:Fl)(st:List Int)(hs:st.length=f.types.length)(a b:List Int):SC Tryz.prog 225 [.pv (ints a),.pv (ints b),.fn (.func 226) [] [.ptr 5 0]] (ckSp u f 3 5 st) (λk=>k∈[3,4,5]) (iBool (z0w f.types st a b)) (ckSp u f 3 5 st):=by
 refine SC.vc tb { gh:=[(0,[.len 0])] } [3,4,5] Tryz.func225 rfl rfl ?_;intro hl;simp only[A8]at hl;have hl:a.length<=9223372036854775807:=hl;unfold z0w eqf;refine z00 (λhc=>?_) λhc=>?_
 ·have hc:¬(a.length:Int)=b.length:=by simpa using hc
  rw[if_neg hc];exact⟨sI,rfl,rfl,rfl,Gd⟩
 have hc:(a.length:Int)=b.length:=by simpa using hc
 rw[if_pos hc];refine⟨Nat,λi=>[(17,iInt ((i:Nat):Int))],λ_=>ckSp u f 3 5 st,λi=>a.length-i,λi=>i<=a.length/\eqGo (zs3 f.types) st a b=eqGo (zs3 f.types) st (a.drop i) (b.drop i),[],0,⟨Ac _,rfl⟩,Ge,Gg,?_⟩;rintro i ⟨i1,i3⟩;refine z00 (λhc2=>?_) λhc2=>?_
 ·have hlt:i<a.length:=z0x (f:=eInt) rfl hc2;obtain⟨x,x1,x2,x3,x4⟩:=z0o hlt;obtain⟨y,y1,y2,y3,y4⟩:=z0o (show i<b.length by omega);have hS:=j2u u f st hs x y;have hL:(zs3 f.types st x y).2=st:=rfl;rw[x3,y3,eqGo,hL]at i3;generalize(zs3 f.types st x y).1=w at hS i3
  cases w
  ·simp only[Ap,C3]at i3;rw[i3];exact⟨z02 (f:=eInt) x1,rfl,z02 (f:=eInt) y1,rfl,hS,sR,⟨rfl,by simp,rfl,by simp,rfl,by simp,Gd⟩,λk hk=>hk,rfl,rfl,sI,rfl,rfl,rfl,Gd⟩
  ·simp only[Ca]at i3;exact⟨z02 (f:=eInt) x1,rfl,z02 (f:=eInt) y1,rfl,hS,sR,⟨rfl,by simp,rfl,by simp,rfl,by simp,Gd⟩,λk hk=>hk,rfl,rfl,z01 rfl oM0,i+1,z03 hlt,⟨hlt,i3⟩,Ge,Gg,rfl,rfl,rfl,rfl⟩
 ·have hge:a.length<=i:=z0y (f:=eInt) rfl hc2;rw[i3,Ad hge,eqGo]
  ·exact⟨sI,rfl,rfl,rfl,Gd⟩
  ·intro x r y q hx;cases hx
theorem z2v(u:Un)(f:Fl)(st:List Int)(hs:st.length=f.types.length)(l want:List Int):SC Tryz.prog 198 [.ptr 3 0,.pv (ints l),.pv (ints want)] (ckS u f 3 st) (λ_=>True) (iBool (z0w f.types st l want)) (ckS u f 3 st):=by
 refine SC.sameR (SC.vc tb { ids:=[(3,5)] } [3,4] Tryz.func198 rfl rfl ?_) λk h _=>yy2 h;exact⟨[3,4,5],sc_eqU u f st hs l want,sR,⟨rfl,rfl,rfl,rfl,by simp,rfl,rfl,by simp,Gd⟩,rfl,sI,rfl,rfl,Gd⟩
theorem z50(u:Un)(f:Fl)(st:List Int)(hs:st.length=f.types.length)(l want:List Int):SC Tryz.prog 200 [.ptr 3 0,.pv (ints l),.pv (ints want)] (ckS u f 3 st) (λk=>k=3) (iBool (z1o f.types st l want).1) (ckS u f 3 (z1o f.types st l want).2):=by
 refine SC.sameR (SC.vc tb { ids:=[(3,5)] } [3] Tryz.func200 rfl rfl ?_) λk _ h=>An.2 h;exact⟨[3,5],sc_eqW u f 227 rfl (z5u f.types) (z9m f.types) (λst v t h=>j2t u f st h v t) st hs l want,sR,⟨rfl,rfl,rfl,boq (by rw[A8,A8,show(eqf (z5u f.types) st l want).2.length=st.length from z2c f.types st l want]),by simp,rfl,Gd⟩,rfl,sI,boq (by simp[z2c]),rfl,Gd⟩
theorem y62(u:Un)(f:Fl)(st:List Int)(hs:st.length=f.types.length)(l:List Int)(hb:l.length<=34359738368):SC Tryz.prog 199 [.ptr 3 0,.pv (ints l)] (ckS u f 3 st) (λk=>k=3) (iBool (z1o f.types st l (List.replicate l.length 0)).1) (ckS u f 3 (z1o f.types st l (List.replicate l.length 0)).2):=by
 refine SC.sameR (SC.vc tb { pb:=[109] } [3] Tryz.func199 rfl rfl ?_) λk _ h=>An.2 h;have h:=z50 u f st hs l (List.replicate l.length 0);refine⟨rfl,VNum.mk (n:=l.length) (by rw[A8]) oM0 ?_⟩;exact⟨[3],h,SubA.same (SubA.same (SubA.cons (sE (by simp[ints,eInt];exact .inr rfl)) SubA.nil)),⟨rfl,boq (by simp[z2c]),rfl,rfl,Gd⟩,rfl,sI,boq (by simp[z2c]),rfl,Gd⟩
theorem yf3(st l:List Int)(x:Int):z3l st (l++[x])=(z3l st l).set x.toNat 2:=by simp[z3l]
theorem y8i(u:Un)(f:Fl)(st:List Int)(hs:st.length=f.types.length)(l:List Int)(hin:∀v∈l,0<=v/\v<f.types.length):SC Tryz.prog 127 [.ptr 3 0,.pv (ints l)] (ckS u f 3 st) (λk=>k=3) (.tup []) (ckS u f 3 (z3l st l)):=by
 refine SC.sameR (SC.vc tb { gh:=[(0,[.len 1])] } [3] Tryz.func127 rfl rfl ?_) λk _ h=>An.2 h;intro hl;simp only[A8]at hl;have hl:l.length<=9223372036854775807:=hl;refine⟨Nat,λi=>[(8,iInt ((i:Nat):Int))],λi=>[(4,.row ⟨3,1⟩ ((z3l st (l.take i)).map eInt))],λi=>l.length-i,λi=>i<=l.length,[],0,Ac _,Ge,Ge,?_⟩;intro i hi;have hn:=z4s (l.take i) st;refine z00 (λhc=>?_) λhc=>?_
 ·have hlt:i<l.length:=z0x (f:=eInt) rfl hc;obtain⟨x,x1,x2,x3,x4⟩:=z0o hlt;obtain⟨g1,g2⟩:=hin x x4;exact⟨z02 (f:=eInt) x1,rfl,by simp[hn],VIdR.mk (i:=x.toNat) (by rw[A8];omega) oM0 ⟨x.toNat,0,_,by simp[hn],rfl,z02 (f:=eInt) (z3q oM0),by simp[eInt],z01 rfl oM0,i+1,z03 hlt,hlt,Ge,⟨rwq (by rw[x2,yf3];simp[eInt,By]),Gd⟩,rfl,rfl,rfl,rfl⟩⟩
 ·have hge:l.length<=i:=z0y (f:=eInt) rfl hc;rw[At hge];exact⟨sI,boq (by simp[z4s]),rfl,Gd⟩
theorem zr9(u:Un)(f:Fl)(st:List Int)(hs:st.length=f.types.length)(l:List Int)(hb:l.length<=34359738368):SC Tryz.prog 197 [.ptr 3 0,.pv (ints l)] (ckS u f 3 st) (λk=>k<100) (.pv (ints (r8of f.types l))) (ckS u f 3 st):=by
 refine SC.sameR (SC.vc tb { gh:=[(1,[.grow 4 1001 3 1]),(8,[.fz 4 1001])] } [3,4] Tryz.func197 rfl rfl ?_) λk h _=>yy2 h;have hr:∀x,z9n f.types x 0=zq9 f.types x:=λx=>by simp[z9n,zq9]
 refine⟨Nat,λi=>[(9,iInt ((i:Nat):Int)),(4,.sl 1001 (((l.take i).map λv=>f.types.getD v.toNat 0).map eInt).length)],λi=>[(1001,.row ⟨3,1⟩ (((l.take i).map λv=>f.types.getD v.toNat 0).map eInt))],λi=>l.length-i,λi=>i<=l.length/\(l.take i).all (zq9 f.types)=true,[],0,⟨Ac _,by simp⟩,Gf,Ge,?_⟩;rintro i ⟨hi,ha⟩;refine z00 (λhc=>?_) λhc=>?_
 ·have hlt:i<l.length:=z0x (f:=eInt) rfl hc;obtain⟨x,x1,x2,x3,x4⟩:=z0o hlt;have hV:=y64 u f st x 0;rw[hr]at hV
  cases hv:zq9 f.types x
  ·rw[hv]at hV;have hT:r8of f.types l=[]:=by
    unfold r8of;rw[if_neg];intro h;rw[Bi]at h;have:=h x x4;rw[hv]at this;cases this
   rw[hT];exact⟨z02 (f:=eInt) x1,rfl,[3,4],hV,sR,⟨rfl,rfl,Gd,rfl,rfl,Gd,Gd⟩,rfl,sN,rfl,rfl,Gd⟩
  ·rw[hv]at hV;obtain⟨h1,h2,h3⟩:=y6c ((hr x).trans hv);refine⟨z02 (f:=eInt) x1,rfl,[3,4],hV,sR,⟨rfl,rfl,Gd,rfl,rfl,Gd,Gd⟩,rfl,z02 (f:=eInt) (z3q h2),h3,rfl,z3y rfl,by simp;omega,z01 rfl oM0,i+1,z03 hlt,⟨hlt,by rw[x2];simp[ha,hv]⟩,⟨rfl,slq (by rw[x2];simp),Gd⟩,⟨rwq (by rw[x2];simp[eInt]),Gd⟩,rfl,rfl,rfl,rfl⟩
 ·have hge:l.length<=i:=z0y (f:=eInt) rfl hc;rw[At hge]at ha⊢;have hT:r8of f.types l=l.map λv=>f.types.getD v.toNat 0:=by unfold r8of;rw[if_pos ha]
  rw[hT];exact⟨rfl,sI,rfl,rfl,Gd⟩
theorem ky{d:TypeDesc}{es:List (Value×PV)}(h:(es.all λe=>z1v d e.1)=true):∀e∈es,z1v d e.1=true:=Bi.1 h
attribute [local simp] z1n r8op r8num yl2 r8kn Nd.kind Nd.op Nd.n Nd.name Nd.kids Nd.params z2e in
theorem j2l(x:Nd):SC Tryz.prog 169 [.pv (ndv x)] [] (λ_=>False) (iBool (z1n x)) []:=by
 refine SC.anyR (SC.vc tb {} [] Tryz.func169 rfl rfl ?_);obtain⟨kind,op,n,name,args,outs,params,kids⟩:=x;rcases(show kind=3∨kind=4∨kind=1∨kind=2∨kind=5∨kind=6∨kind=7∨kind=11∨kind=10∨(kind≠1/\kind≠2/\kind≠3/\kind≠4/\kind≠5/\kind≠6/\kind≠7/\kind≠11/\kind≠10) by omega)with rfl|rfl|rfl|rfl|rfl|rfl|rfl|rfl|rfl|h
 ·exact⟨rfl,ky rfl,rfl,ky rfl,rfl,ky rfl,rfl,z00 (λh3=>z00 (λh2=>z00 (λh1=>⟨sE (Af iBool (by simp_all)),Gd⟩) λh1=>⟨sE (Af iBool (by simp_all)),Gd⟩) λh2=>⟨sE (Af iBool (by simp_all)),Gd⟩) λh3=>⟨sE (Af iBool (by simp_all)),Gd⟩⟩
 ·exact⟨rfl,ky rfl,rfl,ky rfl,rfl,ky rfl,rfl,z00 (λh3=>z00 (λh2=>z00 (λh1=>⟨sE (Af iBool (by simp_all)),Gd⟩) λh1=>⟨sE (Af iBool (by simp_all)),Gd⟩) λh2=>⟨sE (Af iBool (by simp_all)),Gd⟩) λh3=>⟨sE (Af iBool (by simp_all)),Gd⟩⟩
 ·exact⟨rfl,ky rfl,rfl,ky rfl,rfl,ky rfl,rfl,z00 (λh3=>z00 (λh2=>z00 (λh1=>⟨sE (Af iBool (by simp_all)),Gd⟩) λh1=>⟨sE (Af iBool (by simp_all)),Gd⟩) λh2=>⟨sE (Af iBool (by simp_all)),Gd⟩) λh3=>⟨sE (Af iBool (by simp_all)),Gd⟩⟩
 ·exact⟨rfl,ky rfl,rfl,ky rfl,rfl,ky rfl,rfl,z00 (λh3=>z00 (λh2=>z00 (λh1=>⟨sE (Af iBool (by simp_all)),Gd⟩) λh1=>⟨sE (Af iBool (by simp_all)),Gd⟩) λh2=>⟨sE (Af iBool (by simp_all)),Gd⟩) λh3=>⟨sE (Af iBool (by simp_all)),Gd⟩⟩
 ·exact⟨rfl,ky rfl,rfl,ky rfl,rfl,ky rfl,rfl,z00 (λh4=>z00 (λh3=>z00 (λh2=>z00 (λh1=>⟨sE (Af iBool (by simp_all)),Gd⟩) λh1=>⟨sE (Af iBool (by simp_all)),Gd⟩) λh2=>⟨sE (Af iBool (by simp_all)),Gd⟩) λh3=>⟨sE (Af iBool (by simp_all)),Gd⟩) λh4=>⟨sE (Af iBool (by simp_all)),Gd⟩⟩
 ·exact⟨rfl,ky rfl,rfl,ky rfl,rfl,ky rfl,rfl,z00 (λh4=>z00 (λh3=>z00 (λh2=>z00 (λh1=>⟨sE (Af iBool (by simp_all)),Gd⟩) λh1=>⟨sE (Af iBool (by simp_all)),Gd⟩) λh2=>⟨sE (Af iBool (by simp_all)),Gd⟩) λh3=>⟨sE (Af iBool (by simp_all)),Gd⟩) λh4=>⟨sE (Af iBool (by simp_all)),Gd⟩⟩
 ·exact⟨rfl,ky rfl,rfl,ky rfl,rfl,ky rfl,rfl,z00 (λh4=>z00 (λh3=>z00 (λh2=>z00 (λh1=>⟨sE (Af iBool (by simp_all)),Gd⟩) λh1=>⟨sE (Af iBool (by simp_all)),Gd⟩) λh2=>⟨sE (Af iBool (by simp_all)),Gd⟩) λh3=>⟨sE (Af iBool (by simp_all)),Gd⟩) λh4=>⟨sE (Af iBool (by simp_all)),Gd⟩⟩
 ·exact⟨rfl,ky rfl,rfl,ky rfl,rfl,ky rfl,rfl,z00 (λh3=>z00 (λh2=>z00 (λh1=>⟨sE (Af iBool (by simp_all)),Gd⟩) λh1=>⟨sE (Af iBool (by simp_all)),Gd⟩) λh2=>⟨sE (Af iBool (by simp_all)),Gd⟩) λh3=>⟨sE (Af iBool (by simp_all)),Gd⟩⟩
 ·exact⟨rfl,ky rfl,rfl,ky rfl,rfl,ky rfl,rfl,z00 (λh4=>z00 (λh3=>z00 (λh2=>z00 (λh1=>⟨sE (Af iBool (by simp_all)),Gd⟩) λh1=>⟨sE (Af iBool (by simp_all)),Gd⟩) λh2=>⟨sE (Af iBool (by simp_all)),Gd⟩) λh3=>⟨sE (Af iBool (by simp_all)),Gd⟩) λh4=>⟨sE (Af iBool (by simp_all)),Gd⟩⟩
 ·obtain⟨k1,k2,k3,k4,k5,k6,k7,k8,k9⟩:=h;have no:∀{i:Int},kind≠i->(kind==i)=true->False:=λh e=>h (eq_of_beq e);exact⟨rfl,ky rfl,rfl,ky rfl,VAsk.mk (p:=vInt 0) (b:=false) rfl (ky rfl) (by simp[Nd.kind,k8,k9,mput,keyB,z1k]<;>rfl) (z00 (λh=>(no k3 h).elim) λ_=>z00 (λh=>(no k4 h).elim) λ_=>z00 (λh=>(no k1 h).elim) λ_=>z00 (λh=>(no k2 h).elim) λ_=>z00 (λh=>(no k5 h).elim) λ_=>z00 (λh=>(no k6 h).elim) λ_=>z00 (λh=>(no k7 h).elim) λ_=>z00 (λh=>(no k8 h).elim) λ_=>z00 (λh4=>z00 (λh3=>z00 (λh2=>z00 (λh1=>⟨sE (Af iBool (by simp_all)),Gd⟩) λh1=>⟨sE (Af iBool (by simp_all)),Gd⟩) λh2=>⟨sE (Af iBool (by simp_all)),Gd⟩) λh3=>⟨sE (Af iBool (by simp_all)),Gd⟩) λh4=>⟨sE (Af iBool (by simp_all)),Gd⟩)⟩
theorem yn6(u:Un)(f:Fl)(st:List Int)(hs:st.length=f.types.length)(x:Nd):SC Tryz.prog 201 [.ptr 3 0,.pv (ndv x)] (ckS u f 3 st) (λk=>k=3) (iBool (y8u f st x).1) (ckS u f 3 (y8u f st x).2):=by
 refine SC.sameR (SC.vc tb { pb:=[103] } [3] Tryz.func201 rfl rfl ?_) λk _ h=>An.2 h;unfold y8u;have hO:=y8j x.op;generalize z3a x.op=q at hO⊢;obtain⟨a,b⟩:=q;dsimp only at hO⊢;have hS:=z50 u f st hs x.outs [b];refine⟨[],hO,sR,Gd,rfl,z00 (λh=>?_) λh=>?_⟩
 ·rw[if_pos h];have hU:=z2v u f st hs x.args [a];refine z00 (λh1=>z00 (λh2=>?_) λh2=>?_) λh1=>?_
  ·rw[show z2y x.op=true by unfold z2y;rw[show decide (x.op≥20)=true from h1,show decide (x.op<=28)=true from h2];rfl,B5];generalize z0w f.types st x.args [a]=c at hU⊢
   cases c
   ·exact⟨[],hU,sR,⟨rfl,Gd,rfl,Gd⟩,rfl,sI,rfl,rfl,Gd⟩
   ·exact⟨[],hU,sR,⟨rfl,Gd,rfl,Gd⟩,rfl,[],hS,sR,Gg,rfl,sI,rfl,rfl,Gd⟩
  ·rw[show z2y x.op=false by unfold z2y;rw[show decide (x.op≥20)=true from h1,show decide (x.op<=28)=false from h2];rfl,Cz];exact⟨sI,rfl,rfl,Gd⟩
  ·rw[show z2y x.op=false by unfold z2y;rw[show decide (x.op≥20)=false from h1];rfl,Cz];exact⟨sI,rfl,rfl,Gd⟩
 ·rw[if_neg (by rw[show(x.kind==3)=false from h];decide)];have hU:=z2v u f st hs x.args [a,a];have hL:=y8o x.op;refine⟨[],hL,sR,Gd,rfl,z00 (λh1=>z00 (λh2=>?_) λh2=>?_) λh1=>?_⟩
  ·rw[show decide (z4k x.op > 0)=true from h1,show decide (x.op<=17)=true from h2,B5,B5]
   cases hc:z0w f.types st x.args [a,a]
   ·rw[hc]at hU;exact⟨[],hU,sR,⟨rfl,Gd,rfl,Gd⟩,rfl,sI,rfl,rfl,Gd⟩
   ·rw[hc]at hU;obtain⟨v,w,e0,e1,e2,e3,e4⟩:=yw0 hc;have hi0:(x.args.map eInt)[0]?=some [vInt v]:=by rw[e0];rfl
    have hi1:(x.args.map eInt)[1]?=some [vInt w]:=by rw[e0];rfl
    rw[show x.args.getD 0 0=v by rw[e0];rfl,show x.args.getD 1 0=w by rw[e0];rfl,B5];refine⟨[],hU,sR,⟨rfl,Gd,rfl,Gd⟩,rfl,hi0,rfl,z02 (f:=eInt) (z3q e2),e1,hi1,rfl,z02 (f:=eInt) (z3q e4),e3,z00 (λh3=>?_) λh3=>?_⟩
    ·rw[show(f.types.getD v.toNat 0==f.types.getD w.toNat 0)=true from h3];exact⟨[],hS,sR,Gg,rfl,sI,rfl,rfl,Gd⟩
    ·rw[show(f.types.getD v.toNat 0==f.types.getD w.toNat 0)=false from h3];exact⟨sI,rfl,rfl,Gd⟩
  ·rw[show decide (z4k x.op > 0)=true from h1,show decide (x.op<=17)=false from h2];exact⟨sI,rfl,rfl,Gd⟩
  ·rw[show decide (z4k x.op > 0)=false from h1];exact⟨sI,rfl,rfl,Gd⟩
theorem sc_shEnd(u:Un)(f:Fl)(st:List Int)(hs:st.length=f.types.length)(x:Nd)(wh:Wh):SC Tryz.prog 173 [.ptr 3 0,.pv (ndv x),.pv (whv wh)] (ckS u f 3 st) (λk=>k=3) (iBool (y8r f st x wh)) (ckS u f 3 st):=by
 refine SC.sameR (SC.vc tb { pb:=[104,105] } [3] Tryz.func173 rfl rfl ?_) λk _ h=>An.2 h;unfold y8r;have hl:(x.outs.map eInt).length=x.outs.length:=A8 _;generalize hZ:((x.outs.length:Int)==0)=z;have hZ':(((x.outs.map eInt).length:Int)==0)=z:=by rw[hl];exact hZ
 rw[<- hZ'];have hY:=z2v u f st hs x.args wh.Yield;have hN:=z2v u f st hs x.args wh.Next;have hL:=z2v u f st hs x.args wh.Left;have hT:=z2v u f st hs x.args [f.ty];refine z00 (λh12=>?_) λh12=>z00 (λh13=>?_) λh13=>z00 (λh14=>?_) λh14=>?_
 ·rw[if_pos h12];refine z00 (λh1=>?_) λh1=>?_
  ·rw[show(((x.outs.map eInt).length:Int)==0)=true from h1,B5];refine z00 (λh2=>?_) λh2=>?_
   ·rw[show wh.If=true from h2,B5];exact⟨[],hY,sR,⟨rfl,Gd,rfl,Gd⟩,rfl,sI,rfl,rfl,Gd⟩
   ·rw[show wh.If=false from h2];exact⟨sI,rfl,rfl,Gd⟩
  ·rw[show(((x.outs.map eInt).length:Int)==0)=false from h1];exact⟨sI,rfl,rfl,Gd⟩
 ·rw[if_neg (by rw[show(x.kind==12)=false from h12];decide),if_pos h13];refine z00 (λh1=>?_) λh1=>?_
  ·rw[show(((x.outs.map eInt).length:Int)==0)=true from h1,B5];refine z00 (λh2=>?_) λh2=>?_
   ·rw[show wh.Loop=true from h2,B5];exact⟨[],hN,sR,⟨rfl,Gd,rfl,Gd⟩,rfl,sI,rfl,rfl,Gd⟩
   ·rw[show wh.Loop=false from h2];exact⟨sI,rfl,rfl,Gd⟩
  ·rw[show(((x.outs.map eInt).length:Int)==0)=false from h1];exact⟨sI,rfl,rfl,Gd⟩
 ·rw[if_neg (by rw[show(x.kind==12)=false from h12];decide),if_neg (by rw[show(x.kind==13)=false from h13];decide),if_pos h14];refine z00 (λh1=>?_) λh1=>?_
  ·rw[show(((x.outs.map eInt).length:Int)==0)=true from h1,B5];refine z00 (λh2=>?_) λh2=>?_
   ·rw[show wh.Loop=true from h2,B5];exact⟨[],hL,sR,⟨rfl,Gd,rfl,Gd⟩,rfl,sI,rfl,rfl,Gd⟩
   ·rw[show wh.Loop=false from h2];exact⟨sI,rfl,rfl,Gd⟩
  ·rw[show(((x.outs.map eInt).length:Int)==0)=false from h1];exact⟨sI,rfl,rfl,Gd⟩
 ·rw[if_neg (by rw[show(x.kind==12)=false from h12];decide),if_neg (by rw[show(x.kind==13)=false from h13];decide),if_neg (by rw[show(x.kind==14)=false from h14];decide)];refine z00 (λh1=>?_) λh1=>?_
  ·rw[show(((x.outs.map eInt).length:Int)==0)=true from h1,B5];exact⟨[],hT,sR,⟨rfl,Gd,rfl,Gd⟩,rfl,sI,rfl,rfl,Gd⟩
  ·rw[show(((x.outs.map eInt).length:Int)==0)=false from h1];exact⟨sI,rfl,rfl,Gd⟩
theorem ye9(u:Un)(f:Fl)(st:List Int)(hs:st.length=f.types.length)(hg:∀g∈u.flows,0<=g.params/\g.params<=g.types.length)(x:Nd):SC Tryz.prog 174 [.ptr 3 0,.pv (ndv x)] (ckS u f 3 st) (λk=>k=3) (iBool (z2j u f st x).1) (ckS u f 3 (z2j u f st x).2):=by
 refine SC.sameR (SC.vc tb {} [3] Tryz.func174 rfl rfl ?_) λk _ h=>An.2 h;obtain⟨kind,op,n,name,args,outs,params,kids⟩:=x;rcases(show kind=1∨kind=2∨kind=3∨kind=4∨kind=5∨kind=6∨kind=8∨kind=9∨kind=7∨(kind≠1/\kind≠2/\kind≠3/\kind≠4/\kind≠5/\kind≠6/\kind≠8/\kind≠9/\kind≠7) by omega)with rfl|rfl|rfl|rfl|rfl|rfl|rfl|rfl|rfl|h
 ·have e:z2j u f st (.mk 1 op n name args outs params kids)=andP (z0w f.types st args []) st (z1o f.types st outs [1]):=rfl;rw[e];have h1:=z2v u f st hs args [];generalize z0w f.types st args []=b at h1⊢
  cases b
  ·exact⟨[],h1,SubA.same (SubA.same (SubA.cons sN SubA.nil)),⟨rfl,Gd,rfl,Gd⟩,rfl,sI,rfl,rfl,Gd⟩
  ·exact⟨[],h1,SubA.same (SubA.same (SubA.cons sN SubA.nil)),⟨rfl,Gd,rfl,Gd⟩,rfl,[],z50 u f st hs outs [1],sR,Gg,rfl,sI,rfl,rfl,Gd⟩
 ·have e:z2j u f st (.mk 2 op n name args outs params kids)=andP ((n==0||n==1)&&z0w f.types st args []) st (z1o f.types st outs [2]):=rfl;rw[e];have h1:=z2v u f st hs args [];generalize z0w f.types st args []=b at h1⊢;rcases(show n=0∨n=1∨((n==0)=false/\(n==1)=false) by simp;omega)with rfl|rfl|⟨h2,h3⟩
  ·cases b
   ·exact⟨[],h1,SubA.same (SubA.same (SubA.cons sN SubA.nil)),⟨rfl,Gd,rfl,Gd⟩,rfl,sI,rfl,rfl,Gd⟩
   ·exact⟨[],h1,SubA.same (SubA.same (SubA.cons sN SubA.nil)),⟨rfl,Gd,rfl,Gd⟩,rfl,[],z50 u f st hs outs [2],sR,Gg,rfl,sI,rfl,rfl,Gd⟩
  ·cases b
   ·exact⟨[],h1,SubA.same (SubA.same (SubA.cons sN SubA.nil)),⟨rfl,Gd,rfl,Gd⟩,rfl,sI,rfl,rfl,Gd⟩
   ·exact⟨[],h1,SubA.same (SubA.same (SubA.cons sN SubA.nil)),⟨rfl,Gd,rfl,Gd⟩,rfl,[],z50 u f st hs outs [2],sR,Gg,rfl,sI,rfl,rfl,Gd⟩
  ·rw[show((n==0||n==1)&&b)=false by rw[h2,h3];rfl];refine z00 (λh=>absurd (h.symm.trans h2) dC0) λ_=>z00 (λh=>absurd (h.symm.trans h3) dC0) λ_=>?_;exact⟨sI,rfl,rfl,Gd⟩
 ·exact⟨[],yn6 u f st hs (.mk 3 op n name args outs params kids),sR,Gg,rfl,sI,rfl,rfl,Gd⟩
 ·exact⟨[],yn6 u f st hs (.mk 4 op n name args outs params kids),sR,Gg,rfl,sI,rfl,rfl,Gd⟩
 ·have e:z2j u f st (.mk 5 op n name args outs params kids)=andP (decide (z0h name u.arrays 0≥0)&&z0w f.types st args [1]) st (z1o f.types st outs [1]):=rfl;rw[e];have h0:=yn5 u name;have h1:=z2v u f st hs args [1];generalize z0w f.types st args [1]=b at h1⊢;generalize decide (z0h name u.arrays 0≥0)=c at h0⊢
  cases c
  ·exact⟨[],h0,sR,Gd,rfl,sI,rfl,rfl,Gd⟩
  ·cases b
   ·exact⟨[],h0,sR,Gd,rfl,[],h1,sR,⟨rfl,Gd,rfl,Gd⟩,rfl,sI,rfl,rfl,Gd⟩
   ·exact⟨[],h0,sR,Gd,rfl,[],h1,sR,⟨rfl,Gd,rfl,Gd⟩,rfl,[],z50 u f st hs outs [1],sR,Gg,rfl,sI,rfl,rfl,Gd⟩
 ·have e:z2j u f st (.mk 6 op n name args outs params kids)=andP (decide (z0h name u.arrays 0≥0)&&z0w f.types st args [1,1]) st (z1o f.types st outs []):=rfl;rw[e];have h0:=yn5 u name;have h1:=z2v u f st hs args [1,1];generalize z0w f.types st args [1,1]=b at h1⊢;generalize decide (z0h name u.arrays 0≥0)=c at h0⊢
  cases c
  ·exact⟨[],h0,sR,Gd,rfl,sI,rfl,rfl,Gd⟩
  ·cases b
   ·exact⟨[],h0,sR,Gd,rfl,[],h1,sR,⟨rfl,Gd,rfl,Gd⟩,rfl,sI,rfl,rfl,Gd⟩
   ·exact⟨[],h0,sR,Gd,rfl,[],h1,sR,⟨rfl,Gd,rfl,Gd⟩,rfl,[],z50 u f st hs outs [],SubA.same (SubA.same (SubA.cons sN SubA.nil)),Gg,rfl,sI,rfl,rfl,Gd⟩
 ·have e:z2j u f st (.mk 8 op n name args outs params kids)=andP (z0w f.types st args []) st (z1o f.types st outs [1]):=rfl;rw[e];have h1:=z2v u f st hs args [];generalize z0w f.types st args []=b at h1⊢
  cases b
  ·exact⟨[],h1,SubA.same (SubA.same (SubA.cons sN SubA.nil)),⟨rfl,Gd,rfl,Gd⟩,rfl,sI,rfl,rfl,Gd⟩
  ·exact⟨[],h1,SubA.same (SubA.same (SubA.cons sN SubA.nil)),⟨rfl,Gd,rfl,Gd⟩,rfl,[],z50 u f st hs outs [1],sR,Gg,rfl,sI,rfl,rfl,Gd⟩
 ·have e:z2j u f st (.mk 9 op n name args outs params kids)=andP (z0w f.types st args [1]) st (z1o f.types st outs []):=rfl;rw[e];have h1:=z2v u f st hs args [1];generalize z0w f.types st args [1]=b at h1⊢
  cases b
  ·exact⟨[],h1,sR,⟨rfl,Gd,rfl,Gd⟩,rfl,sI,rfl,rfl,Gd⟩
  ·exact⟨[],h1,sR,⟨rfl,Gd,rfl,Gd⟩,rfl,[],z50 u f st hs outs [],SubA.same (SubA.same (SubA.cons sN SubA.nil)),Gg,rfl,sI,rfl,rfl,Gd⟩
 ·have e:z2j u f st (.mk 7 op n name args outs params kids)=zv7 u f st (.mk 7 op n name args outs params kids):=rfl;rw[e];refine⟨[],ze6 u name,sR,Gd,rfl,z00 (λhc=>?_) λhc=>?_⟩
  ·rw[show zv7 u f st (.mk 7 op n name args outs params kids)=(false,st)from if_pos (Am hc)];exact⟨sI,rfl,rfl,Gd⟩
  ·have hl:¬z05 name u.flows 0<0:=Ak hc;have hk0:z05 name u.flows 0≥0:=by omega
   obtain⟨g,hgk,_⟩:=ze0 hk0;obtain⟨hgp0,hgpl⟩:=hg g (Ae hgk);have e2:zv7 u f st (.mk 7 op n name args outs params kids)=andP (z0w f.types st args (g.types.take g.params.toNat)) st (z1o f.types st outs [g.ty]):=by
    show(if z05 name u.flows 0<0 then _ else match u.flows[(z05 name u.flows 0).toNat]? with|some g=>_|none=>_)=_;rw[if_neg hl,hgk];rfl
   rw[e2];have h1:=z2v u f st hs args (g.types.take g.params.toNat);generalize z0w f.types st args (g.types.take g.params.toNat)=b at h1⊢;have hi:=z02 (f:=Fl.enc) hgk;have hkn:(((z05 name u.flows 0).toNat:Nat):Int)=z05 name u.flows 0:=by omega
   have hpn:((g.params.toNat:Nat):Int)=g.params:=by omega
   have hle:0<=g.params.toNat:=Ac _;have hge:g.params.toNat<=(g.types.map eInt).length:=by simp;omega
   cases b
   ·exact⟨hi,hkn.symm,_,hpn.symm,hle,hge,zk8,[],h1,SubA.same (SubA.same (SubA.cons (sP (by simp only[ints,Ef];exact PSub.refl _)) SubA.nil)),⟨rfl,Gd,rfl,Gd⟩,rfl,sI,rfl,rfl,Gd⟩
   ·exact⟨hi,hkn.symm,_,hpn.symm,hle,hge,zk8,[],h1,SubA.same (SubA.same (SubA.cons (sP (by simp only[ints,Ef];exact PSub.refl _)) SubA.nil)),⟨rfl,Gd,rfl,Gd⟩,rfl,[],z50 u f st hs outs [g.ty],sR,Gg,rfl,sI,rfl,rfl,Gd⟩
 ·obtain⟨h1,h2,h3,h4,h5,h6,h8,h9,h7⟩:=h;rw[show z2j u f st (.mk kind op n name args outs params kids)=(false,st) by unfold z2j;simp[Nd.kind,h1,h2,h3,h4,h5,h6,h7,h8,h9]];have no:∀{i:Int},kind≠i->(kind==i)=true->False:=λh e=>h (eq_of_beq e);exact z00 (λh=>(no h1 h).elim) λ_=>z00 (λh=>(no h2 h).elim) λ_=>z00 (λh=>(no h3 h).elim) λ_=>z00 (λh=>(no h4 h).elim) λ_=>z00 (λh=>(no h5 h).elim) λ_=>z00 (λh=>(no h6 h).elim) λ_=>z00 (λh=>(no h8 h).elim) λ_=>z00 (λh=>(no h9 h).elim) λ_=>z00 (λh=>(no h7 h).elim) λ_=>⟨sI,rfl,rfl,Gd⟩
theorem zy4(f:Fl){x:Nd}(st:List Int){c:Bool}(h:((x.outs.length:Int)==0 || !z08 x)=c):z4h f x st=andP c st (z1o f.types st x.outs (List.replicate x.outs.length 0)):=by rw[z4h,h]
theorem ye7(u:Un)(f:Fl)(st:List Int)(hs:st.length=f.types.length)(x:Nd)(ka kb:List Nd)(hkids:x.kids=[ka,kb])(wh:Wh)(deep:Int)(hbo:x.outs.length<=34359738368)(ih:∀q∈x.kids,∀(w:Wh)(st:List Int),st.length=f.types.length->SC Tryz.prog 72 [.ptr 3 0,.pv (z1p q),.pv (whv w),iInt deep] (ckS u f 3 st) (λk=>k=3) (iBool (z22 u f deep w st q).1) (ckS u f 3 (z22 u f deep w st q).2)):SC Tryz.prog 170 [.ptr 3 0,.pv (ndv x),.pv (whv wh),iInt deep] (ckS u f 3 st) (λk=>k=3) (iBool (if z0w f.types st x.args [2]then andQ (z22 u f deep ⟨true,wh.Loop,r8of f.types x.outs,wh.Next,wh.Left⟩ st ka) (λs1=>andQ (z22 u f deep ⟨true,wh.Loop,r8of f.types x.outs,wh.Next,wh.Left⟩ s1 kb) λs2=>z4h f x s2)else(false,st)).1) (ckS u f 3 (if z0w f.types st x.args [2]then andQ (z22 u f deep ⟨true,wh.Loop,r8of f.types x.outs,wh.Next,wh.Left⟩ st ka) (λs1=>andQ (z22 u f deep ⟨true,wh.Loop,r8of f.types x.outs,wh.Next,wh.Left⟩ s1 kb) λs2=>z4h f x s2)else(false,st)).2):=by
 refine SC.sameR (SC.vc tb {} [3] Tryz.func170 rfl rfl ?_) λk _ h=>An.2 h;have hi0:(x.kids.map eKid)[0]?=some [z1p ka]:=by rw[hkids];rfl
 have hi1:(x.kids.map eKid)[1]?=some [z1p kb]:=by rw[hkids];rfl
 have hm0:ka∈x.kids:=by rw[hkids];exact .head _
 have hm1:kb∈x.kids:=by rw[hkids];exact .tail _ (.head _)
 have hT:=zr9 u f st hs x.outs hbo;have h1:=z2v u f st hs x.args [2];have h2:=ih ka hm0 ⟨true,wh.Loop,r8of f.types x.outs,wh.Next,wh.Left⟩ st hs;have l2:=(z9k u f deep ⟨true,wh.Loop,r8of f.types x.outs,wh.Next,wh.Left⟩ st ka).trans hs;have hC:=zj2 x;generalize z0w f.types st x.args [2]=b1 at h1⊢;generalize z22 u f deep ⟨true,wh.Loop,r8of f.types x.outs,wh.Next,wh.Left⟩ st ka=R2 at h2 l2⊢;obtain⟨b2,st2⟩:=R2;have h3:=ih kb hm1 ⟨true,wh.Loop,r8of f.types x.outs,wh.Next,wh.Left⟩ st2 l2;have l3:=(z9k u f deep ⟨true,wh.Loop,r8of f.types x.outs,wh.Next,wh.Left⟩ st2 kb).trans l2
 cases b1
 ·exact⟨[],hT,sR,⟨rfl,by decide,rfl,Gd⟩,rfl,[],h1,sR,⟨rfl,Gd,rfl,Gd⟩,rfl,sI,rfl,rfl,Gd⟩
 cases b2
 ·exact⟨[],hT,sR,⟨rfl,by decide,rfl,Gd⟩,rfl,[],h1,sR,⟨rfl,Gd,rfl,Gd⟩,rfl,hi0,rfl,[],h2,sR,Gg,rfl,sI,rfl,rfl,Gd⟩
 rw[show andQ (true,st2) (λs1=>andQ (z22 u f deep ⟨true,wh.Loop,r8of f.types x.outs,wh.Next,wh.Left⟩ s1 kb) λs2=>z4h f x s2)=andQ (z22 u f deep ⟨true,wh.Loop,r8of f.types x.outs,wh.Next,wh.Left⟩ st2 kb) (λs2=>z4h f x s2)from rfl];generalize z22 u f deep ⟨true,wh.Loop,r8of f.types x.outs,wh.Next,wh.Left⟩ st2 kb=R3 at h3 l3⊢;obtain⟨b3,st3⟩:=R3
 cases b3
 ·exact⟨[],hT,sR,⟨rfl,by decide,rfl,Gd⟩,rfl,[],h1,sR,⟨rfl,Gd,rfl,Gd⟩,rfl,hi0,rfl,[],h2,sR,Gg,rfl,hi1,rfl,[],h3,sR,Gg,rfl,sI,rfl,rfl,Gd⟩
 rw[show andQ (true,st3) (λs2=>z4h f x s2)=z4h f x st3 from rfl];have hA:=y62 u f st3 l3 x.outs hbo;refine⟨[],hT,sR,⟨rfl,by decide,rfl,Gd⟩,rfl,[],h1,sR,⟨rfl,Gd,rfl,Gd⟩,rfl,hi0,rfl,[],h2,sR,Gg,rfl,hi1,rfl,[],h3,sR,Gg,rfl,z00 (λh=>?_) λh=>?_⟩
 ·rw[zy4 f st3 (c:=true) (by rw[A8]at h;rw[h,Bb])];exact⟨[],hA,sR,Gg,rfl,sI,rfl,rfl,Gd⟩
 ·rw[A8]at h;have hq:((x.outs.length:Int)==0 || !z08 x) = !z08 x:=by rw[h,Cd]
  rw[zy4 f st3 hq];generalize z08 x=c at hC⊢
  cases c
  ·exact⟨[],hC,sR,Gd,rfl,[],hA,sR,Gg,rfl,sI,rfl,rfl,Gd⟩
  ·exact⟨[],hC,sR,Gd,rfl,sI,rfl,rfl,Gd⟩
theorem j2r(u:Un)(f:Fl)(st:List Int)(hs:st.length=f.types.length)(x:Nd)(ka:List Nd)(hkids:x.kids=[ka])(deep:Int)(hbo:x.outs.length<=34359738368)(hbp:x.params.length<=34359738368)(ih:∀q∈x.kids,∀(w:Wh)(st:List Int),st.length=f.types.length->SC Tryz.prog 72 [.ptr 3 0,.pv (z1p q),.pv (whv w),iInt deep] (ckS u f 3 st) (λk=>k=3) (iBool (z22 u f deep w st q).1) (ckS u f 3 (z22 u f deep w st q).2)):SC Tryz.prog 171 [.ptr 3 0,.pv (ndv x),iInt deep] (ckS u f 3 st) (λk=>k=3) (iBool (if z0w f.types st x.args (r8of f.types x.params)then andQ (z1o f.types st x.params (List.replicate x.params.length 0)) (λs1=>andQ (z22 u f deep ⟨false,true,[],r8of f.types x.params,r8of f.types x.outs⟩ s1 ka) λs2=>z4h f x (z3l s2 x.params))else(false,st)).1) (ckS u f 3 (if z0w f.types st x.args (r8of f.types x.params)then andQ (z1o f.types st x.params (List.replicate x.params.length 0)) (λs1=>andQ (z22 u f deep ⟨false,true,[],r8of f.types x.params,r8of f.types x.outs⟩ s1 ka) λs2=>z4h f x (z3l s2 x.params))else(false,st)).2):=by
 refine SC.sameR (SC.vc tb {} [3] Tryz.func171 rfl rfl ?_) λk _ h=>An.2 h;have hi0:(x.kids.map eKid)[0]?=some [z1p ka]:=by rw[hkids];rfl
 have hm0:ka∈x.kids:=by rw[hkids];exact .head _
 have hT:=zr9 u f st hs x.params hbp;have hT2:=zr9 u f st hs x.outs hbo;have h1:=z2v u f st hs x.args (r8of f.types x.params);have hA1:=y62 u f st hs x.params hbp;have l1:=(z2c f.types st x.params (List.replicate x.params.length 0)).trans hs;have hC:=zj2 x;generalize z0w f.types st x.args (r8of f.types x.params)=b1 at h1⊢
 cases b1
 ·exact⟨[],hT,sR,⟨rfl,by decide,rfl,Gd⟩,rfl,[],hT2,sR,⟨rfl,by decide,rfl,Gd⟩,rfl,[],h1,sR,⟨rfl,Gd,rfl,Gd⟩,rfl,sI,rfl,rfl,Gd⟩
 have hpin:(z1o f.types st x.params (List.replicate x.params.length 0)).1=true->∀v∈x.params,0<=v/\v<f.types.length:=λh=>y1x h;generalize z1o f.types st x.params (List.replicate x.params.length 0)=R2 at hA1 l1 hpin⊢;obtain⟨b2,st1⟩:=R2
 cases b2
 ·exact⟨[],hT,sR,⟨rfl,by decide,rfl,Gd⟩,rfl,[],hT2,sR,⟨rfl,by decide,rfl,Gd⟩,rfl,[],h1,sR,⟨rfl,Gd,rfl,Gd⟩,rfl,[],hA1,sR,Gg,rfl,sI,rfl,rfl,Gd⟩
 have hpin:=hpin rfl;have h2:=ih ka hm0 ⟨false,true,[],r8of f.types x.params,r8of f.types x.outs⟩ st1 l1;have l2:=(z9k u f deep ⟨false,true,[],r8of f.types x.params,r8of f.types x.outs⟩ st1 ka).trans l1;rw[show andQ (true,st1) (λs1=>andQ (z22 u f deep ⟨false,true,[],r8of f.types x.params,r8of f.types x.outs⟩ s1 ka) λs2=>z4h f x (z3l s2 x.params))=andQ (z22 u f deep ⟨false,true,[],r8of f.types x.params,r8of f.types x.outs⟩ st1 ka) (λs2=>z4h f x (z3l s2 x.params))from rfl];generalize z22 u f deep ⟨false,true,[],r8of f.types x.params,r8of f.types x.outs⟩ st1 ka=R3 at h2 l2⊢;obtain⟨b3,st2⟩:=R3
 cases b3
 ·exact⟨[],hT,sR,⟨rfl,by decide,rfl,Gd⟩,rfl,[],hT2,sR,⟨rfl,by decide,rfl,Gd⟩,rfl,[],h1,sR,⟨rfl,Gd,rfl,Gd⟩,rfl,[],hA1,sR,Gg,rfl,hi0,rfl,[],h2,SubA.same (SubA.same (SubA.cons (sP (z0g _)) sR)),Gg,rfl,sI,rfl,rfl,Gd⟩
 have hH:=y8i u f st2 l2 x.params hpin;have l3:=(z4s x.params st2).trans l2;rw[show andQ (true,st2) (λs2=>z4h f x (z3l s2 x.params))=z4h f x (z3l st2 x.params)from rfl];generalize z3l st2 x.params=st3 at hH l3⊢;have hA:=y62 u f st3 l3 x.outs hbo;refine⟨[],hT,sR,⟨rfl,by decide,rfl,Gd⟩,rfl,[],hT2,sR,⟨rfl,by decide,rfl,Gd⟩,rfl,[],h1,sR,⟨rfl,Gd,rfl,Gd⟩,rfl,[],hA1,sR,Gg,rfl,hi0,rfl,[],h2,SubA.same (SubA.same (SubA.cons (sP (z0g _)) sR)),Gg,rfl,[],hH,sR,Gg,rfl,z00 (λh=>?_) λh=>?_⟩
 ·rw[zy4 f st3 (c:=true) (by rw[A8]at h;rw[h,Bb])];exact⟨[],hA,sR,Gg,rfl,sI,rfl,rfl,Gd⟩
 ·rw[A8]at h;have hq:((x.outs.length:Int)==0 || !z08 x) = !z08 x:=by rw[h,Cd]
  rw[zy4 f st3 hq];generalize z08 x=c at hC⊢
  cases c
  ·exact⟨[],hC,sR,Gd,rfl,[],hA,sR,Gg,rfl,sI,rfl,rfl,Gd⟩
  ·exact⟨[],hC,sR,Gd,rfl,sI,rfl,rfl,Gd⟩
theorem j2s(u:Un)(f:Fl)(hg:∀g∈u.flows,0<=g.params/\g.params<=g.types.length)(x:Nd)(deep:Int)(hd:0<=deep/\deep<=100)(wh:Wh)(st:List Int)(hs:st.length=f.types.length)(hbo:x.outs.length<=34359738368)(hbp:x.params.length<=34359738368)(ih:∀q∈x.kids,∀(w:Wh)(st:List Int),st.length=f.types.length->SC Tryz.prog 72 [.ptr 3 0,.pv (z1p q),.pv (whv w),iInt (deep+1)] (ckS u f 3 st) (λk=>k=3) (iBool (z22 u f (deep+1) w st q).1) (ckS u f 3 (z22 u f (deep+1) w st q).2)) :
 SC Tryz.prog 125 [.ptr 3 0,.pv (ndv x),.pv (whv wh),iInt deep] (ckS u f 3 st) (λk=>k=3) (iBool (z5y u f deep wh st x).1) (ckS u f 3 (z5y u f deep wh st x).2):=by
 refine SC.sameR (SC.vc tb { pb:=[105,106] } [3] Tryz.func125 rfl rfl ?_) λk _ h=>An.2 h;have hB:=j2l x
 cases hb:z1n x
 ·rw[hb]at hB;rw[zj5 u f deep wh st hb];exact⟨[],hB,sR,Gd,rfl,sI,rfl,rfl,Gd⟩
 rw[hb]at hB;refine⟨[],hB,sR,Gd,rfl,z00 (λh10=>?_) λh10=>?_⟩
 ·have hk:x.kind=10:=eq_of_beq h10;obtain⟨a,b,hkids⟩:=z3v hb hk;rw[y1w u f deep wh st hb hk hkids];have hC:=ye7 u f st hs x a b hkids wh (deep+1) hbo ih;generalize(if z0w f.types st x.args [2]then andQ (z22 u f (deep+1) ⟨true,wh.Loop,r8of f.types x.outs,wh.Next,wh.Left⟩ st a) (λs1=>andQ (z22 u f (deep+1) ⟨true,wh.Loop,r8of f.types x.outs,wh.Next,wh.Left⟩ s1 b) λs2=>z4h f x s2)else(false,st))=r at hC⊢;exact⟨z01 rfl oM0,[],hC,sR,Gg,rfl,sI,rfl,rfl,Gd⟩
 refine z00 (λh11=>?_) λh11=>?_
 ·have hk:x.kind=11:=eq_of_beq h11;obtain⟨a,hkids⟩:=z25 hb hk;rw[zj6 u f deep wh st hb hk hkids];have hC:=j2r u f st hs x a hkids (deep+1) hbo hbp ih;generalize(if z0w f.types st x.args (r8of f.types x.params)then andQ (z1o f.types st x.params (List.replicate x.params.length 0)) (λs1=>andQ (z22 u f (deep+1) ⟨false,true,[],r8of f.types x.params,r8of f.types x.outs⟩ s1 a) λs2=>z4h f x (z3l s2 x.params))else(false,st))=r at hC⊢;exact⟨z01 rfl oM0,[],hC,sR,Gg,rfl,sI,rfl,rfl,Gd⟩
 have hE:=j2m x
 cases he:z0v x.kind
 ·rw[he]at hE;rw[z9l u f deep wh st hb h10 h11 he];have hC:=ye9 u f st hs hg x;generalize z2j u f st x=r at hC⊢;exact⟨[],hE,sR,Gd,rfl,[],hC,sR,Gg,rfl,sI,rfl,rfl,Gd⟩
 ·rw[he]at hE;rw[zs2 u f deep wh st hb h10 h11 he];exact⟨[],hE,sR,Gd,rfl,[],sc_shEnd u f st hs x wh,sR,Gg,rfl,sI,rfl,rfl,Gd⟩
theorem zg5(st:List Int)(l:List Nd)(x:Nd):z4g st (l++[x])=z3l (z4g st l) x.outs:=by simp[z4g]
theorem y63(N:Nat):∀(u:Un)(f:Fl)(hg:∀g∈u.flows,0<=g.params/\g.params<=g.types.length)(l:List Nd)(deep:Int)(hd:0<=deep/\deep<=101)(wh:Wh)(st:List Int)(hs:st.length=f.types.length)(hb:lsW l<=34359738368),SizeOf.sizeOf l<N->SC Tryz.prog 72 [.ptr 3 0,.pv (z1p l),.pv (whv wh),iInt deep] (ckS u f 3 st) (λk=>k=3) (iBool (z22 u f deep wh st l).1) (ckS u f 3 (z22 u f deep wh st l).2):=by
 induction N with
 |zero=>intro u f hg l deep hd wh st hs hb hN;exact absurd hN (Al _)
 |succ N ih =>
  intro u f hg l deep hd wh st hs hb hN;refine SC.sameR (SC.vc tb { pb:=[106,110,112],gh:=[(0,[.len 1])] } [3] Tryz.func72 rfl rfl ?_) λk _ h=>An.2 h;intro hl;simp only[A8]at hl;have hl:l.length<=9223372036854775807:=hl;have ll:(l.map Nd.enc).length=l.length:=A8 _;unfold z22;refine⟨Nat×List Int,λq=>[(15,iInt ((q.1:Nat):Int))],λq=>ckS u f 3 q.2,λq=>l.length-q.1,λq=>q.1<=l.length/\q.2.length=f.types.length/\shGo u f deep wh st l=shGo u f deep wh q.2 (l.drop q.1),[],(0,st),⟨Ac _,hs,rfl⟩,Ge,Gf,?_⟩;rintro⟨i,s⟩ ⟨i1,i2,i3⟩;dsimp only at i1 i2 i3;refine z00 (λhc=>?_) λhc=>?_
  ·have hlt:i<l.length:=z0x (f:=Nd.enc) rfl hc;obtain⟨x,x1,x2,x3,x4⟩:=z0o hlt;have hw:=y53 x4;rw[z86]at hw;rw[x3,shGo]at i3;refine⟨z06 x1,rfl,z00 (λh1=>?_) λh1=>?_⟩
   ·have h1:deep > 100:=Am h1;rw[if_pos h1]at i3;rw[i3];exact⟨sI,rfl,rfl,Gd⟩
   have h1:¬deep > 100:=Ak h1;rw[if_neg h1]at i3;have hX:=j2s u f hg x deep ⟨hd.1,by omega⟩ wh s i2 oM0 oM0 λq hq w st hs=>ih u f hg q (deep+1) ⟨by omega,by omega⟩ w st hs (by have:=z6q hq;omega) (Bc (z9t x4 rfl hq) (C1 hN));have hXl:=(zn4 u f x deep wh s).trans i2;generalize z5y u f deep wh s x=r at hX hXl i3;obtain⟨b,s2⟩:=r;dsimp only at hX hXl
   cases b
   ·rw[show andQ (false,s2) (λs1=>if (z08 x != (l.drop (i+1)).isEmpty)=true then(false,s1)else shGo u f deep wh s1 (l.drop (i+1)))=(false,s2)from rfl]at i3;rw[i3];exact⟨[],hX,sR,Gg,rfl,sI,rfl,rfl,Gd⟩
   rw[show andQ (true,s2) (λs1=>if (z08 x != (l.drop (i+1)).isEmpty)=true then(false,s1)else shGo u f deep wh s1 (l.drop (i+1)))=(if (z08 x != (l.drop (i+1)).isEmpty)=true then(false,s2)else shGo u f deep wh s2 (l.drop (i+1)))from rfl]at i3;have hem:(l.drop (i+1)).isEmpty=((i:Int)==((l.map Nd.enc).length:Int)-1):=by
    rw[Ck,Fs,List.drop_eq_nil_iff,Av,ll];omega
   rw[hem]at i3;refine⟨[],hX,sR,Gg,rfl,[],zj2 x,sR,Gd,rfl,z2x rfl (by rw[ll];omega),z00 (λh2=>?_) λh2=>?_⟩
   ·have h2:(z08 x != ((i:Int)==((l.map Nd.enc).length:Int)-1))=true:=h2;rw[if_pos h2]at i3;rw[i3];exact⟨sI,rfl,rfl,Gd⟩
   ·rw[if_neg (by rw[show(z08 x != ((i:Int)==((l.map Nd.enc).length:Int)-1))=false from h2];decide)]at i3;exact⟨z01 rfl oM0,(i+1,s2),z03 hlt,⟨hlt,hXl,i3⟩,Ge,Gf,rfl,rfl,rfl,rfl⟩
  ·have hge:l.length<=i:=z0y (f:=Nd.enc) rfl hc;have hgo:shGo u f deep wh st l=(true,s):=by rw[i3,Ad hge,shGo]
   have ho:=y8t (u:=u) (f:=f) (deep:=deep) (w:=wh) (l:=l) (st:=st) (by rw[hgo]);rw[hgo,show andQ (true,s) (y8s l)=(decide ((l.length:Int) > 0),z4g s l)from rfl];refine⟨Nat,λj=>[(43,iInt ((j:Nat):Int))],λj=>ckS u f 3 (z4g s (l.take j)),λj=>l.length-j,λj=>j<=l.length,[],0,Ac _,Ge,Gf,?_⟩;intro j hj;refine z00 (λhc=>?_) λhc=>?_
   ·have hlt:j<l.length:=z0x (f:=Nd.enc) rfl hc;obtain⟨x,x1,x2,x3,x4⟩:=z0o hlt;have hH:=y8i u f (z4g s (l.take j)) ((z6v (l.take j) s).trans i2) x.outs (ho x x4);exact⟨z06 x1,rfl,[],hH,sR,Gg,rfl,z01 rfl oM0,j+1,z03 hlt,hlt,Ge,⟨boq (by rw[x2,zg5]),rwq (by rw[x2,zg5]),Gd⟩,rfl,rfl,rfl,rfl⟩
   ·have hge:l.length<=j:=z0y (f:=Nd.enc) rfl hc;rw[At hge];exact⟨sE (by rw[ll]),rfl,rfl,Gd⟩
theorem j2q(u:Un)(f:Fl)(hg:∀g∈u.flows,0<=g.params/\g.params<=g.types.length)(l:List Nd)(deep:Int)(hd:0<=deep/\deep<=101)(wh:Wh)(st:List Int)(hs:st.length=f.types.length)(hb:lsW l<=34359738368):SC Tryz.prog 72 [.ptr 3 0,.pv (z1p l),.pv (whv wh),iInt deep] (ckS u f 3 st) (λk=>k=3) (iBool (z22 u f deep wh st l).1) (ckS u f 3 (z22 u f deep wh st l).2):=y63 _ u f hg l deep hd wh st hs hb (Ab _)
theorem j2n(u:Un)(f:Fl)(hg:∀g∈u.flows,0<=g.params/\g.params<=g.types.length)(hp:0<=f.params/\f.params<=f.types.length)(hb:lsW f.body<=34359738368):SC Tryz.prog 40 [.pv u.enc,.pv (.agg f.enc)] [] (λ_=>False) (iBool (y1v u f)) []:=by
 refine SC.anyR (SC.vc tb { pb:=[102,103],ids:=[(26,4),(28,3)] } [] Tryz.func40 rfl rfl ?_);unfold y1v;have hl:((f.types.map eInt).length:Int)=f.types.length:=by rw[A8]
 refine z00 (λh1=>?_) λh1=>?_
 ·rw[show decide (f.params > 8)=true from h1];exact⟨sI,Gd⟩
 rw[show decide (f.params > 8)=false from h1,Cd];refine z00 (λh2=>?_) λh2=>?_
 ·have h2:decide (((f.types.map eInt).length:Int) > 20000)=true:=h2;rw[hl]at h2;rw[h2];exact⟨sI,Gd⟩
 have h2:decide (((f.types.map eInt).length:Int) > 20000)=false:=h2;rw[hl]at h2;rw[h2,Cd];have hT:=sc_hasIn 71 [] rfl (λt=>!isTy t) f.types λx _=>SC.anyR (sc_flow1 x);generalize(f.types.any λt=>!isTy t)=c at hT⊢
 cases c
 ·have h2':=Ak h2;refine⟨[],hT,SubA.same sFn,Gd,rfl,rfl,VNum.mk (n:=f.types.length) hl oM0 ?_⟩;refine⟨by simp,Nat,λi=>[(31,iInt ((i:Nat):Int))],λi=>ckS u f 3 (zn2 i f.types.length),λi=>f.params.toNat-i,λi=>(i:Int)<=f.params,[],0,by show((0:Nat):Int)<=_;omega,Ge,⟨boq (by simp[y4l,zn2];rfl),rwq (by simp[zn2,eInt];exact .inr rfl),Gd⟩,?_⟩;intro i hi;have hsl:=zv6 (k:=i) (n:=f.types.length) oM0;refine z00 (λhc=>?_) λhc=>?_
  ·have hlt:(i:Int)<f.params:=Am hc;have hss:=j34 (k:=i) (n:=f.types.length) oM0;exact⟨rfl,VIdR.mk (i:=i) (by rw[A8];omega) rfl ⟨i,0,_,rfl,rfl,z02 (f:=eInt) (z3q (show i<(zn2 i f.types.length).length by omega)),by simp[eInt],z01 rfl oM0,i+1,(by show f.params.toNat-(i+1)<f.params.toNat-i;omega),(by show((i+1:Nat):Int)<=f.params;omega),Ge,⟨boq (by rw[<- hss];simp[y4l]),rwq (by rw[<- hss];simp[eInt,By]),Gd⟩,rfl,rfl,rfl,rfl⟩⟩
  ·have hge:¬(i:Int)<f.params:=Ak hc;have hi2:i=f.params.toNat:=by omega
   subst hi2;have hL:=j2q u f hg f.body 1 ⟨by decide,by decide⟩ z39 (zn2 f.params.toNat f.types.length) oM0 hb;exact⟨[],hL,SubA.same (SubA.same (SubA.cons (sP (z0g _)) (SubA.same SubA.nil))),Gf,rfl,sI,Gd⟩
 ·exact⟨[],hT,SubA.same sFn,Gd,rfl,sI,Gd⟩
theorem j2p(u:Un)(hW:z0i u<=34359738368):SC Tryz.prog 39 [.pv u.enc] [] (λ_=>False) (iBool (z8z u)) []:=by
 refine SC.anyR (SC.vc tb {} [] Tryz.func39 rfl rfl ?_);have hw1:u.arrays.length<=z0i u:=by unfold z0i;omega
 have hw2:u.flows.length<=z0i u:=by unfold z0i;omega
 refine⟨Nat×List (Value×PV),λ(k,_)=>[(13,iInt k)],λ(_,es)=>[(109,.map es)],λ(k,_)=>u.arrays.length-k,λ(k,es)=>k<=u.arrays.length/\u.arrays.all zw6=(u.arrays.drop k).all zw6/\zz5 [] u.arrays=zz5 es (u.arrays.drop k)/\Cnt es,[],(0,[]),⟨Ac _,rfl,rfl,Cnt.nil⟩,Ge,Ge,?_⟩;rintro⟨k,es⟩ ⟨hk,hA,hC,hes⟩;refine z00 (λhc=>?_) λhc=>?_
 ·have hlt:=z0x (f:=Ar.enc) rfl hc;obtain⟨a,ha,_,hd,_⟩:=z0o hlt;rw[hd]at hA hC;rw[D8]at hA;obtain⟨n,hn⟩:=hes.find (.string a.name);have bad:zw6 a=false->SubI (iBool false) (iBool (z8z u)):=λh=>sE (by unfold z8z;rw[hA,h];rfl);have hNm:=z7u a.name
  cases hN:z0k a.name with
  |false =>
   rw[hN]at hNm
   exact⟨z02 (f:=Ar.enc) ha,rfl,VAsk.mk (p:=vInt n) (b:=(z1k (.string a.name) es).isSome) rfl hes.1 (E9 hn rfl) ⟨rfl,rfl,hes.1,[],hNm,sR,Gd,rfl,bad (by unfold zw6;rw[hN];rfl),Gd⟩⟩
  |true =>
   rw[hN]at hNm;refine⟨z02 (f:=Ar.enc) ha,rfl,VAsk.mk (p:=vInt n) (b:=(z1k (.string a.name) es).isSome) rfl hes.1 (E9 hn rfl) ⟨rfl,rfl,hes.1,[],hNm,sR,Gd,rfl,z00 (λh1=>⟨bad (by unfold zw6;rw[hN,show decide (a.size<1)=true from h1];rfl),Gd⟩) λh1=>z00 (λh2=>⟨bad (by unfold zw6;rw[hN,show decide (a.size<1)=false from h1,show decide (a.size > 1000)=true from h2];rfl),Gd⟩) λh2=>?_⟩⟩;have good:zw6 a=true:=by unfold zw6;rw[hN,show decide (a.size<1)=false from h1,show decide (a.size > 1000)=false from h2];rfl
   exact⟨z01 rfl oM0,(k+1,bump a.name es),z03 hlt,⟨hlt,by rw[hA,good];rfl,hC,hes.bump _⟩,Ge,⟨mpq (zg9 hn).symm,Gd⟩,rfl,rfl,rfl,rfl⟩
 ·have hge:=z0y (f:=Ar.enc) rfl hc;rw[Ad hge]at hA hC;refine⟨Nat×List (Value×PV),λ(k,_)=>[(40,iInt k)],λ(_,es)=>[(109,.map es)],λ(k,_)=>u.flows.length-k,λ(k,es)=>k<=u.flows.length/\u.flows.all zn3=(u.flows.drop k).all zn3/\y2w (zz5 [] u.arrays) u.flows=y2w es (u.flows.drop k)/\Cnt es,[],(0,es),⟨Ac _,rfl,by rw[hC];rfl,hes⟩,Ge,Ge,?_⟩;rintro⟨k,es⟩ ⟨hk,hF,hC,hes⟩;refine z00 (λhc=>?_) λhc=>?_
  ·have hlt:=z0x (f:=Fl.enc) rfl hc;obtain⟨f,hf,_,hd,hm⟩:=z0o hlt;rw[hd]at hF hC;rw[D8]at hF;obtain⟨n,hn⟩:=hes.find (.string f.name);have bad:zn3 f=false->SubI (iBool false) (iBool (z8z u)):=λh=>sE (by unfold z8z;rw[hA,hF,h];rfl);have hNm:=z7u f.name
   cases hN:z0k f.name with
   |false =>
    rw[hN]at hNm
    exact⟨z02 (f:=Fl.enc) hf,rfl,VAsk.mk (p:=vInt n) (b:=(z1k (.string f.name) es).isSome) rfl hes.1 (E9 hn rfl) ⟨rfl,rfl,hes.1,[],hNm,sR,Gd,rfl,bad (by unfold zn3;rw[hN];rfl),Gd⟩⟩
   |true =>
    rw[hN]at hNm;have hT:=j2b f.ty
    cases hty:isTy f.ty with
    |false =>
     rw[hty]at hT
     exact⟨z02 (f:=Fl.enc) hf,rfl,VAsk.mk (p:=vInt n) (b:=(z1k (.string f.name) es).isSome) rfl hes.1 (E9 hn rfl) ⟨rfl,rfl,hes.1,[],hNm,sR,Gd,rfl,[],hT,sR,Gd,rfl,bad (by unfold zn3;rw[hN,hty];rfl),Gd⟩⟩
    |true =>
     rw[hty]at hT;refine⟨z02 (f:=Fl.enc) hf,rfl,VAsk.mk (p:=vInt n) (b:=(z1k (.string f.name) es).isSome) rfl hes.1 (E9 hn rfl) ⟨rfl,rfl,hes.1,[],hNm,sR,Gd,rfl,[],hT,sR,Gd,rfl,z00 (λh1=>⟨bad (by unfold zn3;rw[hN,hty,show decide (f.params<0)=true from h1];rfl),Gd⟩) λh1=>z00 (λh2=>⟨bad (by unfold zn3;rw[hN,hty,show decide (f.params<0)=false from h1,show decide (f.params > f.types.length)=true by simpa using h2];rfl),Gd⟩) λh2=>?_⟩⟩;have good:zn3 f=true:=by unfold zn3;rw[hN,hty,show decide (f.params<0)=false from h1,show decide (f.params > f.types.length)=false by simpa using h2];rfl
     exact⟨z01 rfl oM0,(k+1,bump f.name es),z03 hlt,⟨hlt,by rw[hF,good];rfl,hC,hes.bump _⟩,Ge,⟨mpq (zg9 hn).symm,Gd⟩,rfl,rfl,rfl,rfl⟩
  ·have hge:=z0y (f:=Fl.enc) rfl hc;rw[Ad hge]at hF hC;have hG:z8z u=((es.length:Int)==u.arrays.length+u.flows.length&&z9w u):=by unfold z8z;rw[hA,hF,hC];rfl
   rw[hG];have N:∀{P:Prop}{b:Bool},b=true->b=false->P:=λh g=>by rw[h]at g;cases g
   cases hb:((es.length:Int)==u.arrays.length+u.flows.length)with
   |false=>exact⟨[],ze6 u z0t,sR,Gd,rfl,z01 rfl (by simp;omega),z00 (λh=>N (show((es.length:Int)==u.arrays.length+u.flows.length)=true by simpa using h) hb) λ_=>⟨sI,Gd⟩⟩
   |true =>
    cases hp:decide (z05 z0t u.flows 0≥0)with
    |false=>exact⟨[],ze6 u z0t,sR,Gd,rfl,z01 rfl (by simp;omega),z00 (λ_=>z00 (λh=>N h hp) λ_=>⟨sE (by unfold z9w;rw[hp];rfl),Gd⟩) λh=>N hb (by simpa using h)⟩
    |true =>
     have h0:z05 z0t u.flows 0≥0:=by simpa using hp
     obtain⟨g,hg,_⟩:=ze0 h0;have hD:u.flows.getD (z05 z0t u.flows 0).toNat y6w=g:=by rw[Ay,hg];rfl
     have hi:=z02 (f:=Fl.enc) hg;refine⟨[],ze6 u z0t,sR,Gd,rfl,z01 rfl (by simp;omega),z00 (λ_=>z00 (λ_=>⟨hi,by omega,z00 (λh1=>⟨hi,by omega,sE ?_,Gd⟩) λh1=>⟨sE ?_,Gd⟩⟩) λh=>N hp h) λh=>N hb (by simpa using h)⟩
     ·unfold z9w;rw[hp,hD,show(g.ty==1)=true from h1];rfl
     ·unfold z9w;rw[hp,hD,show(g.ty==1)=false from h1];rfl
theorem flow_leW{u:Un}{f:Fl}(hf:f∈u.flows):lsW f.body<=z0i u:=by
 have h1:=yh3 hf;have h2:=y7c f.body;unfold z0i z1b at *
 omega
theorem y8w(u:Un)(l:List Fl)(i:Nat){f:Fl}(h:l.drop i=f::l.drop (i+1)):z9o u (l.drop i) i=if y1v u f then z9o u (l.drop (i+1)) ((i+1:Nat):Int)else(80,(i:Int)):=by
 rw[h,z9o];rfl
theorem y45(u:Un)(hW:z0i u<=34359738368):SC Tryz.prog 19 [.pv u.enc] [] (λ_=>False) (.tup [iInt (z4v u).1,iInt (z4v u).2]) []:=by
 refine SC.anyR (SC.vc tb { pb:=[101,105] } [] Tryz.func19 rfl rfl ?_);have hH:=j2p u hW;have hw2:u.flows.length<=z0i u:=by unfold z0i;omega
 unfold z4v
 cases hh:z8z u
 ·rw[hh]at hH;exact⟨[],hH,sR,Gd,rfl,sI,Gd⟩
 rw[hh]at hH;have hg:=y6a hh;rw[if_pos rfl];refine⟨[],hH,sR,Gd,rfl,Nat,λi=>[(12,iInt ((i:Nat):Int))],λ_=>[],λi=>u.flows.length-i,λi=>i<=u.flows.length/\z9o u u.flows 0=z9o u (u.flows.drop i) i,[],0,⟨Ac _,rfl⟩,Ge,Gd,?_⟩;rintro i ⟨i1,i2⟩;refine z00 (λhc=>?_) λhc=>?_
 ·have hlt:i<u.flows.length:=z0x (f:=Fl.enc) rfl hc;obtain⟨x,x1,x2,x3,x4⟩:=z0o hlt;have hF:=j2n u x hg (hg x x4) (Bn (flow_leW x4) hW);rw[y8w u u.flows i x3]at i2;generalize y1v u x=b at hF i2
  cases b
  ·rw[if_neg dC0]at i2;rw[i2];exact⟨z02 (f:=Fl.enc) x1,rfl,[],hF,sR,Gd,rfl,sI,Gd⟩
  ·rw[if_pos rfl]at i2;exact⟨z02 (f:=Fl.enc) x1,rfl,[],hF,sR,Gd,rfl,z01 rfl oM0,i+1,z03 hlt,⟨hlt,i2⟩,Ge,Gd,rfl,rfl,rfl,rfl⟩
 ·have hge:u.flows.length<=i:=z0y (f:=Fl.enc) rfl hc;rw[i2,Ad hge];exact⟨sI,Gd⟩
theorem yd7(x:Nd):SC Tryz.prog 89 [.pv (ndv x)] [] (λk=>k∈[]) (iBool (z1y x)) []:=by
 refine SC.vc tb { pb:=[101] } [] Tryz.func89 rfl rfl ?_;obtain⟨kind,op,n,name,args,outs,params,kids⟩:=x;rcases(show kind=1∨kind=2∨kind=3∨kind=4∨(kind≠1/\kind≠2/\kind≠3/\kind≠4) by omega)with rfl|rfl|rfl|rfl|⟨k1,k2,k3,k4⟩
 ·exact⟨sI,Gd⟩
 ·exact⟨sI,Gd⟩
 ·exact⟨sI,Gd⟩
 ·refine z00 (λh=>?_) λh=>?_
  ·have h:(op != 4)=true:=h;exact⟨sE (Af iBool (show(op != 5)=((op != 4)&&(op != 5)) by rw[h];rfl)),Gd⟩
  ·have h:(op != 4)=false:=h;exact⟨sE (Af iBool (show false=((op != 4)&&(op != 5)) by rw[h];rfl)),Gd⟩
 ·have no:∀{i:Int},kind≠i->(kind==i)=true->False:=λh e=>h (eq_of_beq e);exact z00 (λh=>(no k1 h).elim) λ_=>z00 (λh=>(no k2 h).elim) λ_=>z00 (λh=>(no k3 h).elim) λ_=>z00 (λh=>(no k4 h).elim) λ_=>⟨sE (Af iBool (by simp[z1y,Nd.kind,k1,k2,k3,k4])),Gd⟩
theorem yd6(n:Nat)(h0:0<n)(hn:n<=34359738368):SC Tryz.prog 140 [.pv (.val (.slice none 0 0)),iInt n] [] (λ_=>False) (.sl 122 0) [(122,.row ⟨46,8⟩ [])]:=by
 refine SC.of Tryz.func140 rfl (Az rfl) λF ρ w=>?_;refine Tr.seq ?_;refine Tr.region rfl ?_;refine WL.consV rfl rfl rfl (z1r rfl rfl) ?_;refine WL.nil ?_;refine Tr.seq ?_;refine Tr.seq ?_;refine Tr.region rfl ?_;refine WL.consV rfl rfl rfl (z13 rfl rfl) ?_;refine WL.consV rfl rfl rfl (z4n rfl rfl rfl rfl) ?_;refine WL.nil ?_;refine Tr.cond rfl (λhc6=>?_) (λhc6=>?_)
 ·skip;exfalso;simp at hc6;omega
 ·skip;refine tSk ?_;refine Tr.seq ?_;refine Tr.seq ?_;refine Tr.region rfl ?_;refine WL.consV rfl rfl rfl (z13 rfl rfl) ?_;refine WL.consV rfl rfl rfl (z13 rfl rfl) ?_;refine WL.consV rfl rfl rfl (zq5 rfl rfl Tryz.underlying47) ?_;refine WL.consV rfl rfl rfl (z13 rfl rfl) ?_;refine WL.consV rfl rfl rfl (zq6 rfl rfl Tryz.underlying47) ?_;refine WL.consV rfl rfl rfl (by first|exact z4n rfl rfl rfl (z2x rfl oM0)|exact z4n rfl rfl rfl rfl) ?_;refine WL.consV rfl rfl rfl (by first|exact z4n rfl rfl rfl (z2x rfl oM0)|exact z4n rfl rfl rfl rfl) ?_;refine WL.consV rfl rfl rfl (z1r rfl rfl) ?_;refine WL.nil ?_;refine Tr.seq ?_;refine Tr.sub (Sub.of (fr':=[(1,iInt n),(0,.pv (.val (.slice none 0 0)))]) ⟨Af (λz=>some (iInt z)) (by first|omega|(simp;done)),rfl,Gd⟩) ?_;refine Tr.region rfl ?_;refine WL.consV rfl rfl rfl (z13 rfl rfl) ?_;refine WL.consV rfl rfl rfl (z4n rfl rfl rfl rfl) ?_;refine WL.nil ?_;refine Tr.cond rfl (λhc16=>?_) (λhc16=>?_)
  ·skip;refine Tr.region rfl ?_;refine WL.consV rfl rfl rfl (z13 rfl rfl) ?_;refine WL.consV rfl rfl rfl (z13 rfl rfl) ?_;refine WL.consV rfl rfl rfl (zq5 rfl rfl Tryz.underlying47) ?_;refine WL.consV rfl rfl rfl (y7p rfl rfl rfl Tryz.underlying47 tS46) ?_;refine WL.consV rfl rfl rfl (z13 rfl rfl) ?_;refine WL.cons rfl rfl rfl (y0o (k:=122) (s:=⟨46,8⟩) rfl rfl rfl Tryz.underlying47 Tryz.underlying3 tZ46 tC46 rfl dC0 oM0 (by simp[maxLen];omega) oM0 rfl rfl rfl rfl) ?_;refine WL.consV rfl rfl rfl (z13 rfl rfl) ?_;refine WL.consV rfl rfl rfl (zq6 rfl rfl Tryz.underlying47) ?_;refine WL.sliceZero (fr':=[]) rfl rfl rfl rfl rfl rfl rfl sI0 h0 rfl Tryz.underlying47 tS46 (Sub.of trivial) rfl rfl ?_;refine WL.consV rfl rfl rfl (z1r rfl rfl) ?_;refine WL.nil ?_;refine Tr.seq ?_;refine Tr.region rfl ?_;refine WL.consV rfl rfl rfl (z13 rfl rfl) ?_;refine WL.consV rfl rfl rfl (z1r rfl rfl) ?_;refine WL.nil ?_;refine tRt ?_;refine rOk rfl ?_ (yc2 (And.intro rfl (trivial)));rfl
  ·skip;exfalso;simp at hc16;omega
theorem y5v(ks:List (List Nd))(h0:0<tot ks)(hn:tot ks<=34359738368):SC Tryz.prog 90 [.pv (kids ks)] [] (λk=>k∈[]) (.pv (z1p ks.flatten)) []:=by
 refine SC.vc tb { gh:=[(0,[.len 0]),(15,[.fz 6 122])] } [] Tryz.func90 rfl rfl ?_;intro hl;simp only[A8]at hl;have hl:ks.length<=9223372036854775807:=hl;refine⟨Nat,λi=>[(11,iInt ((i:Nat):Int)),(3,iInt ((tot (ks.take i):Nat):Int))],λ_=>[],λi=>ks.length-i,λi=>i<=ks.length,[],0,Ac _,Gf,Gd,?_⟩;intro i hi;have ht:∀a b:List (List Nd),tot (a++b)=tot a+tot b:=λa b=>by induction a with|nil=>simp[tot]|cons x r ih=>simp only[B9,tot,ih];omega
 have hle:∀i,tot (ks.take i)<=tot ks:=λi=>by
  have:=ht (ks.take i) (ks.drop i);rw[Cs]at this;omega
 refine z00 (λhc=>?_) λhc=>?_
 ·have hlt:i<ks.length:=z0x (f:=eKid) rfl hc;obtain⟨x,x1,x2,x3,x4⟩:=z0o hlt;have h1:tot (ks.take (i+1))=tot (ks.take i)+x.length:=by rw[x2,ht];simp[tot]
  have h2:=hle (i+1);refine⟨z02 (f:=eKid) x1,rfl,z01 rfl (by rw[A8];omega),?_⟩;exact⟨z01 rfl oM0,i+1,z03 hlt,hlt,⟨rfl,ivq (by rw[h1,A8];omega),Gd⟩,Gd,rfl,rfl,rfl,rfl⟩
 have hge:ks.length<=i:=z0y (f:=eKid) rfl hc;rw[At hge];refine⟨[],yd6 (tot ks) h0 hn,sR,Gd,rfl,Nat,λi=>[(27,iInt ((i:Nat):Int)),(6,.sl 122 (ks.take i).flatten.length)],λi=>[(122,.row ⟨46,8⟩ ((ks.take i).flatten.map Nd.enc))],λi=>ks.length-i,λi=>i<=ks.length,[],0,Ac _,Gf,Ge,?_⟩;intro i hi;have hL:((ks.take i).flatten.map Nd.enc).length=(ks.take i).flatten.length:=A8 _;refine z00 (λhc=>?_) λhc=>?_
 ·have hlt:i<ks.length:=z0x (f:=eKid) rfl hc;obtain⟨x,x1,x2,x3,x4⟩:=z0o hlt;have h1:tot (ks.take (i+1))=tot (ks.take i)+x.length:=by rw[x2,ht];simp[tot]
  have h2:=hle (i+1);have h3:=y26 (ks.take i);exact⟨z02 (f:=eKid) x1,rfl,hL,zf1 (λy _=>⟨Nd.enc_len y,Nd.enc_one y⟩),by rw[A8];omega,z01 rfl oM0,i+1,z03 hlt,hlt,⟨rfl,slq (by rw[x2,A8];simp),Gd⟩,⟨rwq (by rw[x2];simp),Gd⟩,rfl,rfl,rfl,rfl⟩
 ·have hge:ks.length<=i:=z0y (f:=eKid) rfl hc;rw[At hge]at hL⊢;exact⟨hL,sI,Gd⟩
def ptH(vs:List Int):List (Nat×HO):=[(106,.box [.mp 111]),(111,.map (vsOf vs))]
theorem j2e(vs:List Int)(v:Int):SC Tryz.prog 91 [iInt v,.ptr 106 0] [(106,.box [.mp 111]),(111,.map (vsOf vs))] (λk=>k=106∨k=111) (iBool (vs.contains v)) [(106,.box [.mp 111]),(111,.map (vsOf vs))]:=by
 refine SC.of Tryz.func91 rfl (Az rfl) λF ρ w=>?_;have hV:=VSet.of vs;have hes:=hV.1;have hzv:((Tryz.prog.info? 165).bind (·.zero))=some (.agg #[]):=tZ165;refine Tr.seq ?_;refine Tr.region rfl ?_;refine WL.consV rfl rfl rfl (z1r rfl rfl) ?_;refine WL.nil ?_;refine Tr.seq ?_;refine Tr.region rfl ?_;refine WL.consV rfl rfl rfl ((by first|exact zi0 rfl rfl Tryz.underlying164 rfl rfl|exact zh9 rfl rfl rfl Tryz.underlying164 rfl rfl trivial|exact lRw rfl rfl rfl rfl (Bz _).symm (by assumption) rfl Tryz.underlying164 rfl trivial)) ?_;refine WL.consV rfl rfl rfl (z13 rfl rfl) ?_;refine WL.consV rfl rfl rfl (y3i (kv:=vKey v) rfl rfl rfl rfl Tryz.underlying164 Tryz.underlying3 rfl hes hzv trivial) ?_;refine WL.consV rfl rfl rfl (z13 rfl rfl) ?_;refine WL.consV rfl rfl rfl (z67 rfl rfl rfl) ?_;refine WL.sub (Sub.cons2 (λ_ _ _ _ h=>unit_sub hV h) Sub.rfl') ?_;refine WL.consV rfl rfl rfl (z67 rfl rfl rfl) ?_;refine WL.cons rfl rfl rfl (aLc (k:=104) rfl tZ165 rfl rfl rfl rfl) ?_;refine WL.cons0 rfl rfl (sBA rfl rfl rfl rfl rfl (by first|exact(λh=>h)|exact(List.contains_eq_false.1 rfl)|simp) tS165 (flk rfl) (Az rfl)) ?_;refine WL.consV rfl rfl rfl (z1r rfl rfl) ?_;refine WL.nil ?_;refine Tr.seq ?_;refine Tr.region rfl ?_;refine WL.consV rfl rfl rfl (z13 rfl rfl) ?_;refine WL.consV rfl rfl rfl (z1r rfl rfl) ?_;refine WL.nil ?_;refine tRt ?_;refine rOk rfl ?_ (yc2 (And.intro rfl (And.intro rfl trivial)));rw[vsOf_has]
theorem sc_part1(vs:List Int)(v:Int):SC Tryz.prog 91 [iInt v,.ptr 106 0] (ptH vs) (λk=>k∈[106,111]) (iBool (vs.contains v)) (ptH vs):=SC.sameR (j2e vs v) λk _ h=>by
 simp only[Aj,Bs,Ez]at h;exact h
theorem sc_idxPt(vs l:List Int):SC Tryz.prog 124 [.pv (ints l),.fn (.func 91) [] [.ptr 106 0]] (ptH vs) (λk=>k∈[106,111]) (iInt (idxP (λv=>vs.contains v) l 0)) (ptH vs):=by
 refine SC.vc tb { gh:=[(0,[.len 0])] } [106,111] Tryz.func124 rfl rfl ?_;intro hl;simp only[A8]at hl;have hl:l.length<=9223372036854775807:=hl;refine⟨Nat,λi=>[(8,iInt ((i:Nat):Int))],λ_=>ptH vs,λi=>l.length-i,λi=>i<=l.length/\∀x∈l.take i,vs.contains x=false,[],0,⟨Ac _,λx hx=>by simp at hx⟩,Ge,Gf,?_⟩;rintro i ⟨i1,i2⟩;refine z00 (λhc=>?_) λhc=>?_
 ·have hlt:i<l.length:=z0x (f:=eInt) rfl hc;obtain⟨x,x1,x2,x3,x4⟩:=z0o hlt;refine⟨z02 (f:=eInt) x1,rfl,sc_part1 vs x,sR,⟨rfl,by simp,rfl,by simp,Gd⟩,λk hk=>hk,rfl,rfl,z00 (λc=>?_) λc=>?_⟩
  ·exact⟨sE (by rw[z16 (λv=>vs.contains v) l 0 i2,x3,idxP,if_pos c,Dj]),rfl,rfl,Gd⟩
  ·exact⟨z01 rfl oM0,i+1,z03 hlt,⟨hlt,λy hy=>by rw[x2]at hy;rcases Ax.1 hy with g|g;exact i2 y g;rw[An.1 g];exact c⟩,Ge,Gf,rfl,rfl,rfl,rfl⟩
 ·have hge:l.length<=i:=z0y (f:=eInt) rfl hc;exact⟨sE (by rw[z16 (λv=>vs.contains v) l 0 i2,Ad hge];rfl),rfl,rfl,Gd⟩
theorem sc_hasPt(vs l:List Int):SC Tryz.prog 70 [.pv (ints l),.fn (.func 91) [] [.ptr 106 0]] (ptH vs) (λk=>k∈[106,111]) (iBool (l.any λv=>vs.contains v)) (ptH vs):=by
 refine SC.vc tb {} [106,111] Tryz.func70 rfl rfl ?_;exact⟨[],sc_idxPt vs l,sR,⟨rfl,by simp,rfl,by simp,Gd⟩,rfl,sE (Af iBool (z5k (λv=>vs.contains v) l 0 dC0)),rfl,rfl,Gd⟩
theorem sc_part(l:List Nd)(ps:List Int)(hl:∀x∈l,z1y x=true->x.outs≠[])(hb:l.length<=34359738368):SC Tryz.prog 49 [.pv (z1p l),.pv (ints ps)] [] (λk=>k∈[]) (.tup [.pv (z1p (z0s ps l).1),.pv (z1p (z0s ps l).2)]) []:=by
 refine SC.vc tb { pb:=[110],an:=[5002,13005],gh:=[(0,[.len 1]),(2,[.grow 4 104 46 8,.grow 5 105 46 8]),(11,[.fz 4 104,.fz 5 105]),(17,[.fz 4 104,.fz 5 105])] } [] Tryz.func49 rfl rfl ?_;intro hp;simp only[A8]at hp;have hp:ps.length<=9223372036854775807:=hp;have hr:∀k,k∈[106,111]->k∈[106,111]:=λ_ h=>h;refine⟨Nat,λi=>[(14,iInt ((i:Nat):Int))],λi=>[(111,.map (vsOf (ps.take i)))],λi=>ps.length-i,λi=>i<=ps.length,[],0,Ac _,Ge,Ge,?_⟩;intro i hi;refine z00 (λhc=>?_) λhc=>?_
 ·have hlt:i<ps.length:=z0x (f:=eInt) rfl hc;obtain⟨x,x1,x2,x3,x4⟩:=z0o hlt;exact⟨z02 (f:=eInt) x1,rfl,y5d rfl,rfl,(VSet.of _).1,z01 rfl oM0,i+1,z03 hlt,hlt,Ge,⟨mpq (by rw[x2,<- y97];rfl),Gd⟩,rfl,rfl,rfl,rfl⟩
 have hge:ps.length<=i:=z0y (f:=eInt) rfl hc;rw[At hge];clear hc hge;refine⟨Nat×List Int×List Nd×List Nd,λq=>[(24,iInt ((q.1:Nat):Int)),(4,.sl 104 q.2.2.1.length),(5,.sl 105 q.2.2.2.length)],λq=>[(104,.row ⟨46,8⟩ (q.2.2.1.map Nd.enc)),(105,.row ⟨46,8⟩ (q.2.2.2.map Nd.enc)),(111,.map (vsOf q.2.1))],λq=>l.length-q.1,λq=>q.1<=l.length/\q.2.2.1.length+q.2.2.2.length=q.1/\z0s ps l=(q.2.2.1++(z0s q.2.1 (l.drop q.1)).1,q.2.2.2++(z0s q.2.1 (l.drop q.1)).2),[],(0,ps,[],[]),⟨Ac _,rfl,rfl⟩,Gg,Gg,?_⟩;rintro⟨k,vs,A,B⟩ ⟨k1,k2,k3⟩;dsimp only at k1 k2 k3;refine z00 (λhc=>?_) λhc=>?_
 ·have hlt:k<l.length:=z0x (f:=Nd.enc) rfl hc;obtain⟨x,x1,x2,x3,x4⟩:=z0o hlt;rw[x3,z0s]at k3;have hH:=yd7 x;have hA:(A.map Nd.enc).length=A.length:=A8 _;have hB:(B.map Nd.enc).length=B.length:=A8 _
  cases hm:z1y x
  ·rw[hm]at hH;rw[hm,if_neg dC0]at k3;exact⟨z06 x1,rfl,[],hH,sR,Gd,rfl,hA,hB,k,rfl,by rw[A8];omega,by simp,hw_node,[],y5v [B,l.drop k] (by simp[tot];omega) (by simp[tot];omega),SubA.cons (sE (by simp[kids,eKid,z1p,List.map_drop,At])) SubA.nil,Gd,rfl,sE (by rw[k3,x3];simp[z1p]),Gd⟩
  ·rw[hm]at hH;rw[hm,if_pos rfl]at k3;obtain⟨o0,ors,hos⟩:=C2 (hl x x4 hm);have ho0:(x.outs.map eInt)[0]?=some [vInt o0]:=by rw[hos];rfl
   rw[show x.outs.headD 0=o0 by rw[hos];rfl]at k3;have hP:=sc_hasPt vs x.args;generalize x.args.any (λv=>vs.contains v)=c at hP k3
   cases c
   ·rw[if_neg dC0]at k3;exact⟨z06 x1,rfl,[],hH,sR,Gd,rfl,[106,111],hP,sR,Gi,rfl,hA,z3y rfl,by simp;omega,z01 rfl oM0,(k+1,vs,A++[x],B),z03 hlt,⟨hlt,by simp;omega,by rw[k3];simp⟩,⟨rfl,slq sI0,rfl,Gd⟩,⟨rwq (by simp;rw[Nd.enc_eq,Nd.cells_eta]),rfl,rfl,Gd⟩,rfl,rfl,rfl,rfl⟩
   ·rw[if_pos rfl]at k3;exact⟨z06 x1,rfl,[],hH,sR,Gd,rfl,[106,111],hP,sR,Gi,rfl,ho0,rfl,y5d rfl,rfl,(VSet.of _).1,hB,z3y rfl,by simp;omega,z01 rfl oM0,(k+1,vs++[o0],A,B++[x]),z03 hlt,⟨hlt,by simp;omega,by rw[k3];simp⟩,⟨rfl,rfl,slq sI0,Gd⟩,⟨rfl,rwq (by simp;rw[Nd.enc_eq,Nd.cells_eta]),mpq (by rw[<- y97];rfl),Gd⟩,rfl,rfl,rfl,rfl⟩
 ·have hge:l.length<=k:=z0y (f:=Nd.enc) rfl hc;rw[Ad hge,z0s]at k3;exact⟨by simp,by simp,sE (by rw[k3];simp[z1p]),Gd⟩
theorem ya4:∀l:List Nd,l.length<=lsW l
 |[]=>Ag _
 |x::r=>by have:=ya4 r;have:=z86 x;simp only[lsW,A1];omega
theorem hOut_len(x:Nd):z4x x=if x.kind==11 then(match z4b x.kids with|b::r=>(z0s x.params b).1++[.mk x.kind x.op x.n x.name x.args x.outs x.params ((z0s x.params b).2::r)]|[]=>[.mk x.kind x.op x.n x.name x.args x.outs x.params []])else[.mk x.kind x.op x.n x.name x.args x.outs x.params (z4b x.kids)]:=by rw[zx4];rfl
theorem zv2:∀(N:Nat)(l:List Nd),hOkL l=true->lsW l<=34359738368->SizeOf.sizeOf l<N->SC Tryz.prog 26 [.pv (z1p l)] [] (λk=>k∈[]) (.pv (z1p (z0z l))) []
 |0,_,_,_,h=>absurd h (Al _)
 |N+1,l,hok,hb,hN=>by
  refine SC.vc tb { gh:=[(1,[.grow 2 102 46 8]),(5,[.grow 5 105 47 1]),(15,[.fzC 104 7 105]),(17,[.fz 2 102])] } [] Tryz.func26 rfl rfl ?_;have hlen1:=zk7 l;have hle:=ya4 l;refine⟨Nat×List Nd,λq=>[(12,iInt ((q.1:Nat):Int)),(2,.sl 102 q.2.length)],λq=>[(102,.row ⟨46,8⟩ (q.2.map Nd.enc))],λq=>l.length-q.1,λq=>q.1<=l.length/\q.2++z0z (l.drop q.1)=z0z l,[],(0,[]),⟨Ac _,rfl⟩,Gf,Ge,?_⟩;rintro⟨k,out⟩ ⟨k1,k2⟩;dsimp only at k1 k2;refine z00 (λhc=>?_) λhc=>?_
  ·have hlt:k<l.length:=z0x (f:=Nd.enc) rfl hc;obtain⟨x,x1,x2,x3,x4⟩:=z0o hlt;have hxok:=yi6 hok x4;rw[hOkN_eq]at hxok;simp only[A0]at hxok;have hWx:=z86 x;have hWl:=y53 x4;have hkl:=yj2 x.kids;rw[x3,show z0z (x::l.drop (k+1))=z4x x++z0z (l.drop (k+1))from rfl,<- C9]at k2;have hol:=Af List.length k2;simp only[B4]at hol;have hO:(out.map Nd.enc).length=out.length:=A8 _;refine⟨z06 x1,rfl,Nat,λj=>[(19,iInt ((j:Nat):Int)),(5,.sl 105 j)],λj=>[(105,.row ⟨47,1⟩ (((x.kids.take j).map z0z).map eKid))],λj=>x.kids.length-j,λj=>j<=x.kids.length,[],0,Ac _,Gf,Ge,?_⟩;intro j hj;refine z00 (λhc2=>?_) λhc2=>?_
   ·have hlt2:j<x.kids.length:=z0x (f:=eKid) rfl hc2;obtain⟨q,q1,q2,q3,q4⟩:=z0o hlt2;have hqW:=z6q q4;have hQ:=zv2 N q (y4u hxok.2 q4) oM0 (Bc (z9t x4 rfl q4) (C1 hN));exact⟨z02 (f:=eKid) q1,rfl,[],hQ,sR,Gd,rfl,by simp;omega,z3y rfl,by simp;omega,z01 rfl oM0,j+1,z03 hlt2,hlt2,⟨rfl,slq sI0,Gd⟩,⟨rwq (by rw[q2];simp[eKid]),Gd⟩,rfl,rfl,rfl,rfl⟩
   have hge2:x.kids.length<=j:=z0y (f:=eKid) rfl hc2;obtain rfl:j=x.kids.length:=by omega
   rw[At (Ag _),<- y07];have hks:(z4b x.kids).length=x.kids.length:=by rw[y07,A8]
   have hkm:((z4b x.kids).map eKid).length=x.kids.length:=by rw[A8,hks]
   have hnode:=hOut_len x
   by_cases h11:x.kind=11
   ·have hne:x.kids≠[]:=by
     have:=hxok.1.2;rw[h11]at this;intro e;rw[e]at this;exact absurd this dC0
    obtain⟨b,r,hbr⟩:=C2 hne;have hbm:b∈x.kids:=by rw[hbr];exact .head _
    have hbW:=z6q hbm;have hbL:=zk7 b;have hkr:z4b x.kids=z0z b::z4b r:=by rw[hbr];rfl
    rw[hkr,if_pos (Av.2 h11)]at hnode;dsimp only at hnode;have hP:=sc_part (z0z b) x.params (zp6 b (y4u hxok.2 hbm)) oM0;have hpl:=za6 (z0z b) x.params;rw[hkr]at hkm⊢;generalize z0s x.params (z0z b)=P at hP hpl hnode;obtain⟨A,B⟩:=P;dsimp only at hP hpl hnode;have hn1:=Af List.length hnode;simp only[B4,A1,A5]at hn1;refine⟨hkm,z00 (λ_=>?_) λh=>absurd (Av.2 h11) (by rw[show(x.kind==11)=false from h];decide)⟩;refine⟨hkm,VIdR.mk (i:=0) (by rw[hbr];simp) rfl (VRow.mk (i:=0) (j:=0) hkm rfl rfl rfl ⟨[],hP,sR,Gd,rfl,hO,zf1 (λy _=>⟨Nd.enc_len y,Nd.enc_one y⟩),by simp;omega,hkm,VIdR.mk (i:=0) (by rw[hbr];simp) rfl ⟨0,0,_,hkm,rfl,rfl,by simp[eKid],by rw[Dn];exact hkm,by simp,z3y rfl,by simp;omega,z01 rfl oM0,(k+1,out++z4x x),z03 hlt,⟨hlt,k2⟩,⟨rfl,slq (by simp;omega),Gd⟩,⟨rwq (by rw[hnode];simp[Nd.enc_eq,Nd.cells_eta,kids,Nd.kind,Nd.op,Nd.n,Nd.name,Nd.args,Nd.outs,Nd.params,Nd.kids,eKid]),Gd⟩,rfl,rfl,rfl,rfl⟩⟩)⟩
   ·rw[if_neg (by simpa using h11)]at hnode;have hn1:=Af List.length hnode;simp only[A1,A5]at hn1;refine⟨hkm,z00 (λh=>absurd (eq_of_beq h) h11) λ_=>?_⟩;exact⟨hkm,hO,z3y rfl,by simp;omega,z01 rfl oM0,(k+1,out++z4x x),z03 hlt,⟨hlt,k2⟩,⟨rfl,slq (by simp;omega),Gd⟩,⟨rwq (by rw[hnode];simp[Nd.enc_eq,Nd.cells_eta,kids,Nd.kind,Nd.op,Nd.n,Nd.name,Nd.args,Nd.outs,Nd.params,Nd.kids]),Gd⟩,rfl,rfl,rfl,rfl⟩
  ·have hge:l.length<=k:=z0y (f:=Nd.enc) rfl hc;rw[Ad hge,show z0z []=[]from rfl,Co]at k2;subst k2;exact⟨A8 _,sI,Gd⟩
theorem sc_hList(l:List Nd)(hok:hOkL l=true)(hb:lsW l<=34359738368):SC Tryz.prog 26 [.pv (z1p l)] [] (λk=>k∈[]) (.pv (z1p (z0z l))) []:=zv2 _ l hok hb (Ab _)
theorem y5s(u:Un)(hW:z0i u<=34000000000)(hok:(z4v u).1=0->∀f∈u.flows,hOkL f.body=true):SC Tryz.prog 10 [.pv u.enc] [] (λ_=>False) (.tup [.pv (z6o u).1.enc,iInt (z6o u).2]) []:=by
 have hK:=y45 u oM0;have hw2:u.flows.length<=z0i u:=by unfold z0i;omega
 have hres:z6o u=if (z4v u).1=0 then(z3u u,0)else(⟨[],[]⟩,1):=by unfold z6o;by_cases h:(z4v u).1=0<;>simp[h]
 rw[hres];clear hres;generalize z4v u=c at hK hok⊢;obtain⟨c1,c2⟩:=c;dsimp only at hK hok⊢
 by_cases h:c1=0
 case neg =>
  rw[if_neg h];refine SC.anyR (SC.vc tb { pb:=[101] } [] Tryz.func10 rfl rfl ?_);exact⟨[],hK,sR,Gd,rfl,z00 (λ_=>⟨sT2 (sP (z0g _)),Gd⟩) λh2=>absurd h2 (by simp[h])⟩
 rw[if_pos h];subst h;refine SC.anyR (SC.vc tb { pb:=[101],gh:=[(5,[.growC 106 1 9 59 5]),(11,[.fzC 106 1 9])] } [] Tryz.func10 rfl rfl ?_);refine⟨[],hK,sR,Gd,rfl,?_⟩;refine⟨Nat,λi=>[(23,iInt ((i:Nat):Int))],λi=>[(106,.box [.pv (arrs u.arrays),.sl 9 i]),(9,.row ⟨59,5⟩ ((u.flows.take i).map λf=>(z5j f).enc))],λi=>u.flows.length-i,λi=>i<=u.flows.length,[],0,Ac _,Ge,Gf,?_⟩;intro i hi;have hl:((u.flows.take i).map λf=>(z5j f).enc).length=i:=by rw[A8,Dg];omega
 refine z00 (λhc=>?_) λhc=>?_
 ·have hlt:i<u.flows.length:=z0x (f:=Fl.enc) rfl hc;obtain⟨x,x1,x2,x3,x4⟩:=z0o hlt;have hx:=z94 x4;have hL:=sc_hList x.body (hok rfl x x4) oM0;exact⟨z02 (f:=Fl.enc) x1,rfl,[],hL,sR,Gd,rfl,hl,z3y rfl,by simp;omega,by simp;omega,z01 rfl oM0,i+1,z03 hlt,hlt,Ge,⟨boq rfl,rwq (by rw[x2];simp[z5j,Fl.enc]),Gd⟩,rfl,rfl,rfl,rfl⟩
 ·have hge:u.flows.length<=i:=z0y (f:=Fl.enc) rfl hc;rw[At hge];have he:(z3u u).enc=.agg [arrs u.arrays,.seq (u.flows.map λf=>(z5j f).enc)]:=by simp[z3u,Un.enc,flws]
  rw[he];rw[At hge]at hl;exact⟨hl,sI,Gd⟩
theorem y9t{u:Un}(h:(z1e u).1≠0):z6o u=(⟨[],[]⟩,1):=by
 have:((z4v u).1==0)=false:=by rw[ze8];simpa using h
 simp[z6o,this]
theorem z83{u:Un}(h:(z1e u).1=0):z6o u=(z3u u,0):=by
 have:((z4v u).1==0)=true:=by rw[ze8];simpa using h
 simp[z6o,this]
def y9n(x:Nd):Bool:=decide (x.kind<=3)||(x.kind==4&&x.op != 4&&x.op != 5)
def fAny(l m:List Int):Bool:=l.any λv=>m.any λw=>v==w
def y2e(x:Nd):Bool:=x.kind==11&&(match x.kids with
 |[y::_]=>y9n y && !fAny y.args x.params
 |_=>false)
mutual
def yz9:Nd->Bool
 |.mk kind op n name args outs params ks=>!y2e (.mk kind op n name args outs params ks)&&zp3 ks
def z58:List Nd->Bool
 |[]=>true
 |x::r=>yz9 x&&z58 r
def zp3:List (List Nd)->Bool
 |[]=>true
 |l::r=>z58 l&&zp3 r
end
theorem fineN_eq(x:Nd):yz9 x=(!y2e x&&zp3 x.kids):=by cases x;simp[yz9,Nd.kids]
def y2z(u:Un):Bool:=u.flows.all λf=>z58 f.body
theorem sc_idle(x:Nd):SC Tryz.prog 50 [.pv (ndv x)] [] (λk=>k∈[]) (iBool (y9n x)) []:=by
 refine SC.vc tb { pb:=[101] } [] Tryz.func50 rfl rfl ?_;have e:y9n x=(decide (x.kind<=3)||(x.kind==4&&x.op != 4&&x.op != 5)):=rfl;refine z00 (λh1=>?_) λh1=>?_
 ·exact⟨sE (by rw[e,show decide (x.kind<=3)=true from h1];rfl),Gd⟩
 ·refine z00 (λh2=>?_) λh2=>?_
  ·refine z00 (λh3=>?_) λh3=>?_
   ·exact⟨sE (by rw[e,show decide (x.kind<=3)=false from h1,show(x.kind==4)=true from h2,show(x.op != 4)=true from h3];rfl),Gd⟩
   ·exact⟨sE (by rw[e,show decide (x.kind<=3)=false from h1,show(x.kind==4)=true from h2,show(x.op != 4)=false from h3];rfl),Gd⟩
  ·exact⟨sE (by rw[e,show decide (x.kind<=3)=false from h1,show(x.kind==4)=false from h2];rfl),Gd⟩
theorem sc_any(l m:List Int):SC Tryz.prog 51 [.pv (ints l),.pv (ints m)] [] (λk=>k∈[]) (iBool (fAny l m)) []:=by
 refine SC.vc tb { gh:=[(0,[.len 0,.len 1])] } [] Tryz.func51 rfl rfl ?_;intro hl hm;simp only[A8]at hl hm;have hl:l.length<=9223372036854775807:=hl;have hm:m.length<=9223372036854775807:=hm;refine⟨Nat,λi=>[(5,iInt ((i:Nat):Int))],λ_=>[],λi=>l.length-i,λi=>i<=l.length/\fAny l m=fAny (l.drop i) m,[],0,⟨Ac _,rfl⟩,Ge,Gd,?_⟩;rintro i ⟨i1,i2⟩;refine z00 (λhc=>?_) λhc=>?_
 ·have hlt:i<l.length:=z0x (f:=eInt) rfl hc;obtain⟨x,x1,x2,x3,x4⟩:=z0o hlt;rw[x3,show fAny (x::l.drop (i+1)) m=((m.any λw=>x==w)||fAny (l.drop (i+1)) m)from rfl]at i2;refine⟨Nat,λj=>[(6,iInt ((j:Nat):Int))],λ_=>[],λj=>m.length-j,λj=>j<=m.length/\(m.any λw=>x==w)=((m.drop j).any λw=>x==w),[],0,⟨Ac _,rfl⟩,Ge,Gd,?_⟩;rintro j ⟨j1,j2⟩;refine z00 (λhc2=>?_) λhc2=>?_
  ·have hlt2:j<m.length:=z0x (f:=eInt) rfl hc2;obtain⟨y,y1,y2,y3,y4⟩:=z0o hlt2;rw[y3,G9]at j2;refine⟨z02 (f:=eInt) x1,rfl,z02 (f:=eInt) y1,rfl,z00 (λh=>?_) λh=>?_⟩
   ·have h:(x==y)=true:=h;rw[h]at j2;rw[j2]at i2;exact⟨sE (by rw[i2];rfl),Gd⟩
   ·have h:(x==y)=false:=h;rw[h]at j2;exact⟨z01 rfl oM0,j+1,z03 hlt2,⟨hlt2,j2⟩,Ge,Gd,rfl,rfl,rfl,rfl⟩
  ·have hge:m.length<=j:=z0y (f:=eInt) rfl hc2;rw[Ad hge]at j2;rw[j2]at i2;exact⟨z01 rfl oM0,i+1,z03 hlt,⟨hlt,i2⟩,Ge,Gd,rfl,rfl,rfl,rfl⟩
 ·have hge:l.length<=i:=z0y (f:=eInt) rfl hc;rw[Ad hge]at i2;exact⟨sE (by rw[i2];rfl),Gd⟩
def run0(ins:List Int)(fuel:Int):Rs:={ ins:=ins,ar:=[],st:=0,code:=0,out:=[],cost:=0,fuel:=if fuel<0 then 0 else fuel,spent:=false }
def mEnd(r:Int×Rs):Rs:=if z10 r.2 then r.2 else { r.2 with st:=1,code:=r.1 }
def runv(s:Rs):PV:=.agg [vInt s.st,vInt s.code,ints s.out,vInt s.cost,vInt s.fuel]
theorem j3i(fs:List Fl)(hW:z0i ⟨[],fs⟩<=34000000000)(hz:(z1e ⟨[],fs⟩).1=0)(ins:List Int)(fuel:Int)(d:Nat)(r:Int×Rs)(h:z40 ⟨[],fs⟩ d (z05 z0t fs 0) [] { run0 ins fuel with ar:=[] }=some r):SC Tryz.prog 16 [.pv (Un.enc ⟨[],fs⟩),.pv (ints ins),iInt fuel] [] (λ_=>False) (.pv (runv (mEnd r))) []:=by
 refine SC.anyR (SC.vc tb { gh:=[(5,[.growC 1001 6 1002 3 1]),(12,[.fzC 1001 6 1002])],ids:=[(26,1001),(45,1004),(47,1003)] } [] Tryz.func16 rfl rfl ?_);have hub:∀f∈fs,lsW f.body<=34359738368:=λf hf=>Bn (z94 (u:=⟨[],fs⟩) hf) (Bn hW oM0);have hcall:=(ze9 ⟨[],fs⟩ hub (d+1)).1 d (Ab d) _ _ _ _ h sI0;have hal:=y9f h;have hC:=ze4 ⟨[],fs⟩ hW;rw[hz]at hC;have hP:=z3w ⟨[],fs⟩ z0t;obtain⟨n,ins',ar',st',code',out',cost',fuel',spent'⟩:=r;obtain rfl:ar'=[]:=Aw hal;have hO:=z2z ⟨[],fs⟩ ⟨ins',[],st',code',out',cost',fuel',spent'⟩;obtain⟨ov,hov⟩:∃b,z10 ⟨ins',[],st',code',out',cost',fuel',spent'⟩=b:=⟨_,rfl⟩;rw[hov]at hO;have hend:mEnd (n,⟨ins',[],st',code',out',cost',fuel',spent'⟩)=if ov then(⟨ins',[],st',code',out',cost',fuel',spent'⟩:Rs)else⟨ins',[],1,n,out',cost',fuel',spent'⟩:=by unfold mEnd;rw[hov]
 rw[hend];clear hend;refine⟨[],hC,sR,Gd,rfl,Unit,λ_=>[(10,iInt 0)],λ_=>[],λ_=>0,λ_=>True,[],(),Gd,Ge,Gd,λ_ _=>⟨[],hP,sR,Gd,rfl,[],hcall,SubA.same (SubA.same (SubA.cons sN sR)),Gf,rfl,[],hO,sR,Gf,rfl,?_⟩⟩
 cases ov with
 |true=>exact⟨rfl,sI,Gd⟩
 |false=>exact⟨rfl,sI,Gd⟩
theorem sr_run1(fs:List Fl)(A:Ar)(hW:z0i ⟨[A],fs⟩<=34000000000)(hz:(z1e ⟨[A],fs⟩).1=0)(ins:List Int)(fuel:Int)(d:Nat)(r:Int×Rs)(h:z40 ⟨[A],fs⟩ d (z05 z0t fs 0) [] { run0 ins fuel with ar:=[List.replicate A.size.toNat 0] }=some r)(hsz:0<=A.size/\A.size<=1000):SC Tryz.prog 16 [.pv (Un.enc ⟨[A],fs⟩),.pv (ints ins),iInt fuel] [] (λ_=>False) (.pv (runv (mEnd r))) []:=by
 refine SC.anyR (SC.vc tb { gh:=[(5,[.growC 1001 6 1002 3 1]),(12,[.fzC 1001 6 1002])],ids:=[(26,1001),(45,1004),(47,1003)] } [] Tryz.func16 rfl rfl ?_);have hub:∀f∈fs,lsW f.body<=34359738368:=λf hf=>Bn (z94 (u:=⟨[A],fs⟩) hf) (Bn hW oM0);have hcall:=(ze9 ⟨[A],fs⟩ hub (d+1)).1 d (Ab d) _ _ _ _ h sI0;have hal:=y9f h;have hC:=ze4 ⟨[A],fs⟩ hW;rw[hz]at hC;have hP:=z3w ⟨[A],fs⟩ z0t;obtain⟨n,ins',ar',st',code',out',cost',fuel',spent'⟩:=r;obtain⟨q2,rfl⟩:∃q2,ar'=[q2]:=Ce.1 hal;have hO:=z2z ⟨[A],fs⟩ ⟨ins',[q2],st',code',out',cost',fuel',spent'⟩;obtain⟨ov,hov⟩:∃b,z10 ⟨ins',[q2],st',code',out',cost',fuel',spent'⟩=b:=⟨_,rfl⟩;rw[hov]at hO;have hend:mEnd (n,⟨ins',[q2],st',code',out',cost',fuel',spent'⟩)=if ov then(⟨ins',[q2],st',code',out',cost',fuel',spent'⟩:Rs)else⟨ins',[q2],1,n,out',cost',fuel',spent'⟩:=by unfold mEnd;rw[hov]
 rw[hend];clear hend;have hTl:((A.size:Int))=(A.size.toNat:Nat):=by omega
 refine⟨[],hC,sR,Gd,rfl,Bool,λb=>[(10,iInt (if b then 1 else 0))],λb=>if b then[(1001,rBox ⟨[A],fs⟩ { run0 ins fuel with ar:=[List.replicate A.size.toNat 0] }),(1003,.box [.sl 1004 ((List.replicate A.size.toNat (0:Int)).map eInt).length]),(1004,rowI (List.replicate A.size.toNat 0))]else[(1001,rBox ⟨[A],fs⟩ { run0 ins fuel with ar:=[] })],λb=>if b then 0 else 1,λ_=>True,[],false,Gd,Ge,Ge,λb _=>?_⟩
 cases b with
 |false =>
  exact⟨at0 (a:=Ar.enc A),rfl,rfl,hTl,by omega,by simp,rfl,Bf,by decide,z01 (m:=0) (n:=1) rfl dC0,true,Bf,Gd,Ge,⟨rfl,boq (show[IV.sl 1004 A.size.toNat]=_ by simp),rwq (by simp[eInt];exact .inr rfl),Gd⟩,rfl,rfl,rfl,rfl⟩
 |true =>
  refine⟨[],hP,sR,Gd,rfl,[],hcall,SubA.same (SubA.same (SubA.cons sN sR)),Gi,rfl,[],hO,sR,Gi,rfl,?_⟩
  cases ov with
  |true=>exact⟨rfl,sI,Gd⟩
  |false=>exact⟨rfl,sI,Gd⟩
theorem sr_run2(fs:List Fl)(A B:Ar)(hW:z0i ⟨[A,B],fs⟩<=34000000000)(hz:(z1e ⟨[A,B],fs⟩).1=0)(ins:List Int)(fuel:Int)(d:Nat)(r:Int×Rs)(h:z40 ⟨[A,B],fs⟩ d (z05 z0t fs 0) [] { run0 ins fuel with ar:=[List.replicate A.size.toNat 0,List.replicate B.size.toNat 0] }=some r)(hsz:0<=A.size/\A.size<=1000)(hszB:0<=B.size/\B.size<=1000):SC Tryz.prog 16 [.pv (Un.enc ⟨[A,B],fs⟩),.pv (ints ins),iInt fuel] [] (λ_=>False) (.pv (runv (mEnd r))) []:=by
 refine SC.anyR (SC.vc tb { gh:=[(5,[.growC 1001 6 1002 3 1]),(12,[.fzC 1001 6 1002])],ids:=[(26,1001),(45,1004),(47,1003)] } [] Tryz.func16 rfl rfl ?_);have hub:∀f∈fs,lsW f.body<=34359738368:=λf hf=>Bn (z94 (u:=⟨[A,B],fs⟩) hf) (Bn hW oM0);have hcall:=(ze9 ⟨[A,B],fs⟩ hub (d+1)).1 d (Ab d) _ _ _ _ h sI0;have hal:=y9f h;have hC:=ze4 ⟨[A,B],fs⟩ hW;rw[hz]at hC;have hP:=z3w ⟨[A,B],fs⟩ z0t;obtain⟨n,ins',ar',st',code',out',cost',fuel',spent'⟩:=r;obtain⟨q2,q3,rfl⟩:=zq1 (l:=ar') hal;have hO:=z2z ⟨[A,B],fs⟩ ⟨ins',[q2,q3],st',code',out',cost',fuel',spent'⟩;obtain⟨ov,hov⟩:∃b,z10 ⟨ins',[q2,q3],st',code',out',cost',fuel',spent'⟩=b:=⟨_,rfl⟩;rw[hov]at hO;have hend:mEnd (n,⟨ins',[q2,q3],st',code',out',cost',fuel',spent'⟩)=if ov then(⟨ins',[q2,q3],st',code',out',cost',fuel',spent'⟩:Rs)else⟨ins',[q2,q3],1,n,out',cost',fuel',spent'⟩:=by unfold mEnd;rw[hov]
 rw[hend];clear hend;have hTl:((A.size:Int))=(A.size.toNat:Nat):=by omega
 have hTB:((B.size:Int))=(B.size.toNat:Nat):=by omega
 refine⟨[],hC,sR,Gd,rfl,Nat,λb=>[(10,iInt (b:Nat))],λb=>match b with|0=>[(1001,rBox ⟨[A,B],fs⟩ { run0 ins fuel with ar:=[] })]|1=>[(1001,rBox ⟨[A,B],fs⟩ { run0 ins fuel with ar:=[List.replicate A.size.toNat 0] }),(1003,.box [.sl 1004 ((List.replicate A.size.toNat (0:Int)).map eInt).length]),(1004,rowI (List.replicate A.size.toNat 0))]|_=>[(1001,rBox ⟨[A,B],fs⟩ { run0 ins fuel with ar:=[List.replicate A.size.toNat 0,List.replicate B.size.toNat 0] }),(1013,.box [.sl 1004 ((List.replicate A.size.toNat (0:Int)).map eInt).length,.sl 1014 ((List.replicate B.size.toNat (0:Int)).map eInt).length]),(1004,rowI (List.replicate A.size.toNat 0)),(1014,rowI (List.replicate B.size.toNat 0))],λb=>2-b,λb=>b<=2,[],0,Ac _,Ge,Ge,λb hb=>?_⟩
 match b,hb with
 |0,_ =>
  exact⟨at0 (a:=Ar.enc A),rfl,rfl,hTl,by omega,by simp,rfl,Bf,by decide,z01 (m:=0) (n:=1) rfl dC0,1,by decide,by decide,Ge,⟨rfl,boq (show[IV.sl 1004 A.size.toNat]=_ by simp),rwq (by simp[eInt];exact .inr rfl),Gd⟩,rfl,rfl,rfl,rfl⟩
 |1,_ =>
  exact⟨(show([A,B].map Ar.enc)[1]?=some (Ar.enc B)from rfl),rfl,rfl,hTB,by omega,by simp,by simp,rfl,rfl,Bf,Bf,by decide,z01 (m:=1) (n:=1) rfl dC0,2,by decide,by decide,Ge,⟨rfl,boq (show[IV.sl 1004 ((List.replicate A.size.toNat (0:Int)).map eInt).length,IV.sl 1014 B.size.toNat]=_ by simp),rfl,rwq (by simp[eInt];exact .inr rfl),Gd⟩,rfl,rfl,rfl,rfl⟩
 |2,_ =>
  refine⟨[],hP,sR,Gd,rfl,[],hcall,SubA.same (SubA.same (SubA.cons sN sR)),Gj,rfl,[],hO,sR,Gj,rfl,?_⟩
  cases ov with
  |true=>exact⟨rfl,sI,Gd⟩
  |false=>exact⟨rfl,sI,Gd⟩
mutual
theorem nsz_W:∀x:Nd,nsz x<=ndW x
 |.mk _ _ _ _ _ _ _ ks=>by have:=kdz_W ks;simp only[nsz,ndW];omega
theorem lsz_W:∀l:List Nd,lsz l<=lsW l
 |[]=>Ag _
 |x::r=>by have:=nsz_W x;have:=lsz_W r;simp only[lsz,lsW];omega
theorem kdz_W:∀ks:List (List Nd),kdz ks<=kdW ks
 |[]=>Ag _
 |l::r=>by have:=lsz_W l;have:=kdz_W r;simp only[kdz,kdW];omega
end
def szK:List Nd->Nat
 |[]=>0
 |x::r=>kdz x.kids+szK r
theorem yf9:∀a b:List Nd,szK (a++b)=szK a+szK b
 |[],b=>by simp[szK]
 |x::r,b=>by simp only[B9,szK,yf9 r b];omega
theorem ya0:∀a b:List (List Nd),kdz (a++b)=kdz a+kdz b
 |[],b=>by simp[kdz]
 |x::r,b=>by simp only[B9,kdz,ya0 r b];omega
theorem j0s:∀l:List Nd,lsz l=l.length+szK l
 |[]=>rfl
 |x::r=>by simp only[lsz,szK,A1,y3g,j0s r];omega
theorem j2v:∀(N:Nat)(l:List Nd),SizeOf.sizeOf l<N->lsW l<=34359738368->SC Tryz.prog 54 [.pv (z1p l)] [] (λk=>k∈[]) (iInt (lsz l)) []
 |0,_,h,_=>absurd h (Al _)
 |N+1,l,hN,hb=>by
  refine SC.vc tb {} [] Tryz.func54 rfl rfl ?_;have hl:=j0s l;have hw:=lsz_W l;refine⟨Nat,λi=>[(4,iInt i),(3,iInt ((l.length+szK (l.take i):Nat)))],λ_=>[],λi=>l.length-i,λi=>i<=l.length,[],0,Ac _,⟨rfl,ivq (by simp[szK]),Gd⟩,Gd,?_⟩;intro i hi;refine z00 (λhc=>?_) λhc=>?_
  ·have hlt:=z0x (f:=Nd.enc) rfl hc;obtain⟨x,hx,ht,hd,hm⟩:=z0o hlt;have happ:szK l=szK (l.take i)+(kdz x.kids+szK (l.drop (i+1))):=by
    conv=>lhs;rw[<- Cs i l,hd]
    rw[yf9];rfl
   have hone:szK (l.take (i+1))=szK (l.take i)+kdz x.kids:=by rw[ht,yf9];simp[szK]
   have hxw:=(@zt9 l).2 x hm;have hxe:=z86 x;refine⟨Nat,λj=>[(5,iInt j),(3,iInt ((l.length+szK (l.take i)+kdz (x.kids.take j):Nat)))],λ_=>[],λj=>x.kids.length-j,λj=>j<=x.kids.length,[],0,Ac _,⟨rfl,ivq (by simp[kdz]),Gd⟩,Gd,?_⟩;intro j hj;refine⟨z06 hx,rfl,z00 (λhc2=>?_) λhc2=>?_⟩
   ·have hlt2:=z0x (f:=eKid) rfl hc2;obtain⟨q,hq,ht2,hd2,hm2⟩:=z0o hlt2;have happ2:kdz x.kids=kdz (x.kids.take j)+(lsz q+kdz (x.kids.drop (j+1))):=by
     conv=>lhs;rw[<- Cs j x.kids,hd2]
     rw[ya0];rfl
    have hone2:kdz (x.kids.take (j+1))=kdz (x.kids.take j)+lsz q:=by rw[ht2,ya0];simp[kdz]
    have hqw:=z6q hm2;have hkl:=yj2 x.kids;exact⟨z06 hx,rfl,z02 (f:=eKid) hq,rfl,[],j2v N q (Bc (z9t hm rfl hm2) (C1 hN)) oM0,sR,Gd,rfl,z01 rfl oM0,z01 rfl oM0,j+1,z03 hlt2,hlt2,⟨rfl,ivq (by rw[hone2];omega),Gd⟩,Gd,rfl,rfl,rfl,rfl⟩
   ·have hge:=z0y (f:=eKid) rfl hc2;exact⟨z01 rfl oM0,i+1,z03 hlt,hlt,⟨rfl,ivq (by rw[hone,At hge];omega),Gd⟩,Gd,rfl,rfl,rfl,rfl⟩
  ·exact⟨sE (by rw[At (z0y (f:=Nd.enc) rfl hc),hl]),Gd⟩
def uSz:List Fl->Nat
 |[]=>0
 |f::r=>lsz f.body+uSz r
theorem yg4:∀a b:List Fl,uSz (a++b)=uSz a+uSz b
 |[],b=>by simp[uSz]
 |x::r,b=>by simp only[B9,uSz,yg4 r b];omega
theorem uSz_W:∀l:List Fl,uSz l<=wtF l
 |[]=>Ag _
 |f::r=>by have:=uSz_W r;have:=lsz_W f.body;have:=y7c f.body;simp only[uSz,wtF,z1b];omega
theorem sc_nodes(u:Un)(hW:z0i u<=34000000000):SC Tryz.prog 29 [.pv u.enc] [] (λk=>k∈[]) (iInt (uSz u.flows)) []:=by
 refine SC.vc tb {} [] Tryz.func29 rfl rfl ?_;have hw:=uSz_W u.flows;have hw2:wtF u.flows<=z0i u:=by unfold z0i;omega
 have hw3:u.flows.length<=z0i u:=by unfold z0i;omega
 refine⟨Nat,λi=>[(4,iInt i),(3,iInt (uSz (u.flows.take i)))],λ_=>[],λi=>u.flows.length-i,λi=>i<=u.flows.length,[],0,Ac _,Gf,Gd,?_⟩;intro i hi;refine z00 (λhc=>?_) λhc=>?_
 ·have hlt:=z0x (f:=Fl.enc) rfl hc;obtain⟨f,hf,ht,hd,hm⟩:=z0o hlt;have happ:uSz u.flows=uSz (u.flows.take i)+(lsz f.body+uSz (u.flows.drop (i+1))):=by
   conv=>lhs;rw[<- Cs i u.flows,hd]
   rw[yg4];rfl
  have hone:uSz (u.flows.take (i+1))=uSz (u.flows.take i)+lsz f.body:=by rw[ht,yg4];simp[uSz]
  exact⟨z02 (f:=Fl.enc) hf,rfl,[],j2v _ f.body (Ab _) (Bn (z94 hm) (Bn hW oM0)),sR,Gd,rfl,z01 rfl oM0,z01 rfl oM0,i+1,z03 hlt,hlt,⟨rfl,ivq (by rw[hone];omega),Gd⟩,Gd,rfl,rfl,rfl,rfl⟩
 ·exact⟨sE (by rw[At (z0y (f:=Fl.enc) rfl hc)]),Gd⟩
theorem sc_ins(l:List Int):SC Tryz.prog 13 [.pv (ints l)] [] (λk=>k∈[]) (.pv (ints (l.take 10))) []:=by
 refine SC.vc tb {} [] Tryz.func13 rfl rfl ?_;refine z00 (λh=>?_) λh=>?_
 ·have h2:(10:Int)<l.length:=by simpa using h
  exact⟨10,rfl,by omega,by simp;omega,zk8,sE (by simp[ints]),Gd⟩
 ·have h2:(l.length:Int)<=10:=by simpa using h
  have:l.length<=10:=by omega
  exact⟨sE (by rw[At this]),Gd⟩
theorem y44(l:List Int):SC Tryz.prog 52 [.pv (ints l),.pv (ints l)] [] (λk=>k∈[]) (iBool true) []:=by
 refine SC.vc tb { gh:=[(1,[.len 0])] } [] Tryz.func52 rfl rfl ?_;intro hl;simp only[A8]at hl;refine z00 (λh1=>absurd h1 sI0) λ_=>?_;refine⟨Nat,λk=>[(5,iInt k)],λ_=>[],λk=>l.length-k,λk=>k<=l.length,[],0,Ac _,Ge,Gd,?_⟩;intro k hk;refine z00 (λhc=>?_) λhc=>?_
 ·have hlt:=z0x (f:=eInt) rfl hc;obtain⟨x,hx,ht,hd,_⟩:=z0o hlt;exact⟨z02 (f:=eInt) hx,rfl,z02 (f:=eInt) hx,rfl,z00 (λh2=>absurd h2 sI0) λ_=>⟨z01 rfl oM0,k+1,z03 hlt,hlt,Ge,Gd,rfl,rfl,rfl,rfl⟩⟩
 ·exact⟨sI,Gd⟩
theorem sc_alike(a b:Rs)(h1:b.st=a.st)(h2:b.code=a.code)(h3:b.out=a.out):SC Tryz.prog 53 [.pv (runv a),.pv (runv b)] [] (λk=>k∈[]) (iBool true) []:=by
 refine SC.vc tb {} [] Tryz.func53 rfl rfl ?_;have hS:=y44 a.out;obtain⟨ins,ar,st,code,out,cost,fuel,spent⟩:=a;obtain⟨ins',ar',st',code',out',cost',fuel',spent'⟩:=b;obtain rfl:st'=st:=h1;obtain rfl:code'=code:=h2;obtain rfl:out'=out:=h3;refine z00 (λ_=>?_) λh=>absurd h sI0;refine z00 (λ_=>?_) λh=>absurd h sI0;exact⟨[],hS,sR,Gd,rfl,sI,Gd⟩
def Fol(a b:Rs):Prop:=(a.st=0/\a.out <+: b.out)∨(a.st≠0/\b.st=a.st/\b.code=a.code/\b.out=a.out)
theorem y3v(a b:Rs)(h:Fol a b)(hb:b.out.length<=1073741824):SC Tryz.prog 28 [.pv (runv a),.pv (runv b)] [] (λk=>k∈[]) (iBool true) []:=by
 refine SC.vc tb {} [] Tryz.func28 rfl rfl ?_;rcases h with⟨h1,h2⟩|⟨h1,h2,h3,h4⟩
 ·have hS:=y44 a.out;obtain⟨ins,ar,st,code,out,cost,fuel,spent⟩:=a;obtain⟨ins',ar',st',code',out',cost',fuel',spent'⟩:=b;obtain rfl:st=0:=h1;obtain⟨t,rfl⟩:∃t,out++t=out':=h2;refine z00 (λ_=>?_) λh=>absurd h (by simp;omega);exact⟨out.length,by simp,by omega,by simp,zk8,[],hS,SubA.same (SubA.cons (sE (by simp[ints])) sR),Gd,rfl,sI,Gd⟩
 ·have hA:=sc_alike a b h2 h3 h4;obtain⟨ins,ar,st,code,out,cost,fuel,spent⟩:=a;refine z00 (λh=>absurd (by simpa using h) h1) λ_=>?_;exact⟨[],hA,sR,Gd,rfl,sI,Gd⟩
def runA(u:Un)(ins:List Int)(fuel:Int):Rs:={ run0 ins fuel with ar:=u.arrays.map λa=>List.replicate a.size.toNat 0 }
theorem y5o(u:Un)(ins:List Int){fuel:Int}(h0:0<=fuel){B M:Int}(hB:fuel<=B)(hM:fuel<=M):Inv u.arrays.length B M (runA u ins fuel):=by
 have e:(runA u ins fuel).fuel=fuel:=by show(if fuel<0 then 0 else fuel)=fuel;rw[if_neg oM0]
 refine⟨⟨by rw[e];exact h0,D7 _,by rw[e];show(0:Int)+fuel<=B;omega⟩,by rw[e];show((0:Nat):Int)+fuel<=M;omega,by simp[runA]⟩
theorem main_ok{u:Un}(h:(z1e u).1=0):0<=z05 z0t u.flows 0/\∃g,u.flows[(z05 z0t u.flows 0).toNat]?=some g/\g.params=0:=by
 obtain⟨h1,_⟩:=(z7c u).1 h;unfold z1f at h1;simp only[A0]at h1;have h2:=h1.2;unfold z9w at h2;simp only[A0,Bj,Av]at h2;obtain⟨⟨h3,h4⟩,h5⟩:=h2;obtain⟨j,hj,hjl⟩:=zq8 z0t u.flows 0 oM0 h3;refine⟨h3,_,A9 oM0,?_⟩;rw[Ay,A9 oM0]at h5;exact h5
theorem y5p{u:Un}(hz:(z1e u).1=0)(ins:List Int){fuel:Int}(h0:0<=fuel){B M:Int}(hB:B<=4611686018427387903)(hM:M<=1073741824)(hfB:fuel<=B)(hfM:fuel<=M) :
 ∃d r,z40 u d (z05 z0t u.flows 0) [] (runA u ins fuel)=some r/\Inv u.arrays.length B M r.2:=by
 obtain⟨m1,g,m2,m3⟩:=main_ok hz;have hi:=y5o u ins h0 hfB hfM;have e:(runA u ins fuel).fuel=fuel:=by show(if fuel<0 then 0 else fuel)=fuel;rw[if_neg oM0]
 obtain⟨r,h1,h2⟩:=(j3t hB hM rfl (vf_of hz) (3*fuel.toNat+2)).2.2.1 _ [] _ m1 ⟨g,m2,by rw[m3];rfl⟩ hi (by rw[e];omega);exact⟨_,r,h1,h2⟩
structure URel(u v:Un):Prop where
 ar:v.arrays=u.arrays
 pl:∀name,z05 name v.flows 0=z05 name u.flows 0
 fl:∀(i:Nat) f g,u.flows[i]?=some f->v.flows[i]?=some g->FRel (uSz u.flows) f g
theorem j3x:∀{l:List Fl}{f:Fl},f∈l->lsz f.body<=uSz l
 |g::r,f,h=>by
  rcases Aj.1 h with rfl|h
  ·simp only[uSz];omega
  ·have:=j3x h;simp only[uSz];omega
theorem yl3(m:Bool){u v:Un}(R:URel u v)(ins:List Int){F F':Int}(h0:0<=F)(h0':0<=F'){B M:Int}(hB:B<=4611686018427387903)(hfB:F<=B)(hfB':F'<=B)(hfM:F<=M)(hfM':F'<=M)
 (hG:G m (uSz u.flows) 0 (uSz u.flows+1) F F') {d d':Nat} {q q':Int×Rs} (h:z40 u d (z05 z0t u.flows 0) [] (runA u ins F)=some q) (h':z40 v d' (z05 z0t v.flows 0) [] (runA v ins F')=some q'):RC m (uSz u.flows) q q':=by
 have e:∀(u:Un){fuel:Int},0<=fuel->(runA u ins fuel).fuel=fuel:=λu fuel h0=>by show(if fuel<0 then 0 else fuel)=fuel;rw[if_neg oM0]
 rw[R.pl]at h';refine y6r (B:=B) hB R.ar R.pl R.fl (d+1) d d' _ [] _ _ _ _ (Ab _) h h' (y5o u ins h0 hfB hfM).ok (y5o v ins h0' hfB' hfM').ok ⟨⟨⟨rfl,rfl⟩,⟨rfl,rfl⟩,rfl,?_,rfl,rfl⟩,?_,?_⟩
 ·simp only[runA,R.ar]
 ·rw[e u h0,e v h0'];exact hG
 ·exact D7 _
theorem zd2{q:Int×Rs}(h:z10 q.2=true):mEnd q=q.2:=if_pos h
theorem zx0{q:Int×Rs}(h:Live q.2):mEnd q={ q.2 with st:=1,code:=q.1 }:=if_neg (by rw[z0u h];decide)
theorem zp1(q:Int×Rs):(mEnd q).out=q.2.out:=by unfold mEnd;split<;>rfl
theorem rc_fol{N:Nat}{q q':Int×Rs}(h:RC true N q q'):Fol (mEnd q) (mEnd q')/\((mEnd q).st≠0->(mEnd q').cost<=(mEnd q).cost/\(mEnd q).fuel<=(mEnd q').fuel):=by
 cases h with
 |ok hv hr =>
  rw[zx0 hr.al.l,zx0 hr.al.l'];have hg:=hr.g;unfold G at hg;simp only[Ca]at hg;have hc:=hr.co
  exact⟨.inr ⟨show(1:Int)≠0 by decide,rfl,hv,hr.al.out⟩,λ_=>⟨by simpa using hc,by simpa using hg⟩⟩
 |halt hh =>
  obtain⟨o1,o2⟩:=hh.over;rw[zd2 o1,zd2 o2]
  exact⟨.inr ⟨hh.st,hh.st',hh.code,hh.out⟩,λ_=>⟨hh.co,hh.fu rfl⟩⟩
 |cut hc =>
  unfold Cut at hc;simp only[Ca]at hc;have e:=zd2 (z7a hc.1);refine⟨.inl ⟨by rw[e];exact hc.2.1,by rw[zp1,zp1];exact hc.2.2⟩,λh=>absurd (by rw[e];exact hc.2.1) h⟩
theorem rc_fol2{N:Nat}{q q':Int×Rs}(h:RC false N q q'):Fol (mEnd q') (mEnd q):=by
 cases h with
 |ok hv hr =>
  rw[zx0 hr.al.l,zx0 hr.al.l']
  exact .inr ⟨show(1:Int)≠0 by decide,rfl,hv.symm,hr.al.out.symm⟩
 |halt hh =>
  obtain⟨o1,o2⟩:=hh.over;rw[zd2 o1,zd2 o2]
  exact .inr ⟨by rw[hh.st'];exact hh.st,hh.st'.symm,hh.code.symm,hh.out.symm⟩
 |cut hc =>
  unfold Cut at hc;simp only[Ap,C3]at hc;have e:=zd2 (z7a hc.1);exact .inl ⟨by rw[e];exact hc.2.1,by rw[zp1,zp1];exact hc.2.2⟩
section
structure Bd(a b:Nat)(g g':Gn):Prop where
 lf:g'.left<=g.left
 ps:g'.pos+60*g'.left<=g.pos+60*g.left+a
 t1:g.types.length<=g'.types.length
 t2:g'.types.length+10*g'.left<=g.types.length+10*g.left+b
section
variable (l:List UInt8)
end
section
variable (l:List UInt8)
end
end
theorem yp9{k n:Nat}{v:Int}(hk:k<=n)(h0:0<=v)(h:v<k):(z5g k n).getD v.toNat false=true:=by
 unfold z5g;rw[Ay,Aq (by simp;omega),Di,if_pos oM0];rfl
theorem iota_mem{n:Nat}{v:Int}(h:v∈iota n):0<=v/\v<n:=by
 simp only[iota,Cc,Ey]at h;obtain⟨i,hi,rfl⟩:=h;omega
theorem once_of{u:Un}(h:(z1e u).1=0):∀g∈u.flows,(dL g.body).Nodup/\∀o∈dL g.body,o∉iota g.params.toNat:=by
 intro g hg;obtain⟨h1,h2⟩:=(z7c u).1 h;have hf:=h2 g hg;have hp:=z55 h1 g hg;unfold z5x at hf;simp only[A0]at hf;have f6:=hf.2;rw[z79 u g g.body 1 z39 _ _ (z3p oM0)]at f6;refine⟨f6.2.1,λo ho hi=>?_⟩;obtain⟨i0,i1⟩:=iota_mem hi;have:=f6.2.2 o ho;rw[yp9 oM0 i0 i1]at this
 cases this
theorem yq7{u:Un}(hz:(z1e u).1=0){f:Fl}(hf:f∈u.flows):FRel (uSz u.flows) f (z5j f):=by
 refine⟨rfl,j3x hf,?_⟩;obtain⟨v1,v2,v3,v4⟩:=vf_of hz f hf;have hz':(z1e (z3u u)).1=0:=by rw[zh0 hz]
 have hf':z5j f∈(z3u u).flows:=D4 hf;obtain⟨v1',_⟩:=vf_of hz' _ hf';obtain⟨o1,o2⟩:=once_of hz' _ hf';simp only[z3k,A0]at v1 v1';have w':=v1'.2;rw[yg8]at w';have hr:=HR.rel (y0h u f _ f.body (Ab _) 1 z39 _ v1.2) 1 z39 (iota f.params.toNat) 1 z39 (iota f.params.toNat) true true [] [] [] [] (by simpa using v1.1) ⟨v1.2,w',o1,o2,λ_ h=>h,λ_ h=>by simp at h⟩
  (λ_ h=>by simp at h) (λ_ h=>by simp at h) (λ_ h=>by simp at h) (λ_ h=>by simp at h) (λ_=>rfl) λ_=>rfl
 refine .weak (λa b h=>?_) (hr.monoE λn p p' a b h=>?_)
 ·rw[h.1];exact⟨λ_ _=>rfl,λ_ h=>by simp at h⟩
 ·unfold EF;rcases h with⟨_,_,rfl,_⟩|⟨_,rfl,_⟩|⟨_,_,rfl,_⟩|⟨_,rfl⟩<;>rfl
theorem j0e{u:Un}(hz:(z1e u).1=0):URel u (z3u u):=by
 refine⟨rfl,λname=>zq7 name u.flows 0,λi f g h h'=>?_⟩;have:(z3u u).flows[i]?=(u.flows[i]?).map z5j:=Ba ..;rw[h',h]at this;obtain rfl:g=z5j f:=C7 this;exact yq7 hz (Ae h)
theorem y4w{m n z:Int}(hn:n≠0)(h:m.tdiv n=z)(h1:-9223372036854775808<=z/\z<=9223372036854775807):z3d .quo .i64 m n=some (.int .i64 z):=by
 subst h;simp only[z3d];rw[if_neg hn,D0 _ h1]
theorem j27(u v:Un)(hW:z0i u<=34000000000)(ins:List Int)(fuel q:Int)(hf:0<=fuel/\fuel<=1000000)(hq:fuel.tdiv 4=q)(a b c d:Rs)
 (hA:SC Tryz.prog 16 [.pv u.enc,.pv (ints ins),iInt fuel] [] (λ_=>False) (.pv (runv a)) [])
 (hB:SC Tryz.prog 16 [.pv v.enc,.pv (ints ins),iInt fuel] [] (λ_=>False) (.pv (runv b)) [])
 (hC:SC Tryz.prog 16 [.pv v.enc,.pv (ints ins),iInt q] [] (λ_=>False) (.pv (runv c)) [])
 (hD:SC Tryz.prog 16 [.pv u.enc,.pv (ints ins),iInt ((q+1)*((uSz u.flows:Int)+1))] [] (λ_=>False) (.pv (runv d)) [])
 (h1:Fol a b) (h2:a.st≠0->b.cost<=a.cost/\a.fuel<=b.fuel) (h3:Fol c d) (hb:b.out.length<=1073741824) (hd:d.out.length<=1073741824) :
 SC Tryz.prog 12 [.pv u.enc,.pv v.enc,.pv (ints ins),iInt fuel] [] (λk=>k∈[]) (iBool true) []:=by
 refine SC.vc tb {} [] Tryz.func12 rfl rfl ?_;have hF1:=y3v a b h1 hb;have hF2:=y3v c d h3 hd;have hN:=sc_nodes u hW;have hw:=uSz_W u.flows;have hw2:wtF u.flows<=z0i u:=by unfold z0i;omega
 have hqb:0<=q/\q<=1000000:=by
  rw[<- hq,Eh hf.1];omega
 have hm:-9223372036854775808<=(q+1)*((uSz u.flows:Int)+1)/\(q+1)*((uSz u.flows:Int)+1)<=9223372036854775807:=by
  have x1:0<=(q+1)*((uSz u.flows:Int)+1):=G2 oM0 oM0;have x2:(q+1)*((uSz u.flows:Int)+1)<=1000001*34000000001:=Int.mul_le_mul oM0 oM0 oM0 oM0;omega
 obtain⟨ains,aar,ast,acode,aout,acost,afuel,asp⟩:=a;obtain⟨bins,bar,bst,bcode,bout,bcost,bfuel,bsp⟩:=b;dsimp only at h2;refine⟨[],hA,sR,Gd,rfl,[],hB,sR,Gd,rfl,[],hF1,sR,Gd,rfl,?_⟩;refine z00 (λh5=>?_) λh5=>?_
 ·have hst:ast≠0:=by simpa using h5
  obtain⟨c1,c2⟩:=h2 hst;refine z00 (λh6=>absurd h6 (by simp;omega)) λ_=>z00 (λh6=>absurd h6 (by simp;omega)) λ_=>?_;exact⟨y4w dC0 hq oM0,[],hC,sR,Gd,rfl,y4w dC0 hq oM0,z01 rfl oM0,[],hN,sR,Gd,rfl,z01 rfl oM0,y4v rfl hm,[],hD,sR,Gd,rfl,[],hF2,sR,Gd,rfl,sI,Gd⟩
 ·exact⟨y4w dC0 hq oM0,[],hC,sR,Gd,rfl,y4w dC0 hq oM0,z01 rfl oM0,[],hN,sR,Gd,rfl,z01 rfl oM0,y4v rfl hm,[],hD,sR,Gd,rfl,[],hF2,sR,Gd,rfl,sI,Gd⟩
theorem gA_mem{A:Ar}(u:Un):∀(l:List Ar)(p:Int),r8gA u l p=true->A∈l->0<=A.size/\A.size<=1000
 |[],_,_,h=>by cases h
 |B::r,p,h1,h=>by
  simp only[r8gA,gArr,A0,Bg,C8]at h1;rcases Aj.1 h with rfl|h
  ·omega
  ·exact gA_mem u r _ h1.2 h
theorem arr_size{u:Un}{A:Ar}(hz:(z1e u).1=0)(h:A∈u.arrays):0<=A.size/\A.size<=1000:=by
 obtain⟨h1,_⟩:=(z7c u).1 hz;unfold z1f at h1;simp only[A0]at h1;exact gA_mem _ _ _ h1.1.1 h
theorem yo0(u:Un)(h1:u.arrays.length<=2)(hW:z0i u<=34000000000)(hz:(z1e u).1=0)(ins:List Int)(fuel:Int)(d:Nat)(r:Int×Rs)(h:z40 u d (z05 z0t u.flows 0) [] (runA u ins fuel)=some r) :
 SC Tryz.prog 16 [.pv u.enc,.pv (ints ins),iInt fuel] [] (λ_=>False) (.pv (runv (mEnd r))) []:=by
 have hs:=@arr_size u;obtain⟨ar,fs⟩:=u;rcases ar with _|⟨A,_|⟨A2,_|⟨A3,t⟩⟩⟩
 ·exact j3i fs hW hz ins fuel d r h
 ·exact sr_run1 fs A hW hz ins fuel d r h (hs hz (.head _))
 ·exact sr_run2 fs A A2 hW hz ins fuel d r h (hs hz (.head _)) (hs hz (.tail _ (.head _)))
 ·simp at h1
theorem yc9{u v:Un}(R:URel u v)(h1:u.arrays.length<=2)(hW:z0i u<=34000000000)(hW':z0i v<=34000000000)(hz:(z1e u).1=0)(hz':(z1e v).1=0)(hN:uSz u.flows<=4000000)(ins:List Int)(fuel:Int)(hf:0<=fuel/\fuel<=510) :
 SC Tryz.prog 12 [.pv u.enc,.pv v.enc,.pv (ints ins),iInt fuel] [] (λk=>k∈[]) (iBool true) []:=by
 have hq:0<=fuel.tdiv 4/\fuel.tdiv 4<=127:=by rw[Eh hf.1];omega
 have hfD0:0<=(fuel.tdiv 4+1)*((uSz u.flows:Int)+1):=G2 oM0 oM0;have hfD:(fuel.tdiv 4+1)*((uSz u.flows:Int)+1)<=128*4000001:=Int.mul_le_mul oM0 oM0 oM0 oM0;have B:(1073741824:Int)<=4611686018427387903:=by decide
 have M:(1073741824:Int)<=1073741824:=by decide
 have hav:v.arrays.length<=2:=by rw[R.ar];exact h1
 obtain⟨da,qa,ra,ia⟩:=y5p hz ins hf.1 B M oM0 oM0;obtain⟨db,qb,rb,ib⟩:=y5p hz' ins hf.1 B M oM0 oM0;obtain⟨dc,qc,rc,ic⟩:=y5p hz' ins hq.1 B M oM0 oM0;obtain⟨dd,qd,rd,id⟩:=y5p hz ins hfD0 B M oM0 oM0;have k1:=rc_fol (yl3 true R ins hf.1 hf.1 B (M:=1073741824) oM0 oM0 oM0 oM0 (by unfold G;simp) ra rb);have k2:=rc_fol2 (yl3 false R ins hfD0 hq.1 B (M:=1073741824) oM0 oM0 oM0 oM0 (by
  unfold G;simp only[Ap,C3];rw[Int.add_mul];generalize fuel.tdiv 4*((uSz u.flows:Int)+1)=P;omega) rd rc)
 have ob:qb.2.out.length<=1073741824:=by have:=ib.out;have:=ib.ok.1;omega
 have od:qd.2.out.length<=1073741824:=by have:=id.out;have:=id.ok.1;omega
 exact j27 u v hW ins fuel (fuel.tdiv 4) oM0 rfl _ _ _ _ (yo0 u h1 hW hz ins fuel da qa ra) (yo0 v hav hW' hz' ins fuel db qb rb) (yo0 v hav hW' hz' ins _ dc qc rc) (yo0 u h1 hW hz ins _ dd qd rd) k1.1 k1.2 k2 (by rw[zp1];exact ob) (by rw[zp1];exact od)
theorem sc_run0(u:Un)(hu:u.arrays=[])(hW:z0i u<=34000000000)(hz:(z1e u).1=0)(ins:List Int)(fuel:Int)(d:Nat)(r:Int×Rs)(h:z40 u d (z05 z0t u.flows 0) [] (run0 ins fuel)=some r):SC Tryz.prog 16 [.pv u.enc,.pv (ints ins),iInt fuel] [] (λ_=>False) (.pv (runv (mEnd r))) []:=by
 obtain⟨ar,fs⟩:=u;obtain rfl:ar=[]:=hu;exact j3i fs hW hz ins fuel d r h
theorem y1k:∀(N:Nat)(l:List Nd),SizeOf.sizeOf l<N->lsW l<=34359738368->SC Tryz.prog 27 [.pv (z1p l)] [] (λk=>k∈[]) (iBool (z58 l)) []
 |0,_,h,_=>absurd h (Al _)
 |N+1,l,hN,hb=>by
  refine SC.vc tb { jn:=[7] } [] Tryz.func27 rfl rfl ?_;have hle:=ya4 l;refine⟨Nat,λi=>[(3,iInt ((i:Nat):Int))],λ_=>[],λi=>l.length-i,λi=>i<=l.length/\z58 l=z58 (l.drop i),[],0,⟨Ac _,rfl⟩,Ge,Gd,?_⟩;rintro i ⟨i1,i2⟩;refine z00 (λhc=>?_) λhc=>?_
  ·have hlt:i<l.length:=z0x (f:=Nd.enc) rfl hc;obtain⟨x,x1,x2,x3,x4⟩:=z0o hlt;have hWx:=z86 x;have hWl:=y53 x4;have hkl:=yj2 x.kids;rw[x3,show z58 (x::l.drop (i+1))=(yz9 x&&z58 (l.drop (i+1)))from rfl,fineN_eq]at i2;refine⟨z06 x1,rfl,Unit,λ_=>[],λ_=>[],λ_=>y2e x=false,[],?_,?_⟩
   ·have hF:y2e x=(x.kind==11&&(match x.kids with|[y::_]=>y9n y && !fAny y.args x.params|_=>false)):=by cases x;rfl
    refine z00 (λh1=>?_) λh1=>?_
    ·rw[show(x.kind==11)=true from h1,B5]at hF;refine z00 (λh2=>?_) λh2=>?_
     ·have h2:(((x.kids.map eKid).length:Int)==1)=true:=h2;rw[A8]at h2;have h2:=eq_of_beq h2;obtain⟨b,hbk⟩:=Ce.1 (show x.kids.length=1 by omega);have g0:(x.kids.map eKid)[0]?=some [z1p b]:=by rw[hbk];rfl
      rw[hbk]at hF;refine⟨g0,rfl,z00 (λh3=>?_) λh3=>?_⟩
      ·have h3:decide (((b.map Nd.enc).length:Int) > 0)=true:=h3;rw[A8]at h3;have h3:=Am h3;obtain⟨y,r,rfl⟩:=C2 (show b≠[] by intro e;rw[e]at h3;simp at h3);have y0:(y::r)[0]?=some y:=rfl;have hI:=sc_idle y;have hA:=sc_any y.args x.params;dsimp only at hF;generalize y9n y=c1 at hI hF;generalize fAny y.args x.params=c2 at hA hF
       cases c1
       ·exact⟨g0,rfl,z06 y0,rfl,[],hI,sR,Gd,rfl,(),hF,Gd,Gd,rfl,rfl,rfl,rfl⟩
       ·cases c2
        ·exact⟨g0,rfl,z06 y0,rfl,[],hI,sR,Gd,rfl,g0,rfl,z06 y0,rfl,[],hA,sR,Gd,rfl,sE (by rw[i2,hF];rfl),Gd⟩
        ·exact⟨g0,rfl,z06 y0,rfl,[],hI,sR,Gd,rfl,g0,rfl,z06 y0,rfl,[],hA,sR,Gd,rfl,(),hF,Gd,Gd,rfl,rfl,rfl,rfl⟩
      ·have h3:decide (((b.map Nd.enc).length:Int) > 0)=false:=h3;rw[A8]at h3;have h3:=Ak h3;obtain rfl:b=[]:=Aw oM0;exact⟨(),hF,Gd,Gd,rfl,rfl,rfl,rfl⟩
     ·have h2:(((x.kids.map eKid).length:Int)==1)=false:=h2;rw[A8]at h2;have h2:x.kids.length≠1:=λe=>by rw[e]at h2;exact absurd h2 dC0
      have hF:y2e x=false:=by
       rw[hF]
       match x.kids,h2 with
       |[],_=>rfl
       |[a],h2=>exact absurd rfl h2
       |a::b::c,_=>cases a<;>rfl
      exact⟨(),hF,Gd,Gd,rfl,rfl,rfl,rfl⟩
    ·rw[show(x.kind==11)=false from h1,Cz]at hF;exact⟨(),hF,Gd,Gd,rfl,rfl,rfl,rfl⟩
   ·rintro _ hF;rw[hF,Dv,B5]at i2;refine⟨Nat,λj=>[(5,iInt ((j:Nat):Int))],λ_=>[],λj=>x.kids.length-j,λj=>j<=x.kids.length/\zp3 x.kids=zp3 (x.kids.drop j),[],0,⟨Ac _,rfl⟩,Ge,Gd,?_⟩;rintro j ⟨j1,j2⟩;refine z00 (λhc2=>?_) λhc2=>?_
    ·have hlt2:j<x.kids.length:=z0x (f:=eKid) rfl hc2;obtain⟨q,q1,q2,q3,q4⟩:=z0o hlt2;have hqW:=z6q q4;have hQ:=y1k N q (Bc (z9t x4 rfl q4) (C1 hN)) oM0;rw[q3,show zp3 (q::x.kids.drop (j+1))=(z58 q&&zp3 (x.kids.drop (j+1)))from rfl]at j2;generalize z58 q=c at hQ j2
     cases c
     ·exact⟨z02 (f:=eKid) q1,rfl,[],hQ,sR,Gd,rfl,sE (by rw[i2,j2];rfl),Gd⟩
     ·exact⟨z02 (f:=eKid) q1,rfl,[],hQ,sR,Gd,rfl,z01 rfl oM0,j+1,z03 hlt2,⟨hlt2,j2⟩,Ge,Gd,rfl,rfl,rfl,rfl⟩
    ·have hge2:x.kids.length<=j:=z0y (f:=eKid) rfl hc2;rw[Ad hge2]at j2;rw[j2]at i2;exact⟨z01 rfl oM0,i+1,z03 hlt,⟨hlt,i2⟩,Ge,Gd,rfl,rfl,rfl,rfl⟩
  ·have hge:l.length<=i:=z0y (f:=Nd.enc) rfl hc;rw[Ad hge]at i2;exact⟨sE (by rw[i2];rfl),Gd⟩
theorem sc_fine(l:List Nd)(hb:lsW l<=34359738368):SC Tryz.prog 27 [.pv (z1p l)] [] (λk=>k∈[]) (iBool (z58 l)) []:=y1k _ l (Ab _) hb
theorem yn4(u:Un)(hW:z0i u<=34000000000):SC Tryz.prog 11 [.pv u.enc] [] (λk=>k∈[]) (iBool (y2z u)) []:=by
 refine SC.vc tb { pb:=[101] } [] Tryz.func11 rfl rfl ?_;have hw2:u.flows.length<=z0i u:=by unfold z0i;omega
 unfold y2z;refine⟨Nat,λi=>[(3,iInt ((i:Nat):Int))],λ_=>[],λi=>u.flows.length-i,λi=>i<=u.flows.length/\(u.flows.all λf=>z58 f.body)=((u.flows.drop i).all λf=>z58 f.body),[],0,⟨Ac _,rfl⟩,Ge,Gd,?_⟩;rintro i ⟨i1,i2⟩;refine z00 (λhc=>?_) λhc=>?_
 ·have hlt:i<u.flows.length:=z0x (f:=Fl.enc) rfl hc;obtain⟨x,x1,x2,x3,x4⟩:=z0o hlt;rw[x3,D8]at i2;have hx:=z94 x4;have hF:=sc_fine x.body oM0;generalize z58 x.body=b at hF i2
  cases b
  ·exact⟨z02 (f:=Fl.enc) x1,rfl,[],hF,sR,Gd,rfl,sE (by rw[i2];rfl),Gd⟩
  ·exact⟨z02 (f:=Fl.enc) x1,rfl,[],hF,sR,Gd,rfl,z01 rfl oM0,i+1,z03 hlt,⟨hlt,i2⟩,Ge,Gd,rfl,rfl,rfl,rfl⟩
 ·have hge:u.flows.length<=i:=z0y (f:=Fl.enc) rfl hc;rw[Ad hge]at i2;exact⟨sE (by rw[i2];rfl),Gd⟩
theorem j33(ts:List Int)(l:List Nd):SC Tryz.prog 15 [.pv (ints ts),.pv (z1p l)] [] (λk=>k∈[]) (.pv (.agg [.val (.slice none 0 0),flws [⟨z0t,1,0,ts,l⟩]])) []:=by
 refine SC.vc tb {} [] Tryz.func15 rfl rfl ?_;exact⟨sI,Gd⟩
mutual
def kdN:Nd->Bool
 |.mk kind _ _ _ _ _ _ ks=>decide (1<=kind)&&kdK ks
def kdL:List Nd->Bool
 |[]=>true
 |x::r=>kdN x&&kdL r
def kdK:List (List Nd)->Bool
 |[]=>true
 |l::r=>kdL l&&kdK r
end
theorem kdN_eq(x:Nd):kdN x=(decide (1<=x.kind)&&kdK x.kids):=by cases x;simp only[kdN];rfl
theorem za4:∀a b:List Nd,z58 (a++b)=(z58 a&&z58 b)
 |[],b=>by simp[z58]
 |x::a,b=>by simp only[B9,z58,za4 a b,Ej]
theorem zp9:∀a b:List Nd,kdL (a++b)=(kdL a&&kdL b)
 |[],b=>by simp[kdL]
 |x::a,b=>by simp only[B9,kdL,zp9 a b,Ej]
theorem y0w:∀(l:List Nd)(vs:List Int),z58 l=true->z58 (z0s vs l).1=true/\z58 (z0s vs l).2=true
 |[],_,_=>⟨rfl,rfl⟩
 |x::r,vs,h=>by
  simp only[z58,A0]at h;unfold z0s;split
  ·split
   ·have:=y0w r (vs++[x.outs.headD 0]) h.2;exact⟨this.1,by simp only[z58,A0];exact⟨h.1,this.2⟩⟩
   ·have:=y0w r vs h.2;exact⟨by simp only[z58,A0];exact⟨h.1,this.1⟩,this.2⟩
  ·exact⟨rfl,by simp only[z58,A0];exact h⟩
theorem yc0:∀(l:List Nd)(vs:List Int),kdL l=true->kdL (z0s vs l).1=true/\kdL (z0s vs l).2=true
 |[],_,_=>⟨rfl,rfl⟩
 |x::r,vs,h=>by
  simp only[kdL,A0]at h;unfold z0s;split
  ·split
   ·have:=yc0 r (vs++[x.outs.headD 0]) h.2;exact⟨this.1,by simp only[kdL,A0];exact⟨h.1,this.2⟩⟩
   ·have:=yc0 r vs h.2;exact⟨by simp only[kdL,A0];exact⟨h.1,this.1⟩,this.2⟩
  ·exact⟨rfl,by simp only[kdL,A0];exact h⟩
theorem y7t:∀(l:List Nd)(vs:List Int)(y:Nd)(q:List Nd),(z0s vs l).2=y::q->z1y y=false∨(y.args.any λv=>vs.contains v)=true
 |[],_,_,_,h=>by simp[z0s]at h
 |x::r,vs,y,q,h=>by
  unfold z0s at h;split at h
  ·split at h
   ·rename_i h1 h2
    cases h
    exact .inr h2
   ·exact y7t r vs y q h
  ·rename_i h1
   cases h
   exact .inl (by simpa using h1)
theorem y9v{y:Nd}(h:1<=y.kind)(hm:z1y y=false):y9n y=false:=by
 simp only[z1y,Bu,Aa]at hm;obtain⟨⟨⟨h1,h2⟩,h3⟩,h4⟩:=hm;simp only[y9n,h4,Ds,C8];omega
theorem y6n(l vs:List Int):(l.any λv=>vs.contains v)=fAny l vs:=by
 unfold fAny
 congr 1
 funext v
 exact List.contains_eq_any_beq
theorem out_fine(kind op n:Int)(name:ByteArray)(args outs params:List Int)(ks:List (List Nd))(h0:1<=kind)(hk:kdK ks=true)(hf:zp3 ks=true) :
 kdL (hOut kind op n name args outs params ks)=true/\z58 (hOut kind op n name args outs params ks)=true:=by
 have one:∀ks',kdK ks'=true->zp3 ks'=true->y2e (.mk kind op n name args outs params ks')=false->kdL [.mk kind op n name args outs params ks']=true/\z58 [.mk kind op n name args outs params ks']=true:=by
  intro ks' h1 h2 h3;simp only[kdL,kdN,z58,yz9,h1,h2,h3,Ct,Dv,Bj];exact⟨h0,Gd⟩
 unfold hOut;split
 ·rename_i h11
  cases ks with
  |nil=>exact one [] rfl rfl (by simp[y2e,Nd.kids])
  |cons b r =>
   simp only[kdK,zp3,A0]at hk hf;have p1:=y0w b params hf.1;have p2:=yc0 b params hk.1;have hh:y2e (.mk kind op n name args outs params ((z0s params b).2::r))=false:=by
    unfold y2e;simp only[Nd.kids,Nd.params];split
    ·rename_i y q he
     cases he':(z0s params b).2 with
     |nil=>rw[he']at he;simp at he
     |cons z w =>
      rw[he']at he;simp only[List.cons.injEq]at he;obtain⟨⟨rfl,_⟩,_⟩:=he;have hkd:=p2.2;rw[he']at hkd;simp only[kdL,kdN_eq,A0,Bj]at hkd;rcases y7t b params _ _ he' with h1|h1
      ·rw[y9v hkd.1.1 h1];simp
      ·rw[y6n]at h1;rw[h1];simp
    ·simp
   have h1:=one ((z0s params b).2::r) (by simp only[kdK,A0];exact⟨p2.2,hk.2⟩) (by simp only[zp3,A0];exact⟨p1.2,hf.2⟩) hh;simp only[zp9,za4,A0];exact⟨⟨p2.1,h1.1⟩,⟨p1.1,h1.2⟩⟩
 ·rename_i h11;exact one ks hk hf (by simp[y2e,Nd.kind,h11])
mutual
theorem fineN_h:∀x:Nd,kdN x=true->kdL (z4x x)=true/\z58 (z4x x)=true
 |.mk kind op n name args outs params ks,h=>by
  simp only[kdN,A0,Bj]at h;have:=yz8 ks h.2;unfold z4x;exact out_fine kind op n name args outs params _ h.1 this.1 this.2
theorem y9o:∀l:List Nd,kdL l=true->kdL (z0z l)=true/\z58 (z0z l)=true
 |[],_=>⟨rfl,rfl⟩
 |x::r,h=>by
  simp only[kdL,A0]at h;have h1:=fineN_h x h.1;have h2:=y9o r h.2;simp only[z0z,zp9,za4,A0];exact⟨⟨h1.1,h2.1⟩,⟨h1.2,h2.2⟩⟩
theorem yz8:∀ks:List (List Nd),kdK ks=true->kdK (z4b ks)=true/\zp3 (z4b ks)=true
 |[],_=>⟨rfl,rfl⟩
 |l::r,h=>by
  simp only[kdK,A0]at h;have h1:=y9o l h.1;have h2:=yz8 r h.2;simp only[z4b,kdK,zp3,A0];exact⟨⟨h1.1,h2.1⟩,⟨h1.2,h2.2⟩⟩
end
theorem yt2{u:Un}{f:Fl}{x:Nd}{s:List Int}{w:Wh}{tys outs:List Int}(h:(z8y u f x s w).ok tys outs=true):1<=x.kind:=by
 rcases Int.lt_or_le x.kind 1 with hk|hk
 ·exfalso;have e:∀n:Int,1<=n->(x.kind==n)=false:=λn hn=>by simp only[Aa];omega
  unfold z8y at h;simp only[e 1 oM0,e 2 oM0,e 3 oM0,e 4 oM0,e 5 oM0,e 6 oM0,e 7 oM0,e 8 oM0,e 9 oM0,e 12 oM0,e 13 oM0,e 14 oM0,e 15 oM0,Ap,C3]at h;simp[SForm.ok]at h
 ·exact hk
mutual
theorem j0k(u:Un)(f:Fl):∀(x:Nd)(deep:Int)(w:Wh)(s:List Int),z6w u f deep w s x=true->kdN x=true
 |.mk kind op n name args outs params ks,deep,w,s,h=>by
  have hb:=z2l u f deep w s h;simp only[kdN,A0,Bj]
  by_cases h10:kind=10
  ·refine⟨by omega,?_⟩;obtain⟨a,b,hk⟩:=z3v hb h10;rw[z5v u f deep w s hb h10 hk]at h;simp only[A0,z3k]at h;simp only[Nd.kids]at hk
   match ks,hk with
   |[a',b'],hk =>
    cases hk
    simp only[kdK,A0,Ct];exact⟨za9 u f a _ _ _ h.1.1.1.2.2,za9 u f b _ _ _ h.1.1.2.2⟩
  ·by_cases h11:kind=11
   ·refine⟨by omega,?_⟩;obtain⟨a,hk⟩:=z25 hb h11;rw[z3i u f deep w s hb h11 hk]at h;simp only[A0,z3k]at h;simp only[Nd.kids]at hk
    match ks,hk with
    |[a'],hk =>
     cases hk
     simp only[kdK,Ct];exact za9 u f a _ _ _ h.1.1.2.2
   ·have e10:(kind==10)=false:=by simpa using h10
    have e11:(kind==11)=false:=by simpa using h11
    have hk0:=z8o hb e10 e11;simp only[Nd.kids]at hk0;rw[z2r u f deep w s hb e10 e11]at h;exact⟨yt2 h,by rw[hk0];rfl⟩
theorem za9(u:Un)(f:Fl):∀(l:List Nd)(deep:Int)(w:Wh)(s:List Int),vGo u f deep w s l=true->kdL l=true
 |[],_,_,_,_=>rfl
 |x::r,deep,w,s,h=>by
  simp only[vGo,A0]at h;simp only[kdL,A0];exact⟨j0k u f x _ _ _ h.1.1.2,za9 u f r _ _ _ h.2⟩
end
theorem kd_valid{u:Un}(h:(z4v u).1=0):∀f∈u.flows,kdL f.body=true:=by
 rw[ze8]at h;intro f hf;have hF:=((z7c u).1 h).2 f hf;unfold z5x at hF;simp only[A0]at hF;obtain⟨h1,h2⟩:=hF;have hp:f.params.toNat<=f.types.length:=by
  have a1:=h1.1.1.1.1;have a2:=h1.1.1.2;simp only[Bg,C8]at a1 a2;omega
 have hn:(z5g f.params.toNat f.types.length).length=f.types.length:=z3p hp;rw[z79 u f f.body 1 z39 _ _ hn]at h2;have hv:=h2.1;simp only[z3k,A0]at hv;exact za9 u f f.body _ _ _ hv.2
theorem y1c(u:Un):y2z (z6o u).1=true:=by
 unfold z6o;split
 ·rename_i h;unfold y2z z3u;simp only[List.all_map,Bi];intro f hf;exact(y9o f.body (kd_valid (by simpa using h) f hf)).2
 ·rfl
def wakeL:List Nd:=[(.mk 1 0 1 ⟨#[]⟩ [] [0] [] []),(.mk 11 0 0 ⟨#[]⟩ [0] [4] [1] [[(.mk 1 0 10 ⟨#[]⟩ [] [2] [] []),(.mk 4 1 0 ⟨#[]⟩ [1,2] [3] [] []),(.mk 14 0 0 ⟨#[]⟩ [3] [] [] [])]]),(.mk 15 0 0 ⟨#[]⟩ [4] [] [] [])]
def y98:Un:=⟨[],[⟨z0t,1,0,[1,1,1,1,1],wakeL⟩]⟩
theorem zt1:(z1e y98).1=0:=by decide +kernel
theorem y2b:z0i y98<=34000000000:=by decide +kernel
theorem j4h:((z40 (z3u y98) 20 (z05 z0t (z3u y98).flows 0) [] (run0 [] 6)).map λr=>(z10 r.2,r.1))=some (false,11):=by decide +kernel
theorem wake_run:∃r,z40 (z3u y98) 20 (z05 z0t (z3u y98).flows 0) [] (run0 [] 6)=some r/\(mEnd r).st=1/\(mEnd r).code=11:=by
 have h:=j4h;rw[A7]at h;obtain⟨r,h1,h2⟩:=h;simp only[Eg]at h2;refine⟨r,h1,?_,?_⟩
 ·simp only[mEnd,h2.1,Ap,C3]
 ·simp only[mEnd,h2.1,Ap,C3,h2.2]
def j4g:PV:=.seq [[vInt 1,vInt 0,vInt 1,vStr ⟨#[]⟩,.val (.slice none 0 0),.seq [[vInt 0]],.val (.slice none 0 0),.val (.slice none 0 0)],[vInt 11,vInt 0,vInt 0,vStr ⟨#[]⟩,.seq [[vInt 0]],.seq [[vInt 4]],.seq [[vInt 1]],.seq [[.seq [[vInt 1,vInt 0,vInt 10,vStr ⟨#[]⟩,.val (.slice none 0 0),.seq [[vInt 2]],.val (.slice none 0 0),.val (.slice none 0 0)],[vInt 4,vInt 1,vInt 0,vStr ⟨#[]⟩,.seq [[vInt 1],[vInt 2]],.seq [[vInt 3]],.val (.slice none 0 0),.val (.slice none 0 0)],[vInt 14,vInt 0,vInt 0,vStr ⟨#[]⟩,.seq [[vInt 3]],.val (.slice none 0 0),.val (.slice none 0 0),.val (.slice none 0 0)]]]]],[vInt 15,vInt 0,vInt 0,vStr ⟨#[]⟩,.seq [[vInt 4]],.val (.slice none 0 0),.val (.slice none 0 0),.val (.slice none 0 0)]]
theorem wake_sub:PSub j4g (z1p wakeL):=by
 show PSub _ (.seq [_,_,_])
 repeat' (first|exact PSub.nil|exact PSub.refl _|exact trivial|refine And.intro ?_ ?_|refine PSub.seq (ps:=[_,_,_]) (qs:=[_,_,_]) ?_|refine PSub.seq (ps:=[_]) (qs:=[_]) ?_)
theorem y9l:z6o ⟨[],[]⟩=(⟨[],[]⟩,1):=y9t (by decide +kernel)
theorem j26(L:List Nd)(hL:PSub j4g (z1p L))(V:Un)(hH:z6o (⟨[],[⟨z0t,1,0,[1,1,1,1,1],L⟩]⟩:Un)=(V,0))(hW:z0i (⟨[],[⟨z0t,1,0,[1,1,1,1,1],L⟩]⟩:Un)<=34000000000)(hVa:V.arrays=[])(hVl:V.flows.length=1)(hVr:y2z V=true)(hVW:z0i V<=34000000000)(hVz:(z1e V).1=0)(r:Int×Rs)(hr:z40 V 20 (z05 z0t V.flows 0) [] (run0 [] 6)=some r)(h1:(mEnd r).st=1)(h2:(mEnd r).code=11):SC Tryz.prog 6 [] [] (λk=>k∈[]) (iBool true) []:=by
 refine SC.vc tb {} [] Tryz.func6 rfl rfl ?_;have hsc:=y5s (⟨[],[⟨z0t,1,0,[1,1,1,1,1],L⟩]⟩:Un) hW y09;rw[hH]at hsc;have hse:=y5s ⟨[],[]⟩ dC0 y09;rw[y9l]at hse;have hR:=yn4 V hVW;rw[hVr]at hR;have hrun:=sc_run0 V hVa hVW hVz [] 6 20 r hr;have hv:runv (mEnd r)=.agg [vInt 1,vInt 11,ints (mEnd r).out,vInt (mEnd r).cost,vInt (mEnd r).fuel]:=by unfold runv;rw[h1,h2]
 rw[hv]at hrun;obtain⟨va,vf⟩:=V;obtain⟨f0,rfl⟩:=Ce.1 (show vf.length=1 from hVl);exact⟨[],j33 [1,1,1,1,1] L,SubA.same (SubA.cons (sP hL) SubA.nil),Gd,rfl,[],hsc,SubA.cons (sP (z0g _)) SubA.nil,Gd,rfl,[],hrun,SubA.same (SubA.cons sN sR),Gd,rfl,[],hR,sR,Gd,rfl,[],hse,SubA.cons (sP (z0g _)) SubA.nil,Gd,rfl,sI,Gd⟩
theorem sc_awake:SC Tryz.prog 6 [] [] (λk=>k∈[]) (iBool true) []:=by
 obtain⟨r,hr,h1,h2⟩:=wake_run;have hc:=zh0 zt1;exact j26 wakeL wake_sub (z3u y98) (z83 zt1) y2b rfl rfl (by have:=y1c y98;rw[z83 zt1]at this;exact this) (by rw[y6i];exact y2b) (by rw[hc]) r hr h1 h2
def riH(p:Pg)(lo:Lo)(vs:List (Value×PV))(s:RiS):List (Nat×HO):=riBx p s.ts lo++riLx vs s.ns
def j1j(k:Int)(n:Nat)(b:Bool):Bool:=if k=5 then n==2 else if k=1∨k=2∨k=3∨k=4∨k=6∨k=8 then true else b
mutual
def riOk(p:Pg):Ex->Bool
 |.mk k _ _ nm args=>j1j k args.length (decide (0<=z3n p nm))&&zm2 p args
def zm2(p:Pg):List Ex->Bool
 |[]=>true
 |x::r=>riOk p x&&zm2 p r
end
theorem zc6{p:Pg}{x:Ex}:∀{l:List Ex},zm2 p l=true->x∈l->riOk p x=true
 |y::r,h,hm=>by
  simp only[zm2,A0]at h;rcases Aj.1 hm with rfl|hm
  ·exact h.1
  ·exact zc6 h.2 hm
def fRX(p:Pg)(lo:Lo)(vs:List (Value×PV))(e:Ex):Prop:=∀s:RiS,s.ts.length+4*xz e<=34000000000->s.ns.length+4*xz e<=34000000000->SC Tryz.prog 117 [.ptr 4 0,.pv (exv e)] (riH p lo vs s) (λk=>k∈[]) (iInt (riX p vs e s).1) (riH p lo vs (riX p vs e s).2)
def riLe(s s':RiS)(n:Nat):Prop:=s'.ts.length<=s.ts.length+4*n/\s'.ns.length<=s.ns.length+4*n
theorem riTop_le(p:Pg)(k o n:Int)(nm:ByteArray)(l:List Int)(s:RiS):riLe s (zr4 p k o n nm l s).2 1:=by
 unfold zr4 riLe
 repeat' split
 all_goals simp[z6k]
theorem ys7(o a:Int)(ns:List Nd)(r:Int×RiS):(z6s o a ns r).2.ts.length=r.2.ts.length+2/\(z6s o a ns r).2.ns.length=ns.length+1:=by
 unfold z6s;split<;>simp[z6k]
theorem zv1(p:Pg)(vs:List (Value×PV)):∀(N:Nat),(∀e:Ex,SizeOf.sizeOf e<N->∀s,riLe s (riX p vs e s).2 (xz e))/\(∀l:List Ex,SizeOf.sizeOf l<N->∀s,riLe s (riXL p vs l s).2 (xzL l))/\(∀(o:Int)(l:List Ex),SizeOf.sizeOf l<N->∀s,riLe s (riSh p vs o l s).2 (1+xzL l))/\(∀(o a:Int)(s:RiS)(l:List Ex),SizeOf.sizeOf l<N->riLe s (zm4 p vs o a s l).2 (1+xzL l))
 |0=>⟨λ_ h=>absurd h (Al _),λ_ h=>absurd h (Al _),λ_ _ h=>absurd h (Al _),λ_ _ _ _ h=>absurd h (Al _)⟩
 |N+1=>by
  obtain⟨h1,h2,h3,h4⟩:=zv1 p vs N;refine⟨λe he s=>?_,λl hl s=>?_,λo l hl s=>?_,λo a s l hl=>?_⟩
  ·obtain⟨k,o,n,nm,args⟩:=e;simp at he;rw[riX];split
   ·exact⟨Bk _ _,Bk _ _⟩
   ·split
    ·have:=h3 o args oM0 s;simp only[xz];exact this
    ·have g1:=h2 args oM0 s;have g2:=riTop_le p k o n nm (riXL p vs args s).1 (riXL p vs args s).2;simp only[xz];unfold riLe at g1 g2⊢;omega
  ·match l with
   |[]=>rw[riXL];exact⟨Bk _ _,Bk _ _⟩
   |e::r =>
    simp at hl;have g1:=h1 e oM0 s;have g2:=h2 r oM0 (riX p vs e s).2;rw[riXL];simp only[xzL];unfold riLe at g1 g2⊢;omega
  ·match l with
   |[]=>rw[riSh];exact⟨Bk _ _,Bk _ _⟩
   |e::r =>
    simp at hl;have g1:=h1 e oM0 s;have g2:=h4 o (riX p vs e s).1 (riX p vs e s).2 r oM0;rw[riSh];simp only[xzL];unfold riLe at g1 g2⊢;omega
  ·match l with
   |[]=>rw[zm4];exact⟨Bk _ _,Bk _ _⟩
   |e::r =>
    simp at hl;have g1:=h1 e oM0 ⟨s.ts,[]⟩;have g2:=ys7 o a s.ns (riX p vs e ⟨s.ts,[]⟩);rw[zm4];simp only[xzL];unfold riLe at g1⊢;dsimp only at g1;omega
def riLk(a b c:Nat)(vs:List (Value×PV))(ns:List Nd):List (Nat×HO):=[(a,.box [.ptr 1 0,.mp b,.sl c (ns.map Nd.enc).length]),(b,.map vs),(c,.row ndRt (ns.map Nd.enc))]
theorem riK14{f:FuncId}{p p':Pg}{ts ts':List Int}{lo lo':Lo}{vs vs':List (Value×PV)}{ns ns':List Nd}{x:PV}{r:PV}(h:SC Tryz.prog f [.ptr 4 0,.pv x] (riBx p ts lo++riLx vs ns) (λk=>k∈[]) (.pv r) (riBx p' ts' lo'++riLx vs' ns')) :
 SC Tryz.prog f [.ptr 14 0,.pv x] (riBx p ts lo++riLk 14 15 16 vs ns) (λk=>k∈[]) (.pv r) (riBx p' ts' lo'++riLk 14 15 16 vs' ns'):=SC.sameR (((h.sw 4 14).sw 5 15).sw 6 16) λk _ hk=>absurd hk Bs
theorem y42(p:Pg)(ts:List Int)(lo:Lo)(vs:List (Value×PV))(ns:List Nd):SC Tryz.prog 163 [.ptr 4 0] (riBx p ts lo++riLx vs ns) (λk=>k∈[1,2,3,4,5,6]) (.ptr 24 0) ([(24,.box [.ptr 1 0,.mp 25,.pv (.val (.slice none 0 0))]),(25,.map vs)]++(riBx p ts lo++riLx vs ns)) :=
 SC.sameR (((ze5 p ts lo vs ns).sw 14 24).sw 15 25) λk _ hk=>by
  simp only[Aj,Bs,Ez]at hk;rcases hk with rfl|rfl|rfl|rfl|rfl|rfl<;>decide
theorem riP24(p:Pg)(ts:List Int)(lo:Lo)(vs:List (Value×PV))(ns:List Nd)(t k o n:Int)(nm:ByteArray)(args:List Int)(ks:List (List Nd))(ht:ts.length<=34359738368)(hb:ns.length<=34359738368) :
 SC Tryz.prog 166 [.ptr 24 0,.pv (.val (.int .i64 t)),.pv (.agg [vInt k,vInt o,vInt n,vStr nm,ints args,ints [],ints [],kids ks])] (riBx p ts lo++riLk 24 25 26 vs ns) (λk=>k∈[]) (iInt (z6k t k o n nm args ks ⟨ts,ns⟩).1) (riBx p (z6k t k o n nm args ks ⟨ts,ns⟩).2.ts lo++riLk 24 25 26 vs (z6k t k o n nm args ks ⟨ts,ns⟩).2.ns) :=
 SC.sameR ((((z6b p ts lo vs ns t k o n nm args ks ht hb).sw 4 24).sw 5 25).sw 6 26) λk _ hk=>absurd hk Bs
theorem riA14(p:Pg)(ts:List Int)(lo:Lo)(vs:List (Value×PV))(ns:List Nd)(x:Nd)(hb:ns.length<=34359738368):SC Tryz.prog 115 [.ptr 14 0,.pv (.agg [vInt x.kind,vInt x.op,vInt x.n,vStr x.name,ints x.args,ints x.outs,ints x.params,kids x.kids])] (riBx p ts lo++riLk 14 15 16 vs ns) (λk=>k∈[]) (.tup []) (riBx p ts lo++riLk 14 15 16 vs (ns++[x])) :=
 SC.sameR ((((z48 p ts lo vs ns x hb).sw 4 14).sw 5 15).sw 6 16) λk _ hk=>absurd hk Bs
theorem riA24(p:Pg)(ts:List Int)(lo:Lo)(vs:List (Value×PV))(ns:List Nd)(x:Nd)(hb:ns.length<=34359738368):SC Tryz.prog 115 [.ptr 24 0,.pv (.agg [vInt x.kind,vInt x.op,vInt x.n,vStr x.name,ints x.args,ints x.outs,ints x.params,kids x.kids])] (riBx p ts lo++riLk 24 25 26 vs ns) (λk=>k∈[]) (.tup []) (riBx p ts lo++riLk 24 25 26 vs (ns++[x])) :=
 SC.sameR ((((z48 p ts lo vs ns x hb).sw 4 24).sw 5 25).sw 6 26) λk _ hk=>absurd hk Bs
theorem y8g(p:Pg)(lo:Lo)(vs:List (Value×PV))(n:Int)(nm:ByteArray)(e1 e2:Ex)(s:RiS)(h1:fRX p lo vs e1)(h2:fRX p lo vs e2)(hts:s.ts.length+4*(1+xz e1+xz e2)<=34000000000)(hns:s.ns.length+4*(1+xz e1+xz e2)<=34000000000) :
 SC Tryz.prog 165 [.ptr 4 0,.pv (.agg [vInt 5,vInt 18,vInt n,vStr nm,exs [e1,e2]])] (riH p lo vs s) (λk=>k∈[]) (iInt (riSh p vs 18 [e1,e2] s).1) (riH p lo vs (riSh p vs 18 [e1,e2] s).2):=by
 refine SC.vc tb { pb:=[103],ids:=[(35,30),(43,31)],ob:=[30,31],gh:=[(3,[.growC 14 2 16 46 8]),(5,[.fzC 14 2 16]),(9,[.growC 24 2 26 46 8]),(10,[.fzC 24 2 26]),(11,[.fz 9 30])] } [] Tryz.func165 rfl rfl ?_;have g1:=h1 s oM0 oM0;have l1:=(zv1 p vs _).1 e1 (Ab _) s;rw[riSh,zm4];generalize riX p vs e1 s=r1 at g1 l1⊢;obtain⟨a,s1⟩:=r1;unfold riLe at l1;dsimp only at g1 l1⊢;have g2:=riK14 (h2 ⟨s1.ts,[]⟩ (by dsimp only;omega) (by simp;omega));have l2:=(zv1 p vs _).1 e2 (Ab _) ⟨s1.ts,[]⟩;generalize riX p vs e2 ⟨s1.ts,[]⟩=r2 at g2 l2⊢;obtain⟨b,s2⟩:=r2;unfold riLe at l2;dsimp only at g2 l2;have g3:=riA14 p s2.ts lo vs s2.ns (.mk 12 0 0 ⟨#[]⟩ [b] [] [] []) (by simp at l2;omega);refine⟨z1c (i:=0) rfl,rfl,[],g1,sR,Gk,rfl,[1,2,3,4,5,6],ze5 p s1.ts lo vs s1.ns,sR,⟨rfl,rfl,rfl,rfl,rfl,rfl,rfl,rfl,rfl,rfl,rfl,rfl,Gd⟩,rfl,[1,2,3,4,5,6],y42 p s1.ts lo vs s1.ns,sR,⟨rfl,rfl,rfl,rfl,rfl,rfl,rfl,rfl,rfl,rfl,rfl,rfl,Gd⟩,rfl,?_⟩;refine⟨z1c (i:=1) rfl,rfl,[],g2,sR,Gk,rfl,[],g3,SubA.same (SubA.cons (sP (z0g _)) SubA.nil),Gk,rfl,?_⟩;have g4:=riP24 p s2.ts lo vs [] 2 2 0 0 ⟨#[]⟩ [] [] oM0 sI0;have g5:=riA24 p (s2.ts++[2]) lo vs [.mk 2 0 0 ⟨#[]⟩ [] [(s2.ts.length:Int)] [] []] (.mk 12 0 0 ⟨#[]⟩ [(s2.ts.length:Int)] [] [] []) sI0;have g6:=z6b p (s2.ts++[2]) lo vs s1.ns 2 10 0 0 ⟨#[]⟩ [a] [z6r 12 ⟨#[]⟩ [b] s2.ns,z6r 12 ⟨#[]⟩ [(s2.ts.length:Int)] [.mk 2 0 0 ⟨#[]⟩ [] [(s2.ts.length:Int)] [] []]] (by simp;omega) oM0;refine⟨rfl,[],g4,SubA.same (SubA.same (SubA.cons (sP (z0g _)) SubA.nil)),Gk,rfl,[],g5,SubA.same (SubA.cons (sP (z0g _)) SubA.nil),Gk,rfl,?_⟩;refine⟨rfl,rfl,(by decide:1<2),rfl,1,0,_,rfl,rfl,rfl,Bf,rfl,?_⟩;exact⟨[],g6,SubA.same (SubA.same (SubA.cons (sP (z0g _)) SubA.nil)),Gk,rfl,sI,rfl,rfl,rfl,rfl,rfl,rfl,Gd⟩
theorem y8h(p:Pg)(lo:Lo)(vs:List (Value×PV))(n:Int)(nm:ByteArray)(e1 e2:Ex)(s:RiS)(h1:fRX p lo vs e1)(h2:fRX p lo vs e2)(hts:s.ts.length+4*(1+xz e1+xz e2)<=34000000000)(hns:s.ns.length+4*(1+xz e1+xz e2)<=34000000000) :
 SC Tryz.prog 165 [.ptr 4 0,.pv (.agg [vInt 5,vInt 19,vInt n,vStr nm,exs [e1,e2]])] (riH p lo vs s) (λk=>k∈[]) (iInt (riSh p vs 19 [e1,e2] s).1) (riH p lo vs (riSh p vs 19 [e1,e2] s).2):=by
 refine SC.vc tb { pb:=[103],ids:=[(35,30),(43,31)],ob:=[30,31],gh:=[(3,[.growC 14 2 16 46 8]),(5,[.fzC 14 2 16]),(9,[.growC 24 2 26 46 8]),(10,[.fzC 24 2 26]),(11,[.fz 9 31])] } [] Tryz.func165 rfl rfl ?_;have g1:=h1 s oM0 oM0;have l1:=(zv1 p vs _).1 e1 (Ab _) s;rw[riSh,zm4];generalize riX p vs e1 s=r1 at g1 l1⊢;obtain⟨a,s1⟩:=r1;unfold riLe at l1;dsimp only at g1 l1⊢;have g2:=riK14 (h2 ⟨s1.ts,[]⟩ (by dsimp only;omega) (by simp;omega));have l2:=(zv1 p vs _).1 e2 (Ab _) ⟨s1.ts,[]⟩;generalize riX p vs e2 ⟨s1.ts,[]⟩=r2 at g2 l2⊢;obtain⟨b,s2⟩:=r2;unfold riLe at l2;dsimp only at g2 l2;have g3:=riA14 p s2.ts lo vs s2.ns (.mk 12 0 0 ⟨#[]⟩ [b] [] [] []) (by simp at l2;omega);refine⟨z1c (i:=0) rfl,rfl,[],g1,sR,Gk,rfl,[1,2,3,4,5,6],ze5 p s1.ts lo vs s1.ns,sR,⟨rfl,rfl,rfl,rfl,rfl,rfl,rfl,rfl,rfl,rfl,rfl,rfl,Gd⟩,rfl,[1,2,3,4,5,6],y42 p s1.ts lo vs s1.ns,sR,⟨rfl,rfl,rfl,rfl,rfl,rfl,rfl,rfl,rfl,rfl,rfl,rfl,Gd⟩,rfl,?_⟩;refine⟨z1c (i:=1) rfl,rfl,[],g2,sR,Gk,rfl,[],g3,SubA.same (SubA.cons (sP (z0g _)) SubA.nil),Gk,rfl,?_⟩;have g4:=riP24 p s2.ts lo vs [] 2 2 0 1 ⟨#[]⟩ [] [] oM0 sI0;have g5:=riA24 p (s2.ts++[2]) lo vs [.mk 2 0 1 ⟨#[]⟩ [] [(s2.ts.length:Int)] [] []] (.mk 12 0 0 ⟨#[]⟩ [(s2.ts.length:Int)] [] [] []) sI0;have g6:=z6b p (s2.ts++[2]) lo vs s1.ns 2 10 0 0 ⟨#[]⟩ [a] [z6r 12 ⟨#[]⟩ [(s2.ts.length:Int)] [.mk 2 0 1 ⟨#[]⟩ [] [(s2.ts.length:Int)] [] []],z6r 12 ⟨#[]⟩ [b] s2.ns] (by simp;omega) oM0;refine⟨rfl,[],g4,SubA.same (SubA.same (SubA.cons (sP (z0g _)) SubA.nil)),Gk,rfl,[],g5,SubA.same (SubA.cons (sP (z0g _)) SubA.nil),Gk,rfl,?_⟩;refine⟨rfl,rfl,(by decide:0<2),rfl,0,0,_,rfl,rfl,rfl,Bf,rfl,?_⟩;exact⟨[],g6,SubA.same (SubA.same (SubA.cons (sP (z0g _)) SubA.nil)),Gk,rfl,sI,rfl,rfl,rfl,rfl,rfl,rfl,Gd⟩
theorem y7z(p:Pg)(vs:List (Value×PV)):∀(l:List Ex)(e:Ex)(s:RiS),riXL p vs (l++[e]) s=((riXL p vs l s).1++[(riX p vs e (riXL p vs l s).2).1],(riX p vs e (riXL p vs l s).2).2)
 |[],e,s=>by simp[riXL]
 |x::r,e,s=>by
  have:=y7z p vs r e (riX p vs x s).2;simp only[B9,riXL,this]
theorem yl9(p:Pg)(vs:List (Value×PV)):∀(l:List Ex)(s:RiS),(riXL p vs l s).1.length=l.length
 |[],_=>by rw[riXL];rfl
 |x::r,s=>by rw[riXL];simp[yl9 p vs r]
theorem yp2:∀(l:List Ex)(i:Nat),xzL (l.take i)+xzL (l.drop i)=xzL l
 |[],i=>by simp[xzL]
 |_::_,0=>by simp[xzL]
 |x::r,i+1=>by have:=yp2 r i;simp only[Fc,Fa,xzL];omega
theorem yn3(p:Pg)(hp:szP p)(lo:Lo)(vs:List (Value×PV))(hv:Cnt vs):∀(N:Nat)(e:Ex),SizeOf.sizeOf e<N->xz e<=100000000->riOk p e=true->fRX p lo vs e
 |0,_,h,_,_=>absurd h (Al _)
 |N+1,.mk k o n nm args,hN,hx,hok=>by
  intro s hts hns;have hx0:=hx;simp only[xz]at hx hts hns;have hl:=zb0 args;rw[riOk,A0]at hok;have ih:∀x∈args,fRX p lo vs x:=λx hm=>yn3 p hp lo vs hv N x (by have:=Bq hm;simp at hN;omega) (by have:=zg8 hm;omega) (zc6 hok.2 hm)
  by_cases hs:k=5/\(o=18∨o=19)
  ·obtain⟨rfl,ho⟩:=hs;have h2:args.length=2:=by have:=hok.1;unfold j1j at this;rw[if_pos rfl]at this;exact eq_of_beq this
   obtain⟨e1,e2,rfl⟩:∃e1 e2,args=[e1,e2]:=by
    match args,h2 with
    |[a,b],_=>exact⟨a,b,rfl⟩
   simp only[xzL]at hts hns;rw[riX,if_neg dC0,if_pos ⟨rfl,ho⟩];rcases ho with rfl|rfl
   ·refine SC.vc tb { pb:=[103] } [] Tryz.func117 rfl rfl ?_;exact⟨[],y8g p lo vs n nm e1 e2 s (ih e1 sI0) (ih e2 sI0) oM0 oM0,sR,Gk,rfl,sI,rfl,rfl,rfl,rfl,rfl,rfl,Gd⟩
   ·refine SC.vc tb { pb:=[103] } [] Tryz.func117 rfl rfl ?_;exact⟨[],y8h p lo vs n nm e1 e2 s (ih e1 sI0) (ih e2 sI0) oM0 oM0,sR,Gk,rfl,sI,rfl,rfl,rfl,rfl,rfl,rfl,Gd⟩
  by_cases h3:k=3
  ·subst h3;rw[riX,if_pos rfl];refine SC.vc tb { pb:=[103] } [] Tryz.func117 rfl rfl ?_;exact VAsk.mk (p:=vInt (y2m vs nm)) (b:=(z1k (.string nm) vs).isSome) rfl hv.1 (E9 (hv.getI nm) rfl) ⟨sI,rfl,rfl,rfl,rfl,rfl,rfl,Gd⟩
  rw[riX,if_neg h3,if_neg hs];refine SC.vc tb { pb:=[103],jn:=[5],gh:=[(6,[.grow 5 1001 3 1]),(11,[.fz 5 1001])] } [] Tryz.func117 rfl rfl ?_;refine⟨Unit,λ_=>[],λ_=>[],λ_=>True,[],?_,?_⟩
  ·refine z00 (λc=>absurd (eq_of_beq c) h3) λ_=>z00 (λc=>?_) λc=>?_
   ·have c:k=5:=eq_of_beq c;exact z00 (λc2=>absurd ⟨c,.inl (eq_of_beq c2)⟩ hs) λ_=>z00 (λc2=>absurd ⟨c,.inr (eq_of_beq c2)⟩ hs) λ_=>⟨(),Gd,Gd,Gd,rfl,rfl,rfl,rfl⟩
   ·exact⟨(),Gd,Gd,Gd,rfl,rfl,rfl,rfl⟩
  rintro _ _;have hle0:=(zv1 p vs _).2.1 args (Ab _) s;unfold riLe at hle0;have h00:riXL p vs (args.take 0) s=([],s):=by rw[List.take_zero,riXL]
  refine⟨Nat,λi=>[(40,iInt ((i:Nat):Int)),(5,.sl 1001 ((riXL p vs (args.take i) s).1.map eInt).length)],λi=>(1001,.row inRt ((riXL p vs (args.take i) s).1.map eInt))::riH p lo vs (riXL p vs (args.take i) s).2,λi=>args.length-i,λi=>i<=args.length,[],0,Ac _,⟨rfl,(by simp only[h00];rfl),Gd⟩,(by simp only[h00];exact Gl),?_⟩;clear h00 hs;intro i hi;have hle:=(zv1 p vs _).2.1 (args.take i) (Ab _) s;unfold riLe at hle;have hxt:=yp2 args i;have hlen:=yl9 p vs (args.take i) s;refine z00 (λhc=>?_) λhc=>?_
  ·have hlt:i<args.length:=z0x (f:=Ex.enc) rfl hc;obtain⟨x,x1,x2,x3,x4⟩:=z0o hlt;rw[x3]at hxt;simp only[xzL]at hxt;have hsn:=y7z p vs (args.take i) x s;rw[<- x2]at hsn;generalize riXL p vs (args.take i) s=L at hle hlen hsn⊢;obtain⟨L1,q⟩:=L;dsimp only at hle hlen hsn;have hX:=ih x x4 q oM0 oM0;generalize riX p vs x q=W at hX hsn;obtain⟨w1,w2⟩:=W;dsimp only at hX hsn;exact⟨z1c x1,rfl,[],hX,sR,Gk,rfl,rfl,z3y rfl,by simp at hlen⊢;omega,z01 rfl oM0,i+1,z03 hlt,hlt,⟨rfl,slq (by rw[hsn];simp),Gd⟩,⟨rwq (by rw[hsn];simp[eInt]),by rw[hsn];rfl,by rw[hsn];rfl,rfl,by rw[hsn];rfl,rfl,by rw[hsn];rfl,Gd⟩,rfl,rfl,rfl,rfl⟩
  ·have hge:args.length<=i:=z0y (f:=Ex.enc) rfl hc;rw[At hge]at hlen⊢;clear hle hxt;generalize riXL p vs args s=L at hle0 hlen⊢;obtain⟨l,q⟩:=L;dsimp only at hle0 hlen⊢;have hpl:k≠1->k≠2->k≠4->k≠5->k≠6->k≠8->0<=z3n p nm:=λa b c d e f=>by
    have:=hok.1;unfold j1j at this;rw[if_neg d,if_neg oM0]at this;exact Am this
   clear hok ih;generalize hT:zr4 p k o n nm l q=T;unfold zr4 at hT;refine⟨rfl,z00 (λc=>?_) λc1=>z00 (λc=>?_) λc2=>z00 (λc=>?_) λc4=>z00 (λc=>?_) λc5=>z00 (λc=>?_) λc6=>z00 (λc=>?_) λc8=>?_⟩
   ·have c:k=1:=eq_of_beq c;rw[if_pos c]at hT;subst hT;exact⟨[],z6b p q.ts lo vs q.ns 1 1 0 n ⟨#[]⟩ [] [] oM0 oM0,SubA.same (SubA.same (SubA.cons (sP (z0g _)) SubA.nil)),Gk,rfl,sI,rfl,rfl,rfl,rfl,rfl,rfl,Gd⟩
   ·have c1:¬k=1:=Aa.1 c1;have c:k=2:=eq_of_beq c;rw[if_neg c1,if_pos c]at hT;subst hT;exact⟨[],z6b p q.ts lo vs q.ns 2 2 0 n ⟨#[]⟩ [] [] oM0 oM0,SubA.same (SubA.same (SubA.cons (sP (z0g _)) SubA.nil)),Gk,rfl,sI,rfl,rfl,rfl,rfl,rfl,rfl,Gd⟩
   ·have c1:¬k=1:=Aa.1 c1;have c2:¬k=2:=Aa.1 c2;have c:k=4:=eq_of_beq c;rw[if_neg c1,if_neg c2,if_pos c]at hT;subst hT;exact⟨[],y8e o,sR,Gd,rfl,[],z6b p q.ts lo vs q.ns (y18 o) 3 o 0 ⟨#[]⟩ l [] oM0 oM0,SubA.same (SubA.same (SubA.cons (sP (z0g _)) SubA.nil)),Gk,rfl,sI,rfl,rfl,rfl,rfl,rfl,rfl,Gd⟩
   ·have c1:¬k=1:=Aa.1 c1;have c2:¬k=2:=Aa.1 c2;have c4:¬k=4:=Aa.1 c4;have c:k=5:=eq_of_beq c;rw[if_neg c1,if_neg c2,if_neg c4,if_pos c]at hT;subst hT;exact⟨[],y8e o,sR,Gd,rfl,[],z6b p q.ts lo vs q.ns (y18 o) 4 o 0 ⟨#[]⟩ l [] oM0 oM0,SubA.same (SubA.same (SubA.cons (sP (z0g _)) SubA.nil)),Gk,rfl,sI,rfl,rfl,rfl,rfl,rfl,rfl,Gd⟩
   ·have c1:¬k=1:=Aa.1 c1;have c2:¬k=2:=Aa.1 c2;have c4:¬k=4:=Aa.1 c4;have c5:¬k=5:=Aa.1 c5;have c:k=6:=eq_of_beq c;rw[if_neg c1,if_neg c2,if_neg c4,if_neg c5,if_pos c]at hT;subst hT;exact⟨[],z6b p q.ts lo vs q.ns 1 5 0 0 nm l [] oM0 oM0,SubA.same (SubA.same (SubA.cons (sP (z0g _)) SubA.nil)),Gk,rfl,sI,rfl,rfl,rfl,rfl,rfl,rfl,Gd⟩
   ·have c1:¬k=1:=Aa.1 c1;have c2:¬k=2:=Aa.1 c2;have c4:¬k=4:=Aa.1 c4;have c5:¬k=5:=Aa.1 c5;have c6:¬k=6:=Aa.1 c6;have c:k=8:=eq_of_beq c;rw[if_neg c1,if_neg c2,if_neg c4,if_neg c5,if_neg c6,if_pos c]at hT;subst hT;exact⟨[],z6b p q.ts lo vs q.ns 1 8 0 0 ⟨#[]⟩ [] [] oM0 oM0,SubA.same (SubA.same (SubA.cons (sP (z0g _)) SubA.nil)),Gk,rfl,sI,rfl,rfl,rfl,rfl,rfl,rfl,Gd⟩
   ·have c1:¬k=1:=Aa.1 c1;have c2:¬k=2:=Aa.1 c2;have c4:¬k=4:=Aa.1 c4;have c5:¬k=5:=Aa.1 c5;have c6:¬k=6:=Aa.1 c6;have c8:¬k=8:=Aa.1 c8;rw[if_neg c1,if_neg c2,if_neg c4,if_neg c5,if_neg c6,if_neg c8]at hT;subst hT;obtain⟨j,j1,j2⟩:=zx3 (hpl c1 c2 c4 c5 c6 c8);exact⟨[],ze7 p nm hp.1,sR,Gd,rfl,z9r j2,j1,[],z6b p q.ts lo vs q.ns (fuAt p (z3n p nm)).ty 7 0 0 nm l [] oM0 oM0,SubA.same (SubA.same (SubA.cons (sP (z0g _)) SubA.nil)),Gk,rfl,sI,rfl,rfl,rfl,rfl,rfl,rfl,Gd⟩
def riW(p:Pg)(lo:List (List ByteArray))(s:RiT):List (Nat×HO):=riBx p s.ts ⟨lo,s.jk⟩++riLx s.vs s.ns
def scB(p:Pg)(l:List St)(lo:List (List ByteArray))(s:RiT)(a:Bool×RiT):Prop:=SC Tryz.prog 38 [.ptr 4 0,.pv (sts l)] (riW p lo s) (λk=>k∈[]) (iBool a.1) (riW p lo a.2)
theorem scB14{p:Pg}{l:List St}{lo:List (List ByteArray)}{s:RiT}{a:Bool×RiT}(h:scB p l lo s a):SC Tryz.prog 38 [.ptr 14 0,.pv (sts l)] (riBx p s.ts ⟨lo,s.jk⟩++riLk 14 15 16 s.vs s.ns) (λk=>k∈[]) (iBool a.1) (riBx p a.2.ts ⟨lo,a.2.jk⟩++riLk 14 15 16 a.2.vs a.2.ns):=SC.sameR (((h.sw 4 14).sw 5 15).sw 6 16) λk _ hk=>absurd hk Bs
theorem y8f(vs:List (Value×PV))(hv:Cnt vs)(l:List ByteArray)(hl:l.length<=34359738368):SC Tryz.prog 116 [.mp 15,.pv (txs l)] [(15,.map vs)] (λk=>k∈[15]) (.pv (ints (riOf vs l))) [(15,.map vs)]:=SC.sameR ((zj1 vs hv l hl).sw 5 15) λk _ hk=>by rw[An.1 hk];exact Df
theorem yn2(p:Pg)(l:List St)(z04:List ByteArray)(lo:List (List ByteArray))(vs:List (Value×PV))(ts:List Int)(jk:List (List ByteArray))(ns:List Nd)(a:Bool×RiT)(hB:scB p l lo ⟨vs,ts,[],jk⟩ a)(hv:Cnt a.2.vs)(hnm:z04.length<=34359738368)(hns:a.2.ns.length<=34359738368) :
 SC Tryz.prog 160 [.ptr 4 0,.pv (sts l),.pv (txs z04)] (riW p lo ⟨vs,ts,ns,jk⟩) (λk=>k∈[]) (.pv (z1p (z5q 12 z04 a))) (riW p lo ⟨vs,a.2.ts,ns,a.2.jk⟩):=by
 refine SC.vc tb { ids:=[(9,14)],gh:=[(2,[.growC 14 2 16 46 8]),(4,[.fzC 14 2 16])] } [] Tryz.func160 rfl rfl ?_;have hK:=ze5 p ts ⟨lo,jk⟩ vs ns;have hB:=scB14 hB;obtain⟨b,q⟩:=a;dsimp only at hv hns hB⊢;refine⟨[1,2,3,4,5,6],hK,sR,⟨rfl,rfl,rfl,rfl,rfl,rfl,rfl,rfl,rfl,rfl,rfl,rfl,Gd⟩,rfl,[],hB,sR,Gk,rfl,?_⟩
 cases b
 ·exact⟨[15],y8f q.vs hv z04 hnm,sR,Gf,rfl,[],riA14 p q.ts ⟨lo,q.jk⟩ q.vs q.ns (.mk 12 0 0 ⟨#[]⟩ (riOf q.vs z04) [] [] []) hns,SubA.same (SubA.cons (sP (z0g _)) SubA.nil),Gk,rfl,rfl,sI,rfl,rfl,rfl,rfl,rfl,rfl,Gd⟩
 ·exact⟨rfl,sI,rfl,rfl,rfl,rfl,rfl,rfl,Gd⟩
structure NmOk(vs:List (Value×PV))(ls:List (List St))(n:Nat):Prop where
 sz:∀l∈ls,szL l<=1073741824
 tx:∀e∈z8l vs ls,(z71 e.1).size<=maxLen
 len:(z8l vs ls).length<=1073741824
 at_:∀v∈riOf vs (z0d vs ls),0<=v/\v<n
theorem z9d(vs:List (Value×PV))(ls:List (List St)):(z0d vs ls).length=(z8l vs ls).length:=by simp[z0d,zn6]
theorem ye2(p:Pg)(x:St)(lo:List (List ByteArray))(s:RiT)(hv:Cnt s.vs)(e:Ex)(he:x.args[0]?=some e)(c:Int×RiS)
 (hX:SC Tryz.prog 117 [.ptr 4 0,.pv (exv e)] (riH p ⟨lo,s.jk⟩ s.vs ⟨s.ts,s.ns⟩) (λk=>k∈[]) (iInt c.1) (riH p ⟨lo,s.jk⟩ s.vs c.2)) (a b:Bool×RiT)
 (hA:scB p x.thn lo ⟨s.vs,c.2.ts,[],s.jk⟩ a) (hB:scB p x.els lo ⟨s.vs,a.2.ts,[],a.2.jk⟩ b) (ha:Cnt a.2.vs) (hb:Cnt b.2.vs) (han:a.2.ns.length<=34000000000) (hbn:b.2.ns.length<=34000000000)
 (hN:NmOk s.vs [x.thn,x.els] b.2.ts.length) (hcn:c.2.ns.length<=34000000000) (hbt:b.2.ts.length<=33000000000) :
 SC Tryz.prog 113 [.ptr 4 0,.pv (stv x)] (riW p lo s) (λk=>k∈[]) (iBool (ze2 s (z0d s.vs [x.thn,x.els]) c a b).1) (riW p lo (ze2 s (z0d s.vs [x.thn,x.els]) c a b).2):=by
 refine SC.vc tb { pb:=[103] } [] Tryz.func113 rfl rfl ?_;have hC:=zv4 s.vs hv [x.thn,x.els] sI0 hN.sz hN.tx hN.len;have hln:=z9d s.vs [x.thn,x.els];have hl1:=hN.len;have hat:=hN.at_;generalize z0d s.vs [x.thn,x.els]=z04 at hC hln hat⊢;have hA:=yn2 p x.thn z04 lo s.vs c.2.ts s.jk c.2.ns a hA ha oM0 oM0;have hB:=yn2 p x.els z04 lo s.vs a.2.ts a.2.jk c.2.ns b hB hb oM0 oM0;have hK:=zr6 (.mk 10 0 0 ⟨#[]⟩ [c.1] [] [] [z5q 12 z04 a,z5q 12 z04 b]);obtain⟨c1,c2⟩:=c;obtain⟨a1,a2⟩:=a;obtain⟨b1,b2⟩:=b;unfold ze2 z6j;dsimp only at hX hA hB hK hcn hbt hat⊢;refine⟨z1c he,rfl,[],hX,sR,Gk,rfl,[5],hC,sR,Gf,rfl,[],hA,sR,Gk,rfl,[],hB,sR,Gk,rfl,?_⟩;refine⟨[],hK,SubA.cons (sP (z0g _)) SubA.nil,Gd,rfl,?_⟩;generalize z08 (.mk 10 0 0 ⟨#[]⟩ [c1] [] [] [z5q 12 z04 (a1,a2),z5q 12 z04 (b1,b2)])=k
 cases k
 ·have hO:=zj1 s.vs hv z04 oM0;have hlen:(riOf s.vs z04).length=z04.length:=by simp[riOf]
  have hL:=y1p p b2.ts ⟨lo,b2.jk⟩ (riOf s.vs z04) hat oM0;have hl2:=z3h (riOf s.vs z04) b2.ts;have hS:=y61 s.vs hv z04 (z15 b2.ts (riOf s.vs z04)).1 oM0 oM0;have hD:=z48 p (z15 b2.ts (riOf s.vs z04)).2 ⟨lo,b2.jk⟩ (zm3 s.vs z04 (z15 b2.ts (riOf s.vs z04)).1) c2.ns (.mk 10 0 0 ⟨#[]⟩ [c1] (z15 b2.ts (riOf s.vs z04)).1 [] [z5q 12 z04 (a1,a2),z5q 12 z04 (b1,b2)]) oM0;exact⟨[5],hO,sR,Gf,rfl,[],hL,sR,Gg,rfl,[],hS,sR,Ge,rfl,[],hD,SubA.same (SubA.cons (sP (z0g _)) SubA.nil),Gk,rfl,sI,rfl,rfl,rfl,rfl,rfl,rfl,Gd⟩
 ·have hD:=z48 p b2.ts ⟨lo,b2.jk⟩ s.vs c2.ns (.mk 10 0 0 ⟨#[]⟩ [c1] [] [] [z5q 12 z04 (a1,a2),z5q 12 z04 (b1,b2)]) oM0;exact⟨[],hD,SubA.same (SubA.cons (sP (z0g _)) SubA.nil),Gk,rfl,sI,rfl,rfl,rfl,rfl,rfl,rfl,Gd⟩
theorem ye4(p:Pg)(x:St)(z04:List ByteArray)(lo:List (List ByteArray))(s:RiT)(e:Ex)(he:x.args[0]?=some e)(ht:zc7 e=true)(a:Bool×RiT)(hA:scB p x.thn lo s a)(ha:Cnt a.2.vs)(hnm:z04.length<=34359738368)(han:a.2.ns.length<=34000000000) :
 SC Tryz.prog 164 [.ptr 4 0,.pv (stv x),.pv (txs z04)] (riW p lo s) (λk=>k∈[]) (.tup []) (riW p lo ⟨a.2.vs,a.2.ts,z5q 13 z04 a,a.2.jk⟩):=by
 refine SC.vc tb { pb:=[104,106] } [] Tryz.func164 rfl rfl ?_;unfold zc7 at ht;rw[A0]at ht;refine⟨z1c he,rfl,z00 (λh1=>z00 (λh2=>?_) λh2=>absurd (ht.2.symm.trans h2) dC0) λh1=>absurd (ht.1.symm.trans h1) dC0⟩;obtain⟨b,q⟩:=a;unfold z5q;dsimp only at hA ha han⊢;refine⟨[],hA,sR,Gk,rfl,?_⟩
 cases b
 ·exact⟨[5],zj1 q.vs ha z04 hnm,sR,Gf,rfl,[],z48 p q.ts ⟨lo,q.jk⟩ q.vs q.ns (.mk 13 0 0 ⟨#[]⟩ (riOf q.vs z04) [] [] []) oM0,SubA.same (SubA.cons (sP (z0g _)) SubA.nil),Gk,rfl,sI,rfl,rfl,rfl,rfl,rfl,rfl,Gd⟩
 ·exact⟨sI,rfl,rfl,rfl,rfl,rfl,rfl,Gd⟩
theorem ye5(p:Pg)(x:St)(z04:List ByteArray)(lo:List (List ByteArray))(s:RiT)(hv:Cnt s.vs)(e:Ex)(he:x.args[0]?=some e)(ht:zc7 e=false)(c:Int×RiS)
 (hX:SC Tryz.prog 117 [.ptr 4 0,.pv (exv e)] (riH p ⟨lo,s.jk⟩ s.vs ⟨s.ts,s.ns⟩) (λk=>k∈[]) (iInt c.1) (riH p ⟨lo,s.jk⟩ s.vs c.2)) (a:Bool×RiT)
 (hA:scB p x.thn lo ⟨s.vs,c.2.ts,[],s.jk⟩ a) (ha:Cnt a.2.vs) (hnm:z04.length<=34359738368) (han:a.2.ns.length<=34000000000) (hcn:c.2.ns.length<=34000000000) :
 SC Tryz.prog 164 [.ptr 4 0,.pv (stv x),.pv (txs z04)] (riW p lo s) (λk=>k∈[]) (.tup []) (riW p lo ⟨s.vs,a.2.ts,z9e z04 s.vs c a,a.2.jk⟩):=by
 refine SC.vc tb { pb:=[104,106],ids:=[(43,14)],gh:=[(7,[.growC 14 2 16 46 8]),(9,[.fzC 14 2 16])] } [] Tryz.func164 rfl rfl ?_;have hA:=scB14 hA;have hK:=ze5 p c.2.ts ⟨lo,s.jk⟩ s.vs c.2.ns;have hD:=z48 p a.2.ts ⟨lo,a.2.jk⟩ s.vs c.2.ns (.mk 10 0 0 ⟨#[]⟩ [c.1] [] [] [z5q 13 z04 a,z6r 14 ⟨#[]⟩ (riOf s.vs z04) []]) oM0;unfold z9e;obtain⟨c1,c2⟩:=c;obtain⟨b,q⟩:=a;unfold z5q at hD⊢;dsimp only at hX hA hK hD ha han hcn⊢;have hS:∀(l:List Nd),SubI (.pv (.agg [vInt 10,vInt 0,vInt 0,vStr ⟨#[]⟩,ints [c1],.val (.slice none 0 0),.val (.slice none 0 0),.seq [[z1p l],[.seq [[vInt 14,vInt 0,vInt 0,vStr ⟨#[]⟩,ints (riOf s.vs z04),.val (.slice none 0 0),.val (.slice none 0 0),.val (.slice none 0 0)]]]]])) (.pv (.agg [vInt 10,vInt 0,vInt 0,vStr ⟨#[]⟩,ints [c1],ints [],ints [],kids [l,z6r 14 ⟨#[]⟩ (riOf s.vs z04) []]])):=λl=>sP (PSub.agg ⟨PSub.refl _,PSub.refl _,PSub.refl _,PSub.refl _,PSub.refl _,PSub.nil,PSub.nil,PSub.seq ⟨⟨PSub.refl _,Gd⟩,⟨PSub.seq ⟨y0l _,Gd⟩,Gd⟩,Gd⟩,Gd⟩)
 cases b
 ·refine⟨z1c he,rfl,z00 (λh1=>z00 (λh2=>absurd (show zc7 e=true by unfold zc7;rw[show(e.kind==2)=true from h1,show(e.n==1)=true from h2];rfl) (by rw[ht];decide)) λh2=>?_) λh1=>?_⟩
  all_goals exact⟨z1c he,rfl,[],hX,sR,Gk,rfl,[1,2,3,4,5,6],hK,sR,⟨rfl,rfl,rfl,rfl,rfl,rfl,rfl,rfl,rfl,rfl,rfl,rfl,Gd⟩,rfl,[],hA,sR,Gk,rfl,[15],y8f q.vs ha z04 hnm,sR,Gf,rfl,[],riA14 p q.ts ⟨lo,q.jk⟩ q.vs q.ns (.mk 13 0 0 ⟨#[]⟩ (riOf q.vs z04) [] [] []) oM0,SubA.same (SubA.cons (sP (z0g _)) SubA.nil),Gk,rfl,rfl,[5],zj1 s.vs hv z04 hnm,sR,Gf,rfl,[],hD,SubA.same (SubA.cons (hS _) SubA.nil),Gk,rfl,sI,rfl,rfl,rfl,rfl,rfl,rfl,Gd⟩
 ·refine⟨z1c he,rfl,z00 (λh1=>z00 (λh2=>absurd (show zc7 e=true by unfold zc7;rw[show(e.kind==2)=true from h1,show(e.n==1)=true from h2];rfl) (by rw[ht];decide)) λh2=>?_) λh1=>?_⟩
  all_goals exact⟨z1c he,rfl,[],hX,sR,Gk,rfl,[1,2,3,4,5,6],hK,sR,⟨rfl,rfl,rfl,rfl,rfl,rfl,rfl,rfl,rfl,rfl,rfl,rfl,Gd⟩,rfl,[],hA,sR,Gk,rfl,rfl,[5],zj1 s.vs hv z04 hnm,sR,Gf,rfl,[],hD,SubA.same (SubA.cons (hS _) SubA.nil),Gk,rfl,sI,rfl,rfl,rfl,rfl,rfl,rfl,Gd⟩
def scR(p:Pg)(x:St)(z04:List ByteArray)(lo:List (List ByteArray))(s r:RiT):Prop:=SC Tryz.prog 164 [.ptr 4 0,.pv (stv x),.pv (txs z04)] (riW p lo s) (λk=>k∈[]) (.tup []) (riW p lo r)
theorem scR14{p:Pg}{x:St}{z04:List ByteArray}{lo:List (List ByteArray)}{s r:RiT}(h:scR p x z04 lo s r):SC Tryz.prog 164 [.ptr 14 0,.pv (stv x),.pv (txs z04)] (riBx p s.ts ⟨lo,s.jk⟩++riLk 14 15 16 s.vs s.ns) (λk=>k∈[]) (.tup []) (riBx p r.ts ⟨lo,r.jk⟩++riLk 14 15 16 r.vs r.ns):=SC.sameR (((h.sw 4 14).sw 5 15).sw 6 16) λk _ hk=>absurd hk Bs
theorem yu6(vs:List (Value×PV))(hv:Cnt vs)(l:List ByteArray)(q:List Int)(hq:l.length=q.length)(hl:l.length<=34359738368):SC Tryz.prog 162 [.mp 15,.pv (txs l),.pv (ints q)] [(15,.map vs)] (λk=>k∈[]) (.tup []) [(15,.map (zm3 vs l q))]:=SC.sameR ((y61 vs hv l q hq hl).sw 5 15) λk _ hk=>absurd hk Bs
theorem tail_app{α:Type}(a b:List α)(x:α):(b=[]/\a++[x]++b.tail=a++b++[x])∨(b≠[]/\a++[x]++b.tail=(a++b).set a.length x):=by
 cases b with
 |nil=>exact .inl ⟨rfl,by simp⟩
 |cons y r=>exact .inr ⟨by simp,by simp⟩
theorem y8d(p:Pg)(x:St)(lo:List (List ByteArray))(s:RiT)(hv:Cnt s.vs)(r:RiT)(hR:scR p x (z0d s.vs [x.thn]) (lo++[z0d s.vs [x.thn]]) (z2b s (z0d s.vs [x.thn])) r)
 (hN:NmOk s.vs [x.thn] s.ts.length) (hts:s.ts.length<=33000000000) (hns:s.ns.length<=34000000000) (hrt:s.ts.length<=r.ts.length) (hrt2:r.ts.length<=33000000000) (hlo:lo.length<=1000000000) (hjk:s.jk.length<=1000000000) :
 SC Tryz.prog 114 [.ptr 4 0,.pv (stv x)] (riW p lo s) (λk=>k∈[])
  (iBool (z6j s.vs (z0d s.vs [x.thn]) r.ts s.ns (z0d s.vs [x.thn]::r.jk) 11 (riOf s.vs (z0d s.vs [x.thn])) (z15 s.ts (riOf s.vs (z0d s.vs [x.thn]))).1 [r.ns]).1)
  (riW p lo (z6j s.vs (z0d s.vs [x.thn]) r.ts s.ns (z0d s.vs [x.thn]::r.jk) 11 (riOf s.vs (z0d s.vs [x.thn])) (z15 s.ts (riOf s.vs (z0d s.vs [x.thn]))).1 [r.ns]).2):=by
 refine SC.vc tb { pb:=[103],ids:=[(32,14)],gh:=[(5,[.growC 14 2 16 46 8]),(9,[.fzC 14 2 16])] } [] Tryz.func114 rfl rfl ?_;have hC:=zv4 s.vs hv [x.thn] sI0 hN.sz hN.tx hN.len;have hln:=z9d s.vs [x.thn];have hl1:=hN.len;have hat:=hN.at_;generalize z0d s.vs [x.thn]=z04 at hC hln hat hR⊢;have hO:=zj1 s.vs hv z04 oM0;have hlen:(riOf s.vs z04).length=z04.length:=by simp[riOf]
 have hL:=y1p p s.ts ⟨lo,s.jk⟩ (riOf s.vs z04) hat oM0;have hl2:=z3h (riOf s.vs z04) s.ts;have hK:=ze5 p (z15 s.ts (riOf s.vs z04)).2 ⟨lo,s.jk⟩ s.vs s.ns;have hS:=yu6 s.vs hv z04 (z15 s.ts (riOf s.vs z04)).1 oM0 oM0;have hR:=scR14 hR;unfold z2b at hR;have hQ:=zr6 (.mk 11 0 0 ⟨#[]⟩ (riOf s.vs z04) [] (z15 s.ts (riOf s.vs z04)).1 [r.ns]);unfold z6j;refine⟨[5],hC,sR,Gf,rfl,[5],hO,sR,Gf,rfl,[],hL,sR,Gg,rfl,?_⟩;refine⟨[1,2,3,4,5,6],hK,sR,⟨rfl,rfl,rfl,rfl,rfl,rfl,rfl,rfl,rfl,rfl,rfl,rfl,Gd⟩,rfl,[],hS,sR,Ge,rfl,?_⟩;refine VApp1.mk (m':=((lo++[z04]++s.jk.tail).map eTxs).length) (els':=(lo++[z04]++s.jk.tail).map eTxs) rfl (z3y rfl) (by simp;omega) ?_ ?_
 ·rcases tail_app lo s.jk z04 with⟨h1,h2⟩|⟨h1,h2⟩
  ·rw[h2,h1];exact .inr ⟨by simp,by simp[eTxs];rfl,by simp⟩
  ·have:=D3.2 h1;rw[h2];exact .inl ⟨by simp;omega,by simp[By];rfl,by simp⟩
 refine⟨rfl,[],hR,sR,⟨boq sI0,rfl,rfl,rfl,rfl,rfl,Gd⟩,rfl,?_⟩;refine⟨rfl,z2x (z:=(lo.length:Int)) sI0 oM0,rfl,lo.length,rfl,by simp,rfl,?_⟩;refine⟨rfl,[],hQ,SubA.cons (sP (z0g _)) SubA.nil,Gd,rfl,?_⟩;generalize z08 (.mk 11 0 0 ⟨#[]⟩ (riOf s.vs z04) [] (z15 s.ts (riOf s.vs z04)).1 [r.ns])=k
 cases k
 ·have hL2:=y1p p r.ts ⟨lo,z04::r.jk⟩ (riOf s.vs z04) (λv hv=>⟨(hat v hv).1,by have:=(hat v hv).2;omega⟩) oM0;have hl3:=z3h (riOf s.vs z04) r.ts;have hS2:=y61 s.vs hv z04 (z15 r.ts (riOf s.vs z04)).1 oM0 oM0;have hD:=z48 p (z15 r.ts (riOf s.vs z04)).2 ⟨lo,z04::r.jk⟩ (zm3 s.vs z04 (z15 r.ts (riOf s.vs z04)).1) s.ns (.mk 11 0 0 ⟨#[]⟩ (riOf s.vs z04) (z15 r.ts (riOf s.vs z04)).1 (z15 s.ts (riOf s.vs z04)).1 [r.ns]) oM0;exact⟨[5],hO,sR,Gf,rfl,[],hL2,sR,⟨boq sI0,rfl,rwq sI0,Gd⟩,rfl,[],hS2,sR,Ge,rfl,[],hD,sR,Gk,rfl,sI,rfl,rfl,rfl,rfl,rfl,rfl,Gd⟩
 ·have hD:=z48 p r.ts ⟨lo,z04::r.jk⟩ s.vs s.ns (.mk 11 0 0 ⟨#[]⟩ (riOf s.vs z04) [] (z15 s.ts (riOf s.vs z04)).1 [r.ns]) oM0;exact⟨[],hD,SubA.same (SubA.cons (sP (z0g _)) SubA.nil),⟨boq sI0,rfl,rwq sI0,rfl,rfl,rfl,Gd⟩,rfl,sI,rfl,rfl,rfl,rfl,rfl,rfl,Gd⟩
abbrev scX(p:Pg)(e:Ex)(lo:List (List ByteArray))(vs:List (Value×PV))(jk:List (List ByteArray))(s:RiS)(c:Int×RiS):Prop:=SC Tryz.prog 117 [.ptr 4 0,.pv (exv e)] (riH p ⟨lo,jk⟩ vs s) (λk=>k∈[]) (iInt c.1) (riH p ⟨lo,jk⟩ vs c.2)
theorem y1q(p:Pg)(k ty:Int)(nm:ByteArray)(args:List Ex)(thn els:List St)(lo:List (List ByteArray))(s:RiT)(hv:Cnt s.vs)(e:Ex)(he:args[0]?=some e)(hX:scX p e lo s.vs s.jk ⟨s.ts,s.ns⟩ (riX p s.vs e ⟨s.ts,s.ns⟩))(hn:(riX p s.vs e ⟨s.ts,s.ns⟩).2.ns.length<=34000000000)
 (h3:k=3->∃e2,args[1]?=some e2/\scX p e2 lo s.vs s.jk (riX p s.vs e ⟨s.ts,s.ns⟩).2 (riX p s.vs e2 (riX p s.vs e ⟨s.ts,s.ns⟩).2)/\(riX p s.vs e2 (riX p s.vs e ⟨s.ts,s.ns⟩).2).2.ns.length<=34000000000) :
 SC Tryz.prog 118 [.ptr 4 0,.pv (stv (.mk k ty nm args thn els))] (riW p lo s) (λk=>k∈[]) (.tup []) (riW p lo (ze3 p k nm args s)):=by
 refine SC.vc tb { pb:=[103] } [] Tryz.func118 rfl rfl ?_;have g0:args.getD 0 ex0=e:=by rw[Ay,he];rfl
 unfold ze3;rw[g0];generalize riX p s.vs e ⟨s.ts,s.ns⟩=c at hX hn h3⊢;obtain⟨c1,c2⟩:=c;dsimp only at hX hn h3⊢;refine⟨z1c he,rfl,[],hX,sR,Gk,rfl,?_⟩;rcases(show k=1∨k=2∨k=3∨k=9∨(k≠1/\k≠2/\k≠3/\k≠9) by omega)with rfl|rfl|rfl|rfl|⟨k1,k2,k3,k9⟩
 ·exact⟨rfl,hv.1,sI,rfl,rfl,rfl,rfl,rfl,rfl,Gd⟩
 ·exact⟨rfl,hv.1,sI,rfl,rfl,rfl,rfl,rfl,rfl,Gd⟩
 ·obtain⟨e2,i1,i2,i3⟩:=h3 rfl;have g1:args.getD 1 ex0=e2:=by rw[Ay,i1];rfl
  rw[g1];generalize riX p s.vs e2 c2=d at i2 i3⊢;obtain⟨d1,d2⟩:=d;dsimp only at i2 i3⊢;exact⟨z1c i1,rfl,[],i2,sR,Gk,rfl,[],z48 p d2.ts ⟨lo,s.jk⟩ s.vs d2.ns (.mk 6 0 0 nm [c1,d1] [] [] []) oM0,SubA.same (SubA.cons (sP (z0g _)) SubA.nil),Gk,rfl,sI,rfl,rfl,rfl,rfl,rfl,rfl,Gd⟩
 ·exact⟨[],z48 p c2.ts ⟨lo,s.jk⟩ s.vs c2.ns (.mk 9 0 0 ⟨#[]⟩ [c1] [] [] []) oM0,SubA.same (SubA.cons (sP (z0g _)) SubA.nil),Gk,rfl,sI,rfl,rfl,rfl,rfl,rfl,rfl,Gd⟩
 ·rw[if_neg oM0,if_neg k3,if_neg k9];have no:∀{i:Int},k≠i->(k==i)=true->False:=λh e=>h (eq_of_beq e);exact z00 (λh=>(no k1 h).elim) λ_=>z00 (λh=>(no k2 h).elim) λ_=>z00 (λh=>(no k3 h).elim) λ_=>z00 (λh=>(no k9 h).elim) λ_=>⟨sI,rfl,rfl,rfl,rfl,rfl,rfl,Gd⟩
def scS(p:Pg)(x:St)(lo:List (List ByteArray))(s:RiT)(a:Bool×RiT):Prop:=SC Tryz.prog 66 [.ptr 4 0,.pv (stv x)] (riW p lo s) (λk=>k∈[]) (iBool a.1) (riW p lo a.2)
theorem yu4(p:Pg)(ty:Int)(nm:ByteArray)(args:List Ex)(thn els:List St)(lo:List (List ByteArray))(s:RiT)(a:Bool×RiT)
 (h:SC Tryz.prog 113 [.ptr 4 0,.pv (stv (.mk 4 ty nm args thn els))] (riW p lo s) (λk=>k∈[]) (iBool a.1) (riW p lo a.2)):scS p (.mk 4 ty nm args thn els) lo s a:=by
 refine SC.vc tb { pb:=[103] } [] Tryz.func66 rfl rfl ?_;exact⟨[],h,sR,Gk,rfl,sI,rfl,rfl,rfl,rfl,rfl,rfl,Gd⟩
theorem y41(p:Pg)(ty:Int)(nm:ByteArray)(args:List Ex)(thn els:List St)(lo:List (List ByteArray))(s:RiT)(a:Bool×RiT)
 (h:SC Tryz.prog 114 [.ptr 4 0,.pv (stv (.mk 5 ty nm args thn els))] (riW p lo s) (λk=>k∈[]) (iBool a.1) (riW p lo a.2)):scS p (.mk 5 ty nm args thn els) lo s a:=by
 refine SC.vc tb { pb:=[103] } [] Tryz.func66 rfl rfl ?_;exact⟨[],h,sR,Gk,rfl,sI,rfl,rfl,rfl,rfl,rfl,rfl,Gd⟩
theorem ye3(p:Pg)(k ty:Int)(hk:k=6∨k=7)(nm:ByteArray)(args:List Ex)(thn els:List St)(lo:List (List ByteArray))(hlo:lo≠[])(s:RiT)(hv:Cnt s.vs)(hl:lo.length<=1000000000)(hln:(lo.getLastD []).length<=1000000000)(hn:s.ns.length<=34000000000):scS p (.mk k ty nm args thn els) lo s (riS p (.mk k ty nm args thn els) lo s):=by
 have hO:=zj1 s.vs hv (lo.getLastD []) oM0;have hpos:=D3.2 hlo;have hg:((lo++s.jk).map eTxs)[lo.length-1]?=some (eTxs (lo.getLastD [])):=by
  rw[Ba,Aq oM0,<- Ek]
  cases lo with
  |nil=>exact absurd rfl hlo
  |cons y r=>simp[List.getLast?_cons,List.getLastD_eq_getLast?]
 rw[riS];refine SC.vc tb { pb:=[103] } [] Tryz.func66 rfl rfl ?_;rcases hk with rfl|rfl
 ·refine⟨rfl,z2x (z:=((lo.length:Nat):Int)-1) sI0 oM0,rfl,VIdR.mk (i:=lo.length-1) (by simp;omega) oM0 (VRow.mk (i:=lo.length-1) (j:=0) rfl rfl hg rfl ?_)⟩;exact⟨[5],hO,sR,Gf,rfl,[],z48 p s.ts ⟨lo,s.jk⟩ s.vs s.ns (.mk 14 0 0 ⟨#[]⟩ (riOf s.vs (lo.getLastD [])) [] [] []) oM0,SubA.same (SubA.cons (sP (z0g _)) SubA.nil),Gk,rfl,sI,rfl,rfl,rfl,rfl,rfl,rfl,Gd⟩
 ·refine⟨rfl,z2x (z:=((lo.length:Nat):Int)-1) sI0 oM0,rfl,VIdR.mk (i:=lo.length-1) (by simp;omega) oM0 (VRow.mk (i:=lo.length-1) (j:=0) rfl rfl hg rfl ?_)⟩;exact⟨[5],hO,sR,Gf,rfl,[],z48 p s.ts ⟨lo,s.jk⟩ s.vs s.ns (.mk 13 0 0 ⟨#[]⟩ (riOf s.vs (lo.getLastD [])) [] [] []) oM0,SubA.same (SubA.cons (sP (z0g _)) SubA.nil),Gk,rfl,sI,rfl,rfl,rfl,rfl,rfl,rfl,Gd⟩
theorem yu5(p:Pg)(ty:Int)(nm:ByteArray)(args:List Ex)(thn els:List St)(lo:List (List ByteArray))(s:RiT)(e:Ex)(he:args[0]?=some e)(hX:scX p e lo s.vs s.jk ⟨s.ts,s.ns⟩ (riX p s.vs e ⟨s.ts,s.ns⟩))(hn:(riX p s.vs e ⟨s.ts,s.ns⟩).2.ns.length<=34000000000):scS p (.mk 8 ty nm args thn els) lo s (riS p (.mk 8 ty nm args thn els) lo s):=by
 have g0:args.getD 0 ex0=e:=by rw[Ay,he];rfl
 rw[riS,if_neg dC0,if_neg dC0,if_neg dC0,if_neg dC0,if_pos rfl,g0];refine SC.vc tb { pb:=[103] } [] Tryz.func66 rfl rfl ?_;generalize riX p s.vs e ⟨s.ts,s.ns⟩=c at hX hn⊢;obtain⟨c1,c2⟩:=c;dsimp only at hX hn⊢;exact⟨z1c he,rfl,[],hX,sR,Gk,rfl,[],z48 p c2.ts ⟨lo,s.jk⟩ s.vs c2.ns (.mk 15 0 0 ⟨#[]⟩ [c1] [] [] []) oM0,SubA.same (SubA.cons (sP (z0g _)) SubA.nil),Gk,rfl,sI,rfl,rfl,rfl,rfl,rfl,rfl,Gd⟩
theorem y40(p:Pg)(k ty:Int)(h4:k≠4)(h5:k≠5)(h6:k≠6)(h7:k≠7)(h8:k≠8)(nm:ByteArray)(args:List Ex)(thn els:List St)(lo:List (List ByteArray))(s:RiT)
 (h:SC Tryz.prog 118 [.ptr 4 0,.pv (stv (.mk k ty nm args thn els))] (riW p lo s) (λk=>k∈[]) (.tup []) (riW p lo (ze3 p k nm args s))):scS p (.mk k ty nm args thn els) lo s (riS p (.mk k ty nm args thn els) lo s):=by
 rw[riS,if_neg h4,if_neg h5,if_neg h6,if_neg h7,if_neg h8];refine SC.vc tb { pb:=[103] } [] Tryz.func66 rfl rfl ?_;have no:∀{i:Int},k≠i->(k==i)=true->False:=λh e=>h (eq_of_beq e);exact z00 (λh=>(no h4 h).elim) λ_=>z00 (λh=>(no h5 h).elim) λ_=>z00 (λh=>(no h6 h).elim) λ_=>z00 (λh=>(no h7 h).elim) λ_=>z00 (λh=>(no h8 h).elim) λ_=>⟨[],h,sR,Gk,rfl,sI,rfl,rfl,rfl,rfl,rfl,rfl,Gd⟩
def riIx(p:Pg)(lo:List (List ByteArray)):List St->Int->RiT->Int
 |[],_,_=>-1
 |x::r,j,s=>if (riS p x lo s).1 then j else riIx p lo r (j+1) (riS p x lo s).2
theorem j1l(p:Pg)(lo:List (List ByteArray)):∀(l:List St)(j:Int)(s:RiT),0<=j->decide (riIx p lo l j s≥0)=(riB p l lo s).1
 |[],_,_,_=>by rw[riIx,riB];rfl
 |x::r,j,s,hj=>by
  rw[riIx,riB];split
  ·simp[hj]
  ·exact j1l p lo r (j+1) _ oM0
theorem sc_riIdx(p:Pg)(lo:List (List ByteArray))(l:List St)(s0:RiT)(I:Nat->RiT->Prop)(h0:I 0 s0)(hS:∀i x s,l[i]?=some x->I i s->scS p x lo s (riS p x lo s)/\((riS p x lo s).1=false->I (i+1) (riS p x lo s).2)) :
 SC Tryz.prog 112 [.pv (sts l),.fn (.func 66) [.ptr 4 0] []] (riW p lo s0) (λk=>k∈[]) (iInt (riIx p lo l 0 s0)) (riW p lo (riB p l lo s0).2):=by
 refine SC.vc tb { gh:=[(0,[.len 0])] } [] Tryz.func112 rfl rfl ?_;intro hl;simp only[A8]at hl;have hl:l.length<=9223372036854775807:=hl;refine⟨Nat×RiT,λa=>[(8,iInt ((a.1:Nat):Int))],λa=>riW p lo a.2,λa=>l.length-a.1,λa=>a.1<=l.length/\I a.1 a.2/\riIx p lo l 0 s0=riIx p lo (l.drop a.1) a.1 a.2/\riB p l lo s0=riB p (l.drop a.1) lo a.2,[],(0,s0),⟨Ac _,h0,rfl,rfl⟩,Ge,Gk,?_⟩;rintro⟨i,s⟩ ⟨i1,i2,i3,i4⟩;dsimp only at i1 i2 i3 i4;refine z00 (λhc=>?_) λhc=>?_
 ·have hlt:i<l.length:=z0x (f:=St.enc) rfl hc;obtain⟨x,x1,x2,x3,x4⟩:=z0o hlt;obtain⟨hx,hI⟩:=hS i x s x1 i2;rw[x3,riIx]at i3;rw[x3,riB]at i4;unfold scS at hx;generalize riS p x lo s=a at hx hI i3 i4;obtain⟨b,q⟩:=a;dsimp only at hx hI i3 i4
  cases b
  ·simp only[Ap,C3]at i3 i4;exact⟨zj7 x1,rfl,hx,sR,Gk,λk hk=>hk,rfl,rfl,z01 rfl oM0,(i+1,q),z03 hlt,⟨hlt,hI rfl,i3,i4⟩,Ge,Gk,rfl,rfl,rfl,rfl⟩
  ·simp only[Ca]at i3 i4;rw[i3,i4];exact⟨zj7 x1,rfl,hx,sR,Gk,λk hk=>hk,rfl,rfl,sI,rfl,rfl,rfl,rfl,rfl,rfl,Gd⟩
 ·have hge:l.length<=i:=z0y (f:=St.enc) rfl hc;rw[i3,i4,Ad hge,riIx,riB];exact⟨sI,rfl,rfl,rfl,rfl,rfl,rfl,Gd⟩
theorem sc_riHas(p:Pg)(lo:List (List ByteArray))(l:List St)(s0:RiT)(I:Nat->RiT->Prop)(h0:I 0 s0)(hS:∀i x s,l[i]?=some x->I i s->scS p x lo s (riS p x lo s)/\((riS p x lo s).1=false->I (i+1) (riS p x lo s).2)) :
 SC Tryz.prog 65 [.pv (sts l),.fn (.func 66) [.ptr 4 0] []] (riW p lo s0) (λk=>k∈[]) (iBool (riB p l lo s0).1) (riW p lo (riB p l lo s0).2):=by
 refine SC.vc tb {} [] Tryz.func65 rfl rfl ?_;exact⟨[],sc_riIdx p lo l s0 I h0 hS,sR,Gk,rfl,sE (Af iBool (j1l p lo l 0 s0 dC0)),rfl,rfl,rfl,rfl,rfl,rfl,Gd⟩
theorem yu7(p:Pg)(lo:List (List ByteArray))(l:List St)(s0:RiT)(I:Nat->RiT->Prop)(h0:I 0 s0)(hS:∀i x s,l[i]?=some x->I i s->scS p x lo s (riS p x lo s)/\((riS p x lo s).1=false->I (i+1) (riS p x lo s).2)):scB p l lo s0 (riB p l lo s0):=by
 refine SC.vc tb {} [] Tryz.func38 rfl rfl ?_;exact⟨[],sc_riHas p lo l s0 I h0 hS,sR,Gk,rfl,sI,rfl,rfl,rfl,rfl,rfl,rfl,Gd⟩
mutual
def cnS:St->Nat
 |.mk _ _ _ _ thn els=>1+cnL thn+cnL els
def cnL:List St->Nat
 |[]=>0
 |x::r=>cnS x+cnL r
end
mutual
def grS:St->Nat
 |.mk _ _ _ args thn els=>2+8*xzL args+2*(cnL thn+cnL els)+grL thn+grL els
def grL:List St->Nat
 |[]=>0
 |x::r=>grS x+grL r
end
def gA(p:Pg)(n:Nat)(args:List Ex):Bool:=decide (n<=args.length)&&zm2 p args
mutual
def gS(p:Pg)(b lp:Bool):St->Bool
 |.mk k _ _ args thn els =>
  if k=4 then gA p 1 args&&gB p b lp thn&&gB p b lp els
  else if k=5 then gA p 1 args&&gB p b true thn
  else if k=6∨k=7 then lp
  else if k=3 then gA p 2 args
  else gA p 1 args&&(b||(args.getD 0 ex0).kind != 3)
def gB(p:Pg)(b lp:Bool):List St->Bool
 |[]=>true
 |x::r=>gS p b lp x&&gB p (b||x.kind==1) lp r
end
structure RiI(vs:List (Value×PV))(n:Nat)(b:Bool):Prop where
 cnt:Cnt vs
 rng:∀e∈vs,∃v:Int,e.2=vInt v/\0<=v/\v<n
 ne:b=true->vs≠[]
theorem RiI.get{vs:List (Value×PV)}{n:Nat}{b:Bool}(h:RiI vs n b)(nm:ByteArray)(hb:b=true∨(z1k (.string nm) vs).isSome=true):0<=y2m vs nm/\y2m vs nm<n:=by
 unfold y2m
 cases hf:z1k (.string nm) vs with
 |none =>
  rcases hb with hb|hb
  ·obtain⟨e,r,he⟩:=C2 (h.ne hb);obtain⟨v,_,h1,h2⟩:=h.rng e (he▸ .head _);exact⟨D7 _,by dsimp only;omega⟩
  ·rw[hf]at hb;cases hb
 |some q =>
  obtain⟨a,ha⟩:=z7j hf;obtain⟨v,h1,h2,h3⟩:=h.rng _ ha;dsimp only at h1;subst h1;exact⟨h2,h3⟩
theorem RiI.mono{vs:List (Value×PV)}{n m:Nat}{b:Bool}(h:RiI vs n b)(hm:n<=m):RiI vs m b:=⟨h.cnt,λe he=>by obtain⟨v,h1,h2,h3⟩:=h.rng e he;exact⟨v,h1,h2,by omega⟩,h.ne⟩
theorem RiI.weak{vs:List (Value×PV)}{n:Nat}{b c:Bool}(h:RiI vs n b)(hc:c=true->b=true):RiI vs n c:=⟨h.cnt,h.rng,λe=>h.ne (hc e)⟩
theorem mput_ne{k:Value}{v:PV}:∀{es:List (Value×PV)},mput k v es≠[]
 |[],h=>by simp[mput]at h
 |(a,q)::r,h=>by
  simp only[mput]at h;split at h<;>cases h
theorem RiI.put{vs:List (Value×PV)}{n:Nat}{b:Bool}(h:RiI vs n b)(nm:ByteArray){v:Int}(h0:0<=v)(h1:v<n):RiI (riSt vs nm v) n true :=
 ⟨h.cnt.putI nm v,λe he=>by
  rcases z45 he with rfl|he
  ·exact⟨v,rfl,h0,h1⟩
  ·exact h.rng e he,λ_=>mput_ne⟩
theorem RiI.set{n:Nat}{b:Bool}:∀(l:List ByteArray) (q:List Int) {vs:List (Value×PV)},RiI vs n b->(∀v∈q,0<=v/\v<n)->RiI (zm3 vs l q) n b
 |[],[],_,h,_=>h
 |[],_::_,_,h,_=>h
 |_::_,[],_,h,_=>h
 |x::a,y::c,_,h,hq=>RiI.set a c ((h.put x (hq y (.head _)).1 (hq y (.head _)).2).weak λ_=>rfl) λv hv=>hq v (.tail _ hv)
theorem zr2:∀(l ts:List Int),∀v∈(z15 ts l).1,0<=v/\v<(z15 ts l).2.length
 |[],ts,v,h=>by cases h
 |x::r,ts,v,h=>by
  have hl:=z3h r (ts++[ts.getD x.toNat 0]);simp only[z15,Aj]at h⊢;rcases h with rfl|h
  ·have:=hl.2;rw[B4]at this;simp only[A1,A5]at this;omega
  ·exact zr2 r _ v h
theorem zm1(vs:List (Value×PV))(Q:Value->Prop)(hQ:∀nm,(z1k (.string nm) vs).isSome=true->Q (.string nm)):∀(N:Nat)(l:List St),SizeOf.sizeOf l<N->∀out:List (Value×PV),(∀e∈out,Q e.1)->∀e∈z4p vs l out,Q e.1
 |0,_,h,_,_=>absurd h (Al _)
 |N+1,[],_,out,h=>by rw[z4p];exact h
 |N+1,x::r,hN,out,h=>by
  have hx:=zs4 x;simp at hN;rw[z4p,zc5];refine zm1 vs Q hQ N r oM0 _ (zm1 vs Q hQ N x.els oM0 _ (zm1 vs Q hQ N x.thn oM0 _ ?_));split
  ·rename_i hc;rw[A0]at hc;intro e he;rcases z45 he with rfl|he
   ·exact hQ _ hc.1
   ·exact h e he
  ·exact h
theorem yk6(k:Value)(v:PV):∀es:List (Value×PV),(mput k v es).length<=es.length+1
 |[]=>by simp[mput]
 |(a,q)::r=>by
  simp only[mput];split
  ·simp
  ·have:=yk6 k v r;simp;omega
theorem z8x(vs:List (Value×PV)):∀(N:Nat)(l:List St),SizeOf.sizeOf l<N->∀out:List (Value×PV),(z4p vs l out).length<=out.length+cnL l
 |0,_,h,_=>absurd h (Al _)
 |N+1,[],_,out=>by rw[z4p];simp[cnL]
 |N+1,x::r,hN,out=>by
  have hx:=zs4 x;simp at hN;rw[z4p,zc5];have h1:(if (z1k (.string x.name) vs).isSome&&x.kind==2 then mput (.string x.name) (.agg []) out else out).length<=out.length+1:=by
   split
   ·exact yk6 _ _ _
   ·omega
  generalize(if (z1k (.string x.name) vs).isSome&&x.kind==2 then mput (.string x.name) (.agg []) out else out)=o1 at h1;have h2:=z8x vs N x.thn oM0 o1;have h3:=z8x vs N x.els oM0 (z4p vs x.thn o1);have h4:=z8x vs N r oM0 (z4p vs x.els (z4p vs x.thn o1));have h5:cnS x=1+cnL x.thn+cnL x.els:=by cases x;rw[cnS];rfl
  rw[cnL];omega
theorem j1o(vs:List (Value×PV))(Q:Value->Prop)(hQ:∀nm,(z1k (.string nm) vs).isSome=true->Q (.string nm))(ls:List (List St)):∀e∈z8l vs ls,Q e.1:=by
 suffices ∀(ls:List (List St)) (o:List (Value×PV)),(∀e∈o,Q e.1)->∀e∈ls.foldl (λo l=>z4p vs l o) o,Q e.1 from this ls [] λe he=>by cases he
 intro ls
 induction ls with
 |nil=>exact λo h=>h
 |cons l r ih=>exact λo h=>ih _ (zm1 vs Q hQ _ l (Ab _) o h)
theorem y3p(vs:List (Value×PV))(l:List St):(z8l vs [l]).length<=cnL l:=by
 have:=z8x vs _ l (Ab _) [];simpa[z8l]using this
theorem y3q(vs:List (Value×PV))(l m:List St):(z8l vs [l,m]).length<=cnL l+cnL m:=by
 have h1:=z8x vs _ l (Ab _) [];have h2:=z8x vs _ m (Ab _) (z4p vs l []);simp[z8l]at h1⊢;omega
theorem y3o{vs:List (Value×PV)}{n:Nat}{b:Bool}(h:RiI vs n b)(ls:List (List St)):∀v∈riOf vs (z0d vs ls),0<=v/\v<n:=by
 intro v hv;obtain⟨nm,h1,rfl⟩:=Cc.1 hv;refine h.get nm (.inr ?_);have hq:=j1o vs (λk=>∀s,k=.string s->(z1k (.string s) vs).isSome=true) (λnm h s e=>by cases e;exact h) ls;obtain⟨l,h2,rfl⟩:=Cc.1 h1;have h3:l∈((z8l vs ls).map λe=>z71 e.1).map λs=>s.data.toList:=List.mem_mergeSort.1 h2;obtain⟨s,h4,rfl⟩:=Cc.1 h3;obtain⟨e,h5,rfl⟩:=Cc.1 h4;have h6:=y19 vs ls e h5;have h7:=hq e h5
 cases hk:e.1<;>rw[hk]at h6<;>simp[z1v]at h6
 rename_i t;exact h7 t hk
structure RiR(b:Bool)(s r:RiT)(n g:Nat):Prop where
 I:RiI r.vs r.ts.length b
 lo:s.ts.length<=r.ts.length
 hi:r.ts.length<=s.ts.length+g
 ns:r.ns.length<=s.ns.length+g
 jk:r.jk.length<=s.jk.length+n
theorem j1p(t k o n:Int)(nm:ByteArray)(args:List Int)(kids:List (List Nd))(s:RiS):0<=(z6k t k o n nm args kids s).1/\(z6k t k o n nm args kids s).1<(z6k t k o n nm args kids s).2.ts.length/\s.ts.length<=(z6k t k o n nm args kids s).2.ts.length:=by
 simp[z6k];omega
theorem y1b(p:Pg)(k o n:Int)(nm:ByteArray)(l:List Int)(s:RiS):0<=(zr4 p k o n nm l s).1/\(zr4 p k o n nm l s).1<(zr4 p k o n nm l s).2.ts.length/\s.ts.length<=(zr4 p k o n nm l s).2.ts.length:=by
 unfold zr4
 repeat' split
 all_goals exact j1p _ _ _ _ _ _ _ _
theorem zi7(o a:Int)(ns:List Nd)(r:Int×RiS):0<=(z6s o a ns r).1/\(z6s o a ns r).1<(z6s o a ns r).2.ts.length/\r.2.ts.length<=(z6s o a ns r).2.ts.length:=by
 unfold z6s;split<;>(simp[z6k];omega)
theorem riX_ge(p:Pg)(vs:List (Value×PV)):∀(N:Nat),(∀e:Ex,SizeOf.sizeOf e<N->∀s,s.ts.length<=(riX p vs e s).2.ts.length)/\(∀l:List Ex,SizeOf.sizeOf l<N->∀s,s.ts.length<=(riXL p vs l s).2.ts.length)/\(∀(o:Int)(l:List Ex),SizeOf.sizeOf l<N->∀s,s.ts.length<=(riSh p vs o l s).2.ts.length)/\(∀(o a:Int)(s:RiS)(l:List Ex),SizeOf.sizeOf l<N->s.ts.length<=(zm4 p vs o a s l).2.ts.length)
 |0=>⟨λ_ h=>absurd h (Al _),λ_ h=>absurd h (Al _),λ_ _ h=>absurd h (Al _),λ_ _ _ _ h=>absurd h (Al _)⟩
 |N+1=>by
  obtain⟨h1,h2,h3,h4⟩:=riX_ge p vs N;refine⟨λe he s=>?_,λl hl s=>?_,λo l hl s=>?_,λo a s l hl=>?_⟩
  ·obtain⟨k,o,n,nm,args⟩:=e;simp at he;rw[riX];split
   ·exact Ag _
   ·split
    ·exact h3 o args oM0 s
    ·exact Bn (h2 args oM0 s) (y1b p k o n nm _ _).2.2
  ·match l with
   |[]=>rw[riXL];exact Ag _
   |e::r =>
    simp at hl;rw[riXL];exact Bn (h1 e oM0 s) (h2 r oM0 _)
  ·match l with
   |[]=>rw[riSh];exact Ag _
   |e::r =>
    simp at hl;rw[riSh];exact Bn (h1 e oM0 s) (h4 o _ _ r oM0)
  ·match l with
   |[]=>rw[zm4];exact Ag _
   |e::r =>
    simp at hl;rw[zm4];exact Bn (h1 e oM0 ⟨s.ts,[]⟩) (zi7 o a s.ns _).2.2
theorem riX_rng(p:Pg){vs:List (Value×PV)}{b:Bool}(e:Ex)(s:RiS)(h:RiI vs s.ts.length b)(hb:b=true∨e.kind≠3)(hok:riOk p e=true):0<=(riX p vs e s).1/\(riX p vs e s).1<(riX p vs e s).2.ts.length:=by
 obtain⟨k,o,n,nm,args⟩:=e;rw[riX]
 by_cases h3:k=3
 ·rw[if_pos h3];rcases hb with hb|hb
  ·exact h.get nm (.inl hb)
  ·exact absurd h3 hb
 ·rw[if_neg h3]
  by_cases hs:k=5/\(o=18∨o=19)
  ·rw[if_pos hs];rw[riOk,A0]at hok;have h2:args.length=2:=by have:=hok.1;unfold j1j at this;rw[if_pos hs.1]at this;exact eq_of_beq this
   match args,h2 with
   |[e1,e2],_ =>
    rw[riSh,zm4];exact⟨(zi7 _ _ _ _).1,(zi7 _ _ _ _).2.1⟩
  ·rw[if_neg hs];exact⟨(y1b _ _ _ _ _ _ _).1,(y1b _ _ _ _ _ _ _).2.1⟩
theorem zr1{b:Bool}{vs:List (Value×PV)}{z04:List ByteArray}{n0:Nat}(h:RiI vs n0 b)(ts:List Int)(ns:List Nd)(jk:List (List ByteArray))(k:Int)(args params:List Int)(kids:List (List Nd))(hts:n0<=ts.length) :
 RiI (z6j vs z04 ts ns jk k args params kids).2.vs (z6j vs z04 ts ns jk k args params kids).2.ts.length b/\ts.length<=(z6j vs z04 ts ns jk k args params kids).2.ts.length/\(z6j vs z04 ts ns jk k args params kids).2.ts.length<=ts.length+z04.length/\(z6j vs z04 ts ns jk k args params kids).2.ns.length=ns.length+1/\(z6j vs z04 ts ns jk k args params kids).2.jk=jk:=by
 unfold z6j;split
 ·exact⟨h.mono hts,Ag _,Bk _ _,by simp,rfl⟩
 ·have hl:=z3h (riOf vs z04) ts;have hn:(riOf vs z04).length=z04.length:=by simp[riOf]
  refine⟨RiI.set _ _ (h.mono (by dsimp only;omega)) λv hv=>zr2 _ _ v hv,by dsimp only;omega,by dsimp only;omega,by simp,rfl⟩
theorem z9s{p:Pg}{args:List Ex}(h:gA p 1 args=true):∃e,args[0]?=some e/\args.getD 0 ex0=e/\riOk p e=true/\xz e<=xzL args:=by
 unfold gA at h;rw[A0]at h;have h1:=Am h.1
 match args,h1 with
 |e::r,_=>exact⟨e,rfl,rfl,zc6 h.2 (.head _),zg8 (.head _)⟩
theorem j03{p:Pg}{args:List Ex}(h:gA p 2 args=true):∃e e2,args[0]?=some e/\args[1]?=some e2/\args.getD 0 ex0=e/\args.getD 1 ex0=e2/\riOk p e=true/\riOk p e2=true/\xz e+xz e2<=xzL args:=by
 unfold gA at h;rw[A0]at h;have h1:=Am h.1
 match args,h1 with
 |e::e2::r,_=>exact⟨e,e2,rfl,rfl,rfl,rfl,zc6 h.2 (.head _),zc6 h.2 (.tail _ (.head _)),by simp only[xzL];omega⟩
theorem z88(vs:List (Value×PV))(l:List St):(z0d vs [l]).length<=cnL l:=(z9d vs [l]).symm▸y3p vs l
theorem zv0(vs:List (Value×PV))(l m:List St):(z0d vs [l,m]).length<=cnL l+cnL m:=(z9d vs [l,m]).symm▸y3q vs l m
theorem z5r(p:Pg)(vs:List (Value×PV))(e:Ex)(s:RiS):s.ts.length<=(riX p vs e s).2.ts.length/\(riX p vs e s).2.ts.length<=s.ts.length+4*xz e/\(riX p vs e s).2.ns.length<=s.ns.length+4*xz e :=
 ⟨(riX_ge p vs _).1 e (Ab _) s,(zv1 p vs _).1 e (Ab _) s⟩
theorem y16{s:RiT}{b:Bool}(h:RiI s.vs s.ts.length b)(z04:List ByteArray):RiI (z2b s z04).vs (z2b s z04).ts.length b/\(z2b s z04).ts.length=s.ts.length+z04.length:=by
 have hl:=z3h (riOf s.vs z04) s.ts;have hn:(riOf s.vs z04).length=z04.length:=by simp[riOf]
 unfold z2b;refine⟨RiI.set _ _ (h.mono (by dsimp only;omega)) λv hv=>zr2 _ _ v hv,by dsimp only;omega⟩
theorem j1q(p:Pg):∀N,(∀x:St,SizeOf.sizeOf x<N->∀b lp lo s,gS p b lp x=true->RiI s.vs s.ts.length b->RiR (b||x.kind==1) s (riS p x lo s).2 (cnS x) (grS x))/\(∀l:List St,SizeOf.sizeOf l<N->∀b lp lo s,gB p b lp l=true->RiI s.vs s.ts.length b->RiR b s (riB p l lo s).2 (cnL l) (grL l))
 |0=>⟨λ_ h=>absurd h (Al _),λ_ h=>absurd h (Al _)⟩
 |N+1=>by
  obtain⟨hS,hB⟩:=j1q p N;refine⟨λx hx b lp lo s hg hI=>?_,λl hl b lp lo s hg hI=>?_⟩
  ·obtain⟨k,ty,nm,args,thn,els⟩:=x;simp at hx;rw[gS]at hg;rw[riS];simp only[cnS,grS,St.kind]
   by_cases h4:k=4
   ·subst h4;rw[if_pos rfl,A0,A0]at hg;rw[if_pos rfl,show(b||(4:Int)==1)=b by simp];obtain⟨e,i1,i2,i3,i4⟩:=z9s hg.1.1;rw[i2];obtain⟨j1,j2,j3⟩:=z5r p s.vs e ⟨s.ts,s.ns⟩;generalize riX p s.vs e ⟨s.ts,s.ns⟩=c at j1 j2 j3⊢;dsimp only at j1 j2 j3;have hA:=hB thn oM0 b lp lo ⟨s.vs,c.2.ts,[],s.jk⟩ hg.1.2 (hI.mono j1);generalize riB p thn lo ⟨s.vs,c.2.ts,[],s.jk⟩=a at hA⊢;have hE:=hB els oM0 b lp lo ⟨s.vs,a.2.ts,[],a.2.jk⟩ hg.2 (hI.mono (Bn j1 hA.lo));generalize riB p els lo ⟨s.vs,a.2.ts,[],a.2.jk⟩=d at hE⊢;have hn:=zv0 s.vs thn els;generalize z0d s.vs [thn,els]=z04 at hn⊢;obtain⟨a1,a2,a3,a4,a5⟩:=hA;obtain⟨d1,d2,d3,d4,d5⟩:=hE;dsimp only at a2 a3 a4 a5 d2 d3 d4 d5;unfold ze2;obtain⟨r1,r2,r3,r4,r5⟩:=zr1 (z04:=z04) hI d.2.ts c.2.ns d.2.jk 10 [c.1] [] [z5q 12 z04 a,z5q 12 z04 d] oM0;exact⟨r1,by omega,by omega,by omega,by rw[r5];omega⟩
   by_cases h5:k=5
   ·subst h5;rw[if_neg dC0,if_pos rfl,A0]at hg;rw[if_neg dC0,if_pos rfl,show(b||(5:Int)==1)=b by simp];obtain⟨e,i1,i2,i3,i4⟩:=z9s hg.1;rw[i2];have hn:=z88 s.vs thn;generalize z0d s.vs [thn]=z04 at hn⊢;obtain⟨k1,k2⟩:=y16 hI z04;have ht:s.jk.tail.length<=s.jk.length:=by simp
    split
    ·have hA:=hB thn oM0 b true (lo++[z04]) (z2b s z04) hg.2 k1;generalize riB p thn (lo++[z04]) (z2b s z04)=a at hA⊢;obtain⟨a1,a2,a3,a4,a5⟩:=hA;have a5:a.2.jk.length<=s.jk.tail.length+cnL thn:=a5;unfold y5l;obtain⟨r1,r2,r3,r4,r5⟩:=zr1 (z04:=z04) hI a.2.ts s.ns (z04::a.2.jk) 11 (riOf s.vs z04) (z15 s.ts (riOf s.vs z04)).1 [z5q 13 z04 a] oM0;exact⟨r1,by omega,by omega,by omega,by rw[r5,A1];omega⟩
    ·obtain⟨j1,j2,j3⟩:=z5r p (z2b s z04).vs e ⟨(z2b s z04).ts,[]⟩;generalize riX p (z2b s z04).vs e ⟨(z2b s z04).ts,[]⟩=c at j1 j2 j3⊢;dsimp only at j1 j2 j3;have hA:=hB thn oM0 b true (lo++[z04]) ⟨(z2b s z04).vs,c.2.ts,[],s.jk.tail⟩ hg.2 (k1.mono j1);generalize riB p thn (lo++[z04]) ⟨(z2b s z04).vs,c.2.ts,[],s.jk.tail⟩=a at hA⊢;obtain⟨a1,a2,a3,a4,a5⟩:=hA;dsimp only at a2 a3 a4 a5;unfold y5m;obtain⟨r1,r2,r3,r4,r5⟩:=zr1 (z04:=z04) hI a.2.ts s.ns (z04::a.2.jk) 11 (riOf s.vs z04) (z15 s.ts (riOf s.vs z04)).1 [z9e z04 (z2b s z04).vs c a] oM0;exact⟨r1,by omega,by omega,by omega,by rw[r5,A1];omega⟩
   rw[if_neg h4,if_neg h5]at hg;rw[if_neg h4,if_neg h5]
   by_cases h6:k=6
   ·subst h6;rw[if_pos rfl,show(b||(6:Int)==1)=b by simp];exact⟨hI,Ag _,Bk _ _,by simp[z6r];omega,Bk _ _⟩
   by_cases h7:k=7
   ·subst h7;rw[if_neg dC0,if_pos rfl,show(b||(7:Int)==1)=b by simp];exact⟨hI,Ag _,Bk _ _,by simp[z6r];omega,Bk _ _⟩
   rw[if_neg oM0]at hg;rw[if_neg h6,if_neg h7]
   by_cases h8:k=8
   ·subst h8;rw[if_neg dC0,A0]at hg;rw[if_pos rfl,show(b||(8:Int)==1)=b by simp];obtain⟨e,i1,i2,i3,i4⟩:=z9s hg.1;rw[i2];obtain⟨j1,j2,j3⟩:=z5r p s.vs e ⟨s.ts,s.ns⟩;dsimp only at j1 j2 j3;exact⟨hI.mono j1,j1,by dsimp only;omega,by simp[z6r];omega,Bk _ _⟩
   rw[if_neg h8];unfold ze3
   by_cases h3:k=3
   ·subst h3;rw[if_pos rfl]at hg;obtain⟨e,e2,i1,i2,i3,i4,i5,i6,i7⟩:=j03 hg;rw[if_neg dC0,if_pos rfl,i3,i4,show(b||(3:Int)==1)=b by simp];obtain⟨j1,j2,j3⟩:=z5r p s.vs e ⟨s.ts,s.ns⟩;obtain⟨m1,m2,m3⟩:=z5r p s.vs e2 (riX p s.vs e ⟨s.ts,s.ns⟩).2;dsimp only at j1 j2 j3;exact⟨hI.mono (Bn j1 m1),Bn j1 m1,by dsimp only;omega,by simp[z6r];omega,Bk _ _⟩
   rw[if_neg h3,A0]at hg;obtain⟨e,i1,i2,i3,i4⟩:=z9s hg.1;have hg2:=hg.2;rw[i2]at hg2⊢;obtain⟨j1,j2,j3⟩:=z5r p s.vs e ⟨s.ts,s.ns⟩;dsimp only at j1 j2 j3
   by_cases h12:k=1∨k=2
   ·rw[if_pos h12];have hr:=riX_rng p e ⟨s.ts,s.ns⟩ hI (by
     rw[Bo]at hg2;rcases hg2 with h|h
     ·exact .inl h
     ·exact .inr (by simpa using h)) i3
    exact⟨((hI.mono j1).put nm hr.1 hr.2).weak λ_=>rfl,j1,by dsimp only;omega,by dsimp only;omega,Bk _ _⟩
   ·rw[if_neg h12,if_neg h3,show(b||k==1)=b by rw[show(k==1)=false from Aa.2 λe=>h12 (.inl e)];simp];split
    ·exact⟨hI.mono j1,j1,by dsimp only;omega,by simp[z6r];omega,Bk _ _⟩
    ·exact⟨hI.mono j1,j1,by dsimp only;omega,by dsimp only;omega,Bk _ _⟩
  ·match l with
   |[]=>rw[riB];exact⟨hI,Ag _,Bk _ _,Bk _ _,Bk _ _⟩
   |x::r =>
    simp at hl;rw[gB,A0]at hg;have h1:=hS x oM0 b lp lo s hg.1 hI;rw[riB];simp only[cnL,grL];obtain⟨a1,a2,a3,a4,a5⟩:=h1;split
    ·exact⟨a1.weak λh=>by rw[h];rfl,a2,by dsimp only;omega,by dsimp only;omega,by dsimp only;omega⟩
    ·obtain⟨d1,d2,d3,d4,d5⟩:=hB r oM0 _ lp lo (riS p x lo s).2 hg.2 a1;exact⟨d1.weak λh=>by rw[h];rfl,by omega,by omega,by omega,by omega⟩
mutual
def ntS(n:Nat):St->Prop
 |.mk _ _ nm _ thn els=>nm.size<=n/\ntL n thn/\ntL n els
def ntL(n:Nat):List St->Prop
 |[]=>True
 |x::r=>ntS n x/\ntL n r
end
theorem ntS_eq{n:Nat}{x:St}:ntS n x↔x.name.size<=n/\ntL n x.thn/\ntL n x.els:=by cases x;rw[ntS];exact Iff.rfl
theorem zy1(vs:List (Value×PV))(n:Nat):∀(N:Nat)(l:List St),SizeOf.sizeOf l<N->ntL n l->∀out:List (Value×PV),(∀e∈out,(z71 e.1).size<=n)->∀e∈z4p vs l out,(z71 e.1).size<=n
 |0,_,h,_,_,_=>absurd h (Al _)
 |N+1,[],_,_,out,h=>by rw[z4p];exact h
 |N+1,x::r,hN,hm,out,h=>by
  have hx:=zs4 x;simp at hN;rw[ntL,ntS_eq]at hm;rw[z4p,zc5];refine zy1 vs n N r oM0 hm.2 _ (zy1 vs n N x.els oM0 hm.1.2.2 _ (zy1 vs n N x.thn oM0 hm.1.2.1 _ ?_));split
  ·intro e he;rcases z45 he with rfl|he
   ·exact hm.1.1
   ·exact h e he
  ·exact h
theorem yl7(vs:List (Value×PV))(n:Nat)(ls:List (List St))(hm:∀l∈ls,ntL n l):∀e∈z8l vs ls,(z71 e.1).size<=n:=by
 suffices ∀(ls:List (List St)) (_:∀l∈ls,ntL n l) (o:List (Value×PV)),(∀e∈o,(z71 e.1).size<=n)->∀e∈ls.foldl (λo l=>z4p vs l o) o,(z71 e.1).size<=n from this ls hm [] λe he=>by cases he
 intro ls
 induction ls with
 |nil=>exact λ_ o h=>h
 |cons l r ih=>exact λhm o h=>ih (λq hq=>hm q (.tail _ hq)) _ (zy1 vs n _ l (Ab _) (hm l (.head _)) o h)
theorem cn_le:∀N,(∀x:St,SizeOf.sizeOf x<N->cnS x<=sz x)/\(∀l:List St,SizeOf.sizeOf l<N->cnL l<=szL l)
 |0=>⟨λ_ h=>absurd h (Al _),λ_ h=>absurd h (Al _)⟩
 |N+1=>by
  obtain⟨h1,h2⟩:=cn_le N;refine⟨λx hx=>?_,λl hl=>?_⟩
  ·obtain⟨k,ty,nm,args,thn,els⟩:=x;simp at hx;have:=h2 thn oM0;have:=h2 els oM0;rw[cnS,sz];omega
  ·match l with
   |[]=>rw[cnL];omega
   |x::r =>
    simp at hl;have:=h1 x oM0;have:=h2 r oM0;rw[cnL,szL];omega
theorem yy8(l:List St):cnL l<=szL l:=(cn_le _).2 l (Ab _)
structure RiB(lp:Bool)(lo:List (List ByteArray))(s:RiT)(n g:Nat):Prop where
 ts:s.ts.length+g<=32000000000
 ns:s.ns.length+g<=32000000000
 jk:lo.length+s.jk.length+n<=1000000000
 lens:∀l∈lo,l.length<=1000000000
 inl:lp=true->lo≠[]
theorem nmOk1{vs:List (Value×PV)}{n:Nat}{b:Bool}(h:RiI vs n b){l:List St}(hs:szL l<=100000000)(hm:ntL maxLen l):NmOk vs [l] n :=
 ⟨λq hq=>by rw[An.1 hq];omega,yl7 vs maxLen [l] λq hq=>by rw[An.1 hq];exact hm,by have:=y3p vs l;have:=yy8 l;omega,y3o h [l]⟩
theorem nmOk2{vs:List (Value×PV)}{n:Nat}{b:Bool}(h:RiI vs n b){l m:List St}(hs:szL l<=100000000)(hs2:szL m<=100000000)(hm:ntL maxLen l)(hm2:ntL maxLen m):NmOk vs [l,m] n :=
 ⟨λq hq=>by
  simp only[Aj,Bs,Ez]at hq;rcases hq with rfl|rfl<;>omega,yl7 vs maxLen [l,m] λq hq=>by
  simp only[Aj,Bs,Ez]at hq;rcases hq with rfl|rfl<;>assumption,by have:=y3q vs l m;have:=yy8 l;have:=yy8 m;omega,y3o h [l,m]⟩
theorem y05{lo:List (List ByteArray)}{n:Nat}(h:∀l∈lo,l.length<=n):(lo.getLastD []).length<=n:=by
 rw[List.getLastD_eq_getLast?]
 cases hl:lo.getLast? with
 |none=>simp
 |some q=>exact h q (List.mem_of_getLast? hl)
def ihB(p:Pg)(l:List St):Prop:=∀b lp lo s,gB p b lp l=true->ntL maxLen l->szL l<=100000000->RiI s.vs s.ts.length b->RiB lp lo s (cnL l) (grL l)->scB p l lo s (riB p l lo s)
theorem resB(p:Pg)(l:List St)(b lp:Bool)(lo:List (List ByteArray))(s:RiT)(hg:gB p b lp l=true)(hI:RiI s.vs s.ts.length b):RiR b s (riB p l lo s).2 (cnL l) (grL l):=(j1q p _).2 l (Ab _) b lp lo s hg hI
theorem sc_ri4(p:Pg)(hp:szP p)(ty:Int)(nm:ByteArray)(args:List Ex)(thn els:List St)(hT:ihB p thn)(hE:ihB p els)(b lp:Bool)(lo:List (List ByteArray))(s:RiT)(hg:gS p b lp (.mk 4 ty nm args thn els)=true)(hm:ntS maxLen (.mk 4 ty nm args thn els))(hz:sz (.mk 4 ty nm args thn els)<=100000000)(hI:RiI s.vs s.ts.length b)(hb:RiB lp lo s (cnS (.mk 4 ty nm args thn els)) (grS (.mk 4 ty nm args thn els))):scS p (.mk 4 ty nm args thn els) lo s (riS p (.mk 4 ty nm args thn els) lo s):=by
 rw[gS,if_pos rfl,A0,A0]at hg;rw[ntS]at hm;rw[sz]at hz;obtain⟨b1,b2,b3,b4,b5⟩:=hb;rw[grS]at b1 b2;rw[cnS]at b3;rw[riS,if_pos rfl];obtain⟨e,i1,i2,i3,i4⟩:=z9s hg.1.1;rw[i2];obtain⟨j1,j2,j3⟩:=z5r p s.vs e ⟨s.ts,s.ns⟩;have hX:=yn3 p hp ⟨lo,s.jk⟩ s.vs hI.cnt _ e (Ab _) oM0 i3 ⟨s.ts,s.ns⟩ (by dsimp only;omega) (by dsimp only;omega);generalize riX p s.vs e ⟨s.ts,s.ns⟩=c at hX j1 j2 j3⊢;dsimp only at j1 j2 j3;have q1:=hI.mono j1;have hA:=hT b lp lo ⟨s.vs,c.2.ts,[],s.jk⟩ hg.1.2 hm.2.1 oM0 q1 ⟨by dsimp only;omega,by simp;omega,by dsimp only;omega,b4,b5⟩;have rA:=resB p thn b lp lo ⟨s.vs,c.2.ts,[],s.jk⟩ hg.1.2 q1;generalize riB p thn lo ⟨s.vs,c.2.ts,[],s.jk⟩=a at hA rA⊢;obtain⟨a1,a2,a3,a4,a5⟩:=rA;simp only[A5,C0]at a2 a3 a4 a5;have q2:=hI.mono (Bn j1 a2);have hD:=hE b lp lo ⟨s.vs,a.2.ts,[],a.2.jk⟩ hg.2 hm.2.2 oM0 q2 ⟨by dsimp only;omega,by simp;omega,by dsimp only;omega,b4,b5⟩;have rE:=resB p els b lp lo ⟨s.vs,a.2.ts,[],a.2.jk⟩ hg.2 q2;generalize riB p els lo ⟨s.vs,a.2.ts,[],a.2.jk⟩=d at hD rE⊢;obtain⟨d1,d2,d3,d4,d5⟩:=rE;simp only[A5,C0]at d2 d3 d4 d5;have hN:=nmOk2 (hI.mono (show s.ts.length<=d.2.ts.length by omega)) (l:=thn) (m:=els) oM0 oM0 hm.2.1 hm.2.2;have z1:a.2.ns.length<=34000000000:=by omega
 have z2:d.2.ns.length<=34000000000:=by omega
 have z3:c.2.ns.length<=34000000000:=by omega
 have z4:d.2.ts.length<=33000000000:=by omega
 exact yu4 p ty nm args thn els lo s _ (ye2 p (.mk 4 ty nm args thn els) lo s hI.cnt e i1 c hX a d hA hD a1.cnt d1.cnt z1 z2 hN z3 z4)
theorem yj6(lo:List (List ByteArray))(z04:List ByteArray):(lo++[z04]).length=lo.length+1:=by simp
theorem yj8{lo:List (List ByteArray)}{z04:List ByteArray}(h:∀l∈lo,l.length<=1000000000)(hn:z04.length<=1000000000):∀l∈lo++[z04],l.length<=1000000000:=λl hl=>by
 rcases Ax.1 hl with g|g
 ·exact h l g
 ·rw[An.1 g];exact hn
theorem sc_ri5t(p:Pg)(ty:Int)(nm:ByteArray)(args:List Ex)(thn els:List St)(hT:ihB p thn)(b lp:Bool)(lo:List (List ByteArray))(s:RiT)(hg:gS p b lp (.mk 5 ty nm args thn els)=true)(hm:ntS maxLen (.mk 5 ty nm args thn els))(hz:sz (.mk 5 ty nm args thn els)<=100000000)(hI:RiI s.vs s.ts.length b)(hb:RiB lp lo s (cnS (.mk 5 ty nm args thn els)) (grS (.mk 5 ty nm args thn els)))(ht:zc7 (args.getD 0 ex0)=true):scS p (.mk 5 ty nm args thn els) lo s (riS p (.mk 5 ty nm args thn els) lo s):=by
 rw[gS,if_neg dC0,if_pos rfl,A0]at hg;rw[ntS]at hm;rw[sz]at hz;obtain⟨b1,b2,b3,b4,b5⟩:=hb;rw[grS]at b1 b2;rw[cnS]at b3;rw[riS,if_neg dC0,if_pos rfl,if_pos ht];obtain⟨e,i1,i2,i3,i4⟩:=z9s hg.1;rw[i2]at ht;have hn:=z88 s.vs thn;have hO:=nmOk1 hI (l:=thn) oM0 hm.2.1;have htl:s.jk.tail.length<=s.jk.length:=by simp
 refine y41 p ty nm args thn els lo s _ ?_;obtain⟨k1,k2⟩:=y16 hI (z0d s.vs [thn]);have kn:(z2b s (z0d s.vs [thn])).ns.length=0:=rfl;have kj:(z2b s (z0d s.vs [thn])).jk.length=s.jk.tail.length:=rfl;have hA:=hT b true (lo++[z0d s.vs [thn]]) (z2b s (z0d s.vs [thn])) hg.2 hm.2.1 oM0 k1 ⟨by omega,by omega,by rw[yj6];omega,yj8 b4 oM0,λ_=>by simp⟩;have rA:=resB p thn b true (lo++[z0d s.vs [thn]]) (z2b s (z0d s.vs [thn])) hg.2 k1;generalize riB p thn (lo++[z0d s.vs [thn]]) (z2b s (z0d s.vs [thn]))=a at hA rA⊢;obtain⟨a1,a2,a3,a4,a5⟩:=rA;have z1:(z0d s.vs [thn]).length<=34359738368:=by omega
 have z2:a.2.ns.length<=34000000000:=by omega
 have hRd:=ye4 p (.mk 5 ty nm args thn els) (z0d s.vs [thn]) (lo++[z0d s.vs [thn]]) (z2b s (z0d s.vs [thn])) e i1 ht a hA a1.cnt z1 z2;have y1:s.ts.length<=33000000000:=by omega
 have y2:s.ns.length<=34000000000:=by omega
 have y3:s.ts.length<=a.2.ts.length:=by omega
 have y4:a.2.ts.length<=33000000000:=by omega
 have y5:lo.length<=1000000000:=by omega
 have y6:s.jk.length<=1000000000:=by omega
 unfold y5l;exact y8d p (.mk 5 ty nm args thn els) lo s hI.cnt ⟨a.2.vs,a.2.ts,z5q 13 (z0d s.vs [thn]) a,a.2.jk⟩ hRd hO y1 y2 y3 y4 y5 y6
theorem sc_ri5f(p:Pg)(hp:szP p)(ty:Int)(nm:ByteArray)(args:List Ex)(thn els:List St)(hT:ihB p thn)(b lp:Bool)(lo:List (List ByteArray))(s:RiT)(hg:gS p b lp (.mk 5 ty nm args thn els)=true)(hm:ntS maxLen (.mk 5 ty nm args thn els))(hz:sz (.mk 5 ty nm args thn els)<=100000000)(hI:RiI s.vs s.ts.length b)(hb:RiB lp lo s (cnS (.mk 5 ty nm args thn els)) (grS (.mk 5 ty nm args thn els)))(ht:zc7 (args.getD 0 ex0)=false):scS p (.mk 5 ty nm args thn els) lo s (riS p (.mk 5 ty nm args thn els) lo s):=by
 rw[gS,if_neg dC0,if_pos rfl,A0]at hg;rw[ntS]at hm;rw[sz]at hz;obtain⟨b1,b2,b3,b4,b5⟩:=hb;rw[grS]at b1 b2;rw[cnS]at b3;rw[riS,if_neg dC0,if_pos rfl,if_neg (by rw[ht];decide)];obtain⟨e,i1,i2,i3,i4⟩:=z9s hg.1;rw[i2]at ht⊢;have hn:=z88 s.vs thn;have hO:=nmOk1 hI (l:=thn) oM0 hm.2.1;have htl:s.jk.tail.length<=s.jk.length:=by simp
 refine y41 p ty nm args thn els lo s _ ?_;obtain⟨k1,k2⟩:=y16 hI (z0d s.vs [thn]);obtain⟨j1,j2,j3⟩:=z5r p (z2b s (z0d s.vs [thn])).vs e ⟨(z2b s (z0d s.vs [thn])).ts,[]⟩;have hX:=yn3 p hp ⟨lo++[z0d s.vs [thn]],s.jk.tail⟩ (z2b s (z0d s.vs [thn])).vs k1.cnt _ e (Ab _) oM0 i3 ⟨(z2b s (z0d s.vs [thn])).ts,[]⟩ (by dsimp only;omega) (by simp;omega);generalize riX p (z2b s (z0d s.vs [thn])).vs e ⟨(z2b s (z0d s.vs [thn])).ts,[]⟩=c at hX j1 j2 j3⊢;simp only[A5,C0]at j1 j2 j3;have q1:=k1.mono j1;have hA:=hT b true (lo++[z0d s.vs [thn]]) ⟨(z2b s (z0d s.vs [thn])).vs,c.2.ts,[],s.jk.tail⟩ hg.2 hm.2.1 oM0 q1 ⟨by dsimp only;omega,by simp only[A5];omega,by rw[yj6];dsimp only;omega,yj8 b4 oM0,λ_=>by simp⟩;have rA:=resB p thn b true (lo++[z0d s.vs [thn]]) ⟨(z2b s (z0d s.vs [thn])).vs,c.2.ts,[],s.jk.tail⟩ hg.2 q1;generalize riB p thn (lo++[z0d s.vs [thn]]) ⟨(z2b s (z0d s.vs [thn])).vs,c.2.ts,[],s.jk.tail⟩=a at hA rA⊢;obtain⟨a1,a2,a3,a4,a5⟩:=rA;simp only[A5,C0]at a2 a3 a4 a5;have z1:(z0d s.vs [thn]).length<=34359738368:=by omega
 have z2:a.2.ns.length<=34000000000:=by omega
 have z3:c.2.ns.length<=34000000000:=by omega
 have hRd:=ye5 p (.mk 5 ty nm args thn els) (z0d s.vs [thn]) (lo++[z0d s.vs [thn]]) (z2b s (z0d s.vs [thn])) k1.cnt e i1 ht c hX a hA a1.cnt z1 z2 z3;have y1:s.ts.length<=33000000000:=by omega
 have y2:s.ns.length<=34000000000:=by omega
 have y3:s.ts.length<=a.2.ts.length:=by omega
 have y4:a.2.ts.length<=33000000000:=by omega
 have y5:lo.length<=1000000000:=by omega
 have y6:s.jk.length<=1000000000:=by omega
 unfold y5m;exact y8d p (.mk 5 ty nm args thn els) lo s hI.cnt ⟨(z2b s (z0d s.vs [thn])).vs,a.2.ts,z9e (z0d s.vs [thn]) (z2b s (z0d s.vs [thn])).vs c a,a.2.jk⟩ hRd hO y1 y2 y3 y4 y5 y6
theorem yn1(p:Pg)(hp:szP p):∀N,(∀x:St,SizeOf.sizeOf x<N->∀b lp lo s,gS p b lp x=true->ntS maxLen x->sz x<=100000000->RiI s.vs s.ts.length b->RiB lp lo s (cnS x) (grS x)->scS p x lo s (riS p x lo s)) /\
 (∀l:List St,SizeOf.sizeOf l<N->∀b lp lo s,gB p b lp l=true->ntL maxLen l->szL l<=100000000->RiI s.vs s.ts.length b->RiB lp lo s (cnL l) (grL l)->scB p l lo s (riB p l lo s))
 |0=>⟨λ_ h=>absurd h (Al _),λ_ h=>absurd h (Al _)⟩
 |N+1=>by
  obtain⟨hS,hB⟩:=yn1 p hp N;have hR:=j1q p;refine⟨λx hx b lp lo s hg hm hz hI hb=>?_,λl hl b lp lo s hg hm hz hI hb=>?_⟩
  ·obtain⟨k,ty,nm,args,thn,els⟩:=x;simp at hx;have hg0:=hg;have hm0:=hm;have hz0:=hz;have hb0:=hb;rw[gS]at hg;rw[ntS]at hm;rw[sz]at hz;obtain⟨b1,b2,b3,b4,b5⟩:=hb;rw[grS]at b1 b2;rw[cnS]at b3;have hXX:∀(e:Ex) (vs:List (Value×PV)) (t:RiS) (jk:List (List ByteArray)),Cnt vs->riOk p e=true->xz e<=xzL args->t.ts.length+4*xz e<=34000000000->t.ns.length+4*xz e<=34000000000->scX p e lo vs jk t (riX p vs e t):=λe vs t jk hv ho hx h1 h2=>yn3 p hp ⟨lo,jk⟩ vs hv _ e (Ab _) oM0 ho t h1 h2;have hTh:ihB p thn:=λb lp lo s=>hB thn oM0 b lp lo s;have hEl:ihB p els:=λb lp lo s=>hB els oM0 b lp lo s
   by_cases h4:k=4
   ·subst h4;exact sc_ri4 p hp ty nm args thn els hTh hEl b lp lo s hg0 hm0 hz0 hI hb0
   by_cases h5:k=5
   ·subst h5
    by_cases ht:zc7 (args.getD 0 ex0)=true
    ·exact sc_ri5t p ty nm args thn els hTh b lp lo s hg0 hm0 hz0 hI hb0 ht
    ·exact sc_ri5f p hp ty nm args thn els hTh b lp lo s hg0 hm0 hz0 hI hb0 (by simpa using ht)
   rw[if_neg h4,if_neg h5]at hg
   by_cases h67:k=6∨k=7
   ·rw[if_pos h67]at hg;exact ye3 p k ty h67 nm args thn els lo (b5 hg) s hI.cnt oM0 (y05 b4) oM0
   rw[if_neg h67]at hg;have h6:k≠6:=λe=>h67 (.inl e);have h7:k≠7:=λe=>h67 (.inr e)
   by_cases h3:k=3
   ·subst h3;rw[if_pos rfl]at hg;obtain⟨e,e2,i1,i2,i3,i4,i5,i6,i7⟩:=j03 hg;obtain⟨j1,j2,j3⟩:=z5r p s.vs e ⟨s.ts,s.ns⟩;obtain⟨m1,m2,m3⟩:=z5r p s.vs e2 (riX p s.vs e ⟨s.ts,s.ns⟩).2;dsimp only at j1 j2 j3;have hX:=hXX e s.vs ⟨s.ts,s.ns⟩ s.jk hI.cnt i5 oM0 (by dsimp only;omega) (by dsimp only;omega);have hX2:=hXX e2 s.vs (riX p s.vs e ⟨s.ts,s.ns⟩).2 s.jk hI.cnt i6 oM0 oM0 oM0;exact y40 p 3 ty dC0 dC0 dC0 dC0 dC0 nm args thn els lo s (y1q p 3 ty nm args thn els lo s hI.cnt e i1 hX oM0 λ_=>⟨e2,i2,hX2,by omega⟩)
   rw[if_neg h3,A0]at hg;obtain⟨e,i1,i2,i3,i4⟩:=z9s hg.1;obtain⟨j1,j2,j3⟩:=z5r p s.vs e ⟨s.ts,s.ns⟩;dsimp only at j1 j2 j3;have hX:=hXX e s.vs ⟨s.ts,s.ns⟩ s.jk hI.cnt i3 i4 (by dsimp only;omega) (by dsimp only;omega)
   by_cases h8:k=8
   ·subst h8;exact yu5 p ty nm args thn els lo s e i1 hX oM0
   ·exact y40 p k ty h4 h5 h6 h7 h8 nm args thn els lo s (y1q p k ty nm args thn els lo s hI.cnt e i1 hX oM0 λe=>absurd e h3)
  ·refine yu7 p lo l s (λi t=>∃c,RiI t.vs t.ts.length c/\gB p c lp (l.drop i)=true/\ntL maxLen (l.drop i)/\t.ts.length+grL (l.drop i)<=s.ts.length+grL l/\t.ns.length+grL (l.drop i)<=s.ns.length+grL l/\t.jk.length+cnL (l.drop i)<=s.jk.length+cnL l) ⟨b,hI,hg,hm,Ag _,Ag _,Ag _⟩ ?_;rintro i x t hx ⟨c,c1,c2,c3,c4,c5,c6⟩;have hd:l.drop i=x::l.drop (i+1):=by
    obtain⟨h1,h2⟩:=A6.1 hx;rw[<- h2];exact D1 h1
   have hmem:=Ae hx;have hsz:=zv8 hmem;have hso:=Bq hmem;rw[hd,gB,A0]at c2;rw[hd,ntL]at c3;rw[hd,grL]at c4 c5;rw[hd,cnL]at c6;obtain⟨b1,b2,b3,b4,b5⟩:=hb;have r:=(hR _).1 x (Ab _) c lp lo t c2.1 c1;obtain⟨r1,r2,r3,r4,r5⟩:=r;exact⟨hS x oM0 c lp lo t c2.1 c3.1 oM0 c1 ⟨by omega,by omega,by omega,b4,b5⟩,λ_=>⟨_,r1,c2.2,c3.2,by omega,by omega,by omega⟩⟩
section
variable {T:List Tk}
theorem za3(k t:Int)(s:ByteArray)(a:List Ex)(x y:List St):cnS (.mk k t s a x y)=1+cnL x+cnL y:=by simp only[cnS]
theorem cnL_one(a:St):cnL [a]=cnS a:=by simp[cnL]
theorem yy7:∀a b:List St,cnL (a++b)=cnL a+cnL b
 |[],b=>by simp[cnL]
 |x::r,b=>by simp only[B9,cnL,yy7 r b];omega
attribute [local irreducible] mE z7y
theorem let_cn(hT:TkOk T){s:Ps}(h:(mLet T s).2.over=false):2*cnS (mLet T s).1+s.at_<=(mLet T s).2.at_:=by
 unfold mLet at h⊢;dsimp only at h⊢;have b1:=(z59 hT).back h;have b2:=(z0c hT (w:=sEq)).back b1;have b3:=(z1w hT (k:=1) dC0).back b2;have a1:=(z59 hT (s:=z0n T sEq (z0l T 1 (z0r T s).2).2)).at_;have a2:=zh4.lt b1;have a3:=z6n.lt b2;have a4:=zk6.lt b3;simp only[za3,cnL];omega
theorem named_cn(hT:TkOk T){s:Ps}(h:(z5m T s).2.over=false):2*cnS (z5m T s).1+s.at_<=(z5m T s).2.at_:=by
 unfold z5m at h⊢;split at h
 ·rename_i h1;rw[if_pos h1];dsimp only at h⊢;have h2:=yk1 hT 2 (z0l T 1 s).2.next;have h3:=((z54 hT (big T)).2.2.2.2.1 2 (z0l T 1 s).2.next).at_;have b1:=(z4o h1).1;have a1:=z6n.lt b1;rw[z0m]at h3;simp only[za3,cnL];omega
 rename_i h1;rw[if_neg h1];split at h
 ·rename_i h2;rw[if_pos h2];dsimp only at h⊢;have b1:=(z4o h2).1;have a1:=z6n.lt b1;have d1:=(z59 hT (s:=(z0l T 1 s).2.next)).at_;rw[z0m]at d1;generalize(mE T (z0l T 1 s).2.next)=e at h d1⊢;have d2:=(z0c hT (w:=sSc) (s:=e.2)).at_;have d3:=(z0c hT (w:=sEq) (s:=z0n T sSc e.2)).at_;have d4:=(z59 hT (s:=z0n T sEq (z0n T sSc e.2))).at_;simp only[za3,cnL];omega
 ·rename_i h2;rw[if_neg h2];dsimp only at h⊢;have b1:=(z59 hT).back h;have b2:=(z0c hT (w:=sEq)).back b1;have a1:=z6n.lt b2;have a2:=zh4.lt b1;have a3:=(z59 hT (s:=z0n T sEq (z0l T 1 s).2)).at_;simp only[za3,cnL];omega
theorem flat_cn(hT:TkOk T){s:Ps}(h:(zf7 T s).2.over=false):2*cnS (zf7 T s).1+s.at_<=(zf7 T s).2.at_+1:=by
 unfold zf7 at h⊢;split at h
 ·rename_i h1;rw[if_pos h1];simp only[za3,cnL,z0m];omega
 rename_i h1;rw[if_neg h1];split at h
 ·rename_i h1;rw[if_pos h1];simp only[za3,cnL,z0m];omega
 rename_i h1;rw[if_neg h1];split at h
 ·rename_i h1;rw[if_pos h1];have a1:=(z59 hT (s:=s.next)).at_;rw[z0m]at a1;simp only[za3,cnL];omega
 rename_i h1;rw[if_neg h1];split at h
 ·rename_i h1;rw[if_pos h1];have a1:=(z2s hT (s:=s.next)).at_;rw[z0m]at a1;simp only[za3,cnL];omega
 rename_i h1;rw[if_neg h1];have:=named_cn hT h;omega
theorem y0a(hT:TkOk T){s:Ps}(h:(z1x T s).2.over=false):s.at_+1<=(z1x T s).2.at_:=by
 unfold z1x at h⊢;dsimp only at h⊢;have b1:=(z0c hT (w:=sRc)).back h;have b2:=(z59 hT).back b1;have a1:=zh4.lt b2;have a2:=(z59 hT (s:=z0n T sRo s)).at_;have a3:=(z0c hT (w:=sRc) (s:=(mE T (z0n T sRo s)).2)).at_;omega
theorem stmt_cn(hT:TkOk T)(N:Nat)(iB:∀d s,(z1z T N d s).2.over=false->2*cnL (z1z T N d s).1+s.at_<=(z1z T N d s).2.at_)(d:Int)(s:Ps)(h:(z65 T (N+1) d s).2.over=false):2*cnS (z65 T (N+1) d s).1+s.at_<=(z65 T (N+1) d s).2.at_:=by
 have e:=y21 d s;unfold z65 at h⊢;generalize z3b d s=s at e h⊢;rw[<- e];split at h
 ·rename_i h1;rw[if_pos h1];have b1:=(z0c hT (w:=z5e)).back h;have h2:=let_cn hT b1;have h3:=(z0c hT (w:=z5e) (s:=(mLet T s).2)).at_;dsimp only at h3⊢;omega
 rename_i h1;rw[if_neg h1];split at h
 ·rename_i h1;rw[if_pos h1];split at h
  ·rename_i h2;rw[if_pos h2];have b2:=iB _ _ h;have b0:=(z4o h2).1;have b3:=iB _ _ b0;have b4:=y0a hT (((z5h hT N).2.1 _ _).back b0);rw[z0m]at b2 b4;simp only[za3];omega
  ·rename_i h2;rw[if_neg h2];have b3:=iB _ _ h;have b4:=y0a hT (((z5h hT N).2.1 _ _).back h);rw[z0m]at b4;simp only[za3,cnL];omega
 rename_i h1;rw[if_neg h1];split at h
 ·rename_i h1;rw[if_pos h1];have b3:=iB _ _ h;have b4:=y0a hT (((z5h hT N).2.1 _ _).back h);rw[z0m]at b4;simp only[za3,cnL];omega
 rename_i h1;rw[if_neg h1];have b1:=(z0c hT (w:=z5e)).back h;have h2:=flat_cn hT b1;have h3:=zh4.lt h;dsimp only at h3⊢;omega
theorem yo1(hT:TkOk T):∀N,(∀d s,(z65 T N d s).2.over=false->2*cnS (z65 T N d s).1+s.at_<=(z65 T N d s).2.at_)/\(∀d s,(z1z T N d s).2.over=false->2*cnL (z1z T N d s).1+s.at_<=(z1z T N d s).2.at_) /\
 (∀d out s,(z84 T N d out s).2.over=false->2*cnL (z84 T N d out s).1+s.at_<=2*cnL out+(z84 T N d out s).2.at_)
 |0=>⟨λd s h=>absurd h (by simp[z65,Ps.over,Ps.setBad]),λd s _=>by show 0+s.at_<=s.at_;omega,λd out s _=>by show 2*cnL out+s.at_<=2*cnL out+s.at_;omega⟩
 |N+1=>by
  obtain⟨iS,iB,iL⟩:=yo1 hT N;refine⟨λd s h=>stmt_cn hT N iB d s h,λd s h=>?_,λd out s h=>?_⟩
  ·unfold z1z at h⊢;have h1:=iL d [] (z0n T sBo s) h;have h2:=(z0c hT (w:=sBo) (s:=s)).at_;simp only[cnL]at h1;omega
  ·unfold z84 at h⊢;split at h
   ·rename_i h1;rw[if_pos h1];exact Ag _
   rename_i h1;rw[if_neg h1];split at h
   ·rename_i h1;rw[if_pos h1];simp only[z0m];omega
   rename_i h1;rw[if_neg h1];have b1:=((z5h hT N).2.2 _ _ _).back h;have h2:=iL _ _ _ h;have h3:=iS _ _ b1;rw[yy7,cnL_one]at h2;omega
def pcn:List Fu->Nat
 |[]=>0
 |f::r=>cnL f.body+pcn r
theorem j19:∀a b:List Fu,pcn (a++b)=pcn a+pcn b
 |[],b=>by simp[pcn]
 |x::r,b=>by simp only[B9,pcn,j19 r b];omega
theorem func_cn(hT:TkOk T){t:Int}{n:ByteArray}{s:Ps}(h:(z73 T t n s).2.over=false):2*cnL (z73 T t n s).1.body+s.at_<=(z73 T t n s).2.at_:=by
 unfold z73 at h⊢;dsimp only at h⊢;have h1:=(yo1 hT (big T)).2.1 1 _ h;have h2:=(z0c hT (w:=sRo) (s:=s)).at_;have h6:=(zk3 hT (s:=z0n T sRo s)).at_;omega
theorem yc3(hT:TkOk T):∀N p s,(z43 T N p s).2.over=false->2*pcn (z43 T N p s).1.funcs+s.at_<=2*pcn p.funcs+(z43 T N p s).2.at_
 |0,_,_,_=>Ag _
 |N+1,p,s,h=>by
  unfold z43 at h⊢;split
  ·exact Ag _
  rename_i c1;rw[if_neg c1]at h;have a1:=(z5i hT (s:=s)).at_;have a2:=(z1w hT (k:=1) dC0 (s:=(z0r T s).2)).at_;split
  ·rename_i c2;rw[if_pos c2]at h;have h1:=yc3 hT N _ _ h;have a3:=(z1w hT (k:=0) dC0 (s:=(z0l T 1 (z0r T s).2).2.next)).at_;have a4:=(z0c hT (w:=sSc) (s:=(z0l T 0 (z0l T 1 (z0r T s).2).2.next).2)).at_;have a5:=(z0c hT (w:=z5e) (s:=z0n T sSc (z0l T 0 (z0l T 1 (z0r T s).2).2.next).2)).at_;rw[z0m]at a3;dsimp only at h1;omega
  ·rename_i c2;rw[if_neg c2]at h;have h1:=yc3 hT N _ _ h;have b1:(z73 T (z0r T s).1 (z0l T 1 (z0r T s).2).1 (z0l T 1 (z0r T s).2).2).2.over=false:=(z95 hT N _ _).back h;have h2:=func_cn hT b1;rw[j19]at h1;simp only[pcn]at h1;omega
theorem j04(s:ByteArray):pcn (z2a s).1.funcs<=50000:=by
 unfold z2a;split
 ·rename_i h0;obtain⟨hT,hl⟩:=y25 h0;split
  ·exact Ac _
  ·rename_i h1;split
   ·exact Ac _
   ·rename_i h2;split
    ·have ho:(z97 (z1t s).1).2.over=false:=by unfold Ps.over;rw[Et.2 h1,Et.2 h2];rfl
     have hp:0<(z1t s).1.length:=by obtain⟨i,e,h,_⟩:=hT;rw[h];simp
     have h3:=yc3 hT (big (z1t s).1) ⟨[],[]⟩ ⟨0,false,false⟩ ho;have h4:=(z95 hT (big (z1t s).1) ⟨[],[]⟩ ⟨0,false,false⟩).lt hp;unfold z97;simp only[pcn]at h3;dsimp only at h3 h4⊢;omega
    ·exact Ac _
 ·exact Ac _
end
theorem yx2{p:Pg}{s:Sc}{e:Ex}{r:List Ex}(h:(z6y p s (e::r)).2=0):(z5c p s e).2=0/\(z6y p s r).2=0:=by
 rw[z6y]at h
 by_cases h1:(z5c p s e).2=0
 ·rw[if_pos h1]at h
  by_cases h2:(z6y p s r).2=0
  ·exact⟨h1,h2⟩
  ·rw[if_neg h2]at h;exact absurd h h2
 ·rw[if_neg h1]at h;exact absurd h h1
theorem yp3{p:Pg}{s:Sc}{k o n:Int}{nm:ByteArray}{args:List Ex}(h:(z5c p s (.mk k o n nm args)).2=0):z8c p s k nm args.length=0/\(z6y p s args).2=0:=by
 rw[z5c]at h
 by_cases h1:z8c p s k nm args.length=0
 ·rw[if_pos h1]at h
  by_cases h2:(z6y p s args).2=0
  ·exact⟨h1,h2⟩
  ·rw[if_neg h2]at h;exact absurd h h2
 ·rw[if_neg h1]at h;exact absurd h h1
theorem yFine_ok{b:Bool}{e:Int}(he:e≠0)(h:zw7 b e=0):b=true:=by
 unfold zw7 at h
 cases b with
 |true=>rfl
 |false=>exact absurd h he
theorem j1m(p:Pg)(s:Sc):∀N,(∀e:Ex,SizeOf.sizeOf e<N->∀m,rx e m=true->(z5c p s e).2=0->riOk p e=true)/\(∀l:List Ex,SizeOf.sizeOf l<N->∀m,rxL l m=true->(z6y p s l).2=0->zm2 p l=true)
 |0=>⟨λ_ h=>absurd h (Al _),λ_ h=>absurd h (Al _)⟩
 |N+1=>by
  obtain⟨h1,h2⟩:=j1m p s N;refine⟨λe he m hr hy=>?_,λl hl m hr hy=>?_⟩
  ·obtain⟨k,o,n,nm,args⟩:=e;simp at he;rw[rx,A0]at hr;obtain⟨y1,y2⟩:=yp3 hy;rw[riOk,h2 args oM0 m hr.1 y2,Ct];have hr2:=hr.2;unfold rOwn at hr2;unfold j1j
   by_cases k5:k=5
   ·subst k5;simp at hr2;simp[hr2.2]
   rw[if_neg k5]
   by_cases k7:k=7
   ·subst k7;rw[if_neg dC0];unfold z8c at y1;rw[if_neg dC0,if_neg dC0,if_pos rfl]at y1
    by_cases c:z3n p nm<0
    ·rw[if_pos c]at y1;exact absurd y1 dC0
    ·exact Cb oM0
   ·by_cases kk:k=1∨k=2∨k=3∨k=4∨k=6∨k=8
    ·rw[if_pos kk]
    ·simp only[not_or]at kk;obtain⟨q1,q2,q3,q4,q6,q8⟩:=kk;rw[if_neg q1,if_neg q2,if_neg q3,if_neg q4,if_neg k5,if_neg q6,if_neg k7,if_neg q8]at hr2
     cases hr2
  ·match l with
   |[]=>rfl
   |e::r =>
    simp at hl;rw[rxL,A0,A0]at hr;obtain⟨y1,y2⟩:=yx2 hy;rw[zm2,h1 e oM0 _ hr.1.2 y1,h2 r oM0 m hr.2 y2];rfl
theorem ok_riX{p:Pg}{s:Sc}{e:Ex}{m:Int}(hr:rx e m=true)(hy:(z5c p s e).2=0):riOk p e=true:=(j1m p s _).1 e (Ab _) m hr hy
theorem z8d{p:Pg}{s:Sc}{e:Ex}{t:Int}(h:zd1 p s e t=0):(z5c p s e).2=0:=by
 unfold zd1 at h;split at h
 ·assumption
 ·exact h
theorem j4o{p:Pg}{e:Ex}(h:(z5c p [] e).2=0):e.kind≠3:=by
 obtain⟨k,o,n,nm,args⟩:=e;intro hk;have hk:k=3:=hk;subst hk;have:=(yp3 h).1;simp[z8c,z9z,zw7]at this
theorem shp_len{k:Int}{n:Nat}(h:((n:Int) != (shp k).2.2.1)=false):(k=1∨k=2∨k=4∨k=5∨k=8∨k=9∨k=10)/\n=1∨k=3/\n=2∨(k=6∨k=7)/\n=0:=by
 have h:(n:Int)=(shp k).2.2.1:=by simpa using h
 unfold shp at h
 by_cases h1:k=1
 ·rw[if_pos h1]at h;dsimp only at h;omega
 rw[if_neg h1]at h
 by_cases h2:k=2
 ·rw[if_pos h2]at h;dsimp only at h;omega
 rw[if_neg h2]at h
 by_cases h3:k=3
 ·rw[if_pos h3]at h;dsimp only at h;omega
 rw[if_neg h3]at h
 by_cases h4:k=4
 ·rw[if_pos h4]at h;dsimp only at h;omega
 rw[if_neg h4]at h
 by_cases h5:k=5
 ·rw[if_pos h5]at h;dsimp only at h;omega
 rw[if_neg h5]at h
 by_cases h6:k=6∨k=7
 ·rw[if_pos h6]at h;dsimp only at h;omega
 rw[if_neg h6]at h
 by_cases h8:k=8∨k=9∨k=10
 ·rw[if_pos h8]at h;dsimp only at h;omega
 rw[if_neg h8]at h;dsimp only at h;omega
theorem y1g{k ty:Int}{nm:ByteArray}{args:List Ex}{thn els:List St}{m:Int}(h:rst (.mk k ty nm args thn els) m=true) :
 ((k=1∨k=2∨k=4∨k=5∨k=8∨k=9∨k=10)/\args.length=1∨k=3/\args.length=2∨(k=6∨k=7)/\args.length=0)/\(∀e∈args,rx e 100=true)/\rsL thn (m-1)=true/\rsL els (m-1)=true/\((shp k).2.1=z0k nm/\((shp k).2.1=false->nm.toList=[])):=by
 rw[rst]at h;simp only[A0,Bg,Bi]at h;obtain⟨⟨⟨⟨h1,h2⟩,h3⟩,h4⟩,h5⟩:=h;unfold ys1 at h1;simp only[Bu]at h1;obtain⟨⟨⟨⟨⟨_,h12⟩,_⟩,_⟩,h15⟩,h16⟩:=h1;refine⟨shp_len h12,h2,h4,h5,by simpa using h15,λe=>?_⟩;rw[e]at h16;simpa using h16
theorem y75(s:Sc)(k ty:Int)(nm:ByteArray)(d:Int):(!(z6m s k ty nm d).isEmpty)=(!s.isEmpty||k==1):=by
 unfold z6m
 by_cases h:k=1
 ·rw[if_pos h,h];simp
 ·rw[if_neg h,show(k==1)=false from Aa.2 h,Ds]
theorem gA_of{p:Pg}{s:Sc}{args:List Ex}(n:Nat)(hl:n<=args.length)(hr:∀e∈args,rx e 100=true)(hy:∀e∈args,(z5c p s e).2=0):gA p n args=true:=by
 unfold gA;rw[A0];refine⟨Cb hl,?_⟩;clear hl
 induction args with
 |nil=>rfl
 |cons e r ih=>rw[zm2,ok_riX (hr e (.head _)) (hy e (.head _)),ih (λq hq=>hr q (.tail _ hq)) λq hq=>hy q (.tail _ hq)];rfl
theorem yh8{p:Pg}{res:Int}{x:St}{r:List St}{s:Sc}{d:Int}{lp:Bool}{n:Nat}(h:(z2g p res (x::r) s d lp n).1=0):(yOne p res x s d lp n).1=0/\(z2g p res r (z6m s x.kind x.ty x.name d) d lp (yOne p res x s d lp n).2).1=0:=by
 rw[z2g]at h
 by_cases h1:(yOne p res x s d lp n).1=0
 ·rw[if_pos h1]at h;exact⟨h1,h⟩
 ·rw[if_neg h1]at h;exact absurd h h1
theorem yOne_ok{p:Pg}{res k ty:Int}{nm:ByteArray}{args:List Ex}{thn els:List St}{s:Sc}{d:Int}{lp:Bool}{n:Nat}(h:(yOne p res (.mk k ty nm args thn els) s d lp n).1=0) :
 zw8 p res s k ty nm args d lp=0/\(z2g p res thn (z6m s k ty nm d) (d+1) (lp||k==5) (n+1)).1=0/\(z2g p res els (z6m s k ty nm d) (d+1) lp (z2g p res thn (z6m s k ty nm d) (d+1) (lp||k==5) (n+1)).2).1=0:=by
 rw[yOne]at h
 by_cases h1:zw8 p res s k ty nm args d lp=0
 ·rw[if_pos h1]at h
  by_cases h2:(z2g p res thn (z6m s k ty nm d) (d+1) (lp||k==5) (n+1)).1=0
  ·rw[if_pos h2]at h;exact⟨h1,h2,h⟩
  ·rw[if_neg h2]at h;exact absurd h h2
 ·rw[if_neg h1]at h;exact absurd h h1
theorem yx5{p:Pg}{res k ty:Int}{nm:ByteArray}{args:List Ex}{s:Sc}{d:Int}{lp:Bool}(h:zw8 p res s k ty nm args d lp=0)(hl:(k=1∨k=2∨k=4∨k=5∨k=8∨k=9∨k=10)/\args.length=1∨k=3/\args.length=2∨(k=6∨k=7)/\args.length=0):∀e∈args,(z5c p s e).2=0:=by
 unfold zw8 at h;rcases hl with⟨hk,hl⟩|⟨hk,hl⟩|⟨hk,hl⟩
 ·obtain⟨e,rfl⟩:=Ce.1 hl;intro q hq;obtain rfl:=An.1 hq;rw[show([q]:List Ex).getD 0 ex0=q from rfl]at h
  by_cases c1:k=4∨k=5
  ·rw[if_pos c1]at h;exact z8d h
  rw[if_neg c1]at h
  by_cases c2:k=8
  ·rw[if_pos c2]at h;exact z8d h
  rw[if_neg c2]at h
  by_cases c3:k=9
  ·rw[if_pos c3]at h;exact z8d h
  rw[if_neg c3]at h
  by_cases c4:k=10
  ·rw[if_pos c4]at h;exact h
  rw[if_neg c4,if_neg oM0]at h;unfold y9b at h;rw[show([q]:List Ex).getD 0 ex0=q from rfl]at h
  by_cases c5:k=1
  ·rw[if_pos c5]at h;split at h
   ·rename_i h1;exact z8d h1
   ·exact z8d h
  rw[if_neg c5,if_pos oM0]at h;split at h
  ·exact absurd h dC0
  ·exact z8d h
 ·subst hk;rw[if_neg dC0,if_neg dC0,if_neg dC0,if_neg dC0,if_neg dC0]at h;unfold y9b at h;rw[if_neg dC0,if_neg dC0]at h
  match args,hl with
  |[a,b],_ =>
   rw[show([a,b]:List Ex).getD 0 ex0=a from rfl,show([a,b]:List Ex).getD 1 ex0=b from rfl]at h;split at h
   ·exact absurd h dC0
   ·split at h
    ·rename_i h1;intro q hq;simp only[Aj,Bs,Ez]at hq;rcases hq with rfl|rfl
     ·exact z8d h1
     ·exact z8d h
    ·rename_i h1;exact absurd h h1
 ·obtain rfl:=Aw hl;intro q hq
  cases hq
theorem gB_of(p:Pg)(res:Int):∀N,(∀x:St,SizeOf.sizeOf x<N->∀m s d lp n,rst x m=true->(yOne p res x s d lp n).1=0->gS p (!s.isEmpty) lp x=true)/\(∀l:List St,SizeOf.sizeOf l<N->∀m s d lp n,rsL l m=true->(z2g p res l s d lp n).1=0->gB p (!s.isEmpty) lp l=true)
 |0=>⟨λ_ h=>absurd h (Al _),λ_ h=>absurd h (Al _)⟩
 |N+1=>by
  obtain⟨h1,h2⟩:=gB_of p res N;refine⟨λx hx m s d lp n hr hy=>?_,λl hl m s d lp n hr hy=>?_⟩
  ·obtain⟨k,ty,nm,args,thn,els⟩:=x;simp at hx;obtain⟨r1,r2,r3,r4,_⟩:=y1g hr;obtain⟨y1,y2,y3⟩:=yOne_ok hy;have ya:=yx5 y1 r1;rw[gS]
   by_cases k4:k=4
   ·subst k4;rw[show z6m s 4 ty nm d=s from rfl,show(lp||(4:Int)==5)=lp by simp]at y2 y3;rw[if_pos rfl,gA_of 1 oM0 r2 ya,h2 thn oM0 _ _ _ _ _ r3 y2,h2 els oM0 _ _ _ _ _ r4 y3];rfl
   rw[if_neg k4]
   by_cases k5:k=5
   ·subst k5;rw[show z6m s 5 ty nm d=s from rfl,show(lp||(5:Int)==5)=true by simp]at y2;rw[if_pos rfl,gA_of 1 oM0 r2 ya,h2 thn oM0 _ _ _ _ _ r3 y2];rfl
   rw[if_neg k5]
   by_cases k67:k=6∨k=7
   ·rw[if_pos k67];unfold zw8 at y1;rw[if_neg oM0,if_neg oM0,if_neg oM0,if_neg oM0,if_pos k67]at y1;exact yFine_ok dC0 y1
   rw[if_neg k67]
   by_cases k3:k=3
   ·rw[if_pos k3];exact gA_of 2 oM0 r2 ya
   rw[if_neg k3,gA_of 1 oM0 r2 ya,B5]
   cases s with
   |cons a b=>rfl
   |nil =>
    match args,r1 with
    |[],r1=>simp only[A5]at r1;omega
    |e::r,_ =>
     have:=j4o (ya e (.head _));show(false||(((e::r).getD 0 ex0).kind != 3))=true;rw[Cd];exact bne_iff_ne.2 this
  ·match l with
   |[]=>rfl
   |x::r =>
    simp at hl;rw[rsL,A0]at hr;obtain⟨y1,y2⟩:=yh8 hy;have hh:=h2 r oM0 m _ d lp _ hr.2 y2;rw[y75]at hh;rw[gB,h1 x oM0 m s d lp n hr.1 y1,hh];rfl
theorem yi8{α:Type}(f g:α -> Bool)(h:α -> α)(e:∀x,f (h x)=g x):∀(l:List α)(i:Int),idxP f (l.map h) i=idxP g l i
 |[],i=>rfl
 |x::r,i=>by simp only[B8,idxP,e,yi8 f g h e r]
theorem j4q(p:Pg)(nm:ByteArray):z3n (rnP p) nm=z3n p nm:=by
 unfold z3n;exact yi8 _ _ rnF (λ_=>rfl) p.funcs 0
theorem j1n(p:Pg)(es:List (Value×PV)):∀N,(∀e:Ex,SizeOf.sizeOf e<N->riOk (rnP p) (rnX es e)=riOk p e/\xz (rnX es e)=xz e)/\(∀l:List Ex,SizeOf.sizeOf l<N->zm2 (rnP p) (rnXL es l)=zm2 p l/\xzL (rnXL es l)=xzL l)
 |0=>⟨λ_ h=>absurd h (Al _),λ_ h=>absurd h (Al _)⟩
 |N+1=>by
  obtain⟨h1,h2⟩:=j1n p es N;refine⟨λe he=>?_,λl hl=>?_⟩
  ·obtain⟨k,o,n,nm,args⟩:=e;simp at he;have hl:(rnXL es args).length=args.length:=by rw[y1e,A8]
   rw[rnX,riOk,riOk,(h2 args oM0).1,xz,xz,(h2 args oM0).2,hl,j4q];refine⟨?_,rfl⟩
   by_cases k3:k=3
   ·subst k3;rfl
   ·rw[if_neg k3]
  ·match l with
   |[]=>exact⟨rfl,rfl⟩
   |e::r =>
    simp at hl;rw[rnXL,zm2,zm2,xzL,xzL,(h1 e oM0).1,(h2 r oM0).1,(h1 e oM0).2,(h2 r oM0).2];exact⟨rfl,rfl⟩
theorem yl6(p:Pg)(es:List (Value×PV))(l:List Ex):zm2 (rnP p) (l.map (rnX es))=zm2 p l/\xzL (l.map (rnX es))=xzL l:=by rw[<- y1e];exact(j1n p es _).2 l (Ab _)
theorem rnX_kind(es:List (Value×PV))(e:Ex):(rnX es e).kind=e.kind:=by rw[rnX_eq];rfl
theorem gA_rn(p:Pg)(es:List (Value×PV))(n:Nat)(l:List Ex):gA (rnP p) n (l.map (rnX es))=gA p n l:=by unfold gA;rw[(yl6 p es l).1,A8]
theorem rnS_kind(x:St)(es:List (Value×PV))(n:Nat):(rnS x es n).1.kind=x.kind:=by cases x;rw[rnS];rfl
theorem ym1(p:Pg):∀N,(∀x:St,SizeOf.sizeOf x<N->∀es n,cnS (rnS x es n).1=cnS x/\sz (rnS x es n).1=sz x/\∀b lp,gS (rnP p) b lp (rnS x es n).1=gS p b lp x)/\(∀l:List St,SizeOf.sizeOf l<N->∀es n,cnL (rnB l es n).1=cnL l/\szL (rnB l es n).1=szL l/\∀b lp,gB (rnP p) b lp (rnB l es n).1=gB p b lp l)
 |0=>⟨λ_ h=>absurd h (Al _),λ_ h=>absurd h (Al _)⟩
 |N+1=>by
  obtain⟨h1,h2⟩:=ym1 p N;refine⟨λx hx es n=>?_,λl hl es n=>?_⟩
  ·obtain⟨k,ty,nm,args,thn,els⟩:=x;simp at hx;rw[rnS];obtain⟨t1,t2,t3⟩:=h2 thn oM0 (z1q es k nm n).2.1 (z1q es k nm n).2.2;obtain⟨e1,e2,e3⟩:=h2 els oM0 (z1q es k nm n).2.1 (rnB thn (z1q es k nm n).2.1 (z1q es k nm n).2.2).2;refine⟨by rw[cnS,cnS,t1,e1],by rw[sz,sz,t2,e2,(yl6 p es args).2],λb lp=>?_⟩;rw[gS,gS,gA_rn,gA_rn,t3,t3,e3];have hg:((args.map (rnX es)).getD 0 ex0).kind=(args.getD 0 ex0).kind:=by
    cases args with
    |nil=>rfl
    |cons a r=>exact rnX_kind es a
   rw[hg]
  ·match l with
   |[]=>exact⟨rfl,rfl,λ_ _=>rfl⟩
   |x::r =>
    simp at hl;obtain⟨a1,a2,a3⟩:=h1 x oM0 es n;obtain⟨b1,b2,b3⟩:=h2 r oM0 (z1q es x.kind x.name n).2.1 (rnS x es n).2;rw[rnB];refine⟨by rw[cnL,cnL,a1,b1],by rw[szL,szL,a2,b2],λb lp=>?_⟩;rw[gB,gB,a3,b3,rnS_kind]
theorem rn_cn(l:List St)(es:List (Value×PV))(n:Nat):cnL (rnB l es n).1=cnL l:=((ym1 pg0 _).2 l (Ab _) es n).1
theorem rn_sz(l:List St)(es:List (Value×PV))(n:Nat):szL (rnB l es n).1=szL l:=((ym1 pg0 _).2 l (Ab _) es n).2.1
theorem rn_gB(p:Pg)(l:List St)(es:List (Value×PV))(n:Nat)(b lp:Bool):gB (rnP p) b lp (rnB l es n).1=gB p b lp l:=((ym1 p _).2 l (Ab _) es n).2.2 b lp
theorem ySc_ne(l:List Pm):(!(ySc l).isEmpty) = !l.isEmpty:=by
 unfold ySc
 suffices ∀(l:List Pm)(s:Sc),(l.foldl (λs x=>(x.name,x.ty,(0:Int))::s) s).isEmpty=(s.isEmpty&&l.isEmpty) by rw[this];simp
 intro l
 induction l with
 |nil=>intro s;simp
 |cons x r ih=>intro s;rw[Dx,ih];simp
theorem ys8(l:List Pm)(es:List (Value×PV))(n:Nat):(rnPm l es n).1.isEmpty=l.isEmpty:=by cases l<;>rfl
theorem yx3{p:Pg}(hr:rPg p=true)(hy:(z91 p).1=0):∀f∈p.funcs,gB p (!f.params.isEmpty) false f.body=true:=by
 unfold z91 at hy;split at hy
 ·unfold rPg at hr;rw[A0]at hr;have hr:=Bi.1 hr.2
  suffices ∀(l:List Fu)(i:Nat),(∀f∈l,rFu f=true)->(y9c p l i).1=0->∀f∈l,gB p (!f.params.isEmpty) false f.body=true from this p.funcs 0 hr hy
  intro l
  induction l with
  |nil=>intro i _ _ f hf;cases hf
  |cons x r ih =>
   intro i hr hy f hf;rw[y9c]at hy;split at hy
   ·exact absurd (show(50:Int)=0 from hy) dC0
   ·split at hy
    ·rename_i h2;rcases Aj.1 hf with rfl|hf
     ·have hb:(z2g p f.ty f.body (ySc f.params) 1 false 0).1=0:=by
       unfold yFun at h2;dsimp only at h2;split at h2
       ·exact absurd h2 dC0
       ·exact h2
      have hR:=hr f (.head _);unfold rFu at hR;simp only[A0]at hR;have:=(gB_of p f.ty _).2 f.body (Ab _) 100 (ySc f.params) 1 false 0 hR.1.2 hb;rw[ySc_ne]at this;exact this
     ·exact ih (i+1) (λq hq=>hr q (.tail _ hq)) hy f hf
    ·rename_i h2;exact absurd hy h2
 ·exact absurd hy dC0
theorem rnF_gB{p:Pg}(hr:rPg p=true)(hy:(z91 p).1=0):∀f∈(rnP p).funcs,gB (rnP p) (!f.params.isEmpty) false f.body=true:=by
 intro f hf;obtain⟨g,hg,rfl⟩:=Cc.1 (show f∈p.funcs.map rnF from hf);have h1:=yx3 hr hy g hg;have h2:(rnF g).params.isEmpty=g.params.isEmpty:=ys8 g.params [] 0;rw[h2];show gB (rnP p) _ false (rnB g.body _ _).1=true;rw[rn_gB];exact h1
end Go.Proofs.YtcnjamphfjnflaaGreatDoor
