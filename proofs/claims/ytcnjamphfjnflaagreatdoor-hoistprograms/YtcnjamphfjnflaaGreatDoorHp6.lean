/- PART 6 of 9 of a proof: see the last part. -/
import Derived.Test.YtcnjamphfjnflaaGreatDoorHp5
set_option maxRecDepth 20000
set_option maxHeartbeats 8000000
set_option linter.unusedSimpArgs false
set_option linter.unusedVariables false
set_option linter.unusedSectionVars false
namespace Go.Proofs.YtcnjamphfjnflaaGreatDoor
open Go
def arRt:RT:=⟨80,2⟩
def fuRt:RT:=⟨57,4⟩
theorem ar_snoc(out:List Ar)(x:Ar):(out++[x]).map Ar.enc=out.map Ar.enc++[[vStr x.name,vInt x.size]]:=by rw[Cm];rfl
theorem fu_snoc(out:List Fu)(x:Fu):(out++[x]).map Fu.enc=out.map Fu.enc++[[vStr x.name,vInt x.ty,pms x.params,sts x.body]]:=by rw[Cm];rfl
theorem text_num{T:List Tk}(hT:TkOk T)(hS:TkSz T){s:Ps}(h:s.at_<T.length):(z0l T 0 s).1.data.toList.all (λb=>z3z b.toNat)=true/\(z0l T 0 s).1.size<=1073741824:=by
 unfold z0l;split
 ·exact⟨rfl,Ac _⟩
 ·split
  ·rename_i hk;exact⟨zt8 (tk_num hT h hk),hS _ (j3r h)⟩
  ·exact⟨rfl,Ac _⟩
attribute [local irreducible] z73
theorem sc_prog(T:List Tk)(hT:TkOk T)(hS:TkSz T)(hb:T.length<=1073741824)(h:0<T.length) :
 SC Tryz.prog 44 [.ptr 1 0] (psO T ⟨0,false,false⟩) (λk=>k∈[]) (.pv (z97 T).1.enc) (psO T (z97 T).2):=by
 refine SC.vc tb { gh:=[(2000000,[.growC 103 0 1001 80 2,.growC 103 1 1002 57 4]),(11,[.fzC 103 0 1001,.fzC 103 1 1002])] } [] Tryz.func44 rfl rfl ?_;generalize hM:z97 T=R;unfold z97 at hM;refine⟨Nat×Pg×Ps,λ_=>[],λa=>[(1001,.row arRt (a.2.1.arrays.map Ar.enc)),(1002,.row fuRt (a.2.1.funcs.map Fu.enc)),(103,.box [.sl 1001 (a.2.1.arrays.map Ar.enc).length,.sl 1002 (a.2.1.funcs.map Fu.enc).length]),(1,psB T a.2.2)],λa=>a.1,
  λa=>R=z43 T a.1 a.2.1 a.2.2/\a.2.2.at_<T.length/\(a.2.2.over=true∨rem T a.2.2+6<=a.1)/\1<=a.1/\a.2.1.arrays.length<=a.2.2.at_+1/\a.2.1.funcs.length<=a.2.2.at_+1/\(a.2.2.over=true∨(a.2.1.arrays.length<=a.2.2.at_/\a.2.1.funcs.length<=a.2.2.at_)),[],(big T,⟨[],[]⟩,⟨0,false,false⟩),
  ⟨hM.symm,h,.inr (by dsimp only;unfold rem big;omega),by unfold big;dsimp only;omega,Ac _,Ac _,.inr ⟨Ac _,Ac _⟩⟩,Gd,Gi,?_⟩
 rintro⟨n,p,z⟩ ⟨i1,i3,i4,i5,i6,i7,i8⟩;dsimp only at i1 i3 i4 i5 i6 i7 i8;obtain⟨m,rfl⟩:∃m,n=m+1:=⟨n-1,by omega⟩;rw[z43]at i1;refine⟨[],z76 T z,sR,Ge,rfl,z00 (λo1=>?_) λo1=>?_⟩
 ·have o1:z.over=false:=by simpa using o1
  refine⟨yg0 i3,rfl,z00 (λk1=>?_) λk1=>?_⟩
  ·have k1:((tkAt T z).kind==3)=false:=by simpa using k1
   rw[o1,k1,if_neg dC0]at i1;have i4:rem T z+6<=m+1:=i4.resolve_left (by rw[o1];decide);have i8:=i8.resolve_left (by rw[o1];decide);have lx:=zm9 T hT z i3 hb;have lf:=z5i hT (s:=z);have lg:=zk6 (T:=T) (s:=z);generalize z0r T z=t at lx lf lg i1;have hx:=z89 T t.2 (lf.lt i3) hb 1;have fx:=z1w hT (k:=1) dC0 (s:=t.2);generalize z0l T 1 t.2=x at hx fx i1;have lt1:=fx.lt (lf.lt i3);have lg1:=lg.then fx;refine⟨[],lx,sR,Ge,rfl,[],hx,sR,Ge,rfl,?_⟩;have lg2:=lg1;have fnc:qArr T p.funcs t.1 x.2=false->R=z43 T m ⟨p.arrays,p.funcs++[(z73 T t.1 x.1 x.2).1]⟩ (z73 T t.1 x.1 x.2).2:=λe=>by rw[i1,e,if_neg dC0]
   have hF:=yd5 T hT hS hb t.1 x.1 x.2 lt1;have fF:=y9p hT (t:=t.1) (n:=x.1) (s:=x.2);refine z00 (λc1=>?_) λc1=>?_
   rotate_left
   have i1:=fnc (by unfold qArr;rw[c1];rfl)
   rotate_left
   refine⟨rfl,z00 (λc2=>?_) λc2=>?_⟩
   rotate_left
   have i1:=fnc (by unfold qArr;rw[show(p.funcs.length==0)=false by(have:=(Aa).1 c2;simp at this⊢;exact this)];simp)
   rotate_right
   have tk:=z47 T x.2 lt1 hb sSo;unfold z8k at tk
   cases c3:pIs T sSo x.2
   rw[c3]at tk;have i1:=fnc (by unfold qArr;rw[c3];simp);refine⟨[],tk,sR,Ge,rfl,?_⟩
   rotate_left
   ·rw[c3]at tk;have hc:qArr T p.funcs t.1 x.2=true:=by
     unfold qArr;rw[c1,c3,show(p.funcs.length==0)=true by(have:=eq_of_beq c2;simp at this⊢;exact this)];rfl
    rw[hc,if_pos rfl]at i1;clear fnc hF fF;have n1:=(z11 hT c3).lt lt1;have hv:=text_num hT hS n1;have hy:=z89 T x.2.next n1 hb 0;have fy:=z1w hT (k:=0) dC0 (s:=x.2.next);generalize z0l T 0 x.2.next=y at hv hy fy i1;have n2:=fy.lt n1;have f3:=z0c hT (w:=sSc) (s:=y.2);have n3:=f3.lt n2;have f4:=z0c hT (w:=z5e) (s:=z0n T sSc y.2);have n4:=f4.lt n3;have lg3:=lg1.then ((z11 hT c3).trans (fy.trans (f3.trans f4)));have at4:z.at_<=(z0n T z5e (z0n T sSc y.2)).at_:=by have a1:=lf.at_;have a2:=fx.at_;have a3:=fy.at_;have a4:=f3.at_;have a5:=f4.at_;rw[z0m]at a3;omega
    have h3:=z18 T y.2 n2 hb sSc;have h4:=z18 T _ n3 hb z5e;generalize z0n T z5e (z0n T sSc y.2)=w at h4 n4 lg3 at4 i1;refine⟨[],tk,sR,Ge,rfl,[],hy,sR,Ge,rfl,[],y5t y.1 hv.1 hv.2,sR,Gd,rfl,[],h3,sR,Ge,rfl,[],h4,sR,Ge,rfl,rfl,z3y rfl,by simp;omega,by simp,
     (m,⟨p.arrays++[⟨x.1,zg7 y.1⟩],p.funcs⟩,w),Ab _,⟨i1,n4,?_,by dsimp only;unfold rem at i4;omega,by simp;omega,by dsimp only;omega,?_⟩,Gd,⟨rwq (by rw[ar_snoc]),rfl,boq sI0,rfl,Gd⟩,rfl,rfl,rfl,rfl⟩
    ·exact lg3.elim .inl λg=>.inr (by dsimp only;unfold rem at i4⊢;omega)
    ·exact lg3.elim .inl λg=>.inr ⟨by simp;omega,by dsimp only;omega⟩
   iterate 3
    have lg3:=lg2.then fF;have lt2:=fF.lt lt1;have at2:z.at_<=(z73 T t.1 x.1 x.2).2.at_:=by have a1:=lf.at_;have a2:=fx.at_;have a3:=fF.at_;omega
    generalize z73 T t.1 x.1 x.2=f at hF lg3 lt2 at2 i1;refine⟨[],hF,sR,Ge,rfl,rfl,z3y rfl,by simp;omega,by simp,(m,⟨p.arrays,p.funcs++[f.1]⟩,f.2),Ab _,⟨i1,lt2,?_,by dsimp only;unfold rem at i4;omega,by dsimp only;omega,by simp;omega,?_⟩,Gd,⟨rfl,rwq (by rw[fu_snoc]),boq sI0,rfl,Gd⟩,rfl,rfl,rfl,rfl⟩
    ·exact lg3.elim .inl λg=>.inr (by dsimp only;unfold rem at i4⊢;omega)
    ·exact lg3.elim .inl λg=>.inr ⟨by dsimp only;omega,by simp;omega⟩
  ·have k1:((tkAt T z).kind==3)=true:=by simpa using k1
   rw[o1,k1,if_pos dC0]at i1;subst i1;exact⟨rfl,rfl,sI,rfl,Gd⟩
 ·have o1:z.over=true:=by simpa using o1
  rw[o1,Bb,if_pos rfl]at i1;subst i1;exact⟨rfl,rfl,sI,rfl,Gd⟩
theorem zn0(op:Int):SC Tryz.prog 179 [.pv (.val (.int .i64 op))] [] (λk=>k∈[]) (iInt (z4k op)) []:=by
 by_cases h:1<=op/\op<=19
 ·exact y3y op h.1 h.2
 refine SC.vc tb {} [] Tryz.func179 rfl rfl ?_;have hz:z4k op=0:=by
  unfold z4k;split
  ·rfl
  ·rename_i g;simp only[Bo,Bj,not_or]at g;rcases(show op=0∨op=20∨op=21∨op=22∨op=23∨op=24∨op=25∨op=26∨op=27∨op=28 by omega)with rfl|rfl|rfl|rfl|rfl|rfl|rfl|rfl|rfl|rfl<;>rfl
 exact z00 (λh=>absurd (eq_of_beq h) oM0) λ_=>z00 (λh=>absurd (eq_of_beq h) oM0) λ_=>z00 (λh=>absurd (eq_of_beq h) oM0) λ_=>z00 (λh=>absurd (eq_of_beq h) oM0) λ_=>z00 (λh=>absurd (eq_of_beq h) oM0) λ_=>z00 (λh=>absurd (eq_of_beq h) oM0) λ_=>z00 (λh=>absurd (eq_of_beq h) oM0) λ_=>z00 (λh=>absurd (eq_of_beq h) oM0) λ_=>z00 (λh=>absurd (eq_of_beq h) oM0) λ_=>z00 (λh=>absurd (eq_of_beq h) oM0) λ_=>z00 (λh=>absurd (eq_of_beq h) oM0) λ_=>z00 (λh=>absurd (eq_of_beq h) oM0) λ_=>z00 (λh=>absurd (eq_of_beq h) oM0) λ_=>z00 (λh=>absurd (eq_of_beq h) oM0) λ_=>z00 (λh=>absurd (eq_of_beq h) oM0) λ_=>z00 (λh=>absurd (eq_of_beq h) oM0) λ_=>z00 (λh=>absurd (eq_of_beq h) oM0) λ_=>z00 (λh=>absurd (eq_of_beq h) oM0) λ_=>z00 (λh=>absurd (eq_of_beq h) oM0) λ_=>⟨sE (by rw[hz]),Gd⟩
def rOwn(k o n:Int)(nm:ByteArray)(len:Nat):Bool :=
 if k=1 then o==0&&decide (n≥0)&&nm.toList==[]&&len==0
 else if k=2 then o==0&&(n==0||n==1)&&nm.toList==[]&&len==0
 else if k=3 then o==0&&n==0&&z0k nm&&len==0
 else if k=4 then z2y o&&n==0&&nm.toList==[]&&len==1
 else if k=5 then decide (z4k o > 0)&&n==0&&nm.toList==[]&&len==2
 else if k=6 then o==0&&n==0&&z0k nm&&len==1
 else if k=7 then o==0&&n==0&&z0k nm&&decide (len<=8)
 else if k=8 then o==0&&n==0&&nm.toList==[]&&len==0
 else false
mutual
def rx:Ex->Int->Bool
 |.mk k o n nm args,most=>rxL args most&&rOwn k o n nm args.length
def rxL:List Ex->Int->Bool
 |[],_=>true
 |x::r,most=>(!decide (most<2)&&rx x (most-1))&&rxL r most
end
theorem y1n(op:Int):SC Tryz.prog 178 [.pv (.val (.int .i64 op))] [] (λk=>k∈[]) (iBool (z2y op)) []:=by
 refine SC.vc tb {} [] Tryz.func178 rfl rfl ?_;unfold z2y;exact z00 (λh=>⟨sE (by rw[h];rfl),Gd⟩) λh=>⟨sE (by rw[h];rfl),Gd⟩
theorem zg8{x:Ex}:∀{l:List Ex},x∈l->xz x<=xzL l
 |y::r,h=>by
  simp only[xzL];rcases Aj.1 h with rfl|h
  ·omega
  ·have:=zg8 h;omega
theorem zf3(l:Nat):((l:Int)==0)=(l==0):=by rw[Ck];simp
theorem zf4(l:Nat):((l:Int)==1)=(l==1):=by rw[Ck];simp;omega
theorem zf5(l:Nat):((l:Int)==2)=(l==2):=by rw[Ck];simp;omega
theorem zf6(l:Nat):decide ((l:Int)<=8)=decide (l<=8):=by rw[Ck];simp;omega
theorem sc_rx:∀(N:Nat)(e:Ex),SizeOf.sizeOf e<N->xz e<=1073741824->∀most:Int,0<=most->most<=100->SC Tryz.prog 131 [.pv (exv e),.pv (.val (.int .i64 most))] [] (λk=>k∈[]) (iBool (rx e most)) []
 |0,_,h,_,_,_,_=>absurd h (Al _)
 |N+1,.mk k o n nm args,hN,hx,most,h0,h1=>by
  refine SC.vc tb { pb:=[102] } [] Tryz.func131 rfl rfl ?_;have hl:=zb0 args;simp only[xz]at hx;refine⟨Nat,λi=>[(5,iInt ((i:Nat):Int))],λ_=>[],λi=>args.length-i,λi=>i<=args.length/\rxL args most=rxL (args.drop i) most,[],0,⟨Ac _,rfl⟩,Ge,Gd,?_⟩;rintro i ⟨i1,i2⟩;refine z00 (λhc=>?_) λhc=>?_
  ·have hlt:i<args.length:=z0x (f:=Ex.enc) rfl hc;obtain⟨x,x1,x2,x3,x4⟩:=z0o hlt;rw[x3]at i2;simp only[rxL]at i2;refine z00 (λc1=>?_) λc1=>?_
   ·rw[c1]at i2;exact⟨sE (by rw[rx,i2];rfl),Gd⟩
   ·rw[c1]at i2;have hxx:=zg8 x4;have hsz:SizeOf.sizeOf x<N:=by have:=Bq x4;simp at hN;omega
    have c2:=Ak c1;refine⟨z1c x1,rfl,z2x rfl oM0,[],sc_rx N x hsz oM0 (most-1) oM0 oM0,sR,Gd,rfl,z00 (λc3=>?_) λc3=>?_⟩
    ·rw[show rx x (most-1)=false by simpa using c3]at i2;exact⟨sE (by rw[rx,i2];rfl),Gd⟩
    ·rw[show rx x (most-1)=true by simpa using c3]at i2;exact⟨z01 rfl oM0,i+1,z03 hlt,⟨hlt,i2⟩,Ge,Gd,rfl,rfl,rfl,rfl⟩
  ·have hge:args.length<=i:=z0y (f:=Ex.enc) rfl hc;rw[Ad hge]at i2;have hR:rx (.mk k o n nm args) most=rOwn k o n nm args.length:=by rw[rx,i2];rfl
   generalize rx (.mk k o n nm args) most=R at hR;clear i1 i2 hc hge hN hx h0 h1;have nl:(nm.toList==ByteArray.toList ⟨#[]⟩)=(nm.toList==[]):=by simp
   have hnm:=z6l nm;have hcase:k=1∨k=2∨k=3∨k=4∨k=5∨k=6∨k=7∨k=8∨(k≠1/\k≠2/\k≠3/\k≠4/\k≠5/\k≠6/\k≠7/\k≠8):=by omega
   by_cases ho:o=0
   ·subst ho;have e0:z2y 0=false:=rfl;have e1:z4k 0=0:=rfl;refine⟨[],hnm,sR,Gd,rfl,?_⟩;rcases hcase with rfl|rfl|rfl|rfl|rfl|rfl|rfl|rfl|hk
    ·repeat' (first|exact⟨sE (Af iBool (by rw[hR];simp_all[rOwn,zf3,zf4,zf5,zf6,Ex.op,Ex.n,Ex.name,Ex.args]<;>first|done|omega|(intro h;omega))),Gd⟩|refine z00 (λ_=>?_) λ_=>?_)
    ·repeat' (first|exact⟨sE (Af iBool (by rw[hR];simp_all[rOwn,zf3,zf4,zf5,zf6,Ex.op,Ex.n,Ex.name,Ex.args]<;>first|done|omega|(intro h;omega))),Gd⟩|refine z00 (λ_=>?_) λ_=>?_)
    ·repeat' (first|exact⟨sE (Af iBool (by rw[hR];simp_all[rOwn,zf3,zf4,zf5,zf6,Ex.op,Ex.n,Ex.name,Ex.args]<;>first|done|omega|(intro h;omega))),Gd⟩|refine z00 (λ_=>?_) λ_=>?_)
    ·refine⟨[],y1n 0,sR,Gd,rfl,?_⟩
     repeat' (first|exact⟨sE (Af iBool (by rw[hR];simp_all[rOwn,zf3,zf4,zf5,zf6,Ex.op,Ex.n,Ex.name,Ex.args]<;>first|done|omega|(intro h;omega))),Gd⟩|refine z00 (λ_=>?_) λ_=>?_)
    ·refine⟨[],zn0 0,sR,Gd,rfl,?_⟩
     repeat' (first|exact⟨sE (Af iBool (by rw[hR];simp_all[rOwn,zf3,zf4,zf5,zf6,Ex.op,Ex.n,Ex.name,Ex.args]<;>first|done|omega|(intro h;omega))),Gd⟩|refine z00 (λ_=>?_) λ_=>?_)
    ·repeat' (first|exact⟨sE (Af iBool (by rw[hR];simp_all[rOwn,zf3,zf4,zf5,zf6,Ex.op,Ex.n,Ex.name,Ex.args]<;>first|done|omega|(intro h;omega))),Gd⟩|refine z00 (λ_=>?_) λ_=>?_)
    ·repeat' (first|exact⟨sE (Af iBool (by rw[hR];simp_all[rOwn,zf3,zf4,zf5,zf6,Ex.op,Ex.n,Ex.name,Ex.args]<;>first|done|omega|(intro h;omega))),Gd⟩|refine z00 (λ_=>?_) λ_=>?_)
    ·repeat' (first|exact⟨sE (Af iBool (by rw[hR];simp_all[rOwn,zf3,zf4,zf5,zf6,Ex.op,Ex.n,Ex.name,Ex.args]<;>first|done|omega|(intro h;omega))),Gd⟩|refine z00 (λ_=>?_) λ_=>?_)
    ·refine z00 (λh=>absurd (eq_of_beq h) hk.1) λ_=>z00 (λh=>absurd (eq_of_beq h) hk.2.1) λ_=>z00 (λh=>absurd (eq_of_beq h) hk.2.2.1) λ_=>z00 (λh=>absurd (eq_of_beq h) hk.2.2.2.1) λ_=>z00 (λh=>absurd (eq_of_beq h) hk.2.2.2.2.1) λ_=>z00 (λh=>absurd (eq_of_beq h) hk.2.2.2.2.2.1) λ_=>z00 (λh=>absurd (eq_of_beq h) hk.2.2.2.2.2.2.1) λ_=>z00 (λh=>absurd (eq_of_beq h) hk.2.2.2.2.2.2.2) λ_=>?_;exact⟨sE (Af iBool (by rw[hR];unfold rOwn;obtain⟨g1,g2,g3,g4,g5,g6,g7,g8⟩:=hk;rw[if_neg g1,if_neg g2,if_neg g3,if_neg g4,if_neg g5,if_neg g6,if_neg g7,if_neg g8])),Gd⟩
   ·refine z00 (λh=>absurd (eq_of_beq h) ho) λ_=>⟨[],hnm,sR,Gd,rfl,?_⟩;rcases hcase with rfl|rfl|rfl|rfl|rfl|rfl|rfl|rfl|hk
    ·repeat' (first|exact⟨sE (Af iBool (by rw[hR];simp_all[rOwn,zf3,zf4,zf5,zf6,Ex.op,Ex.n,Ex.name,Ex.args]<;>first|done|omega|(intro h;omega))),Gd⟩|refine z00 (λ_=>?_) λ_=>?_)
    ·repeat' (first|exact⟨sE (Af iBool (by rw[hR];simp_all[rOwn,zf3,zf4,zf5,zf6,Ex.op,Ex.n,Ex.name,Ex.args]<;>first|done|omega|(intro h;omega))),Gd⟩|refine z00 (λ_=>?_) λ_=>?_)
    ·repeat' (first|exact⟨sE (Af iBool (by rw[hR];simp_all[rOwn,zf3,zf4,zf5,zf6,Ex.op,Ex.n,Ex.name,Ex.args]<;>first|done|omega|(intro h;omega))),Gd⟩|refine z00 (λ_=>?_) λ_=>?_)
    ·refine⟨[],y1n o,sR,Gd,rfl,?_⟩
     repeat' (first|exact⟨sE (Af iBool (by rw[hR];simp_all[rOwn,zf3,zf4,zf5,zf6,Ex.op,Ex.n,Ex.name,Ex.args]<;>first|done|omega|(intro h;omega))),Gd⟩|refine z00 (λ_=>?_) λ_=>?_)
    ·refine⟨[],zn0 o,sR,Gd,rfl,?_⟩
     repeat' (first|exact⟨sE (Af iBool (by rw[hR];simp_all[rOwn,zf3,zf4,zf5,zf6,Ex.op,Ex.n,Ex.name,Ex.args]<;>first|done|omega|(intro h;omega))),Gd⟩|refine z00 (λ_=>?_) λ_=>?_)
    ·repeat' (first|exact⟨sE (Af iBool (by rw[hR];simp_all[rOwn,zf3,zf4,zf5,zf6,Ex.op,Ex.n,Ex.name,Ex.args]<;>first|done|omega|(intro h;omega))),Gd⟩|refine z00 (λ_=>?_) λ_=>?_)
    ·repeat' (first|exact⟨sE (Af iBool (by rw[hR];simp_all[rOwn,zf3,zf4,zf5,zf6,Ex.op,Ex.n,Ex.name,Ex.args]<;>first|done|omega|(intro h;omega))),Gd⟩|refine z00 (λ_=>?_) λ_=>?_)
    ·repeat' (first|exact⟨sE (Af iBool (by rw[hR];simp_all[rOwn,zf3,zf4,zf5,zf6,Ex.op,Ex.n,Ex.name,Ex.args]<;>first|done|omega|(intro h;omega))),Gd⟩|refine z00 (λ_=>?_) λ_=>?_)
    ·refine z00 (λh=>absurd (eq_of_beq h) hk.1) λ_=>z00 (λh=>absurd (eq_of_beq h) hk.2.1) λ_=>z00 (λh=>absurd (eq_of_beq h) hk.2.2.1) λ_=>z00 (λh=>absurd (eq_of_beq h) hk.2.2.2.1) λ_=>z00 (λh=>absurd (eq_of_beq h) hk.2.2.2.2.1) λ_=>z00 (λh=>absurd (eq_of_beq h) hk.2.2.2.2.2.1) λ_=>z00 (λh=>absurd (eq_of_beq h) hk.2.2.2.2.2.2.1) λ_=>z00 (λh=>absurd (eq_of_beq h) hk.2.2.2.2.2.2.2) λ_=>?_;exact⟨sE (Af iBool (by rw[hR];unfold rOwn;obtain⟨g1,g2,g3,g4,g5,g6,g7,g8⟩:=hk;rw[if_neg g1,if_neg g2,if_neg g3,if_neg g4,if_neg g5,if_neg g6,if_neg g7,if_neg g8])),Gd⟩
def shp(k:Int):Bool×Bool×Int×Bool×Bool :=
 if k=1 then(true,true,1,false,false)else if k=2 then(false,true,1,false,false)else if k=3 then(false,true,2,false,false)
 else if k=4 then(false,false,1,true,true)else if k=5 then(false,false,1,true,false)else if k=6∨k=7 then(false,false,0,false,false)
 else if k=8∨k=9∨k=10 then(false,false,1,false,false)else(false,false,-1,false,false)
def shpV(s:Bool×Bool×Int×Bool×Bool):IV:=.tup [iBool s.1,iBool s.2.1,iInt s.2.2.1,iBool s.2.2.2.1,iBool s.2.2.2.2]
theorem sc_shape(k:Int):SC Tryz.prog 130 [.pv (.val (.int .i64 k))] [] (λk=>k∈[]) (shpV (shp k)) []:=by
 refine SC.vc tb {} [] Tryz.func130 rfl rfl ?_;have hcase:k=1∨k=2∨k=3∨k=4∨k=5∨k=6∨k=7∨k=8∨k=9∨k=10∨(k≠1/\k≠2/\k≠3/\k≠4/\k≠5/\k≠6/\k≠7/\k≠8/\k≠9/\k≠10):=by omega
 rcases hcase with rfl|rfl|rfl|rfl|rfl|rfl|rfl|rfl|rfl|rfl|hk
 iterate 10 exact⟨sI,Gd⟩
 have hs:shp k=(false,false,-1,false,false):=by
  unfold shp;rw[if_neg oM0,if_neg oM0,if_neg oM0,if_neg oM0,if_neg oM0,if_neg oM0,if_neg oM0]
 rw[hs]
 repeat' (first|exact⟨sI,Gd⟩|refine z00 (λh=>absurd (eq_of_beq h) oM0) λ_=>?_)
theorem y3w(t:Int):SC Tryz.prog 85 [.pv (.val (.int .i64 t))] [] (λk=>k∈[]) (iBool (t==1||t==2)) []:=by
 refine SC.vc tb {} [] Tryz.func85 rfl rfl ?_;exact z00 (λh=>⟨sE (by rw[h];rfl),Gd⟩) λh=>⟨sE (by rw[h];rfl),Gd⟩
def ys1(k ty:Int)(nm:ByteArray)(len:Nat)(most:Int):Bool :=
 decide (most<1)||(len:Int) != (shp k).2.2.1||(shp k).1 != (ty==1||ty==2)||(!(shp k).1&&ty != 0)||(shp k).2.1 != z0k nm||(!(shp k).2.1 && !(nm.toList==[]))
def j1e(k:Int)(args:List Ex)(a b:Nat):Bool :=
 (k==10&&((args.head?.map Ex.kind).getD 0) != 7)||(!(shp k).2.2.2.1&&decide (0<a))||(!(shp k).2.2.2.2&&decide (0<b))
mutual
def rst:St->Int->Bool
 |.mk k ty nm args thn els,most=>!ys1 k ty nm args.length most&&args.all (λe=>rx e 100) && !j1e k args thn.length els.length&&rsL thn (most-1)&&rsL els (most-1)
def rsL:List St->Int->Bool
 |[],_=>true
 |x::r,most=>rst x most&&rsL r most
end
def rTy(t:Int):Bool:=t==1||t==2
def rFu(f:Fu):Bool:=z0k f.name&&rTy f.ty&&decide (f.params.length<=8)&&rsL f.body 100&&f.params.all λp=>z0k p.name&&rTy p.ty
def rPg(p:Pg):Bool:=(p.arrays.all λa=>z0k a.name&&decide (1<=a.size)&&decide (a.size<=1000))&&p.funcs.all rFu
theorem y3s(x:St)(most:Int):rst x most=(!ys1 x.kind x.ty x.name x.args.length most&&x.args.all (λe=>rx e 100) && !j1e x.kind x.args x.thn.length x.els.length&&rsL x.thn (most-1)&&rsL x.els (most-1)):=by
 cases x;rw[rst];rfl
theorem y2p(x:St):sz x=1+xzL x.args+szL x.thn+szL x.els:=by cases x;rw[sz];rfl
theorem zv8{x:St}:∀{l:List St},x∈l->sz x<=szL l
 |y::r,h=>by
  simp only[szL];rcases Aj.1 h with rfl|h
  ·omega
  ·have:=zv8 h;omega
theorem zs4(x:St):SizeOf.sizeOf x.thn<SizeOf.sizeOf x/\SizeOf.sizeOf x.els<SizeOf.sizeOf x:=by
 cases x;simp[St.thn,St.els];omega
theorem j2k:∀(N:Nat)(l:List St),SizeOf.sizeOf l<N->szL l<=1073741824->∀most:Int,0<=most->most<=100->SC Tryz.prog 86 [.pv (sts l),.pv (.val (.int .i64 most))] [] (λk=>k∈[]) (iBool (rsL l most)) []
 |0,_,h,_,_,_,_=>absurd h (Al _)
 |N+1,l,hN,hx,most,h0,h1=>by
  refine SC.vc tb { pb:=[106],jn:=[8,3] } [] Tryz.func86 rfl rfl ?_;have hl:=z8j l;refine⟨Nat,λi=>[(5,iInt ((i:Nat):Int))],λ_=>[],λi=>l.length-i,λi=>i<=l.length/\rsL l most=rsL (l.drop i) most,[],0,⟨Ac _,rfl⟩,Ge,Gd,?_⟩;rintro i ⟨i1,i2⟩;refine z00 (λhc=>?_) λhc=>?_
  ·have hlt:i<l.length:=z0x (f:=St.enc) rfl hc;obtain⟨x,x1,x2,x3,x4⟩:=z0o hlt;rw[x3]at i2;rw[rsL,y3s]at i2;have hxx:=zv8 x4;rw[y2p]at hxx;have hal:=zb0 x.args;have hsz:SizeOf.sizeOf x.thn<N/\SizeOf.sizeOf x.els<N:=by have:=Bq x4;have:=zs4 x;omega
   refine⟨Unit,λ_=>[],λ_=>[],λ_=>rsL l most=rsL (l.drop (i+1)) most,[],?_,?_⟩
   ·have hS:=sc_shape x.kind;have h10:x.kind=10->(shp x.kind).2.2.1=1:=λe=>by rw[e];rfl
    unfold ys1 j1e at i2;generalize shp x.kind=s at hS i2 h10;obtain⟨s1,s2,s3,s4,s5⟩:=s;dsimp only at hS i2 h10;generalize hT:((x.kind==10&&((x.args.head?.map Ex.kind).getD 0) != 7)||(!s4&&decide (0<x.thn.length))||(!s5&&decide (0<x.els.length)))=tl at i2;refine⟨zj7 x1,rfl,[],hS,sR,Gd,rfl,Unit,λ_=>[],λ_=>[],λ_=>¬most<1/\(x.args.length:Int)=s3/\rsL l most=(x.args.all (λe=>rx e 100) && !tl&&rsL x.thn (most-1)&&rsL x.els (most-1)&&rsL (l.drop (i+1)) most),[],?_,?_⟩
    ·have nl:(x.name.toList==ByteArray.toList ⟨#[]⟩)=(x.name.toList==[]):=by simp
     have hnm:=z6l x.name;clear hT hS h10 hxx hal hsz x2 x3 x4 hl hx hN;refine z00 (λc1=>⟨sE (Af iBool (by rw[i2,c1];rfl)),Gd⟩) λc1=>z00 (λc2=>?_) λc2=>?_
     ·have c2:((x.args.length:Int) != s3)=true:=by simpa using c2
      exact⟨sE (Af iBool (by rw[i2,c2];simp)),Gd⟩
     ·have c2:((x.args.length:Int) != s3)=false:=by simpa using c2
      have fin:=i2;rw[c1,c2]at fin;have d1:=Ak c1;have d2:(x.args.length:Int)=s3:=by simpa using c2
      clear i2 c1 c2
      cases s1<;>cases s2 <;>
      repeat' (first|exact⟨sE (Af iBool (by rw[fin];simp_all)),Gd⟩|exact⟨(),⟨d1,d2,by rw[fin];simp_all⟩,Gd,Gd,rfl,rfl,rfl,rfl⟩|refine z00 (λ_=>?_) λ_=>?_|refine⟨[],hnm,sR,Gd,rfl,?_⟩)
    ·rintro _ ⟨d1,d2,hA⟩;clear i2;refine⟨Nat,λj=>[(12,iInt ((j:Nat):Int))],λ_=>[],λj=>x.args.length-j,λj=>j<=x.args.length/\x.args.all (λe=>rx e 100)=(x.args.drop j).all (λe=>rx e 100),[],0,⟨Ac _,rfl⟩,Ge,Gd,?_⟩;rintro j ⟨j1,j2⟩;refine z00 (λc1=>?_) λc1=>?_
     ·have c1:(j:Int)<s3:=Am c1;have hlj:j<x.args.length:=by omega
      obtain⟨e,e1,e2,e3,e4⟩:=z0o hlj;have:=zg8 e4;rw[e3,D8]at j2;refine⟨z1c e1,rfl,[],sc_rx _ e (Ab _) oM0 100 dC0 dC0,sR,Gd,rfl,z00 (λc2=>?_) λc2=>?_⟩
      ·exact⟨sE (Af iBool (by rw[hA,j2,show rx e 100=false by simpa using c2];rfl)),Gd⟩
      ·rw[show rx e 100=true by simpa using c2,B5]at j2;exact⟨z01 rfl oM0,j+1,z03 hlj,⟨hlj,j2⟩,Ge,Gd,rfl,rfl,rfl,rfl⟩
     ·have c1:¬(j:Int)<s3:=Ak c1;rw[Ad oM0]at j2;rw[j2,show List.all [] (λe=>rx e 100)=true from rfl,B5]at hA;have r1:=j2k N x.thn hsz.1 oM0 (most-1) oM0 oM0;have r2:=j2k N x.els hsz.2 oM0 (most-1) oM0 oM0;have s1:z3d .sub .i64 most 1=some (.int .i64 (most-1)):=z2x rfl oM0;have ha:x.kind=10->∃e,x.args[0]?=some e/\((x.args.head?.map Ex.kind).getD 0)=e.kind:=λe=>by
       have:=h10 e
       match hx:x.args with
       |[]=>rw[hx]at d2;simp at d2;omega
       |e0::r=>exact⟨e0,rfl,rfl⟩
      clear h10 j1 j2 hS hxx hal hsz x2 x3 x4 hl hx hN i1;subst hT;generalize rsL x.thn (most-1)=q1 at hA r1;generalize rsL x.els (most-1)=q2 at hA r2;refine z00 (λk1=>?_) λk1=>?_
      ·obtain⟨e0,e1,e2⟩:=ha (eq_of_beq k1);rw[e2]at hA;refine⟨z1c (i:=0) e1,rfl,?_⟩
       cases s4<;>cases s5 <;>
       repeat' (first|exact⟨sE (Af iBool (by rw[hA];simp_all)),Gd⟩|exact⟨(),by rw[hA];simp_all,Gd,Gd,rfl,rfl,rfl,rfl⟩|refine z00 (λ_=>?_) λ_=>?_|refine⟨s1,[],r1,sR,Gd,rfl,?_⟩|refine⟨s1,[],r2,sR,Gd,rfl,?_⟩)
      ·cases s4<;>cases s5 <;>
       repeat' (first|exact⟨sE (Af iBool (by rw[hA];simp_all)),Gd⟩|exact⟨(),by rw[hA];simp_all,Gd,Gd,rfl,rfl,rfl,rfl⟩|refine z00 (λ_=>?_) λ_=>?_|refine⟨s1,[],r1,sR,Gd,rfl,?_⟩|refine⟨s1,[],r2,sR,Gd,rfl,?_⟩)
   ·intro _ hA;exact⟨z01 rfl oM0,i+1,z03 hlt,⟨hlt,hA⟩,Ge,Gd,rfl,rfl,rfl,rfl⟩
  ·have hge:l.length<=i:=z0y (f:=St.enc) rfl hc;rw[Ad hge]at i2;exact⟨sE (by rw[i2];rfl),Gd⟩
section
theorem tStep_sz{s:ByteArray}{line a:Nat}{b:UInt8}{t:Tk}{a2:Nat}(h:zs7 s line a b=.tok t a2):t.text.size<=s.size:=by
 unfold zs7 at h;split at h
 ·cases h
 split at h
 ·cases h
 split at h
 ·cases h
 split at h
 ·split at h
  ·cases h
  ·cases h
   show(s.extract a (a+z4f s a)).size<=s.size;rw[Cj];omega
 ·split at h
  ·cases h
  ·cases h
   show(sgOf (s.extract a s.size)).size<=s.size;rcases zy3 (s.extract a s.size) sgL with h|h
   ·unfold sgOf;rw[h];exact Ac _
   ·have:=h.2;rw[Cj]at this;unfold sgOf;omega
theorem yg2(s:ByteArray):∀(N line a:Nat)(out:List Tk),(∀t∈out,t.text.size<=s.size)->∀t∈(toks s N line a out).1,t.text.size<=s.size
 |0,_,_,_,_,t,ht=>by simp[toks]at ht
 |N+1,line,a,out,ho,t,ht=>by
  unfold toks at ht
  cases hb:s.data.toList[a]? with
  |none =>
   rw[hb]at ht;rcases Ax.1 ht with ht|ht
   ·exact ho t ht
   ·rw[An.1 ht];exact Ac _
  |some b =>
   rw[hb]at ht;dsimp only at ht
   cases hst:zs7 s line a b with
   |skip l2 a2=>rw[hst]at ht;exact yg2 s N l2 a2 out ho t ht
   |tok t2 a2 =>
    rw[hst]at ht;refine yg2 s N line a2 (out++[t2]) (λt' ht'=>?_) t ht;rcases Ax.1 ht' with ht'|ht'
    ·exact ho t' ht'
    ·rw[An.1 ht'];exact tStep_sz hst
   |bad l=>rw[hst]at ht;cases ht
theorem j3s(s:ByteArray):∀t∈(z1t s).1,t.text.size<=s.size:=by
 unfold z1t;split
 ·intro t ht;cases ht
 ·exact yg2 s _ _ _ [] (λt ht=>by cases ht)
def pz:List Fu->Nat
 |[]=>0
 |f::r=>1+f.params.length+szL f.body+pz r
theorem pz_app:∀a b:List Fu,pz (a++b)=pz a+pz b
 |[],b=>by simp[pz]
 |x::r,b=>by simp only[B9,pz,pz_app r b];omega
variable {T:List Tk}
theorem y7u(hT:TkOk T):∀N b out s,(z9v T N b out s).1.length+s.at_<=out.length+(bif b then 1 else 0)+(z9v T N b out s).2.at_
 |0,b,out,s=>by show out.length+s.at_<=_+_+s.at_;omega
 |N+1,b,out,s=>by
  unfold z9v;split
  ·rename_i hc;have h1:=y7u hT N false (out++[⟨(z0l T 1 (z0r T (aGo T b s)).2).1,(z0r T (aGo T b s)).1⟩]) (z0l T 1 (z0r T (aGo T b s)).2).2;rw[B4]at h1;have h2:=(z5i hT (s:=aGo T b s)).at_;have h3:=(z1w hT (k:=1) dC0 (s:=(z0r T (aGo T b s)).2)).at_;simp only[A1,A5,Cw]at h1
   cases b with
   |true =>
    have h4:(aGo T true s).at_=s.at_:=rfl;simp only[Dy]
    omega
   |false =>
    have hi:pIs T zm7 s=true:=by simpa using hc.1
    have h4:(aGo T false s).at_=s.at_+1:=by simp[aGo,z8k,hi,z0m]
    simp only[Cw];omega
  ·have:=(y31 hT (b:=b) (s:=s)).at_;dsimp only;omega
theorem func_sz(hT:TkOk T){t:Int}{n:ByteArray}{s:Ps}(h:(z73 T t n s).2.over=false):(z73 T t n s).1.params.length+szL (z73 T t n s).1.body+3*s.at_<=3*(z73 T t n s).2.at_+1:=by
 unfold z73 at h⊢;dsimp only at h⊢;have h1:=(yo2 hT (big T)).2.1 1 _ h;have h2:=(z0c hT (w:=sRo) (s:=s)).at_;have h6:=(zk3 hT (s:=z0n T sRo s)).at_;have h3:=((z5h hT (big T)).2.1 1 (z7g T (z0n T sRo s)).2).at_;have h4:(z7g T (z0n T sRo s)).1.length+(z0n T sRo s).at_<=1+(z7g T (z0n T sRo s)).2.at_:=by
  unfold z7g;split
  ·simp only[A5,z0m];omega
  ·have:=y7u hT (big T) true [] (z0n T sRo s);have h5:=(z0c hT (w:=sRc) (s:=(z9v T (big T) true [] (z0n T sRo s)).2)).at_;simp only[A5,Dy]at this;dsimp only;omega
 omega
theorem z95(hT:TkOk T):∀N p s,Fw T s (z43 T N p s).2
 |0,_,_=>.rfl
 |N+1,p,s=>by
  unfold z43;split
  ·exact .rfl
  split
  ·rename_i c2;have hc:pIs T sSo (z0l T 1 (z0r T s).2).2=true:=by unfold qArr at c2;simp only[A0]at c2;exact c2.2
   exact(z5i hT).trans ((z1w hT (k:=1) dC0).trans ((z11 hT hc).trans ((z1w hT (k:=0) dC0).trans ((z0c hT (w:=sSc)).trans ((z0c hT (w:=z5e)).trans (z95 hT N _ _))))))
  ·exact(z5i hT).trans ((z1w hT (k:=1) dC0).trans ((y9p hT).trans (z95 hT N _ _)))
theorem y5h(hT:TkOk T):∀N p s,(z43 T N p s).2.over=false->pz (z43 T N p s).1.funcs+(z43 T N p s).1.arrays.length+3*s.at_<=pz p.funcs+p.arrays.length+3*(z43 T N p s).2.at_
 |0,_,_,_=>Ag _
 |N+1,p,s,h=>by
  unfold z43 at h⊢;split
  ·exact Ag _
  rename_i c1;rw[if_neg c1]at h;have a1:=(z5i hT (s:=s)).at_;have a2:=(z1w hT (k:=1) dC0 (s:=(z0r T s).2)).at_;split
  ·rename_i c2;rw[if_pos c2]at h;have h1:=y5h hT N _ _ h;have hc:pIs T sSo (z0l T 1 (z0r T s).2).2=true:=by unfold qArr at c2;simp only[A0]at c2;exact c2.2
   have a3:=(z1w hT (k:=0) dC0 (s:=(z0l T 1 (z0r T s).2).2.next)).at_;have a4:=(z0c hT (w:=sSc) (s:=(z0l T 0 (z0l T 1 (z0r T s).2).2.next).2)).at_;have a5:=(z0c hT (w:=z5e) (s:=z0n T sSc (z0l T 0 (z0l T 1 (z0r T s).2).2.next).2)).at_;rw[z0m]at a3;simp only[B4,A1,A5]at h1;omega
  ·rename_i c2;rw[if_neg c2]at h;have h1:=y5h hT N _ _ h;have b1:(z73 T (z0r T s).1 (z0l T 1 (z0r T s).2).1 (z0l T 1 (z0r T s).2).2).2.over=false:=(z95 hT N _ _).back h;have h2:=func_sz hT b1;have b2:=(y9p hT).back b1;have a3:=z6n.lt b2;have a4:=zk6.lt ((z1w hT (k:=1) dC0).back b2);rw[pz_app]at h1;simp only[pz]at h1;omega
end
theorem zu6{f:Fu}:∀{l:List Fu},f∈l->1+f.params.length+szL f.body<=pz l
 |y::r,h=>by
  simp only[pz];rcases Aj.1 h with rfl|h
  ·omega
  ·have:=zu6 h;omega
theorem y2s{l:List Ar}{i:Nat}{x:Ar}(h:l[i]?=some x):(l.map Ar.enc)[i]?=some [vStr x.name,vInt x.size]:=by simp[h,Ar.enc]
theorem z9r{l:List Fu}{i:Nat}{x:Fu}(h:l[i]?=some x):(l.map Fu.enc)[i]?=some [vStr x.name,vInt x.ty,pms x.params,sts x.body]:=by simp[h,Fu.enc]
theorem zu5{l:List Pm}{i:Nat}{x:Pm}(h:l[i]?=some x):(l.map Pm.enc)[i]?=some [vStr x.name,vInt x.ty]:=by simp[h,Pm.enc]
theorem zl1:∀l:List Fu,l.length<=pz l
 |[]=>Ag _
 |x::r=>by have:=zl1 r;simp only[A1,pz];omega
theorem sc_Right(p:Pg)(hb:pz p.funcs<=1073741824)(ha:p.arrays.length<=1073741824):SC Tryz.prog 45 [.pv p.enc] [] (λk=>k∈[]) (iBool (rPg p)) []:=by
 refine SC.vc tb {} [] Tryz.func45 rfl rfl ?_;have hfl:=zl1 p.funcs;refine⟨Nat,λi=>[(3,iInt ((i:Nat):Int))],λ_=>[],λi=>p.arrays.length-i,λi=>i<=p.arrays.length/\(p.arrays.all λa=>z0k a.name&&decide (1<=a.size)&&decide (a.size<=1000))=((p.arrays.drop i).all λa=>z0k a.name&&decide (1<=a.size)&&decide (a.size<=1000)),[],0,⟨Ac _,rfl⟩,Ge,Gd,?_⟩;rintro i ⟨i1,i2⟩;refine z00 (λhc=>?_) λhc=>?_
 ·have hlt:i<p.arrays.length:=z0x (f:=Ar.enc) rfl hc;obtain⟨x,x1,x2,x3,x4⟩:=z0o hlt;rw[x3,D8]at i2;refine⟨y2s x1,rfl,[],z6l x.name,sR,Gd,rfl,z00 (λc1=>?_) λc1=>⟨y2s x1,rfl,z00 (λc2=>?_) λc2=>⟨y2s x1,rfl,z00 (λc3=>?_) λc3=>?_⟩⟩⟩
  ·exact⟨sE (Af iBool (by unfold rPg;rw[i2,show z0k x.name=false by simpa using c1];rfl)),Gd⟩
  ·exact⟨sE (Af iBool (by unfold rPg;have:=Am c2;rw[i2,show decide (1<=x.size)=false by simpa using this];simp)),Gd⟩
  ·exact⟨sE (Af iBool (by unfold rPg;have:=Am c3;rw[i2,show decide (x.size<=1000)=false by simpa using this];simp)),Gd⟩
  ·have d2:=Ak c2;have d3:=Ak c3;rw[show z0k x.name=true by simpa using c1,show decide (1<=x.size)=true by simpa using d2,show decide (x.size<=1000)=true by simpa using d3,B5,B5,B5]at i2;exact⟨z01 rfl oM0,i+1,z03 hlt,⟨hlt,i2⟩,Ge,Gd,rfl,rfl,rfl,rfl⟩
 ·have hge:p.arrays.length<=i:=z0y (f:=Ar.enc) rfl hc;rw[Ad hge,Fv]at i2;have hR:rPg p=p.funcs.all rFu:=by unfold rPg;rw[i2,B5]
  clear i1 i2 hc hge;refine⟨Nat,λi=>[(4,iInt ((i:Nat):Int))],λ_=>[],λi=>p.funcs.length-i,λi=>i<=p.funcs.length/\rPg p=(p.funcs.drop i).all rFu,[],0,⟨Ac _,hR⟩,Ge,Gd,?_⟩;rintro i ⟨i1,i2⟩;refine z00 (λhc=>?_) λhc=>?_
  ·have hlt:i<p.funcs.length:=z0x (f:=Fu.enc) rfl hc;obtain⟨x,x1,x2,x3,x4⟩:=z0o hlt;have hpz:=zu6 x4;rw[x3,D8]at i2;refine⟨z9r x1,rfl,[],z6l x.name,sR,Gd,rfl,z00 (λc1=>?_) λc1=>⟨[],y3w x.ty,sR,Gd,rfl,z00 (λc2=>?_) λc2=>z00 (λc3=>?_) λc3=>⟨[],j2k _ x.body (Ab _) oM0 100 dC0 dC0,sR,Gd,rfl,z00 (λc4=>?_) λc4=>?_⟩⟩⟩
   ·exact⟨sE (Af iBool (by unfold rFu at i2;rw[i2,show z0k x.name=false by simpa using c1];rfl)),Gd⟩
   ·exact⟨sE (Af iBool (by unfold rFu at i2;rw[i2,show rTy x.ty=false by simpa[rTy]using c2];simp)),Gd⟩
   ·exact⟨sE (Af iBool (by unfold rFu at i2;have:=Am c3;rw[i2,show decide (x.params.length<=8)=false by simp at this⊢;omega];simp)),Gd⟩
   ·exact⟨sE (Af iBool (by unfold rFu at i2;rw[i2,show rsL x.body 100=false by simpa using c4];simp)),Gd⟩
   ·have hF:rFu x=x.params.all λp=>z0k p.name&&rTy p.ty:=by
     unfold rFu;have:=Ak c3;rw[show z0k x.name=true by simpa using c1,show rTy x.ty=true by unfold rTy;simpa only[Bool.not_eq_false']using c2,show decide (x.params.length<=8)=true by simp at this⊢;omega,show rsL x.body 100=true by simpa using c4];rfl
    rw[hF]at i2;refine⟨Nat,λj=>[(6,iInt ((j:Nat):Int))],λ_=>[],λj=>x.params.length-j,λj=>j<=x.params.length/\(x.params.all λp=>z0k p.name&&rTy p.ty)=(x.params.drop j).all λp=>z0k p.name&&rTy p.ty,[],0,⟨Ac _,rfl⟩,Ge,Gd,?_⟩;rintro j ⟨j1,j2⟩;refine z00 (λhd=>?_) λhd=>?_
    ·have hlj:j<x.params.length:=z0x (f:=Pm.enc) rfl hd;obtain⟨y,y1,y2,y3,y4⟩:=z0o hlj;rw[y3,D8]at j2;refine⟨zu5 y1,rfl,[],z6l y.name,sR,Gd,rfl,z00 (λk1=>?_) λk1=>⟨zu5 y1,rfl,[],y3w y.ty,sR,Gd,rfl,z00 (λk2=>?_) λk2=>?_⟩⟩
     ·exact⟨sE (Af iBool (by rw[i2,j2,show z0k y.name=false by simpa using k1];rfl)),Gd⟩
     ·exact⟨sE (Af iBool (by rw[i2,j2,show rTy y.ty=false by simpa[rTy]using k2];simp)),Gd⟩
     ·rw[show z0k y.name=true by simpa using k1,show rTy y.ty=true by unfold rTy;simpa only[Bool.not_eq_false']using k2,B5,B5]at j2;exact⟨z01 rfl oM0,j+1,z03 hlj,⟨hlj,j2⟩,Ge,Gd,rfl,rfl,rfl,rfl⟩
    ·have hge:x.params.length<=j:=z0y (f:=Pm.enc) rfl hd;rw[Ad hge,Fv]at j2;rw[j2,B5]at i2;exact⟨z01 rfl oM0,i+1,z03 hlt,⟨hlt,i2⟩,Ge,Gd,rfl,rfl,rfl,rfl⟩
  ·have hge:p.funcs.length<=i:=z0y (f:=Fu.enc) rfl hc;rw[Ad hge,Fv]at i2;exact⟨sE (by rw[i2]),Gd⟩
theorem z56{b:Bool}{A:Prop}(h:b=true)(a:A):z2d b A:=by rw[h];exact a
theorem z16{α:Type}(p:α -> Bool):∀(l:List α)(j:Int){i:Nat},(∀x∈l.take i,p x=false)->idxP p l j=idxP p (l.drop i) (j+i)
 |l,j,0,_=>by simp
 |[],j,i+1,_=>by simp[idxP]
 |x::r,j,i+1,h=>by
  have h1:=h x sI0;rw[idxP,if_neg (by simp[h1]),z16 p r (j+1) (i:=i) (λy hy=>h y (by simp[hy])),Fa]
  congr 1;omega
theorem sc_idxSt(fq:FuncId)(ws:List IV)(hent:tb.fn fq=true)(p:St->Bool)(l:List St)(hl:l.length<=4611686018427387904)(h:∀x∈l,SC Tryz.prog fq (.pv (stv x)::ws) [] (λk=>k∈[]) (iBool (p x)) []):SC Tryz.prog 112 [.pv (sts l),.fn (.func fq) [] ws] [] (λk=>k∈[]) (iInt (idxP p l 0)) []:=by
 refine SC.vc tb {} [] Tryz.func112 rfl rfl ?_;refine⟨Nat,λi=>[(8,iInt ((i:Nat):Int))],λ_=>[],λi=>l.length-i,λi=>i<=l.length/\∀x∈l.take i,p x=false,[],0,⟨Ac _,λx hx=>by simp at hx⟩,Ge,Gd,?_⟩;rintro i ⟨i1,i2⟩;refine z00 (λhc=>?_) λhc=>?_
 ·have hlt:i<l.length:=z0x (f:=St.enc) rfl hc;obtain⟨x,x1,x2,x3,x4⟩:=z0o hlt;refine⟨zj7 x1,rfl,z56 (b:=tb.fn fq) hent ⟨h x x4,sR,Gd,λk hk=>hk,rfl,rfl,z00 (λc=>?_) λc=>?_⟩⟩
  ·exact⟨sE (by rw[z16 p l 0 i2,x3,idxP,if_pos c,Dj]),Gd⟩
  ·exact⟨z01 rfl oM0,i+1,z03 hlt,⟨hlt,λy hy=>by rw[x2]at hy;rcases Ax.1 hy with g|g;exact i2 y g;rw[An.1 g];exact c⟩,Ge,Gd,rfl,rfl,rfl,rfl⟩
 ·have hge:l.length<=i:=z0y (f:=St.enc) rfl hc;exact⟨sE (by rw[z16 p l 0 i2,Ad hge];rfl),Gd⟩
theorem y5x(fq:FuncId)(ws:List IV)(hent:tb.fn fq=true)(p:St->Bool)(l:List St)(hl:l.length<=4611686018427387904)(h:∀x∈l,SC Tryz.prog fq (.pv (stv x)::ws) [] (λk=>k∈[]) (iBool (p x)) []):SC Tryz.prog 65 [.pv (sts l),.fn (.func fq) [] ws] [] (λk=>k∈[]) (iBool (l.any p)) []:=by
 refine SC.vc tb {} [] Tryz.func65 rfl rfl ?_;exact⟨[],sc_idxSt fq ws hent p l hl h,sR,Gd,rfl,sE (Af iBool (z5k p l 0 dC0)),Gd⟩
theorem sc_idxEx(fq:FuncId)(ws:List IV)(hent:tb.fn fq=true)(p:Ex->Bool)(l:List Ex)(hl:l.length<=4611686018427387904)(h:∀x∈l,SC Tryz.prog fq (.pv (exv x)::ws) [] (λk=>k∈[]) (iBool (p x)) []):SC Tryz.prog 236 [.pv (exs l),.fn (.func fq) [] ws] [] (λk=>k∈[]) (iInt (idxP p l 0)) []:=by
 refine SC.vc tb {} [] Tryz.func236 rfl rfl ?_;refine⟨Nat,λi=>[(8,iInt ((i:Nat):Int))],λ_=>[],λi=>l.length-i,λi=>i<=l.length/\∀x∈l.take i,p x=false,[],0,⟨Ac _,λx hx=>by simp at hx⟩,Ge,Gd,?_⟩;rintro i ⟨i1,i2⟩;refine z00 (λhc=>?_) λhc=>?_
 ·have hlt:i<l.length:=z0x (f:=Ex.enc) rfl hc;obtain⟨x,x1,x2,x3,x4⟩:=z0o hlt;refine⟨z1c x1,rfl,z56 (b:=tb.fn fq) hent ⟨h x x4,sR,Gd,λk hk=>hk,rfl,rfl,z00 (λc=>?_) λc=>?_⟩⟩
  ·exact⟨sE (by rw[z16 p l 0 i2,x3,idxP,if_pos c,Dj]),Gd⟩
  ·exact⟨z01 rfl oM0,i+1,z03 hlt,⟨hlt,λy hy=>by rw[x2]at hy;rcases Ax.1 hy with g|g;exact i2 y g;rw[An.1 g];exact c⟩,Ge,Gd,rfl,rfl,rfl,rfl⟩
 ·have hge:l.length<=i:=z0y (f:=Ex.enc) rfl hc;exact⟨sE (by rw[z16 p l 0 i2,Ad hge];rfl),Gd⟩
theorem ym7(fq:FuncId)(ws:List IV)(hent:tb.fn fq=true)(p:Ex->Bool)(l:List Ex)(hl:l.length<=4611686018427387904)(h:∀x∈l,SC Tryz.prog fq (.pv (exv x)::ws) [] (λk=>k∈[]) (iBool (p x)) []):SC Tryz.prog 210 [.pv (exs l),.fn (.func fq) [] ws] [] (λk=>k∈[]) (iBool (l.any p)) []:=by
 refine SC.vc tb {} [] Tryz.func210 rfl rfl ?_;exact⟨[],sc_idxEx fq ws hent p l hl h,sR,Gd,rfl,sE (Af iBool (z5k p l 0 dC0)),Gd⟩
theorem sc_idxPm(fq:FuncId)(ws:List IV)(hent:tb.fn fq=true)(p:Pm->Bool)(l:List Pm)(hl:l.length<=4611686018427387904)(h:∀x∈l,SC Tryz.prog fq (.pv (.agg x.enc)::ws) [] (λk=>k∈[]) (iBool (p x)) []):SC Tryz.prog 184 [.pv (pms l),.fn (.func fq) [] ws] [] (λk=>k∈[]) (iInt (idxP p l 0)) []:=by
 refine SC.vc tb {} [] Tryz.func184 rfl rfl ?_;refine⟨Nat,λi=>[(8,iInt ((i:Nat):Int))],λ_=>[],λi=>l.length-i,λi=>i<=l.length/\∀x∈l.take i,p x=false,[],0,⟨Ac _,λx hx=>by simp at hx⟩,Ge,Gd,?_⟩;rintro i ⟨i1,i2⟩;refine z00 (λhc=>?_) λhc=>?_
 ·have hlt:i<l.length:=z0x (f:=Pm.enc) rfl hc;obtain⟨x,x1,x2,x3,x4⟩:=z0o hlt;refine⟨zu5 x1,rfl,z56 (b:=tb.fn fq) hent ⟨h x x4,sR,Gd,λk hk=>hk,rfl,rfl,z00 (λc=>?_) λc=>?_⟩⟩
  ·exact⟨sE (by rw[z16 p l 0 i2,x3,idxP,if_pos c,Dj]),Gd⟩
  ·exact⟨z01 rfl oM0,i+1,z03 hlt,⟨hlt,λy hy=>by rw[x2]at hy;rcases Ax.1 hy with g|g;exact i2 y g;rw[An.1 g];exact c⟩,Ge,Gd,rfl,rfl,rfl,rfl⟩
 ·have hge:l.length<=i:=z0y (f:=Pm.enc) rfl hc;exact⟨sE (by rw[z16 p l 0 i2,Ad hge];rfl),Gd⟩
theorem sc_hasPm(fq:FuncId)(ws:List IV)(hent:tb.fn fq=true)(p:Pm->Bool)(l:List Pm)(hl:l.length<=4611686018427387904)(h:∀x∈l,SC Tryz.prog fq (.pv (.agg x.enc)::ws) [] (λk=>k∈[]) (iBool (p x)) []):SC Tryz.prog 148 [.pv (pms l),.fn (.func fq) [] ws] [] (λk=>k∈[]) (iBool (l.any p)) []:=by
 refine SC.vc tb {} [] Tryz.func148 rfl rfl ?_;exact⟨[],sc_idxPm fq ws hent p l hl h,sR,Gd,rfl,sE (Af iBool (z5k p l 0 dC0)),Gd⟩
theorem ym9(fq:FuncId)(ws:List IV)(hent:tb.fn fq=true)(p:Fu->Bool)(l:List Fu)(hl:l.length<=4611686018427387904)(h:∀x∈l,SC Tryz.prog fq (.pv (.agg x.enc)::ws) [] (λk=>k∈[]) (iBool (p x)) []):SC Tryz.prog 145 [.pv (fus l),.fn (.func fq) [] ws] [] (λk=>k∈[]) (iInt (idxP p l 0)) []:=by
 refine SC.vc tb {} [] Tryz.func145 rfl rfl ?_;refine⟨Nat,λi=>[(8,iInt ((i:Nat):Int))],λ_=>[],λi=>l.length-i,λi=>i<=l.length/\∀x∈l.take i,p x=false,[],0,⟨Ac _,λx hx=>by simp at hx⟩,Ge,Gd,?_⟩;rintro i ⟨i1,i2⟩;refine z00 (λhc=>?_) λhc=>?_
 ·have hlt:i<l.length:=z0x (f:=Fu.enc) rfl hc;obtain⟨x,x1,x2,x3,x4⟩:=z0o hlt;refine⟨z9r x1,rfl,z56 (b:=tb.fn fq) hent ⟨h x x4,sR,Gd,λk hk=>hk,rfl,rfl,z00 (λc=>?_) λc=>?_⟩⟩
  ·exact⟨sE (by rw[z16 p l 0 i2,x3,idxP,if_pos c,Dj]),Gd⟩
  ·exact⟨z01 rfl oM0,i+1,z03 hlt,⟨hlt,λy hy=>by rw[x2]at hy;rcases Ax.1 hy with g|g;exact i2 y g;rw[An.1 g];exact c⟩,Ge,Gd,rfl,rfl,rfl,rfl⟩
 ·have hge:l.length<=i:=z0y (f:=Fu.enc) rfl hc;exact⟨sE (by rw[z16 p l 0 i2,Ad hge];rfl),Gd⟩
theorem sc_hasFu(fq:FuncId)(ws:List IV)(hent:tb.fn fq=true)(p:Fu->Bool)(l:List Fu)(hl:l.length<=4611686018427387904)(h:∀x∈l,SC Tryz.prog fq (.pv (.agg x.enc)::ws) [] (λk=>k∈[]) (iBool (p x)) []):SC Tryz.prog 99 [.pv (fus l),.fn (.func fq) [] ws] [] (λk=>k∈[]) (iBool (l.any p)) []:=by
 refine SC.vc tb {} [] Tryz.func99 rfl rfl ?_;exact⟨[],ym9 fq ws hent p l hl h,sR,Gd,rfl,sE (Af iBool (z5k p l 0 dC0)),Gd⟩
theorem ym8(fq:FuncId)(ws:List IV)(hent:tb.fn fq=true)(p:Ar->Bool)(l:List Ar)(hl:l.length<=4611686018427387904)(h:∀x∈l,SC Tryz.prog fq (.pv (.agg x.enc)::ws) [] (λk=>k∈[]) (iBool (p x)) []):SC Tryz.prog 144 [.pv (arrs l),.fn (.func fq) [] ws] [] (λk=>k∈[]) (iInt (idxP p l 0)) []:=by
 refine SC.vc tb {} [] Tryz.func144 rfl rfl ?_;refine⟨Nat,λi=>[(8,iInt ((i:Nat):Int))],λ_=>[],λi=>l.length-i,λi=>i<=l.length/\∀x∈l.take i,p x=false,[],0,⟨Ac _,λx hx=>by simp at hx⟩,Ge,Gd,?_⟩;rintro i ⟨i1,i2⟩;refine z00 (λhc=>?_) λhc=>?_
 ·have hlt:i<l.length:=z0x (f:=Ar.enc) rfl hc;obtain⟨x,x1,x2,x3,x4⟩:=z0o hlt;refine⟨y2s x1,rfl,z56 (b:=tb.fn fq) hent ⟨h x x4,sR,Gd,λk hk=>hk,rfl,rfl,z00 (λc=>?_) λc=>?_⟩⟩
  ·exact⟨sE (by rw[z16 p l 0 i2,x3,idxP,if_pos c,Dj]),Gd⟩
  ·exact⟨z01 rfl oM0,i+1,z03 hlt,⟨hlt,λy hy=>by rw[x2]at hy;rcases Ax.1 hy with g|g;exact i2 y g;rw[An.1 g];exact c⟩,Ge,Gd,rfl,rfl,rfl,rfl⟩
 ·have hge:l.length<=i:=z0y (f:=Ar.enc) rfl hc;exact⟨sE (by rw[z16 p l 0 i2,Ad hge];rfl),Gd⟩
theorem sc_hasAr(fq:FuncId)(ws:List IV)(hent:tb.fn fq=true)(p:Ar->Bool)(l:List Ar)(hl:l.length<=4611686018427387904)(h:∀x∈l,SC Tryz.prog fq (.pv (.agg x.enc)::ws) [] (λk=>k∈[]) (iBool (p x)) []):SC Tryz.prog 98 [.pv (arrs l),.fn (.func fq) [] ws] [] (λk=>k∈[]) (iBool (l.any p)) []:=by
 refine SC.vc tb {} [] Tryz.func98 rfl rfl ?_;exact⟨[],ym8 fq ws hent p l hl h,sR,Gd,rfl,sE (Af iBool (z5k p l 0 dC0)),Gd⟩
theorem sc_rowOf(op:Int):SC Tryz.prog 247 [iInt op] [] (λk=>k∈[]) (.pv (.agg [vStr (zo4 op),vInt (z4k op)])) []:=by
 refine SC.vc tb {} [] Tryz.func247 rfl rfl ?_;refine z00 (λc=>?_) λc=>z00 (λc2=>?_) λc2=>?_
 ·have h:op<0:=Am c;exact⟨sE (by simp[zo4,z4k,h];exact⟨rfl,rfl⟩),Gd⟩
 ·have h:op≥29:=Am c2;exact⟨sE (by simp[zo4,z4k,h];exact⟨rfl,rfl⟩),Gd⟩
 ·have h1:=Ak c;have h2:=Ak c2;rcases yx9 (op:=op) oM0 oM0 with rfl|rfl|rfl|rfl|rfl|rfl|rfl|rfl|rfl|rfl|rfl|rfl|rfl|rfl|rfl|rfl|rfl|rfl|rfl|rfl|rfl|rfl|rfl|rfl|rfl|rfl|rfl|rfl|rfl
  ·exact⟨(by decide:(0:Nat)<29),rfl,sI,Gd⟩
  ·exact⟨(by decide:(1:Nat)<29),rfl,sI,Gd⟩
  ·exact⟨(by decide:(2:Nat)<29),rfl,sI,Gd⟩
  ·exact⟨(by decide:(3:Nat)<29),rfl,sI,Gd⟩
  ·exact⟨(by decide:(4:Nat)<29),rfl,sI,Gd⟩
  ·exact⟨(by decide:(5:Nat)<29),rfl,sI,Gd⟩
  ·exact⟨(by decide:(6:Nat)<29),rfl,sI,Gd⟩
  ·exact⟨(by decide:(7:Nat)<29),rfl,sI,Gd⟩
  ·exact⟨(by decide:(8:Nat)<29),rfl,sI,Gd⟩
  ·exact⟨(by decide:(9:Nat)<29),rfl,sI,Gd⟩
  ·exact⟨(by decide:(10:Nat)<29),rfl,sI,Gd⟩
  ·exact⟨(by decide:(11:Nat)<29),rfl,sI,Gd⟩
  ·exact⟨(by decide:(12:Nat)<29),rfl,sI,Gd⟩
  ·exact⟨(by decide:(13:Nat)<29),rfl,sI,Gd⟩
  ·exact⟨(by decide:(14:Nat)<29),rfl,sI,Gd⟩
  ·exact⟨(by decide:(15:Nat)<29),rfl,sI,Gd⟩
  ·exact⟨(by decide:(16:Nat)<29),rfl,sI,Gd⟩
  ·exact⟨(by decide:(17:Nat)<29),rfl,sI,Gd⟩
  ·exact⟨(by decide:(18:Nat)<29),rfl,sI,Gd⟩
  ·exact⟨(by decide:(19:Nat)<29),rfl,sI,Gd⟩
  ·exact⟨(by decide:(20:Nat)<29),rfl,sI,Gd⟩
  ·exact⟨(by decide:(21:Nat)<29),rfl,sI,Gd⟩
  ·exact⟨(by decide:(22:Nat)<29),rfl,sI,Gd⟩
  ·exact⟨(by decide:(23:Nat)<29),rfl,sI,Gd⟩
  ·exact⟨(by decide:(24:Nat)<29),rfl,sI,Gd⟩
  ·exact⟨(by decide:(25:Nat)<29),rfl,sI,Gd⟩
  ·exact⟨(by decide:(26:Nat)<29),rfl,sI,Gd⟩
  ·exact⟨(by decide:(27:Nat)<29),rfl,sI,Gd⟩
  ·exact⟨(by decide:(28:Nat)<29),rfl,sI,Gd⟩
theorem y8o(op:Int):SC Tryz.prog 229 [iInt op] [] (λk=>k∈[]) (iInt (z4k op)) []:=by
 refine SC.vc tb {} [] Tryz.func229 rfl rfl ?_;exact⟨[],sc_rowOf op,sR,Gd,rfl,sI,Gd⟩
theorem y1r(n:Int):SC Tryz.prog 119 [.pv (.val (.int .i32 n))] [] (λ_=>False) (iBool (z4l n)) []:=by
 refine SC.anyR (SC.vc tb {} [] Tryz.func119 rfl rfl ?_);unfold z4l;refine z00 (λh1=>z00 (λh2=>⟨sE (by rw[h1,h2];rfl),Gd⟩) λh2=>?_) λh1=>?_
 ·refine z00 (λh3=>z00 (λh4=>⟨sE (by rw[h1,h2,h3,h4];rfl),Gd⟩) λh4=>⟨sE (by rw[h1,h2,h3,h4];rfl),Gd⟩) λh3=>⟨sE (by rw[h1,h2,h3];rfl),Gd⟩
 ·refine z00 (λh3=>z00 (λh4=>⟨sE (by rw[h1,h3,h4];rfl),Gd⟩) λh4=>⟨sE (by rw[h1,h3,h4];rfl),Gd⟩) λh3=>⟨sE (by rw[h1,h3];rfl),Gd⟩
theorem yu8(n:Int):SC Tryz.prog 168 [.pv (.val (.int .i32 n))] [] (λ_=>False) (iBool (z3z n)) []:=by
 refine SC.anyR (SC.vc tb {} [] Tryz.func168 rfl rfl ?_);unfold z3z;exact z00 (λh1=>⟨sE (by rw[h1];rfl),Gd⟩) λh1=>⟨sE (by rw[h1];rfl),Gd⟩
theorem j2x(s:ByteArray):SC Tryz.prog 121 [iStr s] [] (λ_=>False) (iBool (z1i s)) []:=by
 refine SC.anyR (SC.vc tb {} [] Tryz.func121 rfl rfl ?_);have N:∀{b:Bool}{P:Prop},b=true->b=false->P:=λh g=>by rw[h]at g;cases g
 have T:∀{b:Bool},b=true->SubI (iBool true) (iBool b):=λh=>sE (by rw[h]);exact z00 (λh=>z00 (λ_=>⟨T (by unfold z1i;rw[h];simp only[Bh,Bb]),Gd⟩) λg=>N h g) λh1=>z00 (λh=>z00 (λ_=>⟨T (by unfold z1i;rw[h];simp only[Bh,Bb]),Gd⟩) λg=>N h g) λh2=>z00 (λh=>z00 (λ_=>⟨T (by unfold z1i;rw[h];simp only[Bh,Bb]),Gd⟩) λg=>N h g) λh3=>z00 (λh=>z00 (λ_=>⟨T (by unfold z1i;rw[h];simp only[Bh,Bb]),Gd⟩) λg=>N h g) λh4=>z00 (λh=>z00 (λ_=>⟨T (by unfold z1i;rw[h];simp only[Bh,Bb]),Gd⟩) λg=>N h g) λh5=>z00 (λh=>z00 (λ_=>⟨T (by unfold z1i;rw[h];simp only[Bh,Bb]),Gd⟩) λg=>N h g) λh6=>z00 (λh=>z00 (λ_=>⟨T (by unfold z1i;rw[h];simp only[Bh,Bb]),Gd⟩) λg=>N h g) λh7=>z00 (λh=>z00 (λ_=>⟨T (by unfold z1i;rw[h];simp only[Bh,Bb]),Gd⟩) λg=>N h g) λh8=>z00 (λh=>z00 (λ_=>⟨T (by unfold z1i;rw[h];simp only[Bh,Bb]),Gd⟩) λg=>N h g) λh9=>z00 (λh=>z00 (λ_=>⟨T (by unfold z1i;rw[h];simp only[Bh,Bb]),Gd⟩) λg=>N h g) λh10=>z00 (λh=>z00 (λ_=>⟨T (by unfold z1i;rw[h];simp only[Bh,Bb]),Gd⟩) λg=>N h g) λh11=>z00 (λh=>z00 (λ_=>⟨T (by unfold z1i;rw[h];simp only[Bh,Bb]),Gd⟩) λg=>N h g) λh12=>z00 (λh=>z00 (λ_=>⟨T (by unfold z1i;rw[h];simp only[Bh,Bb]),Gd⟩) λg=>N h g) λh13=>z00 (λh=>z00 (λ_=>⟨T (by unfold z1i;rw[h];simp only[Bh,Bb]),Gd⟩) λg=>N h g) λh14=>z00 (λh=>z00 (λ_=>⟨T (by unfold z1i;rw[h];simp only[Bh,Bb]),Gd⟩) λg=>N h g) λh15=>z00 (λh=>z00 (λ_=>⟨T (by unfold z1i;rw[h];simp only[Bh,Bb]),Gd⟩) λg=>N h g) λh16=>z00 (λh=>z00 (λ_=>⟨T (by unfold z1i;rw[h];simp only[Bh,Bb]),Gd⟩) λg=>N h g) λh17=>z00 (λh=>⟨T (by unfold z1i;rw[h];simp only[Bh,Bb]),Gd⟩) λh18=>⟨sE (by unfold z1i;rw[h1,h2,h3,h4,h5,h6,h7,h8,h9,h10,h11,h12,h13,h14,h15,h16,h17,h18];rfl),Gd⟩
theorem sc_tkRun(s:ByteArray):SC Tryz.prog 120 [iStr s] [] (λ_=>False) (iStr (ys9 s)) []:=by
 refine SC.of Tryz.func120 rfl (Az rfl) λF ρ w=>?_;refine Tr.seq ?_;refine Tr.region rfl ?_;refine WL.consV rfl rfl rfl (z1r rfl rfl) ?_;refine WL.nil ?_;refine Tr.seq ?_;refine Tr.strRange rfl rfl rfl rfl rfl rfl rfl rfl Tryz.underlying9 rfl rfl rfl rfl rfl rfl rfl rfl rfl rfl rfl (λ_ h=>h) (λk fr=>(k<=s.toList.length/\(s.toList.take k).all isLD=true)/\fr=[(0,iStr s)]) ⟨[(0,iStr s)],Sub.of Ge,⟨Ac _,rfl⟩,rfl⟩ ?_ ?_
 ·skip;rintro b0 k _ hk ⟨hI,rfl⟩;refine Tr.seq ?_;refine Tr.region rfl ?_;refine WL.consV rfl rfl rfl (z13 rfl rfl) ?_;refine WL.consV rfl rfl rfl (z1r rfl rfl) ?_;refine WL.nil ?_;refine tRt ?_;refine rOk rfl ?_ nPo;have hall:s.toList.all isLD=true:=by
   have:=hI.2
   rwa [At (by rw[zz1];exact hk)]at this
  simp[ys9,hall]
 ·skip;rintro ρ2 w2 b0 k _ hk ⟨hI,rfl⟩;have hlt:k<s.toList.length:=by rw[zz1];exact hk
  refine tBk ?_;refine Tr.seq ?_;refine Tr.region rfl ?_;refine WL.consV rfl rfl rfl (z67 rfl rfl rfl) ?_;refine WL.consV rfl rfl rfl (z67 rfl rfl rfl) ?_;refine WL.consV rfl rfl rfl (z1r rfl rfl) ?_;refine WL.consV rfl rfl rfl (z1r rfl rfl) ?_;refine WL.nil ?_;refine Tr.seq ?_;refine Tr.region rfl ?_;refine WL.consV rfl rfl rfl (z13 rfl rfl) ?_;refine WL.cons rfl rfl rfl (zl8 (y1r _) ent119 rfl rfl (sRf _ _) rfl) ?_;refine WL.consV rfl rfl rfl (yk9 rfl rfl) ?_;refine WL.consV rfl rfl rfl (z13 rfl rfl) ?_;refine WL.split (t:=14) rfl (λhb14=>?_) (λhb14=>?_)
  ·skip;refine WL.yesV rfl rfl rfl rfl rfl rfl (z13 rfl rfl) ?_;refine WL.yes rfl rfl rfl rfl rfl rfl (zl8 (yu8 _) ent168 rfl rfl (sRf _ _) rfl) ?_;refine WL.yesV rfl rfl rfl rfl rfl rfl (yk9 rfl rfl) ?_;refine WL.consV rfl rfl rfl (z5d rfl rfl rfl) ?_;refine WL.nil ?_;refine Tr.cond rfl (λhc18=>?_) (λhc18=>?_)
   ·skip;refine Tr.seq ?_;refine Tr.region rfl ?_;refine WL.consV rfl rfl rfl (z13 rfl rfl) ?_;refine WL.consV rfl rfl rfl (z13 rfl rfl) ?_;refine WL.consV rfl rfl rfl (zu3 rfl rfl Tryz.underlying9 (.inl ⟨rfl,rfl⟩) (.inr ⟨_,_,rfl,rfl⟩) oM0 (Fx (by assumption))) ?_;refine WL.consV rfl rfl rfl (z1r rfl rfl) ?_;refine WL.nil ?_;refine tRt ?_;refine rOk rfl ?_ nPo;have hld:y2f (Utf8.decode s k).1=false:=by
     simp only[y2f]
     first
     |(simp_all;done)
     |(clear hI;simp_all)
    rw[runOf_at hI.2 (A9 hlt) ((zz8 hlt).2 hld)]
   ·skip;refine tSk ?_;refine⟨rfl,[(0,iStr s)],Sub.of Gf,?_,rfl⟩;have hld:y2f (Utf8.decode s k).1=true:=by
     simp only[y2f]
     first
     |(simp_all;done)
     |(clear hI;simp_all)
    obtain⟨hw1,hb1⟩:=(zz8 hlt).1 hld;rw[hw1];exact⟨by omega,by rw[List.take_succ_eq_append_getElem hlt,List.all_append,hI.2];simp[hb1]⟩
  ·skip;refine WL.no (b:=false) rfl rfl rfl rfl rfl rfl ?_;refine WL.no (b:=false) rfl rfl rfl rfl rfl rfl ?_;refine WL.no (b:=false) rfl rfl rfl rfl rfl rfl ?_;refine WL.consV rfl rfl rfl (z1g rfl rfl rfl) ?_;refine WL.nil ?_;refine Tr.condF rfl ?_;refine tSk ?_;refine⟨rfl,[(0,iStr s)],Sub.of Gf,?_,rfl⟩;have hld:y2f (Utf8.decode s k).1=true:=by
    simp only[y2f]
    first
    |(simp_all;done)
    |(clear hI;simp_all)
   obtain⟨hw1,hb1⟩:=(zz8 hlt).1 hld;rw[hw1];exact⟨by omega,by rw[List.take_succ_eq_append_getElem hlt,List.all_append,hI.2];simp[hb1]⟩
theorem z7u(s:ByteArray):SC Tryz.prog 67 [iStr s] [] (λ_=>False) (iBool (z0k s)) []:=by
 refine SC.of Tryz.func67 rfl (Az rfl) λF ρ w=>?_;refine Tr.seq ?_;refine Tr.region rfl ?_;refine WL.consV rfl rfl rfl (z1r rfl rfl) ?_;refine WL.nil ?_;refine Tr.seq ?_;refine Tr.region rfl ?_;refine WL.consV rfl rfl rfl (z13 rfl rfl) ?_;refine WL.consV rfl rfl rfl (bSt rfl rfl rfl rfl) ?_;refine WL.consV rfl rfl rfl (z13 rfl rfl) ?_;refine WL.split (t:=5) rfl (λhb5=>?_) (λhb5=>?_)
 ·skip;have hne:s.toList≠[]:=by simpa using hb5
  obtain⟨b0,r0,hs0⟩:=C2 hne;have hi0:s[0]?=some b0:=by rw[y2t (i:=0) (by rw[hs0];simp)];simp[hs0]
  have hw0:IntKind.i32.wrap (b0.toNat:Int)=b0.toNat:=by
   have:b0.toNat<256:=b0.toNat_lt;simp[IntKind.wrap,IntKind.bits,IntKind.signed];omega
  have hre:=runOf_eq s;refine WL.yesV rfl rfl rfl rfl rfl rfl (z13 rfl rfl) ?_;refine WL.yesV rfl rfl rfl rfl rfl rfl (zu1 rfl rfl rfl Tryz.underlying9 (by assumption) (by first|rfl|omega)) ?_;refine WL.yesV rfl rfl rfl rfl rfl rfl (y0q rfl rfl ⟨_,Tryz.underlying5⟩ Tryz.underlying21) ?_;refine WL.yes rfl rfl rfl rfl rfl rfl (zl8 (y1r _) ent119 rfl rfl (sRf _ _) rfl) ?_;refine WL.consV rfl rfl rfl (z5d rfl rfl rfl) ?_;refine WL.consV rfl rfl rfl (z13 rfl rfl) ?_;refine WL.split (t:=11) rfl (λhb11=>?_) (λhb11=>?_)
  ·skip;refine WL.yesV rfl rfl rfl rfl rfl rfl (z13 rfl rfl) ?_;refine WL.yes rfl rfl rfl rfl rfl rfl (zl8 (sc_tkRun s) ent120 rfl rfl (sRf _ _) rfl) ?_;refine WL.yesV rfl rfl rfl rfl rfl rfl (z13 rfl rfl) ?_;refine WL.yesV rfl rfl rfl rfl rfl rfl (bSt rfl rfl rfl rfl) ?_;refine WL.consV rfl rfl rfl (z5d rfl rfl rfl) ?_;refine WL.consV rfl rfl rfl (z13 rfl rfl) ?_;refine WL.split (t:=17) rfl (λhb17=>?_) (λhb17=>?_)
   ·skip;refine WL.yesV rfl rfl rfl rfl rfl rfl (z13 rfl rfl) ?_;refine WL.yesV rfl rfl rfl rfl rfl rfl (y3h rfl rfl Tryz.underlying9) ?_;refine WL.yesV rfl rfl rfl rfl rfl rfl (z4n rfl rfl rfl rfl) ?_;refine WL.consV rfl rfl rfl (z5d rfl rfl rfl) ?_;refine WL.consV rfl rfl rfl (z13 rfl rfl) ?_;refine WL.split (t:=22) rfl (λhb22=>?_) (λhb22=>?_)
    ·skip;refine WL.yesV rfl rfl rfl rfl rfl rfl (z13 rfl rfl) ?_;refine WL.yes rfl rfl rfl rfl rfl rfl (zl8 (j2x s) ent121 rfl rfl (sRf _ _) rfl) ?_;refine WL.yesV rfl rfl rfl rfl rfl rfl (yk9 rfl rfl) ?_;refine WL.consV rfl rfl rfl (z5d rfl rfl rfl) ?_;refine WL.consV rfl rfl rfl (z1r rfl rfl) ?_;refine WL.nil ?_;refine tRt ?_;refine rOk rfl ?_ nPo;refine Af (λb=>iBool b) ?_
     first
     |(simp_all[z0k];done)
     |(simp_all[z0k]<;>omega)
    ·skip;refine WL.no (b:=false) rfl rfl rfl rfl rfl rfl ?_;refine WL.no (b:=false) rfl rfl rfl rfl rfl rfl ?_;refine WL.no (b:=false) rfl rfl rfl rfl rfl rfl ?_;refine WL.consV rfl rfl rfl (z1g rfl rfl rfl) ?_;refine WL.consV rfl rfl rfl (z1r rfl rfl) ?_;refine WL.nil ?_;refine tRt ?_;refine rOk rfl ?_ nPo;refine Af (λb=>iBool b) ?_
     first
     |(simp_all[z0k];done)
     |(simp_all[z0k]<;>omega)
   ·skip;refine WL.no (b:=false) rfl rfl rfl rfl rfl rfl ?_;refine WL.no (b:=false) rfl rfl rfl rfl rfl rfl ?_;refine WL.no (b:=false) rfl rfl rfl rfl rfl rfl ?_;refine WL.consV rfl rfl rfl (z1g rfl rfl rfl) ?_;refine WL.consV rfl rfl rfl (z13 rfl rfl) ?_;refine WL.no (b:=false) rfl rfl rfl rfl rfl rfl ?_;refine WL.no (b:=false) rfl rfl rfl rfl rfl rfl ?_;refine WL.no (b:=false) rfl rfl rfl rfl rfl rfl ?_;refine WL.consV rfl rfl rfl (z1g rfl rfl rfl) ?_;refine WL.consV rfl rfl rfl (z1r rfl rfl) ?_;refine WL.nil ?_;refine tRt ?_;refine rOk rfl ?_ nPo;refine Af (λb=>iBool b) ?_
    first
    |(simp_all[z0k];done)
    |(simp_all[z0k]<;>omega)
  ·skip;refine WL.no (b:=false) rfl rfl rfl rfl rfl rfl ?_;refine WL.no (b:=false) rfl rfl rfl rfl rfl rfl ?_;refine WL.no (b:=false) rfl rfl rfl rfl rfl rfl ?_;refine WL.no (b:=false) rfl rfl rfl rfl rfl rfl ?_;refine WL.consV rfl rfl rfl (z1g rfl rfl rfl) ?_;refine WL.consV rfl rfl rfl (z13 rfl rfl) ?_;refine WL.no (b:=false) rfl rfl rfl rfl rfl rfl ?_;refine WL.no (b:=false) rfl rfl rfl rfl rfl rfl ?_;refine WL.no (b:=false) rfl rfl rfl rfl rfl rfl ?_;refine WL.consV rfl rfl rfl (z1g rfl rfl rfl) ?_;refine WL.consV rfl rfl rfl (z13 rfl rfl) ?_;refine WL.no (b:=false) rfl rfl rfl rfl rfl rfl ?_;refine WL.no (b:=false) rfl rfl rfl rfl rfl rfl ?_;refine WL.no (b:=false) rfl rfl rfl rfl rfl rfl ?_;refine WL.consV rfl rfl rfl (z1g rfl rfl rfl) ?_;refine WL.consV rfl rfl rfl (z1r rfl rfl) ?_;refine WL.nil ?_;refine tRt ?_;refine rOk rfl ?_ nPo;refine Af (λb=>iBool b) ?_
   first
   |(simp_all[z0k];done)
   |(simp_all[z0k]<;>omega)
 ·skip;refine WL.no (b:=false) rfl rfl rfl rfl rfl rfl ?_;refine WL.no (b:=false) rfl rfl rfl rfl rfl rfl ?_;refine WL.no (b:=false) rfl rfl rfl rfl rfl rfl ?_;refine WL.no (b:=false) rfl rfl rfl rfl rfl rfl ?_;refine WL.consV rfl rfl rfl (z1g rfl rfl rfl) ?_;refine WL.consV rfl rfl rfl (z13 rfl rfl) ?_;refine WL.no (b:=false) rfl rfl rfl rfl rfl rfl ?_;refine WL.no (b:=false) rfl rfl rfl rfl rfl rfl ?_;refine WL.no (b:=false) rfl rfl rfl rfl rfl rfl ?_;refine WL.no (b:=false) rfl rfl rfl rfl rfl rfl ?_;refine WL.consV rfl rfl rfl (z1g rfl rfl rfl) ?_;refine WL.consV rfl rfl rfl (z13 rfl rfl) ?_;refine WL.no (b:=false) rfl rfl rfl rfl rfl rfl ?_;refine WL.no (b:=false) rfl rfl rfl rfl rfl rfl ?_;refine WL.no (b:=false) rfl rfl rfl rfl rfl rfl ?_;refine WL.consV rfl rfl rfl (z1g rfl rfl rfl) ?_;refine WL.consV rfl rfl rfl (z13 rfl rfl) ?_;refine WL.no (b:=false) rfl rfl rfl rfl rfl rfl ?_;refine WL.no (b:=false) rfl rfl rfl rfl rfl rfl ?_;refine WL.no (b:=false) rfl rfl rfl rfl rfl rfl ?_;refine WL.consV rfl rfl rfl (z1g rfl rfl rfl) ?_;refine WL.consV rfl rfl rfl (z1r rfl rfl) ?_;refine WL.nil ?_;refine tRt ?_;refine rOk rfl ?_ nPo;refine Af (λb=>iBool b) ?_
  first
  |(simp_all[z0k];done)
  |(simp_all[z0k]<;>omega)
theorem y1s(t:Int):SC Tryz.prog 147 [.pv (.val (.int .i64 t))] [] (λk=>k∈[]) (iBool (rTy t)) []:=by
 refine SC.vc tb {} [] Tryz.func147 rfl rfl ?_;unfold rTy;exact z00 (λh=>⟨sE (by rw[h];rfl),Gd⟩) λh=>⟨sE (by rw[h];rfl),Gd⟩
theorem y46(k:Int)(nm:ByteArray)(hn:nm.toList=[]):SC Tryz.prog 250 [.pv (.agg [vInt k,vInt 0,vInt 0,vStr nm,.val (.slice none 0 0)])] [] (λk=>k∈[]) (iBool true) []:=by
 refine SC.vc tb {} [] Tryz.func250 rfl rfl ?_;exact z00 (λ_=>⟨sI,Gd⟩) λh=>absurd h (by simp[hn])
theorem y3m{k o n:Int}{nm:ByteArray}{len:Nat}(h:rOwn k o n nm len=true) :
 (k=1/\o=0/\0<=n/\nm.toList=[]/\len=0)∨(k=2/\o=0/\(n=0∨n=1)/\nm.toList=[]/\len=0)∨(k=3/\o=0/\n=0/\z0k nm=true/\len=0)∨(k=4/\z2y o=true/\n=0/\nm.toList=[]/\len=1) ∨
 (k=5/\z4k o > 0/\n=0/\nm.toList=[]/\len=2)∨(k=6/\o=0/\n=0/\z0k nm=true/\len=1)∨(k=7/\o=0/\n=0/\z0k nm=true/\len<=8)∨(k=8/\o=0/\n=0/\nm.toList=[]/\len=0):=by
 unfold rOwn at h;split at h
 ·rename_i e;simp at h;exact .inl ⟨e,h.1.1.1,h.1.1.2,by simpa using h.1.2,h.2⟩
 split at h
 ·rename_i e;simp at h;exact .inr (.inl ⟨e,h.1.1.1,h.1.1.2,by simpa using h.1.2,h.2⟩)
 split at h
 ·rename_i e;simp at h;exact .inr (.inr (.inl ⟨e,h.1.1.1,h.1.1.2,h.1.2,h.2⟩))
 split at h
 ·rename_i e;simp at h;exact .inr (.inr (.inr (.inl ⟨e,h.1.1.1,h.1.1.2,by simpa using h.1.2,h.2⟩)))
 split at h
 ·rename_i e;simp at h;exact .inr (.inr (.inr (.inr (.inl ⟨e,h.1.1.1,h.1.1.2,by simpa using h.1.2,h.2⟩))))
 split at h
 ·rename_i e;simp at h;exact .inr (.inr (.inr (.inr (.inr (.inl ⟨e,h.1.1.1,h.1.1.2,h.1.2,h.2⟩)))))
 split at h
 ·rename_i e;simp at h;exact .inr (.inr (.inr (.inr (.inr (.inr (.inl ⟨e,h.1.1.1,h.1.1.2,h.1.2,h.2⟩))))))
 split at h
 ·rename_i e;simp at h;exact .inr (.inr (.inr (.inr (.inr (.inr (.inr ⟨e,h.1.1.1,h.1.1.2,by simpa using h.1.2,h.2⟩))))))
 ·cases h
theorem sc_trOwn(k o n:Int)(nm:ByteArray)(args:List Ex)(h:rOwn k o n nm args.length=true):SC Tryz.prog 237 [.pv (.agg [vInt k,vInt o,vInt n,vStr nm,exs args])] [] (λk=>k∈[]) (.tup [iInt args.length,iBool true]) []:=by
 refine SC.vc tb { pb:=[101] } [] Tryz.func237 rfl rfl ?_;have hb:=λk h=>y46 k nm h;have hb0:=λk=>y46 k ⟨#[]⟩ sI0;have hN:=z7u nm;rcases y3m h with⟨rfl,rfl,h1,h2,h3⟩|⟨rfl,rfl,h1,h2,h3⟩|⟨rfl,rfl,rfl,h2,h3⟩|⟨rfl,h1,rfl,h2,h3⟩|⟨rfl,h1,rfl,h2,h3⟩|⟨rfl,rfl,rfl,h2,h3⟩|⟨rfl,rfl,rfl,h2,h3⟩|⟨rfl,rfl,rfl,h2,h3⟩
 ·exact z00 (λ_=>⟨[],hb 1 h2,sR,Gd,rfl,sE (by rw[h3];rfl),Gd⟩) λc=>absurd (Ak c) oM0
 ·rcases h1 with rfl|rfl
  ·exact⟨[],hb 2 h2,sR,Gd,rfl,sE (by rw[h3];rfl),Gd⟩
  ·exact⟨[],hb 2 h2,sR,Gd,rfl,sE (by rw[h3];rfl),Gd⟩
 ·exact⟨[],hN,sR,Gd,rfl,z00 (λ_=>⟨[],hb0 3,sR,Gd,rfl,sE (by rw[h3];rfl),Gd⟩) λc=>by rw[h2]at c;cases c⟩
 ·have h4:20<=o/\o<=28:=by unfold z2y at h1;simpa using h1
  exact z00 (λ_=>z00 (λ_=>⟨[],hb 4 h2,sR,Gd,rfl,sE (by rw[h3];rfl),Gd⟩) λc=>absurd (Ak c) oM0) λc=>absurd (Ak c) oM0
 ·exact⟨[],y8o o,sR,Gd,rfl,z00 (λ_=>⟨[],hb 5 h2,sR,Gd,rfl,sE (by rw[h3];rfl),Gd⟩) λc=>absurd (Ak c) oM0⟩
 ·exact⟨[],hN,sR,Gd,rfl,z00 (λ_=>⟨[],hb0 6,sR,Gd,rfl,sE (by rw[h3];rfl),Gd⟩) λc=>by rw[h2]at c;cases c⟩
 ·exact⟨[],hN,sR,Gd,rfl,z00 (λ_=>⟨[],hb0 7,sR,Gd,rfl,sE (by rw[A8,show decide ((args.length:Int)<=8)=true from Cb oM0]),Gd⟩) λc=>by rw[h2]at c;cases c⟩
 ·exact⟨[],hb 8 h2,sR,Gd,rfl,sE (by rw[h3];rfl),Gd⟩
theorem y5q{x:Ex}{most:Int}:∀{l:List Ex},rxL l most=true->x∈l->2<=most/\rx x (most-1)=true
 |y::r,h,hm=>by
  simp only[rxL,A0,Bg,C8]at h;rcases Aj.1 hm with rfl|hm
  ·exact⟨by omega,h.1.2⟩
  ·exact y5q h.2 hm
theorem zo7{α:Type}{p:α -> Bool}{l:List α}(h:∀x∈l,p x=true):l.any (λx=>!p x)=false:=by
 rw[List.any_eq_false];intro x hx;simp[h x hx]
theorem y8l:∀(N:Nat)(e:Ex),SizeOf.sizeOf e<N->xz e<=1073741824->∀most:Int,1<=most->most<=100->rx e most=true->SC Tryz.prog 212 [.pv (exv e),.pv (.val (.int .i64 most))] [] (λk=>k∈[]) (iBool true) []
 |0,_,h,_,_,_,_,_=>absurd h (Al _)
 |N+1,.mk k o n nm args,hN,hx,most,h0,h1,hr=>by
  refine SC.vc tb { pb:=[102,103] } [] Tryz.func212 rfl rfl ?_;have hl:=zb0 args;simp only[xz]at hx;rw[rx,A0]at hr;have hc:=ym7 238 [.pv (.ept [vInt most] 0)] rfl (λx=>!rx x (most-1)) args oM0 (λx hm=>by
   obtain⟨g1,g2⟩:=y5q hr.1 hm;have hxx:=zg8 hm;have hsz:SizeOf.sizeOf x<N:=by have:=Bq hm;simp at hN;omega
   refine SC.vc tb { pb:=[102] } [] Tryz.func238 rfl rfl ?_;exact⟨z2x rfl oM0,[],y8l N x hsz oM0 (most-1) oM0 oM0 g2,sR,Gd,rfl,sE (by rw[g2]),Gd⟩)
  rw[zo7 λx hm=>(y5q hr.1 hm).2]at hc;exact⟨[],sc_trOwn k o n nm args hr.2,sR,Gd,rfl,z00 (λ_=>z00 (λ_=>⟨[],hc,sR,Gd,rfl,sI,Gd⟩) λc=>absurd c (by simp[Ex.args])) λc=>absurd (Ak c) oM0⟩
theorem kyQ{d:TypeDesc}{es:List (Value×PV)}(h:(es.all λe=>z1v d e.1)=true):∀e∈es,z1v d e.1=true:=Bi.1 h
theorem sFn{f:Fn}:SubA [.pv (.val (.func f #[] #[]))] [.fn f [] []]:=SubA.cons (λ_ _ _ _ _ h=>sub_func h) SubA.nil
def trV(t n:Bool)(a:Int)(th ot:Bool):PV:=.agg [.val (.bool t),.val (.bool n),vInt a,.val (.bool th),.val (.bool ot)]
def trTab:List (Value×PV):=[(.int .i64 1,trV true true 1 false false),(.int .i64 2,trV false true 1 false false),(.int .i64 3,trV false true 2 false false),(.int .i64 4,trV false false 1 true true),(.int .i64 5,trV false false 1 true false),
 (.int .i64 6,trV false false 0 false false),(.int .i64 7,trV false false 0 false false),(.int .i64 8,trV false false 1 false false),(.int .i64 9,trV false false 1 false false),(.int .i64 10,trV false false 1 false false)]
theorem yf1:SC Tryz.prog 209 [] [] (λk=>k∈[]) (.mp 1) [(1,.map trTab)]:=by
 refine SC.vc tb { ids:=[(3,1)],pb:=[101] } [] Tryz.func209 rfl rfl ?_;exact⟨rfl,kyQ rfl,rfl,kyQ rfl,rfl,kyQ rfl,rfl,kyQ rfl,rfl,kyQ rfl,rfl,kyQ rfl,rfl,kyQ rfl,rfl,kyQ rfl,rfl,kyQ rfl,rfl,kyQ rfl,sI,rfl,Gd⟩
theorem rTy_of{ty:Int}(h:¬ty=1->ty=2):rTy ty=true:=by
 unfold rTy;by_cases e:ty=1
 ·simp[e]
 ·simp[h e]
theorem zm5{k ty:Int}{nm:ByteArray}{args:List Ex}{thn els:List St}{most:Int}(h:ys1 k ty nm args.length most=false)(ht:j1e k args thn.length els.length=false) :
 1<=most/\((k=1/\rTy ty=true/\z0k nm=true/\(∃e,args=[e])/\thn=[]/\els=[])∨(k=2/\ty=0/\z0k nm=true/\(∃e,args=[e])/\thn=[]/\els=[])∨(k=3/\ty=0/\z0k nm=true/\(∃e e2,args=[e,e2])/\thn=[]/\els=[]) ∨
  (k=4/\ty=0/\nm.toList=[]/\(∃e,args=[e]))∨(k=5/\ty=0/\nm.toList=[]/\(∃e,args=[e])/\els=[])∨(k=6/\ty=0/\nm.toList=[]/\args=[]/\thn=[]/\els=[])∨(k=7/\ty=0/\nm.toList=[]/\args=[]/\thn=[]/\els=[]) ∨
  (k=8/\ty=0/\nm.toList=[]/\(∃e,args=[e])/\thn=[]/\els=[])∨(k=9/\ty=0/\nm.toList=[]/\(∃e,args=[e])/\thn=[]/\els=[])∨(k=10/\ty=0/\nm.toList=[]/\(∃e,args=[e]/\e.kind=7)/\thn=[]/\els=[])):=by
 unfold ys1 at h;unfold j1e at ht;simp only[Bu]at h ht;obtain⟨⟨⟨⟨⟨h1,h2⟩,h3⟩,h4⟩,h5⟩,h6⟩:=h;obtain⟨⟨t1,t2⟩,t3⟩:=ht;refine⟨by have:=Ak h1;omega,?_⟩;have l0:∀l:List St,decide (0<l.length)=false->l=[]:=λl hl=>by have:=Ak hl;exact List.length_eq_zero_iff.1 oM0
 have a1:(args.length:Int)=1->∃e,args=[e]:=λha=>Ce.1 oM0;have a2:(args.length:Int)=2->∃e e2,args=[e,e2]:=λha=>by
  match args,ha with
  |[x,y],_=>exact⟨x,y,rfl⟩
  |[],ha=>simp at ha
  |[x],ha=>simp at ha
  |x::y::z::r,ha=>simp at ha;omega
 have hcase:k=1∨k=2∨k=3∨k=4∨k=5∨k=6∨k=7∨k=8∨k=9∨k=10∨(k≠1/\k≠2/\k≠3/\k≠4/\k≠5/\k≠6/\k≠7/\k≠8/\k≠9/\k≠10):=by omega
 rcases hcase with rfl|rfl|rfl|rfl|rfl|rfl|rfl|rfl|rfl|rfl|hk
 ·exact .inl ⟨rfl,rTy_of (by simpa[shp]using h3),by simpa[shp]using h5,a1 (by simpa[shp]using h2),l0 _ (by simpa[shp]using t2),l0 _ (by simpa[shp]using t3)⟩
 ·exact .inr (.inl ⟨rfl,by simpa[shp]using h4,by simpa[shp]using h5,a1 (by simpa[shp]using h2),l0 _ (by simpa[shp]using t2),l0 _ (by simpa[shp]using t3)⟩)
 ·exact .inr (.inr (.inl ⟨rfl,by simpa[shp]using h4,by simpa[shp]using h5,a2 (by simpa[shp]using h2),l0 _ (by simpa[shp]using t2),l0 _ (by simpa[shp]using t3)⟩))
 ·exact .inr (.inr (.inr (.inl ⟨rfl,by simpa[shp]using h4,by simpa[shp]using h6,a1 (by simpa[shp]using h2)⟩)))
 ·exact .inr (.inr (.inr (.inr (.inl ⟨rfl,by simpa[shp]using h4,by simpa[shp]using h6,a1 (by simpa[shp]using h2),l0 _ (by simpa[shp]using t3)⟩))))
 ·exact .inr (.inr (.inr (.inr (.inr (.inl ⟨rfl,by simpa[shp]using h4,by simpa[shp]using h6,by simpa[shp]using h2,l0 _ (by simpa[shp]using t2),l0 _ (by simpa[shp]using t3)⟩)))))
 ·exact .inr (.inr (.inr (.inr (.inr (.inr (.inl ⟨rfl,by simpa[shp]using h4,by simpa[shp]using h6,by simpa[shp]using h2,l0 _ (by simpa[shp]using t2),l0 _ (by simpa[shp]using t3)⟩))))))
 ·exact .inr (.inr (.inr (.inr (.inr (.inr (.inr (.inl ⟨rfl,by simpa[shp]using h4,by simpa[shp]using h6,a1 (by simpa[shp]using h2),l0 _ (by simpa[shp]using t2),l0 _ (by simpa[shp]using t3)⟩)))))))
 ·exact .inr (.inr (.inr (.inr (.inr (.inr (.inr (.inr (.inl ⟨rfl,by simpa[shp]using h4,by simpa[shp]using h6,a1 (by simpa[shp]using h2),l0 _ (by simpa[shp]using t2),l0 _ (by simpa[shp]using t3)⟩))))))))
 ·obtain⟨e,rfl⟩:=a1 (by simpa[shp]using h2);exact .inr (.inr (.inr (.inr (.inr (.inr (.inr (.inr (.inr ⟨rfl,by simpa[shp]using h4,by simpa[shp]using h6,⟨e,rfl,by simpa using t1⟩,l0 _ (by simpa[shp]using t2),l0 _ (by simpa[shp]using t3)⟩))))))))
 ·exfalso;have hs:shp k=(false,false,-1,false,false):=by
   unfold shp;rw[if_neg oM0,if_neg oM0,if_neg oM0,if_neg oM0,if_neg oM0,if_neg oM0,if_neg oM0]
  rw[hs]at h2;simp at h2
  try omega
theorem sc_trNot(e:Ex)(hx:xz e<=1073741824)(hr:rx e 100=true):SC Tryz.prog 211 [.pv (exv e)] [] (λk=>k∈[]) (iBool (!rx e 100)) []:=by
 refine SC.vc tb { pb:=[101] } [] Tryz.func211 rfl rfl ?_;exact⟨[],y8l _ e (Ab _) hx 100 dC0 dC0 hr,sR,Gd,rfl,sE (by rw[hr]),Gd⟩
theorem y1f{x:St}{most:Int}:∀{l:List St},rsL l most=true->x∈l->rst x most=true
 |y::r,h,hm=>by
  simp only[rsL,A0]at h;rcases Aj.1 hm with rfl|hm
  ·exact h.1
  ·exact y1f h.2 hm
theorem j2y(x:St)(hx:sz x<=1073741824)(most:Int)(h0:most<=100)(hr:rst x most=true)
 (ih:∀l:List St,l=x.thn∨l=x.els->1<=most->SC Tryz.prog 149 [.pv (sts l),.pv (.val (.int .i64 (most-1)))] [] (λk=>k∈[]) (iBool true) []) :
 SC Tryz.prog 186 [.pv (stv x),.pv (.val (.int .i64 most))] [] (λk=>k∈[]) (iBool true) []:=by
 refine SC.vc tb { pb:=[102,105] } [] Tryz.func186 rfl rfl ?_;rw[y3s]at hr;simp only[A0,Bg]at hr;obtain⟨⟨⟨⟨r1,r2⟩,r3⟩,_⟩,_⟩:=hr;rw[y2p]at hx;have hl:=zb0 x.args;have hA:=ym7 211 [] rfl (λe=>!rx e 100) x.args oM0 (λe he=>sc_trNot e (by have:=zg8 he;omega) (Bi.1 r2 e he));rw[zo7 λe he=>Bi.1 r2 e he]at hA;obtain⟨h1,hc⟩:=zm5 r1 r3;have i1:=ih x.thn (.inl rfl) h1;have i2:=ih x.els (.inr rfl) h1;have hs:z3d .sub .i64 most 1=some (.int .i64 (most-1)):=z2x rfl oM0;have hN:=z7u x.name;have hT:=y1s x.ty;clear ih r1 r2 r3 hl;obtain⟨k,ty,nm,args,thn,els⟩:=x;simp only[St.kind,St.ty,St.name,St.args,St.thn,St.els]at *
 rcases hc with⟨rfl,t,n,⟨e,rfl⟩,rfl,rfl⟩|⟨rfl,rfl,n,⟨e,rfl⟩,rfl,rfl⟩|⟨rfl,rfl,n,⟨e,e2,rfl⟩,rfl,rfl⟩|⟨rfl,rfl,n,⟨e,rfl⟩⟩|⟨rfl,rfl,n,⟨e,rfl⟩,rfl⟩|⟨rfl,rfl,n,rfl,rfl,rfl⟩|⟨rfl,rfl,n,rfl,rfl,rfl⟩|⟨rfl,rfl,n,⟨e,rfl⟩,rfl,rfl⟩|⟨rfl,rfl,n,⟨e,rfl⟩,rfl,rfl⟩|⟨rfl,rfl,n,⟨e,rfl,e7⟩,rfl,rfl⟩
 all_goals refine⟨[],yf1,sR,Gd,rfl,rfl,kyQ rfl,rfl,z00 (λc=>absurd (Am c) oM0) λ_=>?_⟩
 ·rw[t]at hT;rw[n]at hN;exact⟨[],hT,sR,Gd,rfl,[],hN,sR,Gd,rfl,[],hA,SubA.same sFn,Gd,rfl,hs,[],i1,sR,Gd,rfl,hs,[],i2,sR,Gd,rfl,sI,Gd⟩
 ·rw[n]at hN;exact⟨[],hN,sR,Gd,rfl,[],hA,SubA.same sFn,Gd,rfl,hs,[],i1,sR,Gd,rfl,hs,[],i2,sR,Gd,rfl,sI,Gd⟩
 ·rw[n]at hN;exact⟨[],hN,sR,Gd,rfl,[],hA,SubA.same sFn,Gd,rfl,hs,[],i1,sR,Gd,rfl,hs,[],i2,sR,Gd,rfl,sI,Gd⟩
 ·exact z00 (λc=>absurd c (by simp[St.name,n])) λ_=>⟨[],hA,SubA.same sFn,Gd,rfl,hs,[],i1,sR,Gd,rfl,hs,[],i2,sR,Gd,rfl,sI,Gd⟩
 ·exact z00 (λc=>absurd c (by simp[St.name,n])) λ_=>⟨[],hA,SubA.same sFn,Gd,rfl,hs,[],i1,sR,Gd,rfl,hs,[],i2,sR,Gd,rfl,sI,Gd⟩
 ·exact z00 (λc=>absurd c (by simp[St.name,n])) λ_=>⟨[],hA,SubA.same sFn,Gd,rfl,hs,[],i1,sR,Gd,rfl,hs,[],i2,sR,Gd,rfl,sI,Gd⟩
 ·exact z00 (λc=>absurd c (by simp[St.name,n])) λ_=>⟨[],hA,SubA.same sFn,Gd,rfl,hs,[],i1,sR,Gd,rfl,hs,[],i2,sR,Gd,rfl,sI,Gd⟩
 ·exact z00 (λc=>absurd c (by simp[St.name,n])) λ_=>⟨[],hA,SubA.same sFn,Gd,rfl,hs,[],i1,sR,Gd,rfl,hs,[],i2,sR,Gd,rfl,sI,Gd⟩
 ·exact z00 (λc=>absurd c (by simp[St.name,n])) λ_=>⟨[],hA,SubA.same sFn,Gd,rfl,hs,[],i1,sR,Gd,rfl,hs,[],i2,sR,Gd,rfl,sI,Gd⟩
 ·exact z00 (λc=>absurd c (by simp[St.name,n])) λ_=>⟨z1c (i:=0) rfl,rfl,z00 (λc=>absurd c (by simp[St.name,e7])) λ_=>⟨[],hA,SubA.same sFn,Gd,rfl,hs,[],i1,sR,Gd,rfl,hs,[],i2,sR,Gd,rfl,sI,Gd⟩⟩
theorem zs0:∀(N:Nat)(l:List St),SizeOf.sizeOf l<N->szL l<=1073741824->∀most:Int,0<=most->most<=100->rsL l most=true->SC Tryz.prog 149 [.pv (sts l),.pv (.val (.int .i64 most))] [] (λk=>k∈[]) (iBool true) []
 |0,_,h,_,_,_,_,_=>absurd h (Al _)
 |N+1,l,hN,hx,most,h0,h1,hr=>by
  refine SC.vc tb { pb:=[103] } [] Tryz.func149 rfl rfl ?_;have hl:=z8j l;have hc:=y5x 185 [.pv (.ept [vInt most] 0)] rfl (λx=>!rst x most) l oM0 (λx hm=>by
   have g:=y1f hr hm;have hxx:=zv8 hm;have hsz:SizeOf.sizeOf x.thn<N/\SizeOf.sizeOf x.els<N:=by have:=Bq hm;have:=zs4 x;omega
   have hsz2:szL x.thn<=1073741824/\szL x.els<=1073741824:=by rw[y2p]at hxx;omega
   have g2:=g;rw[y3s]at g2;simp only[A0]at g2;have hS:=j2y x oM0 most h1 g (λq hq h1'=>by
    rcases hq with rfl|rfl
    ·exact zs0 N x.thn hsz.1 hsz2.1 (most-1) oM0 oM0 g2.1.2
    ·exact zs0 N x.els hsz.2 hsz2.2 (most-1) oM0 oM0 g2.2)
   refine SC.vc tb { pb:=[102] } [] Tryz.func185 rfl rfl ?_;exact⟨[],hS,sR,Gd,rfl,sE (by rw[g]),Gd⟩)
  rw[zo7 λx hm=>y1f hr hm]at hc;exact⟨[],hc,sR,Gd,rfl,sI,Gd⟩
theorem yu9(x:Pm):SC Tryz.prog 146 [.pv (.agg x.enc)] [] (λk=>k∈[]) (iBool (!(z0k x.name&&rTy x.ty))) []:=by
 refine SC.vc tb { pb:=[101] } [] Tryz.func146 rfl rfl ?_;exact⟨[],z7u x.name,sR,Gd,rfl,z00 (λc=>⟨sE (Af iBool (by rw[show z0k x.name=false by simpa using c];rfl)),Gd⟩) λc=>⟨[],y1s x.ty,sR,Gd,rfl,sE (Af iBool (by rw[show z0k x.name=true by simpa using c];rfl)),Gd⟩⟩
theorem y65(f:Fu)(hx:1+f.params.length+szL f.body<=1073741824)(hr:rFu f=true):SC Tryz.prog 101 [.pv (.agg f.enc)] [] (λk=>k∈[]) (iBool true) []:=by
 refine SC.vc tb { pb:=[101] } [] Tryz.func101 rfl rfl ?_;unfold rFu at hr;simp only[A0]at hr;obtain⟨⟨⟨⟨h1,h2⟩,h3⟩,h4⟩,h5⟩:=hr;have hc:=sc_hasPm 146 [] rfl (λx=>!(z0k x.name&&rTy x.ty)) f.params oM0 (λx _=>yu9 x);rw[zo7 λx hm=>Bi.1 h5 x hm]at hc;have hN:=z7u f.name;rw[h1]at hN;have hT:=y1s f.ty;rw[h2]at hT;have h3:=Am h3;exact⟨[],hN,sR,Gd,rfl,[],hT,sR,Gd,rfl,z00 (λ_=>⟨[],hc,SubA.same sFn,Gd,rfl,[],zs0 _ f.body (Ab _) oM0 100 dC0 dC0 h4,sR,Gd,rfl,sI,Gd⟩) λc=>absurd (Ak c) (by rw[A8];omega)⟩
theorem yf0(x:Ar):SC Tryz.prog 97 [.pv (.agg x.enc)] [] (λk=>k∈[]) (iBool (!(z0k x.name&&decide (1<=x.size)&&decide (x.size<=1000)))) []:=by
 refine SC.vc tb { pb:=[101] } [] Tryz.func97 rfl rfl ?_;refine⟨[],z7u x.name,sR,Gd,rfl,z00 (λc=>⟨sE (Af iBool (by rw[show z0k x.name=false by simpa using c];rfl)),Gd⟩) λc=>z00 (λc2=>⟨sE (Af iBool ?_),Gd⟩) λc2=>⟨sE (Af iBool ?_),Gd⟩⟩
 ·have:=Am c2;rw[show decide (1<=x.size)=false from De oM0];simp
 ·have:=Ak c2;rw[show z0k x.name=true by simpa using c,show decide (1<=x.size)=true from Cb oM0];simp only[B5]
  by_cases h:x.size<=1000
  ·rw[Cb h,De oM0];rfl
  ·rw[De h,Cb oM0];rfl
theorem yv0(p:Pg)(hb:pz p.funcs<=1073741824)(ha:p.arrays.length<=1073741824)(hr:rPg p=true):SC Tryz.prog 56 [.pv p.enc] [] (λk=>k∈[]) (iBool true) []:=by
 refine SC.vc tb { pb:=[101] } [] Tryz.func56 rfl rfl ?_;unfold rPg at hr;simp only[A0]at hr;have hl:=zl1 p.funcs;have h1:=sc_hasAr 97 [] rfl (λx=>!(z0k x.name&&decide (1<=x.size)&&decide (x.size<=1000))) p.arrays oM0 (λx _=>yf0 x);rw[zo7 λx hm=>Bi.1 hr.1 x hm]at h1;have h2:=sc_hasFu 100 [] rfl (λx=>!rFu x) p.funcs oM0 (λx hm=>by
  have g:=Bi.1 hr.2 x hm;have g2:=zu6 hm;refine SC.vc tb { pb:=[101] } [] Tryz.func100 rfl rfl ?_;exact⟨[],y65 x oM0 g,sR,Gd,rfl,sE (by rw[g]),Gd⟩)
 rw[zo7 λx hm=>Bi.1 hr.2 x hm]at h2;exact⟨[],h1,SubA.same sFn,Gd,rfl,[],h2,SubA.same sFn,Gd,rfl,sI,Gd⟩
abbrev Sc:Type:=List (ByteArray×Int×Int)
def scV:Sc->PV
 |[]=>.val (.pointer none)
 |(n,t,d)::r=>.ept [vStr n,vInt t,scV r,vInt d] 0
def z9z(name:ByteArray):Sc->Sc
 |[]=>[]
 |(n,t,d)::r=>if !(n.toList==name.toList)then z9z name r else(n,t,d)::r
def z3n(p:Pg)(name:ByteArray):Int:=idxP (λf:Fu=>f.name.toList==name.toList) p.funcs 0
def j4m(p:Pg)(name:ByteArray):Int:=idxP (λa:Ar=>a.name.toList==name.toList) p.arrays 0
def fu0:Fu:=⟨⟨#[]⟩,0,[],[]⟩
def fuAt(p:Pg)(i:Int):Fu:=p.funcs.getD i.toNat fu0
def zw7(ok:Bool)(e:Int):Int:=if ok then 0 else e
def zv9(op t:Int):Int×Bool :=
 if op=18∨op=19∨op=22 then(2,t==2)else if op=16∨op=17 then(2,true)else if op=12∨op=13∨op=14∨op=15 then(2,t==1)else(1,t==1)
def z8c(p:Pg)(s:Sc)(k:Int)(name:ByteArray)(len:Nat):Int :=
 if k=3 then zw7 (!(z9z name s).isEmpty) 50 else if k=6 then zw7 (decide (j4m p name≥0)) 50
 else if k=7 then(if z3n p name<0 then 50 else zw7 ((fuAt p (z3n p name)).params.length==len) 51)else 0
def yEq:List Int->List Pm->Bool
 |[],[]=>true
 |t::r,p::q=>t==p.ty&&yEq r q
 |_,_=>false
def scTy:Sc->Int
 |[]=>0
 |(_,t,_)::_=>t
def yx4(p:Pg)(s:Sc)(k op:Int)(name:ByteArray)(l:List Int):Int×Bool :=
 if k=2 then(2,true)else if k=3 then(scTy (z9z name s),true)else if k=6 then(1,l.getD 0 0==1)else if k=4 then zv9 op (l.getD 0 0)
 else if k=5 then((zv9 op (l.getD 0 0)).1,(zv9 op (l.getD 0 0)).2&&l.getD 0 0==l.getD 1 0)
 else if k=7 then((fuAt p (z3n p name)).ty,yEq l (fuAt p (z3n p name)).params)else(1,true)
mutual
def z5c(p:Pg)(s:Sc):Ex->Int×Int
 |.mk k op _ name args=>if z8c p s k name args.length=0 then
  if (z6y p s args).2=0 then(if (yx4 p s k op name (z6y p s args).1).2 then((yx4 p s k op name (z6y p s args).1).1,0)else(0,51))else(0,(z6y p s args).2)
  else(0,z8c p s k name args.length)
def z6y(p:Pg)(s:Sc):List Ex->List Int×Int
 |[]=>([],0)
 |e::r=>if (z5c p s e).2=0 then(if (z6y p s r).2=0 then((z5c p s e).1::(z6y p s r).1,0)else([],(z6y p s r).2))else([],(z5c p s e).2)
end
def ex0:Ex:=.mk 0 0 0 ⟨#[]⟩ []
def zd1(p:Pg)(s:Sc)(e:Ex)(t:Int):Int:=if (z5c p s e).2=0 then zw7 ((z5c p s e).1==t) 51 else(z5c p s e).2
def scDeep:Sc->Int
 |[]=>0
 |(_,_,d)::_=>d
def y9b(p:Pg)(s:Sc)(k ty:Int)(name:ByteArray)(args:List Ex)(depth:Int):Int :=
 if k=1 then(if zd1 p s (args.getD 0 ex0) ty=0 then zw7 ((z9z name s).isEmpty||decide (scDeep (z9z name s)<depth)) 50 else zd1 p s (args.getD 0 ex0) ty)
 else if k=2 then(if (z9z name s).isEmpty then 50 else zd1 p s (args.getD 0 ex0) (scTy (z9z name s)))
 else if j4m p name<0 then 50
 else if zd1 p s (args.getD 0 ex0) 1=0 then zd1 p s (args.getD 1 ex0) 1 else zd1 p s (args.getD 0 ex0) 1
def zw8(p:Pg)(res:Int)(s:Sc)(k ty:Int)(name:ByteArray)(args:List Ex)(depth:Int)(loop:Bool):Int :=
 if k=4∨k=5 then zd1 p s (args.getD 0 ex0) 2 else if k=8 then zd1 p s (args.getD 0 ex0) res else if k=9 then zd1 p s (args.getD 0 ex0) 1
 else if k=10 then(z5c p s (args.getD 0 ex0)).2 else if k=6∨k=7 then zw7 loop 53 else y9b p s k ty name args depth
def z6m(s:Sc)(k ty:Int)(name:ByteArray)(depth:Int):Sc:=if k=1 then(name,ty,depth)::s else s
mutual
def z2g(p:Pg)(res:Int):List St->Sc->Int->Bool->Nat->Int×Nat
 |[],_,_,_,n=>(0,n)
 |x::r,s,depth,loop,n=>if (yOne p res x s depth loop n).1=0 then z2g p res r (z6m s x.kind x.ty x.name depth) depth loop (yOne p res x s depth loop n).2 else yOne p res x s depth loop n
def yOne(p:Pg)(res:Int):St->Sc->Int->Bool->Nat->Int×Nat
 |.mk k ty name args thn els,s,depth,loop,n=>if zw8 p res s k ty name args depth loop=0 then
  if (z2g p res thn (z6m s k ty name depth) (depth+1) (loop||k==5) (n+1)).1=0 then
   z2g p res els (z6m s k ty name depth) (depth+1) loop (z2g p res thn (z6m s k ty name depth) (depth+1) (loop||k==5) (n+1)).2
  else z2g p res thn (z6m s k ty name depth) (depth+1) (loop||k==5) (n+1)
  else(zw8 p res s k ty name args depth loop,n)
end
mutual
def lvs:List St->Bool
 |[]=>false
 |x::r=>lvS x||lvs r
def lvS:St->Bool
 |.mk k _ _ _ thn els=>k==6||(k==4&&(lvs thn||lvs els))
end
mutual
def ens:List St->Bool
 |[]=>false
 |x::r=>enS x||ens r
def enS:St->Bool
 |.mk k _ _ args thn els=>if k=8 then true else if k=4 then ens thn&&ens els else if k=5 then((args.getD 0 ex0).kind==2&&((args.getD 0 ex0).n==1 && !lvs thn))else false
end
def ySc(l:List Pm):Sc:=l.foldl (λs x=>(x.name,x.ty,0)::s) []
theorem ze7(p:Pg)(name:ByteArray)(hl:p.funcs.length<=1073741824):SC Tryz.prog 102 [.pv p.enc,.pv (.val (.string name))] [] (λk=>k∈[]) (iInt (z3n p name)) []:=by
 refine SC.vc tb { pb:=[102,103] } [] Tryz.func102 rfl rfl ?_;refine⟨[],ym9 150 [.pv (.ept [vStr name] 0)] rfl (λf=>f.name.toList==name.toList) p.funcs oM0 (λx _=>?_),sR,Gd,rfl,sI,Gd⟩;refine SC.vc tb { pb:=[102] } [] Tryz.func150 rfl rfl ?_;exact⟨sI,Gd⟩
theorem y47(p:Pg)(name:ByteArray)(hl:p.arrays.length<=1073741824):SC Tryz.prog 191 [.pv p.enc,.pv (.val (.string name))] [] (λk=>k∈[]) (iInt (j4m p name)) []:=by
 refine SC.vc tb { pb:=[102,103] } [] Tryz.func191 rfl rfl ?_;refine⟨[],ym8 216 [.pv (.ept [vStr name] 0)] rfl (λf=>f.name.toList==name.toList) p.arrays oM0 (λx _=>?_),sR,Gd,rfl,sI,Gd⟩;refine SC.vc tb { pb:=[102] } [] Tryz.func216 rfl rfl ?_;exact⟨sI,Gd⟩
theorem z5t(ok:Bool)(e:Int):SC Tryz.prog 153 [iBool ok,.pv (.val (.int .i64 e))] [] (λk=>k∈[]) (iInt (zw7 ok e)) []:=by
 refine SC.vc tb {} [] Tryz.func153 rfl rfl ?_;exact z00 (λh=>⟨sE (by rw[h];rfl),Gd⟩) λh=>⟨sE (by rw[h];rfl),Gd⟩
theorem y48(op t:Int):SC Tryz.prog 213 [.pv (.val (.int .i64 op)),.pv (.val (.int .i64 t))] [] (λk=>k∈[]) (.tup [iInt (zv9 op t).1,iBool (zv9 op t).2]) []:=by
 refine SC.vc tb {} [] Tryz.func213 rfl rfl ?_
 by_cases h:op=18∨op=19∨op=22∨op=16∨op=17∨op=12∨op=13∨op=14∨op=15
 ·rcases h with rfl|rfl|rfl|rfl|rfl|rfl|rfl|rfl|rfl<;>exact⟨sI,Gd⟩
 ·have hT:zv9 op t=(1,t==1):=by
   unfold zv9;rw[if_neg oM0,if_neg oM0,if_neg oM0]
  rw[hT]
  repeat' (first|exact⟨sI,Gd⟩|refine z00 (λg=>absurd (eq_of_beq g) oM0) λ_=>?_)
theorem y8n(s:Sc)(n:ByteArray)(t d:Int):SC Tryz.prog 104 [.pv (scV s),.pv (.agg [vStr n,vInt t]),.pv (.val (.int .i64 d))] [] (λk=>k∈[]) (.pv (scV ((n,t,d)::s))) []:=by
 refine SC.vc tb { pb:=[104,111] } [] Tryz.func104 rfl rfl ?_
 cases s with
 |nil=>exact⟨sI,Gd⟩
 |cons a r=>exact⟨sI,Gd⟩
theorem y1u(name:ByteArray)(s:Sc):SC Tryz.prog 190 [.pv (scV s),.pv (.val (.string name))] [] (λk=>k∈[]) (.pv (scV (z9z name s))) []:=by
 refine SC.vc tb {} [] Tryz.func190 rfl rfl ?_;refine⟨Sc,λq=>[(0,.pv (scV q))],λ_=>[],λq=>q.length,λq=>z9z name s=z9z name q,[],s,rfl,Ge,Gd,?_⟩;intro q hq
 cases q with
 |nil=>exact⟨sE (by rw[hq];rfl),Gd⟩
 |cons a r =>
  obtain⟨n,t,d⟩:=a;refine z00 (λh=>?_) λh=>?_
  ·exact⟨r,Ab _,by rw[hq,z9z,h];rfl,Ge,Gd,rfl,rfl,rfl,rfl⟩
  ·exact⟨sE (by rw[hq,z9z,h];rfl),Gd⟩
theorem yf2(l:List Pm)(hl:l.length<=1073741824):SC Tryz.prog 60 [.pv (pms l)] [] (λk=>k∈[]) (.pv (scV (ySc l))) []:=by
 refine SC.vc tb {} [] Tryz.func60 rfl rfl ?_;refine⟨Nat,λi=>[(7,iInt ((i:Nat):Int)),(2,.pv (scV (ySc (l.take i))))],λ_=>[],λi=>l.length-i,λi=>i<=l.length,[],0,Ac _,Gf,Gd,?_⟩;intro i hi;refine z00 (λhc=>?_) λhc=>?_
 ·have hlt:i<l.length:=z0x (f:=Pm.enc) rfl hc;obtain⟨x,x1,x2,x3,x4⟩:=z0o hlt;have hs:ySc (l.take (i+1))=(x.name,x.ty,0)::ySc (l.take i):=by unfold ySc;rw[x2,Dw];rfl
  exact⟨zu5 x1,rfl,[],y8n (ySc (l.take i)) x.name x.ty 0,sR,Gd,rfl,z01 rfl oM0,i+1,z03 hlt,hlt,⟨rfl,by rw[hs];rfl,Gd⟩,Gd,rfl,rfl,rfl,rfl⟩
 ·have hge:l.length<=i:=z0y (f:=Pm.enc) rfl hc;exact⟨sE (by rw[At hge]),Gd⟩
theorem yv3(t:Int)(x:Pm):SC Tryz.prog 215 [iInt t,.pv (.agg x.enc)] [] (λk=>k∈[]) (iBool (t==x.ty)) []:=by
 refine SC.vc tb { pb:=[103] } [] Tryz.func215 rfl rfl ?_;exact⟨sI,Gd⟩
theorem j4n:∀(l:List Int)(q:List Pm),l.length≠q.length->yEq l q=false
 |[],[],h=>absurd rfl h
 |[],_::_,_=>rfl
 |_::_,[],_=>rfl
 |a::l,b::q,h=>by
  rw[yEq,j4n l q (by simp at h;omega),Cy]
theorem sc_tyEq(l:List Int)(q:List Pm)(hl:l.length<=1073741824):SC Tryz.prog 214 [.pv (ints l),.pv (pms q),.fn (.func 215) [] []] [] (λk=>k∈[]) (iBool (yEq l q)) []:=by
 refine SC.vc tb {} [] Tryz.func214 rfl rfl ?_;refine z00 (λh=>?_) λh=>?_
 ·exact⟨sE (by rw[j4n l q (λe=>by simp[e]at h)]),Gd⟩
 ·have hlen:l.length=q.length:=by
   have h2:=eq_of_beq (show((l.map eInt).length:Int)==((q.map Pm.enc).length:Int) by simpa[bne]using h);simp only[A8]at h2;omega
  refine⟨Nat,λi=>[(17,iInt ((i:Nat):Int))],λ_=>[],λi=>l.length-i,λi=>i<=l.length/\yEq l q=yEq (l.drop i) (q.drop i),[],0,⟨Ac _,rfl⟩,Ge,Gd,?_⟩;rintro i ⟨i1,i2⟩;refine z00 (λhc=>?_) λhc=>?_
  ·have hlt:i<l.length:=z0x (f:=eInt) rfl hc;obtain⟨x,x1,x2,x3,x4⟩:=z0o hlt;obtain⟨y,y1,y2,y3,y4⟩:=z0o (show i<q.length by omega);rw[x3,y3,yEq]at i2;refine⟨z02 (f:=eInt) x1,rfl,zu5 y1,rfl,yv3 x y,sR,Gd,(λk hk=>hk),rfl,rfl,z00 (λc=>?_) λc=>?_⟩
   ·exact⟨sE (Af iBool (by rw[i2,show(x==y.ty)=false by simpa using c];rfl)),Gd⟩
   ·rw[show(x==y.ty)=true by simpa using c,B5]at i2;exact⟨z01 rfl oM0,i+1,z03 hlt,⟨hlt,i2⟩,Ge,Gd,rfl,rfl,rfl,rfl⟩
  ·have hge:l.length<=i:=z0y (f:=eInt) rfl hc;exact⟨sE (by rw[i2,Ad hge,Ad oM0];rfl),Gd⟩
theorem j0f{α:Type}(p:α -> Bool):∀(l:List α)(j:Int),0<=j->0<=idxP p l j->∃(i:Nat)(x:α),idxP p l j=j+i/\l[i]?=some x/\p x=true
 |[],_,_,h=>absurd h (by simp[idxP])
 |x::r,j,hj,h=>by
  rw[idxP]at h⊢
  by_cases hx:p x=true
  ·exact⟨0,x,by rw[if_pos hx];simp,rfl,hx⟩
  ·rw[if_neg hx]at h⊢;obtain⟨i,y,h1,h2,h3⟩:=j0f p r (j+1) oM0 h;exact⟨i+1,y,by rw[h1];simp;omega,by simpa using h2,h3⟩
theorem zx3{p:Pg}{name:ByteArray}(h:0<=z3n p name):∃i:Nat,z3n p name=i/\p.funcs[i]?=some (fuAt p (z3n p name)):=by
 obtain⟨i,x,h1,h2,_⟩:=j0f _ p.funcs 0 dC0 h;refine⟨i,by unfold z3n;omega,?_⟩;unfold fuAt z3n;rw[h1];simp[h2]
theorem yv4(p:Pg)(s:Sc)(k o n:Int)(nm:ByteArray)(args:List Ex)(hf:p.funcs.length<=1073741824)(ha:p.arrays.length<=1073741824) :
 SC Tryz.prog 187 [.pv p.enc,.pv (scV s),.pv (.agg [vInt k,vInt o,vInt n,vStr nm,exs args])] [] (λk=>k∈[]) (iInt (z8c p s k nm args.length)) []:=by
 refine SC.vc tb { pb:=[103,105] } [] Tryz.func187 rfl rfl ?_;have hF:=y1u nm s;have hP:=ze7 p nm hf;have hA:=y47 p nm ha;have hg:=@zx3 p nm;unfold z8c;generalize z9z nm s=q at hF;refine z00 (λc=>?_) λc=>z00 (λc2=>?_) λc2=>z00 (λc3=>?_) λc3=>?_
 ·rw[if_pos (eq_of_beq c)]
  cases q with
  |nil=>exact⟨[],hF,sR,Gd,rfl,[],z5t false 50,sR,Gd,rfl,sI,Gd⟩
  |cons a r=>exact⟨[],hF,sR,Gd,rfl,[],z5t true 50,sR,Gd,rfl,sI,Gd⟩
 ·rw[if_neg (Aa.1 c),if_pos (eq_of_beq c2)];exact⟨[],hA,sR,Gd,rfl,[],z5t _ 50,sR,Gd,rfl,sI,Gd⟩
 ·rw[if_neg (Aa.1 c),if_neg (Aa.1 c2),if_pos (eq_of_beq c3)];refine⟨[],hP,sR,Gd,rfl,z00 (λc4=>?_) λc4=>?_⟩
  ·rw[if_pos (Am c4)];exact⟨sI,Gd⟩
  ·have c4:=Ak c4;rw[if_neg c4];obtain⟨i,h1,h2⟩:=hg oM0;exact⟨z9r h2,h1,[],z5t _ 51,sR,Gd,rfl,sE (Af iInt (Af (λb=>zw7 b 51) (by rw[Ck];simp;omega))),Gd⟩
 ·rw[if_neg (Aa.1 c),if_neg (Aa.1 c2),if_neg (Aa.1 c3)];exact⟨sI,Gd⟩
theorem z3q{l:List Int}{i:Nat}(h:i<l.length):l[i]?=some (l.getD i 0):=by
 rw[Ay,A9 h];rfl
theorem j30(p:Pg)(s:Sc)(k o n:Int)(nm:ByteArray)(args:List Ex)(l:List Int)(hl:l.length<=1073741824)(hf:p.funcs.length<=1073741824)(h3:k=3->z9z nm s≠[])(h7:k=7->0<=z3n p nm)(h1:k=4∨k=6->1<=l.length)(h5:k=5->2<=l.length) :
 SC Tryz.prog 189 [.pv p.enc,.pv (scV s),.pv (.agg [vInt k,vInt o,vInt n,vStr nm,exs args]),.pv (ints l)] [] (λk=>k∈[]) (.tup [iInt (yx4 p s k o nm l).1,iBool (yx4 p s k o nm l).2]) []:=by
 refine SC.vc tb { pb:=[104,106,112] } [] Tryz.func189 rfl rfl ?_;have hF:=y1u nm s;unfold yx4;refine z00 (λc=>?_) λc=>z00 (λc2=>?_) λc2=>z00 (λc3=>?_) λc3=>z00 (λc4=>?_) λc4=>z00 (λc5=>?_) λc5=>z00 (λc6=>?_) λc6=>?_
 all_goals try replace c:=Aa.1 c
 all_goals try replace c2:=Aa.1 c2
 all_goals try replace c3:=Aa.1 c3
 all_goals try replace c4:=Aa.1 c4
 all_goals try replace c5:=Aa.1 c5
 all_goals try replace c6:=Aa.1 c6
 ·rw[if_pos (eq_of_beq c)];exact⟨sI,Gd⟩
 ·rw[if_neg c,if_pos (eq_of_beq c2)];have:=h3 (eq_of_beq c2);generalize z9z nm s=q at hF this
  cases q with
  |nil=>exact absurd rfl this
  |cons a r=>exact⟨[],hF,sR,Gd,rfl,sI,Gd⟩
 ·rw[if_neg c,if_neg c2,if_pos (eq_of_beq c3)];exact⟨z02 (f:=eInt) (z3q (i:=0) (h1 (.inr (eq_of_beq c3)))),rfl,sI,Gd⟩
 ·rw[if_neg c,if_neg c2,if_neg c3,if_pos (eq_of_beq c4)];exact⟨z02 (f:=eInt) (z3q (i:=0) (h1 (.inl (eq_of_beq c4)))),rfl,[],y48 _ _,sR,Gd,rfl,sI,Gd⟩
 ·rw[if_neg c,if_neg c2,if_neg c3,if_neg c4,if_pos (eq_of_beq c5)];have h:=h5 (eq_of_beq c5);have hT:=y48 o (l.getD 0 0);generalize zv9 o (l.getD 0 0)=t at hT;obtain⟨t1,t2⟩:=t;refine⟨z02 (f:=eInt) (z3q (i:=0) oM0),rfl,[],hT,sR,Gd,rfl,?_⟩
  cases t2 with
  |true=>exact⟨z02 (f:=eInt) (z3q (i:=0) oM0),rfl,z02 (f:=eInt) (z3q (i:=1) oM0),rfl,sI,Gd⟩
  |false=>exact⟨sI,Gd⟩
 ·rw[if_neg c,if_neg c2,if_neg c3,if_neg c4,if_neg c5,if_pos (eq_of_beq c6)];obtain⟨i,g1,g2⟩:=zx3 (h7 (eq_of_beq c6));exact⟨[],ze7 p nm hf,sR,Gd,rfl,z9r g2,g1,[],sc_tyEq l _ hl,SubA.same (SubA.same sFn),Gd,rfl,sI,Gd⟩
 ·rw[if_neg c,if_neg c2,if_neg c3,if_neg c4,if_neg c5,if_neg c6];exact⟨sI,Gd⟩
theorem yh9{p:Pg}{s:Sc}{nm:ByteArray}{len:Nat}(h:z8c p s 3 nm len=0):z9z nm s≠[]:=λe=>by
 unfold z8c at h;rw[if_pos rfl,e]at h;exact absurd h dC0
theorem y9d{p:Pg}{s:Sc}{nm:ByteArray}{len:Nat}(h:z8c p s 7 nm len=0):0<=z3n p nm/\(fuAt p (z3n p nm)).params.length=len:=by
 unfold z8c at h;rw[if_neg dC0,if_neg dC0,if_pos rfl]at h;split at h
 ·exact absurd h dC0
 ·rename_i g;refine⟨by omega,?_⟩;unfold zw7 at h;split at h
  ·rename_i g2;exact eq_of_beq g2
  ·exact absurd h dC0
theorem y9a(p:Pg)(s:Sc):∀l,(z6y p s l).2=0->(z6y p s l).1.length=l.length
 |[],_=>rfl
 |e::r,h=>by
  rw[z6y]at h⊢;split at h
  ·rename_i g;rw[if_pos g];split at h
   ·rename_i g2;rw[if_pos g2];simp[y9a p s r g2]
   ·rename_i g2;exact absurd h g2
  ·rename_i g;exact absurd h g
theorem y4f{p:Pg}{s:Sc}:∀{l:List Ex}{i:Nat}{e:Ex},(∀x∈l.take i,(z5c p s x).2=0)->l.drop i=e::l.drop (i+1)->(z5c p s e).2≠0->z6y p s l=([],(z5c p s e).2)
 |[],i,e,_,h,_=>by simp at h
 |x::r,0,e,_,h,he=>by
  simp only[List.drop_zero,List.cons.injEq]at h
  rw[z6y,h.1,if_neg he]
 |x::r,i+1,e,hq,h,he=>by
  have:=y4f (l:=r) (i:=i) (λy hy=>hq y (by simp[hy])) (by simpa using h) he;rw[z6y,if_pos (hq x sI0),this,if_neg he]
theorem y99{p:Pg}{s:Sc}:∀{l:List Ex},(∀x∈l,(z5c p s x).2=0)->z6y p s l=(l.map λx=>(z5c p s x).1,0)
 |[],_=>rfl
 |x::r,hq=>by
  have:=y99 (l:=r) (λy hy=>hq y (by simp[hy]));rw[z6y,if_pos (hq x sI0),this];rfl
def fYE(p:Pg)(s:Sc)(e:Ex):Prop:=SC Tryz.prog 152 [.pv p.enc,.pv (scV s),.pv (exv e)] [] (λk=>k∈[]) (.tup [iInt (z5c p s e).1,iInt (z5c p s e).2]) []
theorem j2z(p:Pg)(s:Sc)(k o n:Int)(nm:ByteArray)(args:List Ex)(hl:args.length<=1073741824)(ih:∀x∈args,fYE p s x) :
 SC Tryz.prog 188 [.pv p.enc,.pv (scV s),.pv (.agg [vInt k,vInt o,vInt n,vStr nm,exs args])] [] (λk=>k∈[]) (.tup [.pv (ints (z6y p s args).1),iInt (z6y p s args).2]) []:=by
 refine SC.vc tb { pb:=[103,105,109],gh:=[(1,[.grow 6 1001 3 1]),(9,[.fz 6 1001])] } [] Tryz.func188 rfl rfl ?_;refine⟨Nat,λi=>[(15,iInt ((i:Nat):Int)),(6,.sl 1001 (((args.take i).map λx=>(z5c p s x).1).map eInt).length)],λi=>[(1001,.row ⟨3,1⟩ (((args.take i).map λx=>(z5c p s x).1).map eInt))],λi=>args.length-i,λi=>i<=args.length/\∀x∈args.take i,(z5c p s x).2=0,[],0,⟨Ac _,λx hx=>by simp at hx⟩,Gf,Ge,?_⟩;rintro i ⟨i1,i2⟩;refine z00 (λhc=>?_) λhc=>?_
 ·have hlt:i<args.length:=z0x (f:=Ex.enc) rfl hc;obtain⟨x,x1,x2,x3,x4⟩:=z0o hlt;refine⟨z1c x1,rfl,[],ih x x4,sR,Gd,rfl,z00 (λc=>?_) λc=>?_⟩
  ·have c:(z5c p s x).2≠0:=by simpa using c
   rw[y4f i2 x3 c];exact⟨sT2 sN,Gd⟩
  ·have c:(z5c p s x).2=0:=by simpa using c
   exact⟨rfl,z3y rfl,by simp;omega,z01 rfl oM0,i+1,z03 hlt,⟨hlt,λy hy=>by rw[x2]at hy;rcases Ax.1 hy with g|g;exact i2 y g;rw[An.1 g];exact c⟩,⟨rfl,slq (by simp;omega),Gd⟩,⟨rwq (by rw[x2];simp[eInt]),Gd⟩,rfl,rfl,rfl,rfl⟩
 ·have hge:args.length<=i:=z0y (f:=Ex.enc) rfl hc;rw[At hge]at i2⊢;rw[y99 i2];exact⟨rfl,sI,Gd⟩
def szP(p:Pg):Prop:=p.funcs.length<=1073741824/\p.arrays.length<=1073741824
theorem y8m(p:Pg)(hp:szP p)(s:Sc):∀(N:Nat)(e:Ex),SizeOf.sizeOf e<N->xz e<=1073741824->∀most,rx e most=true->fYE p s e
 |0,_,h,_,_,_=>absurd h (Al _)
 |N+1,.mk k o n nm args,hN,hx,most,hr=>by
  have hl:=zb0 args;simp only[xz]at hx;rw[rx,A0]at hr;have hA:=j2z p s k o n nm args oM0 (λx hm=>y8m p hp s N x (by have:=Bq hm;simp at hN;omega) (by have:=zg8 hm;omega) (most-1) (y5q hr.1 hm).2);have hlen:=y9a p s args;refine SC.vc tb { pb:=[103,105] } [] Tryz.func152 rfl rfl ?_;unfold z5c;refine⟨[],yv4 p s k o n nm args hp.1 hp.2,sR,Gd,rfl,z00 (λc=>?_) λc=>?_⟩
  ·have c:¬z8c p s k nm args.length=0:=by simpa using c
   rw[if_neg c];exact⟨sI,Gd⟩
  ·have c:z8c p s k nm args.length=0:=by simpa using c
   rw[if_pos c];generalize z6y p s args=A at hA hlen;obtain⟨a1,a2⟩:=A;dsimp only at hlen⊢;refine⟨[],hA,sR,Gd,rfl,z00 (λc2=>?_) λc2=>?_⟩
   ·have c2:¬a2=0:=by simpa using c2
    rw[if_neg c2];exact⟨sI,Gd⟩
   ·have c2:a2=0:=by simpa using c2
    rw[if_pos c2];have h:=hlen c2;have hcs:=y3m hr.2;have hM:=j30 p s k o n nm args a1 oM0 hp.1 (λe=>by subst e;exact yh9 c) (λe=>by subst e;exact(y9d c).1) (λe=>by omega) (λe=>by omega);generalize yx4 p s k o nm a1=M at hM;obtain⟨m1,m2⟩:=M;refine⟨[],hM,sR,Gd,rfl,z00 (λc3=>?_) λc3=>?_⟩
    ·have c3:m2=false:=by simpa using c3
     subst c3;exact⟨sI,Gd⟩
    ·have c3:m2=true:=by simpa using c3
     subst c3;exact⟨sI,Gd⟩
def fnO(p:Pg)(res:Int)(n:Nat):List (Nat×HO):=[(1,.box [.pv (arrs p.arrays),.pv (fus p.funcs),iInt res,iInt (n:Nat)])]
def fYW(p:Pg)(s:Sc)(e:Ex):Prop:=∀(res:Int)(n:Nat)(t:Int),SC Tryz.prog 151 [.ptr 1 0,.pv (scV s),.pv (exv e),.pv (.val (.int .i64 t))] (fnO p res n) (λk=>k∈[]) (iInt (zd1 p s e t)) (fnO p res n)
theorem j32(p:Pg)(s:Sc)(e:Ex)(h:fYE p s e):fYW p s e:=by
 intro res n t;refine SC.vc tb { pb:=[106] } [] Tryz.func151 rfl rfl ?_;unfold zd1;unfold fYE at h;generalize z5c p s e=E at h;obtain⟨e1,e2⟩:=E;refine⟨[],h,sR,Gd,rfl,z00 (λc=>?_) λc=>?_⟩
 ·have c:¬e2=0:=by simpa using c
  rw[if_neg c];exact⟨sI,rfl,Gd⟩
 ·have c:e2=0:=by simpa using c
  rw[if_pos c];exact⟨[],z5t _ 51,sR,Gd,rfl,sI,rfl,Gd⟩
theorem yv1(p:Pg)(hp:szP p)(s:Sc)(k ty:Int)(nm:ByteArray)(args:List Ex)(thn els:List St)(depth:Int)(hk:(k=1/\∃e,args=[e])∨(k=2/\∃e,args=[e])∨(k=3/\∃e e2,args=[e,e2]))(hw:∀e∈args,fYW p s e)(res:Int)(n:Nat) :
 SC Tryz.prog 154 [.ptr 1 0,.pv (.agg [vInt k,vInt ty,vStr nm,exs args,sts thn,sts els]),.pv (scV s),.pv (.val (.int .i64 depth))] (fnO p res n) (λk=>k∈[]) (iInt (y9b p s k ty nm args depth)) (fnO p res n):=by
 refine SC.vc tb { pb:=[105] } [] Tryz.func154 rfl rfl ?_;have hF:=y1u nm s;unfold y9b;generalize z9z nm s=q at hF;rcases hk with⟨rfl,e,rfl⟩|⟨rfl,e,rfl⟩|⟨rfl,e,e2,rfl⟩
 ·rw[if_pos rfl];have W:=hw e sI0 res n ty;have hg:([e].getD 0 ex0)=e:=rfl;rw[hg];refine⟨[],hF,sR,Gd,rfl,z1c (i:=0) rfl,rfl,[],W,sR,Ge,rfl,z00 (λc=>?_) λc=>?_⟩
  ·have c:¬zd1 p s e ty=0:=by simpa using c
   rw[if_neg c];exact⟨sI,rfl,Gd⟩
  ·have c:zd1 p s e ty=0:=by simpa using c
   rw[if_pos c]
   cases q with
   |nil=>exact⟨[],z5t true 50,sR,Gd,rfl,sI,rfl,Gd⟩
   |cons a r=>exact⟨[],z5t _ 50,sR,Gd,rfl,sI,rfl,Gd⟩
 ·rw[if_neg dC0,if_pos rfl]
  cases q with
  |nil=>exact⟨[],hF,sR,Gd,rfl,sI,rfl,Gd⟩
  |cons a r =>
   obtain⟨a1,a2,a3⟩:=a;have W:=hw e sI0 res n a2;exact⟨[],hF,sR,Gd,rfl,z1c (i:=0) rfl,rfl,[],W,sR,Ge,rfl,sI,rfl,Gd⟩
 ·rw[if_neg dC0,if_neg dC0];have W:=hw e sI0 res n 1;have W2:=hw e2 sI0 res n 1;have hg:([e,e2].getD 0 ex0)=e:=rfl;have hg2:([e,e2].getD 1 ex0)=e2:=rfl;rw[hg,hg2];refine⟨[],hF,sR,Gd,rfl,[],y47 p nm hp.2,sR,Gd,rfl,z00 (λc=>?_) λc=>?_⟩
  ·rw[if_pos (Am c)];exact⟨sI,rfl,Gd⟩
  ·rw[if_neg (Ak c)];refine⟨z1c (i:=0) rfl,rfl,[],W,sR,Ge,rfl,z00 (λc2=>?_) λc2=>?_⟩
   ·have c2:¬zd1 p s e 1=0:=by simpa using c2
    rw[if_neg c2];exact⟨sI,rfl,Gd⟩
   ·have c2:zd1 p s e 1=0:=by simpa using c2
    rw[if_pos c2];exact⟨z1c (i:=1) rfl,rfl,[],W2,sR,Ge,rfl,sI,rfl,Gd⟩
theorem j31(p:Pg)(hp:szP p)(s:Sc)(x:St)(depth:Int)(loop:Bool)(most:Int)(hr:rst x most=true)(hw:∀e∈x.args,fYE p s e)(res:Int)(n:Nat) :
 SC Tryz.prog 103 [.ptr 1 0,.pv (stv x),.pv (scV s),.pv (.val (.int .i64 depth)),iBool loop] (fnO p res n) (λk=>k∈[]) (iInt (zw8 p res s x.kind x.ty x.name x.args depth loop)) (fnO p res n):=by
 refine SC.vc tb { pb:=[106] } [] Tryz.func103 rfl rfl ?_;rw[y3s]at hr;simp only[A0,Bg]at hr;obtain⟨h1,hc⟩:=zm5 hr.1.1.1.1 hr.1.1.2;have hW:∀e∈x.args,fYW p s e:=λe he=>j32 p s e (hw e he);clear hr;obtain⟨k,ty,nm,args,thn,els⟩:=x;simp only[St.kind,St.ty,St.name,St.args,St.thn,St.els]at *
 have hB:=λhk=>yv1 p hp s k ty nm args thn els depth hk hW res n;unfold zw8;rcases hc with⟨rfl,t,nn,⟨e,rfl⟩,rfl,rfl⟩|⟨rfl,rfl,nn,⟨e,rfl⟩,rfl,rfl⟩|⟨rfl,rfl,nn,⟨e,e2,rfl⟩,rfl,rfl⟩|⟨rfl,rfl,nn,⟨e,rfl⟩⟩|⟨rfl,rfl,nn,⟨e,rfl⟩,rfl⟩|⟨rfl,rfl,nn,rfl,rfl,rfl⟩|⟨rfl,rfl,nn,rfl,rfl,rfl⟩|⟨rfl,rfl,nn,⟨e,rfl⟩,rfl,rfl⟩|⟨rfl,rfl,nn,⟨e,rfl⟩,rfl,rfl⟩|⟨rfl,rfl,nn,⟨e,rfl,e7⟩,rfl,rfl⟩
 ·exact⟨[],hB (.inl ⟨rfl,e,rfl⟩),sR,Ge,rfl,sI,rfl,Gd⟩
 ·exact⟨[],hB (.inr (.inl ⟨rfl,e,rfl⟩)),sR,Ge,rfl,sI,rfl,Gd⟩
 ·exact⟨[],hB (.inr (.inr ⟨rfl,e,e2,rfl⟩)),sR,Ge,rfl,sI,rfl,Gd⟩
 ·exact⟨z1c (i:=0) rfl,rfl,[],hW e sI0 res n 2,sR,Ge,rfl,sI,rfl,Gd⟩
 ·exact⟨z1c (i:=0) rfl,rfl,[],hW e sI0 res n 2,sR,Ge,rfl,sI,rfl,Gd⟩
 ·exact⟨[],z5t loop 53,sR,Gd,rfl,sI,rfl,Gd⟩
 ·exact⟨[],z5t loop 53,sR,Gd,rfl,sI,rfl,Gd⟩
 ·exact⟨z1c (i:=0) rfl,rfl,[],hW e sI0 res n res,sR,Ge,rfl,sI,rfl,Gd⟩
 ·exact⟨z1c (i:=0) rfl,rfl,[],hW e sI0 res n 1,sR,Ge,rfl,sI,rfl,Gd⟩
 ·have hE:=hw e sI0;exact⟨z1c (i:=0) rfl,rfl,[],hE,sR,Gd,rfl,sI,rfl,Gd⟩
theorem j4p(p:Pg)(res:Int)(x:St)(s:Sc)(depth:Int)(loop:Bool)(n:Nat):yOne p res x s depth loop n=if zw8 p res s x.kind x.ty x.name x.args depth loop=0 then
 if (z2g p res x.thn (z6m s x.kind x.ty x.name depth) (depth+1) (loop||x.kind==5) (n+1)).1=0 then
  z2g p res x.els (z6m s x.kind x.ty x.name depth) (depth+1) loop (z2g p res x.thn (z6m s x.kind x.ty x.name depth) (depth+1) (loop||x.kind==5) (n+1)).2
 else z2g p res x.thn (z6m s x.kind x.ty x.name depth) (depth+1) (loop||x.kind==5) (n+1)
 else(zw8 p res s x.kind x.ty x.name x.args depth loop,n):=by
 cases x;rw[yOne];rfl
theorem zo5(p:Pg)(res:Int):∀(N:Nat)(l:List St),SizeOf.sizeOf l<N->∀(s:Sc)(depth:Int)(loop:Bool)(n:Nat),(z2g p res l s depth loop n).2<=n+szL l
 |0,_,h,_,_,_,_=>absurd h (Al _)
 |N+1,[],_,s,depth,loop,n=>by rw[z2g];simp[szL]
 |N+1,x::r,hN,s,depth,loop,n=>by
  have hx:=zs4 x;simp at hN;have h1:(yOne p res x s depth loop n).2<=n+sz x:=by
   rw[j4p,y2p];have a1:=zo5 p res N x.thn oM0 (z6m s x.kind x.ty x.name depth) (depth+1) (loop||x.kind==5) (n+1);have a2:=λm=>zo5 p res N x.els oM0 (z6m s x.kind x.ty x.name depth) (depth+1) loop m;split
   ·split
    ·have:=a2 (z2g p res x.thn (z6m s x.kind x.ty x.name depth) (depth+1) (loop||x.kind==5) (n+1)).2;omega
    ·omega
   ·dsimp only;omega
  have h2:=zo5 p res N r oM0 (z6m s x.kind x.ty x.name depth) depth loop (yOne p res x s depth loop n).2;rw[z2g,szL];split
  ·omega
  ·omega
theorem zs1(p:Pg)(hp:szP p)(res:Int):∀(N:Nat)(l:List St),SizeOf.sizeOf l<N->szL l<=1073741824->∀most,rsL l most=true->∀(s:Sc)(depth:Int)(loop:Bool)(n:Nat),0<=depth->depth+most<=1073741824->0<=most->n+szL l<=1073741824 ->
 SC Tryz.prog 59 [.ptr 1 0,.pv (sts l),.pv (scV s),.pv (.val (.int .i64 depth)),iBool loop] (fnO p res n) (λk=>k∈[]) (iInt (z2g p res l s depth loop n).1) (fnO p res (z2g p res l s depth loop n).2)
 |0,_,h,_,_,_,_,_,_,_,_,_,_,_=>absurd h (Al _)
 |N+1,l,hN,hx,most,hr,s,depth,loop,n,hd,hd2,hm0,hn=>by
  generalize hR:z2g p res l s depth loop n=R;refine SC.vc tb { pb:=[112],jn:=[10] } [] Tryz.func59 rfl rfl ?_;have hll:=z8j l;refine⟨Nat×Sc×Nat,λa=>[(18,iInt ((a.1:Nat):Int)),(2,.pv (scV a.2.1))],λa=>fnO p res a.2.2,λa=>l.length-a.1,λa=>a.1<=l.length/\R=z2g p res (l.drop a.1) a.2.1 depth loop a.2.2/\a.2.2+szL (l.drop a.1)<=1073741824,[],(0,s,n),⟨Ac _,hR.symm,hn⟩,Gf,Ge,?_⟩;rintro⟨i,q,m⟩ ⟨i1,i2,i3⟩;dsimp only at i1 i2 i3;refine z00 (λhc=>?_) λhc=>?_
  ·have hlt:i<l.length:=z0x (f:=St.enc) rfl hc;obtain⟨x,x1,x2,x3,x4⟩:=z0o hlt;rw[x3,z2g,j4p]at i2;rw[x3,szL]at i3;have hxr:=y1f hr x4;have hxr2:=hxr;rw[y3s]at hxr2;simp only[A0,Bg]at hxr2;have hmost:=(zm5 hxr2.1.1.1.1 hxr2.1.1.2).1;have hsz:=zv8 x4;have hsz2:=y2p x;have hso:=zs4 x;have hmem:=Bq x4;have hE:∀e∈x.args,fYE p q e:=λe he=>y8m p hp q _ e (Ab _) (by have:=zg8 he;omega) 100 (Bi.1 hxr2.1.1.1.2 e he);have hS:=j31 p hp q x depth loop most hxr hE res m;refine⟨zj7 x1,rfl,?_⟩;generalize zw8 p res q x.kind x.ty x.name x.args depth loop=e0 at hS i2;refine⟨[],hS,sR,Ge,rfl,z00 (λc=>?_) λc=>?_⟩
   ·have c:¬e0=0:=by simpa using c
    rw[if_neg c,if_neg c]at i2;subst i2;exact⟨sI,rfl,Gd⟩
   ·have c:e0=0:=by simpa using c
    rw[if_pos c]at i2;refine⟨z01 (z:=((m+1:Nat):Int)) oM0 oM0,Unit,λ_=>[(2,.pv (scV (z6m q x.kind x.ty x.name depth)))],λ_=>[],λ_=>True,[],?_,?_⟩
    ·refine z00 (λk1=>?_) λk1=>?_
     ·exact⟨[],y8n q x.name x.ty depth,sR,Gd,rfl,(),Gd,⟨by unfold z6m;rw[if_pos (eq_of_beq k1)];rfl,Gd⟩,Gd,rfl,rfl,rfl,rfl⟩
     ·exact⟨(),Gd,⟨by unfold z6m;rw[if_neg (Aa.1 k1)];rfl,Gd⟩,Gd,rfl,rfl,rfl,rfl⟩
    ·rintro _ _;generalize z6m q x.kind x.ty x.name depth=q2 at i2;have b1:=zs1 p hp res N x.thn oM0 oM0 (most-1) hxr2.1.2 q2 (depth+1) (loop||x.kind==5) (m+1) oM0 oM0 oM0 oM0;have n1:=zo5 p res _ x.thn (Ab _) q2 (depth+1) (loop||x.kind==5) (m+1);generalize z2g p res x.thn q2 (depth+1) (loop||x.kind==5) (m+1)=B1 at b1 n1 i2;obtain⟨e1,m1⟩:=B1;dsimp only at b1 n1 i2;have b2:=zs1 p hp res N x.els oM0 oM0 (most-1) hxr2.2 q2 (depth+1) loop m1 oM0 oM0 oM0 oM0;have n2:=zo5 p res _ x.els (Ab _) q2 (depth+1) loop m1;generalize z2g p res x.els q2 (depth+1) loop m1=B2 at b2 n2 i2;obtain⟨e2,m2⟩:=B2;dsimp only at b2 n2 i2;have hdp:z3d .add .i64 depth 1=some (.int .i64 (depth+1)):=z01 rfl oM0;clear hS hE hR;refine⟨hdp,z00 (λk5=>?_) λk5=>?_⟩
     all_goals
      subst k5;refine⟨[],b1,sR,Ge,rfl,z00 (λc1=>?_) λc1=>?_⟩
      ·have c1:¬e1=0:=by simpa using c1
       rw[if_neg c1,if_neg c1]at i2;subst i2;exact⟨sI,rfl,Gd⟩
      ·have c1:e1=0:=by simpa using c1
       rw[if_pos c1]at i2;refine⟨hdp,[],b2,sR,Ge,rfl,z00 (λc2=>?_) λc2=>?_⟩
       ·have c2:¬e2=0:=by simpa using c2
        rw[if_neg c2]at i2;subst i2;exact⟨sI,rfl,Gd⟩
       ·have c2:e2=0:=by simpa using c2
        rw[if_pos c2]at i2;exact⟨z01 rfl oM0,(i+1,q2,m2),z03 hlt,⟨hlt,i2,by dsimp only;omega⟩,Gf,Ge,rfl,rfl,rfl,rfl⟩
  ·have hge:l.length<=i:=z0y (f:=St.enc) rfl hc;rw[Ad hge,z2g]at i2;subst i2;exact⟨sI,rfl,Gd⟩
theorem j0t:∀l:List St,lvs l=l.any lvS
 |[]=>by rw[lvs];rfl
 |x::r=>by rw[lvs,j0t r];rfl
theorem yz3:∀l:List St,ens l=l.any enS
 |[]=>by rw[ens];rfl
 |x::r=>by rw[ens,yz3 r];rfl
theorem lvS_eq(x:St):lvS x=(x.kind==6||(x.kind==4&&(lvs x.thn||lvs x.els))):=by cases x;rw[lvS];rfl
theorem enS_eq(x:St):enS x=if x.kind=8 then true else if x.kind=4 then ens x.thn&&ens x.els else if x.kind=5 then((x.args.getD 0 ex0).kind==2&&((x.args.getD 0 ex0).n==1 && !lvs x.thn))else false:=by cases x;rw[enS];rfl
theorem zj3:∀(N:Nat)(l:List St),SizeOf.sizeOf l<N->l.length<=1073741824->szL l<=1073741824->SC Tryz.prog 106 [.pv (sts l)] [] (λk=>k∈[]) (iBool (lvs l)) []
 |0,_,h,_,_=>absurd h (Al _)
 |N+1,l,hN,hl,hz=>by
  have hc:=y5x 155 [] rfl lvS l oM0 (λx hm=>by
   have hsz:SizeOf.sizeOf x.thn<N/\SizeOf.sizeOf x.els<N:=by have:=Bq hm;have:=zs4 x;omega
   have h1:=zv8 hm;have h2:=y2p x;have h3:=z8j x.thn;have h4:=z8j x.els;have a1:=zj3 N x.thn hsz.1 oM0 oM0;have a2:=zj3 N x.els hsz.2 oM0 oM0;rw[lvS_eq];refine SC.vc tb { pb:=[101] } [] Tryz.func155 rfl rfl ?_;refine z00 (λc=>?_) λc=>z00 (λc2=>?_) λc2=>?_
   ·have c:(x.kind==6)=true:=c;exact⟨sE (by rw[c];rfl),Gd⟩
   ·have c:(x.kind==6)=false:=c;have c2:(x.kind==4)=true:=c2;rw[c,c2];generalize lvs x.thn=q1 at a1;refine⟨[],a1,sR,Gd,rfl,?_⟩
    cases q1 with
    |true=>exact⟨sI,Gd⟩
    |false=>exact⟨[],a2,sR,Gd,rfl,sI,Gd⟩
   ·have c:(x.kind==6)=false:=c;have c2:(x.kind==4)=false:=c2;exact⟨sE (by rw[c,c2];rfl),Gd⟩)
  rw[<- j0t]at hc;refine SC.vc tb {} [] Tryz.func106 rfl rfl ?_;exact⟨[],hc,SubA.same sFn,Gd,rfl,sI,Gd⟩
theorem y1t:∀(N:Nat)(l:List St),SizeOf.sizeOf l<N->szL l<=1073741824->∀most,rsL l most=true->SC Tryz.prog 61 [.pv (sts l)] [] (λk=>k∈[]) (iBool (ens l)) []
 |0,_,h,_,_,_=>absurd h (Al _)
 |N+1,l,hN,hz,most,hr=>by
  have hl:=z8j l;have hc:=y5x 105 [] rfl enS l oM0 (λx hm=>by
   have hsz:SizeOf.sizeOf x.thn<N/\SizeOf.sizeOf x.els<N:=by have:=Bq hm;have:=zs4 x;omega
   have h1:=zv8 hm;have h2:=y2p x;have h3:=z8j x.thn;have hxr:=y1f hr hm;rw[y3s]at hxr;simp only[A0,Bg]at hxr;have a1:=y1t N x.thn hsz.1 oM0 (most-1) hxr.1.2;have a2:=y1t N x.els hsz.2 oM0 (most-1) hxr.2;have a3:=zj3 _ x.thn (Ab _) oM0 oM0;have hcs:=(zm5 hxr.1.1.1.1 hxr.1.1.2).2;rw[enS_eq];refine SC.vc tb { pb:=[101] } [] Tryz.func105 rfl rfl ?_;refine z00 (λc=>?_) λc=>z00 (λc2=>?_) λc2=>z00 (λc3=>?_) λc3=>?_
   ·have c:x.kind=8:=eq_of_beq c;rw[if_pos c];exact⟨sI,Gd⟩
   ·have c:¬x.kind=8:=Aa.1 c;have c2:x.kind=4:=eq_of_beq c2;rw[if_neg c,if_pos c2];generalize ens x.thn=q1 at a1;refine⟨[],a1,sR,Gd,rfl,?_⟩
    cases q1 with
    |false=>exact⟨sI,Gd⟩
    |true=>exact⟨[],a2,sR,Gd,rfl,sI,Gd⟩
   ·have c:¬x.kind=8:=Aa.1 c;have c2:¬x.kind=4:=Aa.1 c2;have c3:x.kind=5:=eq_of_beq c3;obtain⟨e,he⟩:∃e,x.args=[e]:=by
     rw[c3]at hcs;rcases hcs with h|h|h|h|h|h|h|h|h|h
     ·exact absurd h.1 dC0
     ·exact absurd h.1 dC0
     ·exact absurd h.1 dC0
     ·exact absurd h.1 dC0
     ·exact h.2.2.2.1
     ·exact absurd h.1 dC0
     ·exact absurd h.1 dC0
     ·exact absurd h.1 dC0
     ·exact absurd h.1 dC0
     ·exact absurd h.1 dC0
    have hg:(x.args.getD 0 ex0)=e:=by rw[he];rfl
    have hx:x.args[0]?=some e:=by rw[he];rfl
    rw[if_neg c,if_neg c2,if_pos c3,hg];refine⟨z1c hx,rfl,z00 (λk1=>?_) λk1=>?_⟩
    ·refine⟨z1c hx,rfl,z00 (λk2=>?_) λk2=>?_⟩
     ·have k1:(e.kind==2)=true:=k1;have k2:(e.n==1)=true:=k2;rw[k1,k2];exact⟨[],a3,sR,Gd,rfl,sI,Gd⟩
     ·have k1:(e.kind==2)=true:=k1;have k2:(e.n==1)=false:=k2;rw[k1,k2];exact⟨sI,Gd⟩
    ·have k1:(e.kind==2)=false:=k1;rw[k1];exact⟨sI,Gd⟩
   ·have c:¬x.kind=8:=Aa.1 c;have c2:¬x.kind=4:=Aa.1 c2;have c3:¬x.kind=5:=Aa.1 c3;rw[if_neg c,if_neg c2,if_neg c3];exact⟨sI,Gd⟩)
  rw[<- yz3]at hc;refine SC.vc tb {} [] Tryz.func61 rfl rfl ?_;exact⟨[],hc,SubA.same sFn,Gd,rfl,sI,Gd⟩
def yc8:ByteArray:=⟨#[109,97,105,110]⟩
def z8e(es:List (Value×PV))(l:List ByteArray):List (Value×PV):=l.foldl (λe s=>bump s e) es
theorem zk0:∀(l:List ByteArray) {es:List (Value×PV)},Cnt es->Cnt (z8e es l)
 |[],_,h=>h
 |s::r,_,h=>zk0 r (h.bump s)
theorem zo8(es:List (Value×PV))(l:List ByteArray)(s:ByteArray):z8e es (l++[s])=bump s (z8e es l):=by unfold z8e;rw[Dw];rfl
theorem zs8{α:Type}(f:α -> ByteArray){l:List α}{i:Nat}{x:α}(h:l.take (i+1)=l.take i++[x]):(l.map f).take (i+1)=(l.map f).take i++[f x]:=by
 rw[<- Ef,h,Cm,Ef];rfl
def y4g(p:Pg):Bool :=
 ((z8e (z8e [] (p.arrays.map Ar.name)) (p.funcs.map Fu.name)).length:Int)==p.arrays.length+p.funcs.length&&(decide (z3n p yc8≥0)&&((fuAt p (z3n p yc8)).ty==1&&(fuAt p (z3n p yc8)).params.length==0))
theorem yv5(p:Pg)(hp:szP p):SC Tryz.prog 57 [.pv p.enc] [] (λk=>k∈[]) (iBool (y4g p)) []:=by
 refine SC.vc tb { pb:=[101] } [] Tryz.func57 rfl rfl ?_;obtain⟨hf,ha⟩:=hp;refine⟨Nat,λi=>[(13,iInt ((i:Nat):Int))],λi=>[(109,.map (z8e [] ((p.arrays.map Ar.name).take i)))],λi=>p.arrays.length-i,λi=>i<=p.arrays.length,[],0,Ac _,Ge,Ge,?_⟩;intro i hi;have hc0:=zk0 ((p.arrays.map Ar.name).take i) (es:=[]) Cnt.nil;refine z00 (λhc=>?_) λhc=>?_
 ·have hlt:i<p.arrays.length:=z0x (f:=Ar.enc) rfl hc;obtain⟨x,x1,x2,x3,x4⟩:=z0o hlt;have hs:=zs8 Ar.name x2;have hs2:z8e [] ((p.arrays.map Ar.name).take (i+1))=bump x.name (z8e [] ((p.arrays.map Ar.name).take i)):=by rw[hs,zo8]
  obtain⟨n,hn⟩:=hc0.find (.string x.name);refine⟨y2s x1,rfl,VAsk.mk (p:=vInt n) (b:=(z1k (.string x.name) (z8e [] ((p.arrays.map Ar.name).take i))).isSome) rfl hc0.1 (E9 hn rfl) ⟨rfl,rfl,hc0.1,z01 rfl oM0,i+1,z03 hlt,hlt,Ge,⟨mpq (by rw[hs2];exact(zg9 hn).symm),Gd⟩,rfl,rfl,rfl,rfl⟩⟩
 ·have hge:p.arrays.length<=i:=z0y (f:=Ar.enc) rfl hc;rw[At (by simpa using hge)]at hc0⊢;have hP:=ze7 p yc8 hf;have hfu:=@zx3 p yc8;unfold y4g;generalize z8e [] (p.arrays.map Ar.name)=e1 at hc0⊢;refine⟨Nat,λi=>[(26,iInt ((i:Nat):Int))],λi=>[(109,.map (z8e e1 ((p.funcs.map Fu.name).take i)))],λi=>p.funcs.length-i,λi=>i<=p.funcs.length,[],0,Ac _,Ge,Ge,?_⟩;intro i hi;have hc1:=zk0 ((p.funcs.map Fu.name).take i) hc0;refine z00 (λhc=>?_) λhc=>?_
  ·have hlt:i<p.funcs.length:=z0x (f:=Fu.enc) rfl hc;obtain⟨x,x1,x2,x3,x4⟩:=z0o hlt;have hs:=zs8 Fu.name x2;have hs2:z8e e1 ((p.funcs.map Fu.name).take (i+1))=bump x.name (z8e e1 ((p.funcs.map Fu.name).take i)):=by rw[hs,zo8]
   obtain⟨n,hn⟩:=hc1.find (.string x.name);refine⟨z9r x1,rfl,VAsk.mk (p:=vInt n) (b:=(z1k (.string x.name) (z8e e1 ((p.funcs.map Fu.name).take i))).isSome) rfl hc1.1 (E9 hn rfl) ⟨rfl,rfl,hc1.1,z01 rfl oM0,i+1,z03 hlt,hlt,Ge,⟨mpq (by rw[hs2];exact(zg9 hn).symm),Gd⟩,rfl,rfl,rfl,rfl⟩⟩
  ·have hge:p.funcs.length<=i:=z0y (f:=Fu.enc) rfl hc;rw[At (by simpa using hge)];generalize z8e e1 (p.funcs.map Fu.name)=e2;have hadd:z3d .add .i64 ((p.arrays.map Ar.enc).length:Int) ((p.funcs.map Fu.enc).length:Int)=some (.int .i64 ((p.arrays.length:Int)+p.funcs.length)):=z01 sI0 oM0;refine⟨[],hP,sR,Gd,rfl,hadd,z00 (λc1=>?_) λc1=>?_⟩
   ·rw[c1,B5];refine z00 (λc2=>?_) λc2=>?_
    ·obtain⟨j,g1,g2⟩:=hfu (Am c2);rw[c2,B5];refine⟨z9r g2,g1,z00 (λc3=>?_) λc3=>?_⟩
     ·have c3:((fuAt p (z3n p yc8)).ty==1)=true:=c3;rw[c3,B5];exact⟨z9r g2,g1,sE (Af iBool (by rw[Ck];simp)),Gd⟩
     ·have c3:((fuAt p (z3n p yc8)).ty==1)=false:=c3;rw[c3];exact⟨sI,Gd⟩
    ·rw[c2];exact⟨sI,Gd⟩
   ·rw[c1];exact⟨sI,Gd⟩
def j4r(l:List Pm):Bool:=decide (((z8e [] (l.map Pm.name)).length:Int)<l.length)
theorem yv6(l:List Pm)(hl:l.length<=1073741824):SC Tryz.prog 58 [.pv (pms l)] [] (λk=>k∈[]) (iBool (j4r l)) []:=by
 refine SC.vc tb {} [] Tryz.func58 rfl rfl ?_;refine⟨Nat,λi=>[(9,iInt ((i:Nat):Int))],λi=>[(106,.map (z8e [] ((l.map Pm.name).take i)))],λi=>l.length-i,λi=>i<=l.length,[],0,Ac _,Ge,Ge,?_⟩;intro i hi;have hc0:=zk0 ((l.map Pm.name).take i) (es:=[]) Cnt.nil;refine z00 (λhc=>?_) λhc=>?_
 ·have hlt:i<l.length:=z0x (f:=Pm.enc) rfl hc;obtain⟨x,x1,x2,x3,x4⟩:=z0o hlt;have hs:=zs8 Pm.name x2;have hs2:z8e [] ((l.map Pm.name).take (i+1))=bump x.name (z8e [] ((l.map Pm.name).take i)):=by rw[hs,zo8]
  obtain⟨n,hn⟩:=hc0.find (.string x.name);refine⟨zu5 x1,rfl,VAsk.mk (p:=vInt n) (b:=(z1k (.string x.name) (z8e [] ((l.map Pm.name).take i))).isSome) rfl hc0.1 (E9 hn rfl) ⟨rfl,rfl,hc0.1,z01 rfl oM0,i+1,z03 hlt,hlt,Ge,⟨mpq (by rw[hs2];exact(zg9 hn).symm),Gd⟩,rfl,rfl,rfl,rfl⟩⟩
 ·have hge:l.length<=i:=z0y (f:=Pm.enc) rfl hc;rw[At (by simpa using hge)];exact⟨sE (Af iBool (by unfold j4r;rw[A8])),Gd⟩
def yFun(p:Pg)(f:Fu):Int×Nat :=
 (if (z2g p f.ty f.body (ySc f.params) 1 false 0).1=0/\ens f.body=false then 52 else(z2g p f.ty f.body (ySc f.params) 1 false 0).1,(z2g p f.ty f.body (ySc f.params) 1 false 0).2)
def y9c(p:Pg):List Fu->Nat->Int×Int×Int
 |[],_=>(0,0,0)
 |f::r,i=>if j4r f.params then(50,i,0)else if (yFun p f).1=0 then y9c p r (i+1)else((yFun p f).1,i,(yFun p f).2)
def z91(p:Pg):Int×Int×Int:=if y4g p then y9c p p.funcs 0 else(50,0,0)
attribute [local irreducible] y4g z2g
theorem yv2(p:Pg)(hb:pz p.funcs<=1000000)(ha:p.arrays.length<=1000000)(hr:rPg p=true):SC Tryz.prog 34 [.pv p.enc] [] (λk=>k∈[]) (.tup [iInt (z91 p).1,.pv (.agg [vInt (z91 p).2.1,vInt (z91 p).2.2])]) []:=by
 refine SC.vc tb { pb:=[101,105],ids:=[(36,1)] } [] Tryz.func34 rfl rfl ?_;have hlp:=zl1 p.funcs;have hP:szP p:=⟨by omega,by omega⟩;have hN:=yv5 p hP;have hR:=yv0 p oM0 oM0 hr;unfold rPg at hr;simp only[A0]at hr;unfold z91;refine⟨[],hR,sR,Gd,rfl,[],hN,sR,Gd,rfl,z00 (λc=>?_) λc=>?_⟩
 ·rw[show y4g p=false by simpa using c];exact⟨sI,Gd⟩
 ·rw[show y4g p=true by simpa using c,if_pos rfl];generalize hR:y9c p p.funcs 0=R;refine⟨Nat,λi=>[(21,iInt ((i:Nat):Int))],λ_=>[],λi=>p.funcs.length-i,λi=>i<=p.funcs.length/\R=y9c p (p.funcs.drop i) i,[],0,⟨Ac _,hR.symm⟩,Ge,Gd,?_⟩;rintro i ⟨i1,i2⟩;refine z00 (λhc=>?_) λhc=>?_
  ·have hlt:i<p.funcs.length:=z0x (f:=Fu.enc) rfl hc;obtain⟨x,x1,x2,x3,x4⟩:=z0o hlt;have hpz:=zu6 x4;have hrx:=Bi.1 hr.2 x x4;unfold rFu at hrx;simp only[A0]at hrx;rw[x3,y9c]at i2;refine⟨z9r x1,rfl,[],yv6 x.params oM0,sR,Gd,rfl,z00 (λc1=>?_) λc1=>?_⟩
   ·rw[if_pos c1]at i2;subst i2;exact⟨sI,Gd⟩
   ·rw[if_neg (by rw[c1];decide)]at i2;have hB:=zs1 p hP x.ty _ x.body (Ab _) oM0 100 hrx.1.2 (ySc x.params) 1 false 0 dC0 dC0 dC0 oM0;have hE:=y1t _ x.body (Ab _) oM0 100 hrx.1.2;unfold yFun at i2;generalize z2g p x.ty x.body (ySc x.params) 1 false 0=B at hB i2;obtain⟨b1,b2⟩:=B;dsimp only at hB i2;refine⟨[],yf2 x.params oM0,sR,Gd,rfl,[],hB,sR,Ge,rfl,z00 (λc2=>?_) λc2=>?_⟩
    ·have c2:b1=0:=by simpa using c2
     subst c2;refine⟨[],hE,sR,Gd,rfl,z00 (λc3=>?_) λc3=>?_⟩
     ·rw[show(if (0:Int)=0/\ens x.body=false then(52:Int)else 0)=52 from if_pos ⟨rfl,by simpa using c3⟩,if_neg dC0]at i2;subst i2;exact⟨sI,Gd⟩
     ·have c3:ens x.body=true:=by simpa using c3
      rw[show(if (0:Int)=0/\ens x.body=false then(52:Int)else 0)=0 from if_neg (λh=>by rw[c3]at h;cases h.2),if_pos rfl]at i2;exact⟨z01 rfl oM0,i+1,z03 hlt,⟨hlt,i2⟩,Ge,Gd,rfl,rfl,rfl,rfl⟩
    ·have c2:¬b1=0:=by simpa using c2
     rw[show(if b1=0/\ens x.body=false then(52:Int)else b1)=b1 from if_neg (λh=>c2 h.1),if_neg c2]at i2;subst i2;exact z00 (λ_=>⟨sI,Gd⟩) λh=>absurd h (by simp[c2])
  ·have hge:p.funcs.length<=i:=z0y (f:=Fu.enc) rfl hc;rw[Ad hge,y9c]at i2;subst i2;exact⟨sI,Gd⟩
theorem SC.nilArg{P:Program}{f:FuncId}{xs:List IV}{pre post:List (Nat×HO)}{R:Nat->Prop}{r:IV}(h:∀a cap,cap<=maxLen->SC P f (.pv (.val (.slice a 0 cap))::xs) pre R r post):SC P f (.pv (.seq [])::xs) pre R r post:=by
 intro F ρ w vs hk hr hargs;obtain⟨v,hv,h1⟩:=hargs.2 0 _ rfl
 cases h1 with
 |pv _ _ h1 =>
  cases h1 with
  |seq _ a cap b off u ha hb hl hm hc hr1 =>
   refine h a cap hm F ρ w vs hk hr ⟨hargs.1,λt x hx=>?_⟩
   cases t with
   |zero=>cases hx;exact⟨_,hv,z3f _⟩
   |succ t=>exact hargs.2 (t+1) x hx
theorem yd1:SC Tryz.prog 35 [.pv (.seq [])] [] (λk=>k∈[]) (.pv (.seq [])) []:=by
 refine SC.nilArg λa cap hc=>?_
 cases a with
 |none =>
  refine SC.vc tb { } [] Tryz.func35 rfl rfl ?_
  exact⟨sN,Gd⟩
 |some a =>
  refine SC.give (k:=7) (n:=0) (s:=⟨80,2⟩) (els:=[]) ?_ rfl rfl;refine SC.vc tb { ids:=[(5,7)],ob:=[7],gh:=[(3,[.un 0])] } [] Tryz.func35 rfl rfl ?_;exact⟨hc,rfl,(λel h=>absurd h (Bs)),by decide,sI,rfl,Gd⟩
theorem yt7(l:List Ar)(hne:l≠[])(hl:l.length<=1073741824):SC Tryz.prog 35 [.pv (arrs l)] [] (λk=>k∈[]) (.sl 7 (l.map Ar.enc).length) [(7,.row ⟨80,2⟩ (l.map Ar.enc))]:=by
 obtain⟨x,r,rfl⟩:=C2 hne;refine SC.vc tb { ids:=[(5,7)],ob:=[7] } [] Tryz.func35 rfl rfl ?_;exact⟨rfl,zf1 λy _=>⟨rfl,Bi.1 (show y.enc.all PV.one=true from rfl)⟩,by simp at hl⊢;omega,sE (by rw[C0];rfl),rfl,Gd⟩
theorem yd3:SC Tryz.prog 63 [.pv (.seq [])] [] (λk=>k∈[]) (.pv (.seq [])) []:=by
 refine SC.nilArg λa cap hc=>?_
 cases a with
 |none =>
  refine SC.vc tb { } [] Tryz.func63 rfl rfl ?_
  exact⟨sN,Gd⟩
 |some a =>
  refine SC.give (k:=7) (n:=0) (s:=⟨98,2⟩) (els:=[]) ?_ rfl rfl;refine SC.vc tb { ids:=[(5,7)],ob:=[7],gh:=[(3,[.un 0])] } [] Tryz.func63 rfl rfl ?_;exact⟨hc,rfl,(λel h=>absurd h (Bs)),by decide,sI,rfl,Gd⟩
theorem yt9(l:List Pm)(hne:l≠[])(hl:l.length<=1073741824):SC Tryz.prog 63 [.pv (pms l)] [] (λk=>k∈[]) (.sl 7 (l.map Pm.enc).length) [(7,.row ⟨98,2⟩ (l.map Pm.enc))]:=by
 obtain⟨x,r,rfl⟩:=C2 hne;refine SC.vc tb { ids:=[(5,7)],ob:=[7] } [] Tryz.func63 rfl rfl ?_;exact⟨rfl,zf1 λy _=>⟨rfl,Bi.1 (show y.enc.all PV.one=true from rfl)⟩,by simp at hl⊢;omega,sE (by rw[C0];rfl),rfl,Gd⟩
theorem yd4:SC Tryz.prog 110 [.pv (.seq [])] [] (λk=>k∈[]) (.pv (.seq [])) []:=by
 refine SC.nilArg λa cap hc=>?_
 cases a with
 |none =>
  refine SC.vc tb { } [] Tryz.func110 rfl rfl ?_
  exact⟨sN,Gd⟩
 |some a =>
  refine SC.give (k:=7) (n:=0) (s:=⟨145,6⟩) (els:=[]) ?_ rfl rfl;refine SC.vc tb { ids:=[(5,7)],ob:=[7],gh:=[(3,[.un 0])] } [] Tryz.func110 rfl rfl ?_;exact⟨hc,rfl,(λel h=>absurd h (Bs)),by decide,sI,rfl,Gd⟩
theorem yu0(l:List St)(hne:l≠[])(hl:l.length<=1073741824):SC Tryz.prog 110 [.pv (sts l)] [] (λk=>k∈[]) (.sl 7 (l.map St.enc).length) [(7,.row ⟨145,6⟩ (l.map St.enc))]:=by
 obtain⟨x,r,rfl⟩:=C2 hne;refine SC.vc tb { ids:=[(5,7)],ob:=[7] } [] Tryz.func110 rfl rfl ?_;exact⟨rfl,zf1 λy _=>⟨by rw[St.enc_eq];rfl,Bi.1 (show y.enc.all PV.one=true by rw[St.enc_eq];rfl)⟩,by simp at hl⊢;omega,sE (by rw[C0];rfl),rfl,Gd⟩
theorem yd2:SC Tryz.prog 158 [.pv (.seq [])] [] (λk=>k∈[]) (.pv (.seq [])) []:=by
 refine SC.nilArg λa cap hc=>?_
 cases a with
 |none =>
  refine SC.vc tb { } [] Tryz.func158 rfl rfl ?_
  exact⟨sN,Gd⟩
 |some a =>
  refine SC.give (k:=7) (n:=0) (s:=⟨180,5⟩) (els:=[]) ?_ rfl rfl;refine SC.vc tb { ids:=[(5,7)],ob:=[7],gh:=[(3,[.un 0])] } [] Tryz.func158 rfl rfl ?_;exact⟨hc,rfl,(λel h=>absurd h (Bs)),by decide,sI,rfl,Gd⟩
theorem yt8(l:List Ex)(hne:l≠[])(hl:l.length<=1073741824):SC Tryz.prog 158 [.pv (exs l)] [] (λk=>k∈[]) (.sl 7 (l.map Ex.enc).length) [(7,.row ⟨180,5⟩ (l.map Ex.enc))]:=by
 obtain⟨x,r,rfl⟩:=C2 hne;refine SC.vc tb { ids:=[(5,7)],ob:=[7] } [] Tryz.func158 rfl rfl ?_;exact⟨rfl,zf1 λy _=>⟨by rw[Ex.enc_eq];rfl,Bi.1 (show y.enc.all PV.one=true by rw[Ex.enc_eq];rfl)⟩,by simp at hl⊢;omega,sE (by rw[C0];rfl),rfl,Gd⟩
set_option maxRecDepth 100000 in
set_option maxHeartbeats 4000000 in
theorem y6p(b:Nat)(r:Array MapEntry)(ck:Nat)(w:World)(hb:w.heap[b]?=some (.map r ck)) :
 Calls Tryz.prog 109 #[.map (some b)] w λe w'=>e=.returned (.map (some w.heap.size))/\w'=w.alloc (.map r ck):=by
 have hq:=λw=>run_eql_map_nil_sl (P:=Tryz.prog) w 137 _ _ (some b) Tryz.underlying137
 go_enter Tryz.func109,Tryz.ntmps109
 go_wp2
 rw[run_callFunc_extern Tryz.func157 kR0 kR0 kR0 (e:=Extern.MapsClone.clone) kR0,run_maps_clone_sl w 137 hb];simp only[Result.andThen];rw[D2]
 go_wp2
 rw[run_typeAssert_map_sl _ 137 20 _ _ _ Tryz.underlying137];simp only[Result.andThen];rw[D2]
 go_wp2
 go_ret
 exact⟨rfl,rfl⟩
set_option maxRecDepth 100000 in
set_option maxHeartbeats 4000000 in
theorem y6q(b:Nat)(r:Array MapEntry)(ck:Nat)(w:World)(hb:w.heap[b]?=some (.map r ck)) :
 Calls Tryz.prog 196 #[.map (some b)] w λe w'=>e=.returned (.map (some w.heap.size))/\w'=w.alloc (.map r ck):=by
 have hq:=λw=>run_eql_map_nil_sl (P:=Tryz.prog) w 94 _ _ (some b) Tryz.underlying94
 go_enter Tryz.func196,Tryz.ntmps196
 go_wp2
 rw[run_callFunc_extern Tryz.func157 kR0 kR0 kR0 (e:=Extern.MapsClone.clone) kR0,run_maps_clone_sl w 94 hb];simp only[Result.andThen];rw[D2]
 go_wp2
 rw[run_typeAssert_map_sl _ 94 20 _ _ _ Tryz.underlying94];simp only[Result.andThen];rw[D2]
 go_wp2
 go_ret
 exact⟨rfl,rfl⟩
theorem SC.clone{P:Program}{f:FuncId}{es:List (Value×PV)}(hcl:∀(b:Nat)(r:Array MapEntry)(ck:Nat)(w:World),w.heap[b]?=some (.map r ck)->Calls P f #[.map (some b)] w λe w'=>e=.returned (.map (some w.heap.size))/\w'=w.alloc (.map r ck)) :
 SC P f [.mp 1] [(1,.map es)] (λk=>k∈[1]) (.mp 8) [(8,.map es),(1,.map es)]:=by
 intro F ρ w vs hkept hrel hargs;have ha:All ⟨F,λk=>k∈[1],ρ,look (up [(1,.map es)]),w,vs.length⟩ ρ (look (up [(1,.map es)])) w [(0,.mp 1)] { tmps:=vs.toArray,defers:=[] }:=by
  refine⟨hrel,λt x hx=>?_,.refl _ _ _ _ _,rfl,by simp,hkept⟩
  match t,hx with
  |0,hx=>cases hx;obtain⟨v,h1,h2⟩:=hargs.2 0 _ rfl;exact⟨v,by simpa using h1,h2⟩
  |t+1,hx=>cases hx
 obtain⟨b,cc,r,ck,u,hv,hρ,h3,h4,h5,h6⟩:=ha.mapAt (x:=.tmp 0) rfl rfl;have hst:=ha.stamped hρ rfl h3;have hvs:vs.toArray = #[.map (some b)]:=by
  match vs,hargs.1,hv with
  |[v],_,hv=>simp[Act.eval]at hv;rw[hv]
 rw[hvs];refine(hcl b r ck w h3).mono ?_;rintro e w' ⟨rfl,rfl⟩;have hn:=ha.alloc (k:=8) (o:=.map es) rfl rfl rfl rfl 1 (.map r ck) λ_ keepP=>.map es r ck u (z2w w _) h4 h5 λi k p hi=>keepP _ _ (h6 i k p hi);exact⟨_,_,rfl,.mp _ _ λes' _=>⟨w.heap.size,1,z0a,rfl⟩,hn.rel,hn.tr⟩
theorem y86(es:List (Value×PV)):SC Tryz.prog 109 [.mp 1] [(1,.map es)] (λk=>k∈[1]) (.mp 8) [(8,.map es),(1,.map es)]:=SC.clone y6p
theorem j28(es:List (Value×PV)):SC Tryz.prog 196 [.mp 1] [(1,.map es)] (λk=>k∈[1]) (.mp 8) [(8,.map es),(1,.map es)]:=SC.clone y6q
def y78:Go.Shelf.Ren:=⟨λ|246=>192|283=>217|284=>218|285=>219|286=>220|129=>240|317=>239|318=>241|319=>242|320=>243|337=>251|338=>252|n=>n,λ|2=>2|3=>3|9=>9|4=>4|171=>268|0=>0|53=>232|37=>22|5=>5|173=>271|212=>281|51=>282|20=>20|213=>283|46=>284|232=>302|233=>303|n=>n,λ|17=>0|18=>1|19=>2|n=>n⟩
theorem yj4:Go.Proofs.LaysM.n246 Tryz.prog y78 where
 mixed:=by kernel_rfl
 f129:=Tryz.func240.trans (Af some kR0)
 f246:=Tryz.func192.trans (Af some kR0)
 f283:=Tryz.func217.trans (Af some kR0)
 f284:=Tryz.func218.trans (Af some kR0)
 f285:=Tryz.func219.trans (Af some kR0)
 f286:=Tryz.func220.trans (Af some kR0)
 f317:=Tryz.func239.trans (Af some kR0)
 f318:=Tryz.func241.trans (Af some kR0)
 f319:=Tryz.func242.trans (Af some kR0)
 f320:=Tryz.func243.trans (Af some kR0)
 f337:=Tryz.func251.trans (Af some kR0)
 f338:=Tryz.func252.trans (Af some kR0)
 t0:=Tryz.underlying0
 a0:=Tryz.isAgg0
 z0:=Tryz.sizeOf0
 v0:=Tryz.zeroValue0
 t2:=Tryz.underlying2
 a2:=Tryz.isAgg2
 z2:=Tryz.sizeOf2
 v2:=Tryz.zeroValue2
 t3:=Tryz.underlying3
 a3:=Tryz.isAgg3
 z3:=Tryz.sizeOf3
 v3:=Tryz.zeroValue3
 t4:=Tryz.underlying4
 a4:=Tryz.isAgg4
 z4:=Tryz.sizeOf4
 v4:=Tryz.zeroValue4
 t5:=Tryz.underlying5
 a5:=Tryz.isAgg5
 z5:=Tryz.sizeOf5
 v5:=Tryz.zeroValue5
 t9:=Tryz.underlying9
 a9:=Tryz.isAgg9
 z9:=Tryz.sizeOf9
 v9:=Tryz.zeroValue9
 t20:=Tryz.underlying20
 a20:=Tryz.isAgg20
 z20:=Tryz.sizeOf20
 v20:=Tryz.zeroValue20
 t37:=Tryz.underlying22
 a37:=Tryz.isAgg22
 z37:=Tryz.sizeOf22
 v37:=Tryz.zeroValue22
 t46:=Tryz.underlying284
 a46:=Tryz.isAgg284
 z46:=Tryz.sizeOf284
 v46:=Tryz.zeroValue284
 t51:=Tryz.underlying282
 a51:=Tryz.isAgg282
 z51:=Tryz.sizeOf282
 v51:=Tryz.zeroValue282
 t53:=Tryz.underlying232
 a53:=Tryz.isAgg232
 z53:=Tryz.sizeOf232
 v53:=Tryz.zeroValue232
 t171:=Tryz.underlying268
 a171:=Tryz.isAgg268
 z171:=Tryz.sizeOf268
 v171:=Tryz.zeroValue268
 t173:=Tryz.underlying271
 a173:=Tryz.isAgg271
 z173:=Tryz.sizeOf271
 v173:=Tryz.zeroValue271
 t212:=Tryz.underlying281
 a212:=Tryz.isAgg281
 z212:=Tryz.sizeOf281
 v212:=Tryz.zeroValue281
 t213:=Tryz.underlying283
 a213:=Tryz.isAgg283
 z213:=Tryz.sizeOf283
 t232:=Tryz.underlying302
 a232:=Tryz.isAgg302
 z232:=Tryz.sizeOf302
 v232:=Tryz.zeroValue302
 t233:=Tryz.underlying303
 a233:=Tryz.isAgg303
 z233:=Tryz.sizeOf303
 v233:=Tryz.zeroValue303
 g17:=by kernel_rfl
 g18:=by kernel_rfl
 g19:=by kernel_rfl
 i0:=by kernel_rfl
 i2:=by kernel_rfl
 i3:=by kernel_rfl
 i4:=by kernel_rfl
 i5:=by kernel_rfl
 i9:=by kernel_rfl
 i20:=by kernel_rfl
 i37:=by kernel_rfl
 i46:=by kernel_rfl
 i51:=by kernel_rfl
 i53:=by kernel_rfl
 i171:=by kernel_rfl
 i173:=by kernel_rfl
 i212:=by kernel_rfl
 i232:=by kernel_rfl
 i233:=by kernel_rfl
 m17:=by kernel_rfl
 m18:=by kernel_rfl
 m19:=by kernel_rfl
theorem loc_none{F:Nat->Prop}{ρ:Loc}{w:World}(h:RelH F ρ (look (up [])) w)(k:Nat):ρ k=none:=by
 cases hk:ρ k with
 |none=>rfl
 |some l =>
  obtain⟨o,ho,_⟩:=h.obj k l.1 l.2 hk
  cases ho
theorem grown{F:Nat->Prop}{ρ:Loc}{w:World}(h:RelH F ρ (look (up [])) w)(R:Nat->Prop)(k:Nat)(os:Array Obj) :
 RelH F ρ (look (up [])) (Go.Sort.grow (w.drewN k) os)/\Trans F R ρ (look (up [])) w ρ (look (up [])) (Go.Sort.grow (w.drewN k) os):=by
 have hn:=loc_none h;have hs:w.heap.size<=(Go.Sort.grow (w.drewN k) os).heap.size:=by simp[Go.Sort.grow,World.drewN]
 have hb:∀b,b<w.heap.size->(Go.Sort.grow (w.drewN k) os).heap[b]?=w.heap[b]?:=λb hb=>Go.Sort.heap_grow_old (w.drewN k) os hb;refine⟨⟨λi _ _ _ _ hi=>?_,λi _ _ hi=>?_,λb hF=>Bc (h.old b hF) hs,λi _ _ hi=>?_,λi o ho=>?_⟩,
  ⟨rfl,rfl,rfl,hs,λb hlt _=>hb b hlt,λi _ _ hi _=>.inl hi,λi cs _ hi=>?_,λi cs _ hi=>?_,λi _ _ _ _ hi=>?_,λi _ _ _ _ hi=>?_,λi _ hi=>?_,λi _ hi=>?_,λi _ _ hi=>?_⟩⟩
 all_goals first
 |(rw[hn i]at hi;cases hi)
 |cases ho
 |cases hi
theorem y84(n:Int)(h0:-9223372036854775808<=n)(h1:n<=9223372036854775807) :
 SC Tryz.prog 192 [.pv (.val (.int .i64 n)),.pv (.val (.int .i64 10))] [] (λk=>k∈[]) (.pv (.val (.string ⟨(Lib.itoa n).toArray⟩))) []:=by
 intro F ρ w vs hk hrel hargs;obtain⟨v0,e0,r0⟩:=hargs.2 0 _ rfl;obtain⟨v1,e1,r1⟩:=hargs.2 1 _ rfl;have hv:vs=[.int .i64 n,.int .i64 10]:=by
  have hl:=hargs.1;have d0:=r0.val;have d1:=r1.val;subst d0 d1
  match vs,hl,e0,e1 with
  |[a,b],_,e0,e1=>cases e0;cases e1;rfl
 subst hv;refine(Any.internal_strconv_FormatInt_10 yj4 n h0 h1 w ?_).mono ?_
 ·obtain⟨⟨T,f,h1⟩,_⟩:=hk _ (Df);unfold Lib.TabIs World.var?;rw[yj4.m17]
  show(match w.heap[0]? with
   |some (.cells cs _ _)=>some cs
   |_=>none)=_
  rw[h1]
 rintro e w' ⟨rfl,k,os,rfl⟩;obtain⟨g1,g2⟩:=grown hrel (λk=>k∈[]) k os;exact⟨ρ,_,rfl,.pv _ _ (.val _),g1,g2⟩
def tNum(n:Int):ByteArray:=⟨(Lib.itoa n).toArray⟩
def tVal(n:Int):ByteArray:=⟨#[118]⟩++tNum n
def SMap(es:List (Value×PV)):Prop:=(∀e∈es,z1v .string e.1=true)/\∀e∈es,∃s,e.2=vStr s
def z8m(es:List (Value×PV))(name:ByteArray):ByteArray:=match z1k (.string name) es with
 |some (.val (.string s))=>s
 |_=>⟨#[]⟩
def z9g(es:List (Value×PV))(a b:ByteArray):List (Value×PV):=mput (.string a) (vStr b) es
theorem SMap.nil:SMap []:=⟨λ_ h=>by simp at h,λ_ h=>by simp at h⟩
theorem SMap.put{es:List (Value×PV)}(h:SMap es)(a b:ByteArray):SMap (z9g es a b):=by
 unfold z9g;refine⟨λe he=>?_,λe he=>?_⟩
 ·rcases z45 he with rfl|he
  ·rfl
  ·exact h.1 e he
 ·rcases z45 he with rfl|he
  ·exact⟨_,rfl⟩
  ·exact h.2 e he
theorem SMap.get{es:List (Value×PV)}(h:SMap es)(name:ByteArray):(z1k (.string name) es).getD (.val (.string ⟨#[]⟩))=vStr (z8m es name):=by
 unfold z8m
 cases hf:z1k (.string name) es with
 |none=>rfl
 |some p=>obtain⟨a,ha⟩:=z7j hf;obtain⟨s,hs⟩:=h.2 _ ha;dsimp only at hs;subst hs;rfl
mutual
def rnX(es:List (Value×PV)):Ex->Ex
 |.mk k o n nm args=>.mk k o n (if k=3 then z8m es nm else nm) (rnXL es args)
def rnXL(es:List (Value×PV)):List Ex->List Ex
 |[]=>[]
 |x::r=>rnX es x::rnXL es r
end
theorem y1e(es:List (Value×PV)):∀l,rnXL es l=l.map (rnX es)
 |[]=>rfl
 |x::r=>by simp[rnXL,y1e es r]
theorem rnX_eq(es:List (Value×PV))(x:Ex):rnX es x=.mk x.kind x.op x.n (if x.kind=3 then z8m es x.name else x.name) (x.args.map (rnX es)):=by
 cases x;rw[rnX,y1e];rfl
def z1q(es:List (Value×PV))(k:Int)(nm:ByteArray)(n:Nat):ByteArray×List (Value×PV)×Nat :=
 if k=1 then(z8m (z9g es nm (tVal n)) nm,z9g es nm (tVal n),n+1)else if k=2 then(z8m es nm,es,n)else(nm,es,n)
mutual
def rnB:List St->List (Value×PV)->Nat->List St×Nat
 |[],_,n=>([],n)
 |x::r,es,n=>((rnS x es n).1::(rnB r (z1q es x.kind x.name n).2.1 (rnS x es n).2).1,(rnB r (z1q es x.kind x.name n).2.1 (rnS x es n).2).2)
def rnS:St->List (Value×PV)->Nat->St×Nat
 |.mk k ty nm args thn els,es,n=>(.mk k ty (z1q es k nm n).1 (args.map (rnX es)) (rnB thn (z1q es k nm n).2.1 (z1q es k nm n).2.2).1 (rnB els (z1q es k nm n).2.1 (rnB thn (z1q es k nm n).2.1 (z1q es k nm n).2.2).2).1,
  (rnB els (z1q es k nm n).2.1 (rnB thn (z1q es k nm n).2.1 (z1q es k nm n).2.2).2).2)
end
def rnPm(l:List Pm)(es:List (Value×PV))(n:Nat):List Pm×List (Value×PV)×Nat:=match l with
 |[]=>([],es,n)
 |x::r=>(⟨z8m (z9g es x.name (tVal n)) x.name,x.ty⟩::(rnPm r (z9g es x.name (tVal n)) (n+1)).1,(rnPm r (z9g es x.name (tVal n)) (n+1)).2)
def rnF(f:Fu):Fu:=⟨f.name,f.ty,(rnPm f.params [] 0).1,(rnB f.body (rnPm f.params [] 0).2.1 (rnPm f.params [] 0).2.2).1⟩
def rnP(p:Pg):Pg:=⟨p.arrays,p.funcs.map rnF⟩
def N64(n:Int):Prop:=-9223372036854775808<=n/\n<=9223372036854775807
theorem tNum_le{n:Int}(h:N64 n):(tNum n).size<=21:=Lib.itoa_length_le n h.1 h.2
theorem sc_ItoaI(n:Int)(h:N64 n):SC Tryz.prog 156 [.pv (.val (.int .i64 n))] [] (λk=>k∈[]) (.pv (.val (.string (tNum n)))) []:=by
 refine SC.vc tb {} [] Tryz.func156 rfl rfl ?_;exact⟨[],y84 n h.1 h.2,sR,Gd,rfl,sI,Gd⟩
theorem sc_Itoa(n:Int)(h:N64 n):SC Tryz.prog 108 [.pv (.val (.int .i64 n))] [] (λk=>k∈[]) (.pv (.val (.string (tNum n)))) []:=by
 refine SC.vc tb {} [] Tryz.func108 rfl rfl ?_;exact⟨[],sc_ItoaI n h,sR,Gd,rfl,sI,Gd⟩
def pg0:Pg:=⟨[],[]⟩
def z2a(s:ByteArray):Pg×Int×Int :=
 if (z1t s).2.1=0 then
  if (z97 (z1t s).1).2.deep then(pg0,2,(tkAt (z1t s).1 (z97 (z1t s).1).2).line)
  else if (z97 (z1t s).1).2.bad then(pg0,20,(tkAt (z1t s).1 (z97 (z1t s).1).2).line)
  else if rPg (z97 (z1t s).1).1 then((z97 (z1t s).1).1,0,0)else(pg0,2,0)
 else(pg0,(z1t s).2)
theorem y71(s:ByteArray):pz (z2a s).1.funcs+(z2a s).1.arrays.length<=300003:=by
 unfold z2a;split
 ·rename_i h0;obtain⟨hT,hl⟩:=y25 h0;split
  ·exact Ac _
  ·rename_i h1;split
   ·exact Ac _
   ·rename_i h2;split
    ·have ho:(z97 (z1t s).1).2.over=false:=by unfold Ps.over;rw[Et.2 h1,Et.2 h2];rfl
     have hp:0<(z1t s).1.length:=by obtain⟨i,e,h,_⟩:=hT;rw[h];simp
     have h3:=y5h hT (big (z1t s).1) ⟨[],[]⟩ ⟨0,false,false⟩ ho;have h4:=(z95 hT (big (z1t s).1) ⟨[],[]⟩ ⟨0,false,false⟩).lt hp;unfold z97;simp only[pz,A5]at h3;dsimp only at h3 h4⊢;omega
    ·exact Ac _
 ·exact Ac _
theorem zt6(s:ByteArray):rPg (z2a s).1=true:=by
 unfold z2a;split
 ·split
  ·rfl
  ·split
   ·rfl
   ·split
    ·rename_i h;exact h
    ·rfl
 ·rfl
attribute [local irreducible] z97 z1t
theorem sc_Parse(s:ByteArray)(hs:s.size<=1073741824):SC Tryz.prog 23 [.pv (.val (.string s))] [] (λk=>k∈[]) (.tup [.pv (z2a s).1.enc,iInt (z2a s).2.1,iInt (z2a s).2.2]) []:=by
 refine SC.vc tb { ids:=[(23,1)] } [] Tryz.func23 rfl rfl ?_;have h0:=j25 s hs;have hok:=@y25 s;have hsz:=j3s s;unfold z2a;generalize z1t s=t at h0 hok hsz;obtain⟨T,e,line⟩:=t;dsimp only at h0 hok hsz⊢;refine⟨[],h0,sR,Gd,rfl,z00 (λc1=>?_) λc1=>?_⟩
 ·have c1:¬e=0:=by simpa using c1
  rw[if_neg c1];exact⟨sT3 (sP (z0g _)),Gd⟩
 ·have c1:e=0:=by simpa using c1
  obtain⟨hT,hl⟩:=hok c1;rw[if_pos c1];have hp:0<T.length:=by obtain⟨i,e,h,_⟩:=hT;rw[h];simp
  have hS:TkSz T:=λx hx=>Bn (hsz x hx) hs;have h1:=sc_prog T hT hS oM0 hp;have h2:=(z95 hT (big T) ⟨[],[]⟩ ⟨0,false,false⟩).lt hp;have h3:=y5h hT (big T) ⟨[],[]⟩ ⟨0,false,false⟩;rw[show z43 T (big T) ⟨[],[]⟩ ⟨0,false,false⟩=z97 T from by unfold z97;rfl]at h2 h3;generalize z97 T=r at h1 h2 h3;obtain⟨p,a,b,d⟩:=r;dsimp only at h1 h2 h3⊢;simp only[pz,A5]at h3;refine⟨[],h1,sR,Ge,rfl,?_⟩
  cases d with
  |true=>exact⟨yg0 (s:=⟨a,b,true⟩) h2,rfl,sT3 (sP (z0g _)),Gd⟩
  |false =>
   cases b with
   |true=>exact⟨yg0 (s:=⟨a,true,false⟩) h2,rfl,sT3 (sP (z0g _)),Gd⟩
   |false =>
    have h4:=h3 rfl;refine⟨[],sc_Right p oM0 oM0,sR,Gd,rfl,z00 (λc2=>?_) λc2=>?_⟩
    ·rw[show rPg p=false by simpa using c2];exact⟨sT3 (sP (z0g _)),Gd⟩
    ·rw[show rPg p=true by simpa using c2];exact⟨sI,Gd⟩
def eTx(s:ByteArray):List PV:=[.val (.string s)]
section
structure Gn where
 pos:Nat
 types:List Int
 left:Nat
structure Plc where
 If:Bool
 Loop:Bool
 Yield:List Int
 Next:List Int
 Left:List Int
section
variable (l:List UInt8)
end
end
def eB(x:UInt8):List PV:=[.val (.int .u8 (x.toNat:Int))]
def bts(l:List UInt8):PV:=.seq (l.map eB)
def z2f(l:List UInt8)(at_:Nat)(n:Nat):Nat:=if at_+1 > l.length∨at_+1 > 120 then 0 else(l.getD at_ 0).toNat%n
def mkO(l:List UInt8)(at_:Nat):List (Nat×HO):=[(1,.box [.pv (bts l),iInt (at_:Nat)])]
theorem r64{m n z:Int}(hn:n≠0)(h:m.tmod n=z):z3d .rem .i64 m n=some (.int .i64 z):=by
 subst h;simp only[z3d];rw[if_neg hn]
theorem sc_pick(l:List UInt8)(at_:Nat)(ha:at_<=1000000000)(n:Nat)(hn:0<n)(hl:l.length<=9223372036854775807) :
 SC Tryz.prog 41 [.ptr 1 0,.pv (.val (.int .i64 (n:Int)))] (mkO l at_) (λk=>k∈[]) (iInt (z2f l at_ n:Nat)) (mkO l (at_+1)):=by
 refine SC.vc tb {} [] Tryz.func41 rfl rfl ?_;refine⟨z01 (z:=((at_+1:Nat):Int)) rfl oM0,z00 (λc1=>?_) λc1=>z00 (λc2=>?_) λc2=>?_⟩
 ·have c1:=Am c1;simp only[A8]at c1;exact⟨sE (by unfold z2f;rw[if_pos (.inl oM0)];rfl),rfl,Gd⟩
 ·have c2:=Am c2;exact⟨sE (by unfold z2f;rw[if_pos (.inr oM0)];rfl),rfl,Gd⟩
 ·have c1:=Ak c1;have c2:=Ak c2;simp only[A8]at c1;have hlt:at_<l.length:=by omega
  obtain⟨b,b1,_,_,_⟩:=z0o hlt;have hb:=b.toNat_lt;have hw:IntKind.i64.wrap (b.toNat:Int)=(b.toNat:Int):=D0 _ oM0;refine⟨z2x (z:=((at_:Nat):Int)) oM0 oM0,z02 (f:=eB) b1,rfl,r64 (z:=((b.toNat%n:Nat):Int)) oM0 (by rw[hw,Int.tmod_eq_emod_of_nonneg oM0];omega),sE ?_,rfl,Gd⟩;unfold z2f;rw[if_neg oM0,Ay,b1];rfl
theorem z09{a b:ByteArray}(h:a.size+b.size<=9223372036854775807):y4d .add a b=some (.string (a++b)):=by
 show(if ((a.size+b.size:Nat):Int) > IntKind.i64.max then none else some (Value.string (a++b)))=_;rw[if_neg];have:IntKind.i64.max=9223372036854775807:=rfl;rw[this];omega
def cnB(c:Nat):HO:=.box [iInt ((c:Int)-1)]
theorem y43(c:Nat)(hc:c<=4294967296):SC Tryz.prog 107 [.ptr 2 0] [(2,cnB c)] (λk=>k∈[1]) (iStr (tVal c)) [(2,cnB (c+1))]:=by
 refine SC.vc tb {} [1] Tryz.func107 rfl rfl ?_;have h:N64 (c:Int):=⟨by omega,by omega⟩;have e:(⟨#[118]⟩:ByteArray).size=1:=rfl;have:=tNum_le h;exact⟨z01 (z:=(c:Int)) oM0 oM0,[],sc_Itoa c h,sR,Gd,rfl,z09 oM0,sI,boq sI0,Gd⟩
theorem zv5:SC Tryz.prog 62 [] [] (λk=>k∈[]) (.fn (.func 107) [] [.ptr 2 0]) [(2,cnB 0)]:=by
 refine SC.vc tb { ids:=[(1,2)] } [] Tryz.func62 rfl rfl ?_;exact⟨sI,rfl,Gd⟩
def rnAt(es:List (Value×PV))(l:List Ex)(i:Nat):List Ex:=(l.take i).map (rnX es)++l.drop i
theorem rnAt_len(es:List (Value×PV))(l:List Ex)(i:Nat):(rnAt es l i).length=l.length:=by unfold rnAt;simp;omega
theorem rnAt_get{es:List (Value×PV)}{l:List Ex}{i:Nat}{x:Ex}(h:l[i]?=some x):(rnAt es l i)[i]?=some x:=by
 have hi:=(A6.1 h).1;unfold rnAt;rw[B3 (by simp;omega)];simp;rw[show i-min i l.length=0 by omega];simpa using h
theorem rnAt_set{es:List (Value×PV)}{l:List Ex}{i:Nat}{x:Ex}(h:l[i]?=some x):(rnAt es l i).set i (rnX es x)=rnAt es l (i+1):=by
 have hi:=(A6.1 h).1;obtain⟨y,y1,y2,y3,y4⟩:=z0o hi;rw[h]at y1;cases y1
 unfold rnAt;rw[y2,y3,Db _ _ (by simp;omega)];simp;rw[show i-min i l.length=0 by omega];rfl
theorem set_same{α:Type}{l:List α}{i:Nat}{x:α}(h:l[i]?=some x):l.set i x=l:=by
 obtain⟨hi,rfl⟩:=A6.1 h;exact List.set_getElem_self hi
theorem sc_rnX(es:List (Value×PV))(hes:SMap es):∀(N:Nat)(l:List Ex),SizeOf.sizeOf l<N->xzL l<=1073741824->SC Tryz.prog 111 [.mp 1,.pv (exs l)] [(1,.map es)] (λk=>k∈[1]) (.pv (exs (l.map (rnX es)))) [(1,.map es)]
 |0,_,h,_=>absurd h (Al _)
 |N+1,[],hN,hx=>by
  refine SC.vc tb {} [1] Tryz.func111 rfl rfl ?_;refine⟨[],yd2,sR,Gd,rfl,Unit,λ_=>[(10,iInt 0)],λ_=>[],λ_=>0,λ_=>True,[],(),Gd,Ge,Gd,?_⟩;rintro _ _
  exact⟨sI,rfl,Gd⟩
 |N+1,y::r,hN,hx=>by
  have hne:y::r≠[]:=by simp
  generalize hL:y::r=l at hN hx hne;clear hL;have hl:=zb0 l;refine SC.vc tb { jn:=[7],gh:=[(9,[.fz 1 7])] } [1] Tryz.func111 rfl rfl ?_;refine⟨[],yt8 l hne oM0,sR,Gd,rfl,by simp,?_⟩;refine⟨Nat,λi=>[(10,iInt ((i:Nat):Int))],λi=>[(7,.row exRt ((rnAt es l i).map Ex.enc))],λi=>l.length-i,λi=>i<=l.length,[],0,Ac _,Ge,Ge,?_⟩;intro i hi;have hlen:((rnAt es l i).map Ex.enc).length=(l.map Ex.enc).length:=by simp[rnAt_len]
  refine z00 (λhc=>?_) λhc=>?_
  ·have hlt:i<l.length:=z0x (f:=Ex.enc) rfl hc;obtain⟨x,x1,x2,x3,x4⟩:=z0o hlt;have hget:((rnAt es l i).map Ex.enc)[i]?=some [vInt x.kind,vInt x.op,vInt x.n,vStr x.name,exs x.args]:=z1c (rnAt_get x1);have hsz:SizeOf.sizeOf x.args<N:=by
    have:=Bq x4;have h2:SizeOf.sizeOf x.args<SizeOf.sizeOf x:=by cases x;simp[Ex.args];omega
    omega
   have hxx:=zg8 x4;have hax:xzL x.args<=1073741824:=by
    have:xz x=1+xzL x.args:=by cases x;simp[xz,Ex.args]
    omega
   refine⟨Unit,λ_=>[],λ_=>[(7,.row exRt (((rnAt es l i).map Ex.enc).set i [vInt x.kind,vInt x.op,vInt x.n,vStr (if x.kind=3 then z8m es x.name else x.name),exs x.args]))],λ_=>True,[7],⟨hlen,by rw[A8];exact hlt,rfl,hlen,VRow.mk (i:=i) (j:=0) hlen rfl hget rfl ?_⟩,?_⟩
   ·refine z00 (λc=>?_) λc=>?_
    ·have c:x.kind=3:=eq_of_beq c;refine⟨hlen,by rw[A8];exact hlt,rfl,hlen,VRow.mk (i:=i) (j:=3) hlen rfl hget rfl (VAsk.mk (p:=vStr (z8m es x.name)) (b:=(z1k (.string x.name) es).isSome) rfl hes.1 (E9 (hes.get x.name) rfl) ?_)⟩;exact⟨hlen,by rw[A8];exact hlt,rfl,hlen,i,3,_,hlen,rfl,hget,by simp,(),Gd,Gd,⟨by rw[if_pos c];rfl,Gd⟩,rfl,rfl,rfl,rfl⟩
    ·have c:¬x.kind=3:=Aa.1 c;exact⟨(),Gd,Gd,⟨rwq (by rw[if_neg c];exact(set_same hget).symm),Gd⟩,rfl,rfl,rfl,rfl⟩
   ·rintro _ _;have hlen2:(((rnAt es l i).map Ex.enc).set i [vInt x.kind,vInt x.op,vInt x.n,vStr (if x.kind=3 then z8m es x.name else x.name),exs x.args]).length=(l.map Ex.enc).length:=by rw[Dn];exact hlen
    have hget2:(((rnAt es l i).map Ex.enc).set i [vInt x.kind,vInt x.op,vInt x.n,vStr (if x.kind=3 then z8m es x.name else x.name),exs x.args])[i]?=some [vInt x.kind,vInt x.op,vInt x.n,vStr (if x.kind=3 then z8m es x.name else x.name),exs x.args]:=Bm (by rw[hlen,A8];exact hlt);refine⟨hlen2,by rw[A8];exact hlt,rfl,hlen2,VRow.mk (i:=i) (j:=4) hlen2 rfl hget2 rfl ⟨[1],sc_rnX es hes N x.args hsz hax,sR,⟨rfl,rfl,Df,Gd⟩,rfl,?_⟩⟩;exact⟨hlen2,by rw[A8];exact hlt,rfl,hlen2,i,4,_,hlen2,rfl,hget2,by simp,z01 rfl oM0,i+1,z03 hlt,hlt,Ge,⟨rwq (by rw[Fi,<- rnAt_set x1,By,rnX_eq,Ex.enc_eq];rfl),Gd⟩,rfl,rfl,rfl,rfl⟩
  ·have hge:l.length<=i:=z0y (f:=Ex.enc) rfl hc;exact⟨hlen,sE (by unfold rnAt;rw[At hge,Ad hge,Co];rfl),rfl,Gd⟩
theorem rnS_eq(x:St)(es:List (Value×PV))(n:Nat):rnS x es n=(.mk x.kind x.ty (z1q es x.kind x.name n).1 (x.args.map (rnX es)) (rnB x.thn (z1q es x.kind x.name n).2.1 (z1q es x.kind x.name n).2.2).1 (rnB x.els (z1q es x.kind x.name n).2.1 (rnB x.thn (z1q es x.kind x.name n).2.1 (z1q es x.kind x.name n).2.2).2).1,
 (rnB x.els (z1q es x.kind x.name n).2.1 (rnB x.thn (z1q es x.kind x.name n).2.1 (z1q es x.kind x.name n).2.2).2).2):=by cases x;rw[rnS];rfl
def rnG:List St->List (Value×PV)->Nat->List St×List (Value×PV)×Nat
 |[],es,n=>([],es,n)
 |x::r,es,n=>((rnS x es n).1::(rnG r (z1q es x.kind x.name n).2.1 (rnS x es n).2).1,(rnG r (z1q es x.kind x.name n).2.1 (rnS x es n).2).2)
theorem rnB_G:∀(l:List St) (es:List (Value×PV)) (n:Nat),rnB l es n=((rnG l es n).1,(rnG l es n).2.2)
 |[],_,_=>by rw[rnB];rfl
 |x::r,es,n=>by rw[rnB,rnB_G r];rfl
theorem y5n:∀(l:List St) (x:St) (es:List (Value×PV)) (n:Nat),rnG (l++[x]) es n=((rnG l es n).1++[(rnS x (rnG l es n).2.1 (rnG l es n).2.2).1],(z1q (rnG l es n).2.1 x.kind x.name (rnG l es n).2.2).2.1,(rnS x (rnG l es n).2.1 (rnG l es n).2.2).2)
 |[],x,es,n=>rfl
 |y::r,x,es,n=>by
  have:=y5n r x (z1q es y.kind y.name n).2.1 (rnS y es n).2;simp only[B9,rnG,this]
theorem zi9:∀(l:List St) (es:List (Value×PV)) (n:Nat),(rnG l es n).1.length=l.length
 |[],_,_=>rfl
 |x::r,es,n=>by simp[rnG,zi9 r]
theorem y80{es:List (Value×PV)}(h:SMap es)(k:Int)(nm:ByteArray)(n:Nat):SMap (z1q es k nm n).2.1:=by
 unfold z1q;split
 ·exact h.put _ _
 ·split
  ·exact h
  ·exact h
theorem j1z(es:List (Value×PV))(k:Int)(nm:ByteArray)(n:Nat):(z1q es k nm n).2.2<=n+1:=by
 unfold z1q;split
 ·exact Ag _
 ·split
  ·exact Fd _
  ·exact Fd _
theorem j1y:∀(l:List St) (es:List (Value×PV)) (n:Nat),SMap es->SMap (rnG l es n).2.1
 |[],_,_,h=>h
 |x::r,es,n,h=>j1y r _ _ (y80 h _ _ _)
theorem j1x:∀(N:Nat)(l:List St),SizeOf.sizeOf l<N->∀(es:List (Value×PV)) (n:Nat),(rnB l es n).2<=n+szL l
 |0,_,h,_,_=>absurd h (Al _)
 |N+1,[],_,es,n=>by rw[rnB];simp[szL]
 |N+1,x::r,hN,es,n=>by
  have hx:=zs4 x;simp at hN;have h1:(rnS x es n).2<=n+sz x:=by
   rw[rnS_eq,y2p];have a0:=j1z es x.kind x.name n;have a1:=j1x N x.thn oM0 (z1q es x.kind x.name n).2.1 (z1q es x.kind x.name n).2.2;have a2:=j1x N x.els oM0 (z1q es x.kind x.name n).2.1 (rnB x.thn (z1q es x.kind x.name n).2.1 (z1q es x.kind x.name n).2.2).2;dsimp only;omega
  have h2:=j1x N r oM0 (z1q es x.kind x.name n).2.1 (rnS x es n).2;rw[rnB,szL];dsimp only;omega
theorem rnG_n(l:List St)(es:List (Value×PV))(n:Nat):(rnG l es n).2.2<=n+szL l:=by
 have:=j1x _ l (Ab _) es n;rw[rnB_G]at this;exact this
theorem yo5:∀(l:List St)(i:Nat),szL (l.take i)+szL (l.drop i)=szL l
 |[],i=>by simp[szL]
 |_::_,0=>by simp[szL]
 |x::r,i+1=>by have:=yo5 r i;simp only[Fc,Fa,szL];omega
def zi8(es:List (Value×PV))(c:Nat)(l:List St)(i:Nat):List St:=(rnG (l.take i) es c).1++l.drop i
theorem j1v(es:List (Value×PV))(c:Nat)(l:List St)(i:Nat):(zi8 es c l i).length=l.length:=by unfold zi8;simp[zi9];omega
theorem j1u{es:List (Value×PV)}{c:Nat}{l:List St}{i:Nat}{x:St}(h:l[i]?=some x):(zi8 es c l i)[i]?=some x:=by
 have hi:=(A6.1 h).1;unfold zi8;rw[B3 (by simp[zi9];omega)];simp[zi9];rw[show i-min i l.length=0 by omega];simpa using h
theorem j1w{es:List (Value×PV)}{c:Nat}{l:List St}{i:Nat}{x:St}(h:l[i]?=some x):(zi8 es c l i).set i (rnS x (rnG (l.take i) es c).2.1 (rnG (l.take i) es c).2.2).1=zi8 es c l (i+1):=by
 have hi:=(A6.1 h).1;obtain⟨y,y1,y2,y3,y4⟩:=z0o hi;rw[h]at y1;cases y1
 unfold zi8;rw[y2,y5n,y3,Db _ _ (by simp[zi9];omega)];simp[zi9];rw[show i-min i l.length=0 by omega];rfl
def fRN(N:Nat):Prop:=∀(l:List St),SizeOf.sizeOf l<N->szL l<=1073741824->∀(es:List (Value×PV)),SMap es->∀c:Nat,c+szL l<=1073741824 ->
 SC Tryz.prog 64 [.mp 1,.pv (sts l),.fn (.func 107) [] [.ptr 2 0]] [(1,.map es),(2,cnB c)] (λk=>k∈[1]) (.pv (sts (rnB l es c).1)) [(1,.map es),(2,cnB (rnB l es c).2)]
theorem sc_rnB0(es:List (Value×PV))(c:Nat):SC Tryz.prog 64 [.mp 1,.pv (sts []),.fn (.func 107) [] [.ptr 2 0]] [(1,.map es),(2,cnB c)] (λk=>k∈[1]) (.pv (sts [])) [(1,.map es),(2,cnB c)]:=by
 refine SC.vc tb {} [1] Tryz.func64 rfl rfl ?_;refine⟨[1],y86 es,sR,⟨rfl,rfl,Df,Gd⟩,rfl,[],yd4,sR,Gd,rfl,Unit,λ_=>[(15,iInt 0)],λ_=>[],λ_=>0,λ_=>True,[],(),Gd,Ge,Gd,?_⟩;rintro _ _;exact⟨sI,rfl,rfl,Gd⟩
theorem St.enc_mk(k t:Int)(n:ByteArray)(a:List Ex)(th e:List St):(St.mk k t n a th e).enc=[vInt k,vInt t,vStr n,exs a,sts th,sts e]:=by rw[St.enc_eq];rfl
theorem ye6(N:Nat)(ih:fRN N):fRN (N+1):=by
 intro l hN hx es hes c hc;rcases l with _|⟨y,r⟩
 ·have:=sc_rnB0 es c;rw[show(rnB [] es c)=([],c) by rw[rnB]];exact this
 have hne:y::r≠[]:=by simp
 generalize y::r=l at hN hx hc hne;have hl:=z8j l;rw[rnB_G];refine SC.vc tb { jn:=[13],gh:=[(15,[.fz 1 7])] } [1] Tryz.func64 rfl rfl ?_;refine⟨[1],y86 es,sR,⟨rfl,rfl,Df,Gd⟩,rfl,[],yu0 l hne oM0,sR,Gd,rfl,rfl,?_⟩;refine⟨Nat,λi=>[(15,iInt ((i:Nat):Int))],λi=>[(7,.row stRt ((zi8 es c l i).map St.enc)),(8,.map (rnG (l.take i) es c).2.1),(2,cnB (rnG (l.take i) es c).2.2)],λi=>l.length-i,λi=>i<=l.length,[],0,Ac _,Ge,Gg,?_⟩;intro i hi;refine z00 (λhcc=>?_) λhcc=>?_
 ·have hlt:i<l.length:=z0x (f:=St.enc) rfl hcc;obtain⟨x,x1,x2,x3,x4⟩:=z0o hlt;have hin:i<(l.map St.enc).length:=by rw[A8];exact hlt
  have hlen:((zi8 es c l i).map St.enc).length=(l.map St.enc).length:=by simp[j1v]
  have hget:((zi8 es c l i).map St.enc)[i]?=some [vInt x.kind,vInt x.ty,vStr x.name,exs x.args,sts x.thn,sts x.els]:=zj7 (j1u x1);have hfin:((zi8 es c l (i+1)).map St.enc)=((zi8 es c l i).map St.enc).set i (rnS x (rnG (l.take i) es c).2.1 (rnG (l.take i) es c).2.2).1.enc:=by rw[<- j1w x1,By]
  have hsn:=y5n (l.take i) x es c;rw[<- x2]at hsn;have hg:=j1y (l.take i) es c hes;have hgn:=rnG_n (l.take i) es c;have hszs:=yo5 l i;rw[x3]at hszs;simp only[szL]at hszs;generalize rnG (l.take i) es c=G at hg hgn hfin hsn⊢;obtain⟨G1,g,q⟩:=G;dsimp only at hg hgn hfin hsn;generalize(zi8 es c l i).map St.enc=M at hlen hget hfin⊢;rw[rnS_eq]at hfin hsn;dsimp only at hfin hsn;rw[St.enc_mk]at hfin;have hso:=zs4 x;have hmem:=Bq x4;have hsz:=y2p x;have hX:SC Tryz.prog 111 [.mp 8,.pv (exs x.args)] [(8,.map g)] _ (.pv (exs (x.args.map (rnX g)))) [(8,.map g)]:=(sc_rnX g hg _ x.args (Ab _) oM0).sw 1 8;have hF:=y43 q oM0;have hOm:=y80 hg x.kind x.name q;have hOn:=j1z g x.kind x.name q;have hO1:x.kind=1->z1q g x.kind x.name q=(z8m (z9g g x.name (tVal q)) x.name,z9g g x.name (tVal q),q+1):=λh=>by unfold z1q;rw[if_pos h]
  have hO2:x.kind=2->z1q g x.kind x.name q=(z8m g x.name,g,q):=λh=>by unfold z1q;rw[if_neg oM0,if_pos h]
  have hO3:x.kind≠1->x.kind≠2->z1q g x.kind x.name q=(x.name,g,q):=λh h2=>by unfold z1q;rw[if_neg h,if_neg h2]
  generalize z1q g x.kind x.name q=O at hfin hsn hOm hOn hO1 hO2 hO3;have ht:=ih x.thn oM0 oM0 O.2.1 hOm O.2.2 oM0;have hn1:=j1x _ x.thn (Ab _) O.2.1 O.2.2;generalize rnB x.thn O.2.1 O.2.2=t' at ht hn1 hfin hsn;have he:=ih x.els oM0 oM0 O.2.1 hOm t'.2 oM0;generalize rnB x.els O.2.1 t'.2=e' at he hfin hsn;have hT:SC Tryz.prog 64 [.mp 8,.pv (sts x.thn),.fn (.func 107) [] [.ptr 2 0]] [(8,.map O.2.1),(2,cnB O.2.2)] _ (.pv (sts t'.1)) [(8,.map O.2.1),(2,cnB t'.2)]:=ht.sw 1 8;have hE:SC Tryz.prog 64 [.mp 8,.pv (sts x.els),.fn (.func 107) [] [.ptr 2 0]] [(8,.map O.2.1),(2,cnB t'.2)] _ (.pv (sts e'.1)) [(8,.map O.2.1),(2,cnB e'.2)]:=he.sw 1 8;clear ht he;have hl1:∀e,(M.set i e).length=(l.map St.enc).length:=λe=>by rw[Dn];exact hlen
  have hg1:∀e,(M.set i e)[i]?=some e:=λe=>Bm (by rw[hlen];exact hin);refine⟨hlen,hin,rfl,hlen,hlen,VRow.mk (i:=i) (j:=3) hlen rfl hget rfl ⟨[8],hX,sR,Gf,rfl,hlen,hlen,i,3,_,hlen,rfl,hget,by simp,?_⟩⟩;have hl2:∀e e2,((M.set i e).set i e2).length=(l.map St.enc).length:=λe e2=>by rw[Dn];exact hl1 e
  have hg2:∀e e2,((M.set i e).set i e2)[i]?=some e2:=λe e2=>Bm (by rw[hl1];exact hin);refine⟨Unit,λ_=>[],λ_=>[(7,.row stRt (M.set i [vInt x.kind,vInt x.ty,vStr O.1,exs (x.args.map (rnX g)),sts x.thn,sts x.els])),(8,.map O.2.1),(2,cnB O.2.2)],λ_=>True,[7,8,2],⟨hl1 _,hl1 _,VRow.mk (i:=i) (j:=0) (hl1 _) rfl (hg1 [vInt x.kind,vInt x.ty,vStr x.name,exs (x.args.map (rnX g)),sts x.thn,sts x.els]) rfl ?_⟩,?_⟩
  ·refine z00 (λk1=>?_) λk1=>z00 (λk2=>?_) λk2=>?_
   ·obtain rfl:=hO1 (eq_of_beq k1);have hp:=hg.put x.name (tVal q);exact⟨hl1 _,hl1 _,VRow.mk (i:=i) (j:=2) (hl1 _) rfl (hg1 [vInt x.kind,vInt x.ty,vStr x.name,exs (x.args.map (rnX g)),sts x.thn,sts x.els]) rfl ⟨hF,sR,Ge,λk hk=>hk,rfl,rfl,rfl,hg.1,hl1 _,hl1 _,VRow.mk (i:=i) (j:=2) (hl1 _) rfl (hg1 [vInt x.kind,vInt x.ty,vStr x.name,exs (x.args.map (rnX g)),sts x.thn,sts x.els]) rfl
     (VAsk.mk (p:=vStr (z8m (z9g g x.name (tVal q)) x.name)) (b:=(z1k (.string x.name) (z9g g x.name (tVal q))).isSome) rfl hp.1 (E9 (hp.get x.name) rfl) ⟨hl1 _,hl1 _,i,2,_,hl1 _,rfl,hg1 [vInt x.kind,vInt x.ty,vStr x.name,exs (x.args.map (rnX g)),sts x.thn,sts x.els],by simp,(),Gd,Gd,⟨rwq (by rw[Fi];rfl),rfl,rfl,Gd⟩,rfl,rfl,rfl,rfl⟩)⟩⟩
   ·obtain rfl:=hO2 (eq_of_beq k2);exact⟨hl1 _,hl1 _,VRow.mk (i:=i) (j:=2) (hl1 _) rfl (hg1 [vInt x.kind,vInt x.ty,vStr x.name,exs (x.args.map (rnX g)),sts x.thn,sts x.els]) rfl
     (VAsk.mk (p:=vStr (z8m g x.name)) (b:=(z1k (.string x.name) g).isSome) rfl hg.1 (E9 (hg.get x.name) rfl) ⟨hl1 _,hl1 _,i,2,_,hl1 _,rfl,hg1 [vInt x.kind,vInt x.ty,vStr x.name,exs (x.args.map (rnX g)),sts x.thn,sts x.els],by simp,(),Gd,Gd,⟨rwq (by rw[Fi];rfl),rfl,rfl,Gd⟩,rfl,rfl,rfl,rfl⟩)⟩
   ·obtain rfl:=hO3 (Aa.1 k1) (Aa.1 k2);exact⟨(),Gd,Gd,Gg,rfl,rfl,rfl,rfl⟩
  ·rintro _ _;refine⟨hl1 _,hl1 _,VRow.mk (i:=i) (j:=4) (hl1 _) rfl (hg1 [vInt x.kind,vInt x.ty,vStr O.1,exs (x.args.map (rnX g)),sts x.thn,sts x.els]) rfl ⟨[8],hT,sR,Gg,rfl,hl1 _,hl1 _,VRow.mk (i:=i) (j:=5) (hl1 _) rfl (hg1 [vInt x.kind,vInt x.ty,vStr O.1,exs (x.args.map (rnX g)),sts x.thn,sts x.els]) rfl ⟨[8],hE,sR,Gg,rfl,hl1 _,hl1 _,i,4,_,hl1 _,rfl,hg1 [vInt x.kind,vInt x.ty,vStr O.1,exs (x.args.map (rnX g)),sts x.thn,sts x.els],by simp,hl2 _ _,hl2 _ _,i,5,_,hl2 _ _,rfl,hg2 _ [vInt x.kind,vInt x.ty,vStr O.1,exs (x.args.map (rnX g)),sts t'.1,sts x.els],by simp,?_⟩⟩⟩;exact⟨z01 rfl oM0,i+1,z03 hlt,hlt,Ge,⟨rwq (by rw[Fi,Fi,hfin];rfl),mpq (by rw[hsn]),by rw[hsn];rfl,Gd⟩,rfl,rfl,rfl,rfl⟩
 ·have hge:l.length<=i:=z0y (f:=St.enc) rfl hcc;have h1:zi8 es c l i=(rnG l es c).1:=by unfold zi8;rw[At hge,Ad hge,Co]
  rw[h1,At hge];exact⟨by simp[zi9],sI,rfl,rfl,Gd⟩
theorem j01:∀N,fRN N
 |0=>λ_ h=>absurd h (Al _)
 |N+1=>ye6 N (j01 N)
theorem y1d:∀(l:List Pm) (x:Pm) (es:List (Value×PV)) (n:Nat),rnPm (l++[x]) es n=((rnPm l es n).1++[⟨z8m (z9g (rnPm l es n).2.1 x.name (tVal (rnPm l es n).2.2)) x.name,x.ty⟩],z9g (rnPm l es n).2.1 x.name (tVal (rnPm l es n).2.2),(rnPm l es n).2.2+1)
 |[],x,es,n=>rfl
 |y::r,x,es,n=>by
  have:=y1d r x (z9g es y.name (tVal n)) (n+1);simp only[B9,rnPm,this]
theorem z9f:∀(l:List Pm) (es:List (Value×PV)) (n:Nat),(rnPm l es n).1.length=l.length
 |[],_,_=>rfl
 |x::r,es,n=>by simp[rnPm,z9f r]
theorem ym0:∀(l:List Pm) (es:List (Value×PV)) (n:Nat),SMap es->SMap (rnPm l es n).2.1
 |[],_,_,h=>h
 |x::r,es,n,h=>ym0 r _ _ (h.put _ _)
theorem rnPm_n:∀(l:List Pm) (es:List (Value×PV)) (n:Nat),(rnPm l es n).2.2=n+l.length
 |[],_,_=>rfl
 |x::r,es,n=>by simp only[rnPm,rnPm_n r,A1];omega
def zw3(l:List Pm)(i:Nat):List Pm:=(rnPm (l.take i) [] 0).1++l.drop i
theorem j1s(l:List Pm)(i:Nat):(zw3 l i).length=l.length:=by unfold zw3;simp[z9f];omega
theorem j1r{l:List Pm}{i:Nat}{x:Pm}(h:l[i]?=some x):(zw3 l i)[i]?=some x:=by
 have hi:=(A6.1 h).1;unfold zw3;rw[B3 (by simp[z9f];omega)];simp[z9f];rw[show i-min i l.length=0 by omega];simpa using h
theorem j1t{l:List Pm}{i:Nat}{x:Pm}(h:l[i]?=some x):(zw3 l i).set i ⟨z8m (z9g (rnPm (l.take i) [] 0).2.1 x.name (tVal (rnPm (l.take i) [] 0).2.2)) x.name,x.ty⟩=zw3 l (i+1):=by
 have hi:=(A6.1 h).1;obtain⟨y,y1,y2,y3,y4⟩:=z0o hi;rw[h]at y1;cases y1
 unfold zw3;rw[y2,y1d,y3,Db _ _ (by simp[z9f];omega)];simp[z9f];rw[show i-min i l.length=0 by omega];rfl
theorem sc_rnF0(nm:ByteArray)(ty:Int)(body:List St)(hb:szL body<=1000000):SC Tryz.prog 36 [.pv (.agg [vStr nm,vInt ty,pms [],sts body])] [] (λk=>k∈[]) (.pv (.agg (rnF ⟨nm,ty,[],body⟩).enc)) []:=by
 refine SC.vc tb { ids:=[(7,1)] } [] Tryz.func36 rfl rfl ?_;have h:=j01 _ body (Ab _) oM0 [] SMap.nil 0 oM0;refine⟨[],zv5,sR,Gd,rfl,[],yd3,sR,Gd,rfl,Unit,λ_=>[(16,iInt 0)],λ_=>[],λ_=>0,λ_=>True,[],(),Gd,Ge,Gd,?_⟩;rintro _ _;exact⟨[],h,sR,Gf,rfl,sI,Gd⟩
theorem sc_rnF1(nm:ByteArray)(ty:Int)(l:List Pm)(body:List St)(hne:l≠[])(hl:l.length<=1000000)(hb:szL body<=1000000):SC Tryz.prog 36 [.pv (.agg [vStr nm,vInt ty,pms l,sts body])] [] (λk=>k∈[]) (.pv (.agg (rnF ⟨nm,ty,l,body⟩).enc)) []:=by
 refine SC.vc tb { ids:=[(7,1)],gh:=[(10,[.fzC 101 2 7])] } [] Tryz.func36 rfl rfl ?_;refine⟨[],zv5,sR,Gd,rfl,[],yt9 l hne oM0,sR,Gd,rfl,rfl,rfl,?_⟩;refine⟨Nat,λi=>[(16,iInt ((i:Nat):Int))],λi=>[(7,.row pmRt ((zw3 l i).map Pm.enc)),(1,.map (rnPm (l.take i) [] 0).2.1),(2,cnB (rnPm (l.take i) [] 0).2.2)],λi=>l.length-i,λi=>i<=l.length,[],0,Ac _,Ge,Gg,?_⟩;intro i hi;have hmap:=ym0 (l.take i) [] 0 SMap.nil;have hcnt:=rnPm_n (l.take i) [] 0;have hlen:((zw3 l i).map Pm.enc).length=(l.map Pm.enc).length:=by simp[j1s]
 refine z00 (λhc=>?_) λhc=>?_
 ·have hlt:i<l.length:=z0x (f:=Pm.enc) rfl hc;obtain⟨x,x1,x2,x3,x4⟩:=z0o hlt;have hin:i<(l.map Pm.enc).length:=by rw[A8];exact hlt
  have hget:((zw3 l i).map Pm.enc)[i]?=some [vStr x.name,vInt x.ty]:=zu5 (j1r x1);have hset:=j1t x1;have hsn:=y1d (l.take i) x [] 0;rw[<- x2]at hsn;have hF:=y43 (rnPm (l.take i) [] 0).2.2 (by rw[hcnt];simp;omega);have hp:=hmap.put x.name (tVal (rnPm (l.take i) [] 0).2.2);refine⟨hlen,hin,rfl,VRowS.mk (i:=i) hlen rfl hget ⟨hF,sR,Ge,(λk hk=>absurd hk Bs),rfl,rfl,rfl,hmap.1,VAsk.mk (p:=vStr (z8m (z9g (rnPm (l.take i) [] 0).2.1 x.name (tVal (rnPm (l.take i) [] 0).2.2)) x.name)) (b:=(z1k (.string x.name) (z9g (rnPm (l.take i) [] 0).2.1 x.name (tVal (rnPm (l.take i) [] 0).2.2))).isSome) rfl hp.1 (E9 (hp.get x.name) rfl) ⟨hlen,hin,rfl,hlen,i,0,_,hlen,rfl,hget,by simp,?_⟩⟩⟩;exact⟨z01 rfl oM0,i+1,z03 hlt,hlt,Ge,⟨rwq (by rw[<- hset,By];rfl),mpq (by rw[hsn];rfl),by rw[hsn];rfl,Gd⟩,rfl,rfl,rfl,rfl⟩
 ·have hge:l.length<=i:=z0y (f:=Pm.enc) rfl hc;have h1:zw3 l i=(rnPm l [] 0).1:=by unfold zw3;rw[At hge,Ad hge,Co]
  rw[At hge]at hmap hcnt⊢;rw[h1]at hlen⊢;have h:=j01 _ body (Ab _) oM0 (rnPm l [] 0).2.1 hmap (rnPm l [] 0).2.2 oM0;exact⟨[],h,sR,Gf,rfl,hlen,sI,Gd⟩
theorem sc_rnF(f:Fu)(hl:1+f.params.length+szL f.body<=1000000):SC Tryz.prog 36 [.pv (.agg f.enc)] [] (λk=>k∈[]) (.pv (.agg (rnF f).enc)) []:=by
 obtain⟨nm,ty,l,body⟩:=f;dsimp only at hl
 cases l with
 |nil=>exact sc_rnF0 nm ty body oM0
 |cons a r=>exact sc_rnF1 nm ty (a::r) body sI0 oM0 oM0
def rnOf(p:Pg):Pg×Int:=if (z91 p).1=0 then(rnP p,0)else(pg0,1)
theorem yt3(p:Pg)(h0:p.arrays=[])(hb:pz p.funcs<=1000000){c2 c3:Int}(hC:SC Tryz.prog 34 [.pv p.enc] [] (λk=>k∈[]) (.tup [iInt 0,.pv (.agg [vInt c2,vInt c3])]) []):SC Tryz.prog 17 [.pv p.enc] [] (λk=>k∈[]) (.tup [.pv (rnP p).enc,iInt 0]) []:=by
 have hlp:=zl1 p.funcs;obtain⟨ars,fs⟩:=p;dsimp only at h0 hb hlp;subst h0;refine SC.vc tb { gh:=[(5,[.growC 102 1 1002 57 4]),(10,[.fzC 102 1 1002])] } [] Tryz.func17 rfl rfl ?_;refine⟨[],hC,sR,Gd,rfl,[],yd1,sR,Gd,rfl,?_⟩;refine⟨Nat,λi=>[(23,iInt ((i:Nat):Int))],λi=>[(1002,.row fuRt (((fs.take i).map rnF).map Fu.enc)),(102,.box [.pv (.seq []),.sl 1002 (((fs.take i).map rnF).map Fu.enc).length])],λi=>fs.length-i,λi=>i<=fs.length,[],0,Ac _,Ge,Gf,?_⟩;intro i hi;refine z00 (λhcc=>?_) λhcc=>?_
 ·have hlt:i<fs.length:=z0x (f:=Fu.enc) rfl hcc;obtain⟨x,x1,x2,x3,x4⟩:=z0o hlt;have hpz:=zu6 x4;exact⟨z9r x1,rfl,[],sc_rnF x oM0,sR,Gd,rfl,rfl,z3y rfl,by simp;omega,by simp,z01 rfl oM0,i+1,z03 hlt,hlt,Ge,⟨rwq (by rw[x2];simp[Fu.enc]),boq (by simp;omega),Gd⟩,rfl,rfl,rfl,rfl⟩
 ·have hge:fs.length<=i:=z0y (f:=Fu.enc) rfl hcc;rw[At hge];exact⟨rfl,sI,Gd⟩
theorem yt4(p:Pg)(hne:p.arrays≠[])(ha:p.arrays.length<=1000000)(hb:pz p.funcs<=1000000){c2 c3:Int}(hC:SC Tryz.prog 34 [.pv p.enc] [] (λk=>k∈[]) (.tup [iInt 0,.pv (.agg [vInt c2,vInt c3])]) []):SC Tryz.prog 17 [.pv p.enc] [] (λk=>k∈[]) (.tup [.pv (rnP p).enc,iInt 0]) []:=by
 have hlp:=zl1 p.funcs;refine SC.vc tb { gh:=[(5,[.growC 102 1 1002 57 4]),(10,[.fzC 102 1 1002,.fzC 102 0 7])] } [] Tryz.func17 rfl rfl ?_;refine⟨[],hC,sR,Gd,rfl,[],yt7 p.arrays hne oM0,sR,Gd,rfl,rfl,?_⟩;refine⟨Nat,λi=>[(23,iInt ((i:Nat):Int))],λi=>[(1002,.row fuRt (((p.funcs.take i).map rnF).map Fu.enc)),(102,.box [.sl 7 (p.arrays.map Ar.enc).length,.sl 1002 (((p.funcs.take i).map rnF).map Fu.enc).length])],λi=>p.funcs.length-i,λi=>i<=p.funcs.length,[],0,Ac _,Ge,Gf,?_⟩;intro i hi;refine z00 (λhcc=>?_) λhcc=>?_
 ·have hlt:i<p.funcs.length:=z0x (f:=Fu.enc) rfl hcc;obtain⟨x,x1,x2,x3,x4⟩:=z0o hlt;have hpz:=zu6 x4;exact⟨z9r x1,rfl,[],sc_rnF x oM0,sR,Gd,rfl,rfl,z3y rfl,by simp;omega,by simp,z01 rfl oM0,i+1,z03 hlt,hlt,Ge,⟨rwq (by rw[x2];simp[Fu.enc]),boq (by simp;omega),Gd⟩,rfl,rfl,rfl,rfl⟩
 ·have hge:p.funcs.length<=i:=z0y (f:=Fu.enc) rfl hcc;rw[At hge];exact⟨rfl,rfl,sI,Gd⟩
theorem j24(p:Pg)(hb:pz p.funcs<=1000000)(ha:p.arrays.length<=1000000)(hr:rPg p=true):SC Tryz.prog 17 [.pv p.enc] [] (λk=>k∈[]) (.tup [.pv (rnOf p).1.enc,iInt (rnOf p).2]) []:=by
 have hC:=yv2 p hb ha hr;unfold rnOf;generalize z91 p=C at hC;obtain⟨c1,c2,c3⟩:=C;dsimp only at hC⊢
 by_cases hc:c1=0
 ·rw[if_pos hc];subst hc
  by_cases hne:p.arrays=[]
  ·exact yt3 p hne hb hC
  ·exact yt4 p hne ha hb hC
 ·rw[if_neg hc];refine SC.vc tb {} [] Tryz.func17 rfl rfl ?_;exact⟨[],hC,sR,Gd,rfl,z00 (λ_=>⟨sT2 (sP (z0g _)),Gd⟩) λh=>absurd h (by simp[hc])⟩
structure RiS where
 ts:List Int
 ns:List Nd
def y2m(vs:List (Value×PV))(name:ByteArray):Int:=match z1k (.string name) vs with
 |some (.val (.int .i64 n))=>n
 |_=>0
def riSt(vs:List (Value×PV))(name:ByteArray)(v:Int):List (Value×PV):=mput (.string name) (vInt v) vs
def z6k(t k o n:Int)(nm:ByteArray)(args:List Int)(kids:List (List Nd))(s:RiS):Int×RiS:=(s.ts.length,⟨s.ts++[t],s.ns++[.mk k o n nm args [(s.ts.length:Int)] [] kids]⟩)
def z6r(k:Int)(nm:ByteArray)(args:List Int)(ns:List Nd):List Nd:=ns++[.mk k 0 0 nm args [] [] []]
def y18(op:Int):Int:=if op=22∨(12<=op/\op<=17)then 2 else 1
def zr4(p:Pg)(k o n:Int)(nm:ByteArray)(l:List Int)(s:RiS):Int×RiS :=
 if k=1 then z6k 1 1 0 n ⟨#[]⟩ [] [] s else if k=2 then z6k 2 2 0 n ⟨#[]⟩ [] [] s else if k=4 then z6k (y18 o) 3 o 0 ⟨#[]⟩ l [] s else if k=5 then z6k (y18 o) 4 o 0 ⟨#[]⟩ l [] s
 else if k=6 then z6k 1 5 0 0 nm l [] s else if k=8 then z6k 1 8 0 0 ⟨#[]⟩ [] [] s else z6k (fuAt p (z3n p nm)).ty 7 0 0 nm l [] s
def z6s(o a:Int)(ns:List Nd)(r:Int×RiS):Int×RiS :=
 if o=19 then z6k 2 10 0 0 ⟨#[]⟩ [a] [z6r 12 ⟨#[]⟩ [(r.2.ts.length:Int)] [.mk 2 0 1 ⟨#[]⟩ [] [(r.2.ts.length:Int)] [] []],z6r 12 ⟨#[]⟩ [r.1] r.2.ns] ⟨r.2.ts++[2],ns⟩
 else z6k 2 10 0 0 ⟨#[]⟩ [a] [z6r 12 ⟨#[]⟩ [r.1] r.2.ns,z6r 12 ⟨#[]⟩ [(r.2.ts.length:Int)] [.mk 2 0 0 ⟨#[]⟩ [] [(r.2.ts.length:Int)] [] []]] ⟨r.2.ts++[2],ns⟩
mutual
def riX(p:Pg)(vs:List (Value×PV)):Ex->RiS->Int×RiS
 |.mk k o n nm args,s=>if k=3 then(y2m vs nm,s)else if k=5/\(o=18∨o=19)then riSh p vs o args s else zr4 p k o n nm (riXL p vs args s).1 (riXL p vs args s).2
def riXL(p:Pg)(vs:List (Value×PV)):List Ex->RiS->List Int×RiS
 |[],s=>([],s)
 |e::r,s=>((riX p vs e s).1::(riXL p vs r (riX p vs e s).2).1,(riXL p vs r (riX p vs e s).2).2)
def riSh(p:Pg)(vs:List (Value×PV))(o:Int):List Ex->RiS->Int×RiS
 |[],s=>(0,s)
 |e::r,s=>zm4 p vs o (riX p vs e s).1 (riX p vs e s).2 r
def zm4(p:Pg)(vs:List (Value×PV))(o a:Int)(s:RiS):List Ex->Int×RiS
 |[]=>(0,s)
 |e::_=>z6s o a s.ns (riX p vs e ⟨s.ts,[]⟩)
end
mutual
def z4p(vs:List (Value×PV)):List St->List (Value×PV)->List (Value×PV)
 |[],out=>out
 |x::r,out=>z4p vs r (yl5 vs x out)
def yl5(vs:List (Value×PV)):St->List (Value×PV)->List (Value×PV)
 |.mk k _ nm _ thn els,out=>z4p vs els (z4p vs thn (if (z1k (.string nm) vs).isSome&&k==2 then mput (.string nm) (.agg []) out else out))
end
def z71:Value->ByteArray
 |.string s=>s
 |_=>⟨#[]⟩
def zn6(l:List ByteArray):List ByteArray:=((l.map λs=>s.data.toList).mergeSort λx y=>decide (x<=y)).map λb=>⟨b.toArray⟩
def z8l(vs:List (Value×PV))(ls:List (List St)):List (Value×PV):=ls.foldl (λo l=>z4p vs l o) []
def z0d(vs:List (Value×PV))(ls:List (List St)):List ByteArray:=zn6 ((z8l vs ls).map λe=>z71 e.1)
def riOf(vs:List (Value×PV))(z04:List ByteArray):List Int:=z04.map (y2m vs)
def zm3(vs:List (Value×PV)):List ByteArray->List Int->List (Value×PV)
 |n::r,v::q=>zm3 (riSt vs n v) r q
 |_,_=>vs
def z15(ts:List Int):List Int->List Int×List Int
 |[]=>([],ts)
 |v::r=>((ts.length:Int)::(z15 (ts++[ts.getD v.toNat 0]) r).1,(z15 (ts++[ts.getD v.toNat 0]) r).2)
structure Lo where
 ls:List (List ByteArray)
 jk:List (List ByteArray)
structure RiT where
 vs:List (Value×PV)
 ts:List Int
 ns:List Nd
 jk:List (List ByteArray)
def z5q(k:Int)(z04:List ByteArray)(a:Bool×RiT):List Nd:=if a.1 then a.2.ns else z6r k ⟨#[]⟩ (riOf a.2.vs z04) a.2.ns
def z6j(vs:List (Value×PV))(z04:List ByteArray)(ts:List Int)(ns:List Nd)(jk:List (List ByteArray))(k:Int)(args params:List Int)(kids:List (List Nd)):Bool×RiT :=
 if z08 (.mk k 0 0 ⟨#[]⟩ args [] params kids)then(true,⟨vs,ts,ns++[.mk k 0 0 ⟨#[]⟩ args [] params kids],jk⟩)
 else(false,⟨zm3 vs z04 (z15 ts (riOf vs z04)).1,(z15 ts (riOf vs z04)).2,ns++[.mk k 0 0 ⟨#[]⟩ args (z15 ts (riOf vs z04)).1 params kids],jk⟩)
def ze3(p:Pg)(k:Int)(nm:ByteArray)(args:List Ex)(s:RiT):RiT :=
 if k=1∨k=2 then⟨riSt s.vs nm (riX p s.vs (args.getD 0 ex0) ⟨s.ts,s.ns⟩).1,(riX p s.vs (args.getD 0 ex0) ⟨s.ts,s.ns⟩).2.ts,(riX p s.vs (args.getD 0 ex0) ⟨s.ts,s.ns⟩).2.ns,s.jk⟩
 else if k=3 then⟨s.vs,(riX p s.vs (args.getD 1 ex0) (riX p s.vs (args.getD 0 ex0) ⟨s.ts,s.ns⟩).2).2.ts,z6r 6 nm [(riX p s.vs (args.getD 0 ex0) ⟨s.ts,s.ns⟩).1,(riX p s.vs (args.getD 1 ex0) (riX p s.vs (args.getD 0 ex0) ⟨s.ts,s.ns⟩).2).1] (riX p s.vs (args.getD 1 ex0) (riX p s.vs (args.getD 0 ex0) ⟨s.ts,s.ns⟩).2).2.ns,s.jk⟩
 else if k=9 then⟨s.vs,(riX p s.vs (args.getD 0 ex0) ⟨s.ts,s.ns⟩).2.ts,z6r 9 ⟨#[]⟩ [(riX p s.vs (args.getD 0 ex0) ⟨s.ts,s.ns⟩).1] (riX p s.vs (args.getD 0 ex0) ⟨s.ts,s.ns⟩).2.ns,s.jk⟩
 else⟨s.vs,(riX p s.vs (args.getD 0 ex0) ⟨s.ts,s.ns⟩).2.ts,(riX p s.vs (args.getD 0 ex0) ⟨s.ts,s.ns⟩).2.ns,s.jk⟩
def zc7(e:Ex):Bool:=e.kind==2&&e.n==1
def z9e(z04:List ByteArray)(kvs:List (Value×PV))(c:Int×RiS)(a:Bool×RiT):List Nd:=c.2.ns++[.mk 10 0 0 ⟨#[]⟩ [c.1] [] [] [z5q 13 z04 a,z6r 14 ⟨#[]⟩ (riOf kvs z04) []]]
def ze2(s:RiT)(z04:List ByteArray)(c:Int×RiS)(a b:Bool×RiT):Bool×RiT:=z6j s.vs z04 b.2.ts c.2.ns b.2.jk 10 [c.1] [] [z5q 12 z04 a,z5q 12 z04 b]
def z2b(s:RiT)(z04:List ByteArray):RiT:=⟨zm3 s.vs z04 (z15 s.ts (riOf s.vs z04)).1,(z15 s.ts (riOf s.vs z04)).2,[],s.jk.tail⟩
def y5l(s:RiT)(z04:List ByteArray)(a:Bool×RiT):Bool×RiT:=z6j s.vs z04 a.2.ts s.ns (z04::a.2.jk) 11 (riOf s.vs z04) (z15 s.ts (riOf s.vs z04)).1 [z5q 13 z04 a]
def y5m(s:RiT)(z04:List ByteArray)(c:Int×RiS)(a:Bool×RiT):Bool×RiT:=z6j s.vs z04 a.2.ts s.ns (z04::a.2.jk) 11 (riOf s.vs z04) (z15 s.ts (riOf s.vs z04)).1 [z9e z04 (z2b s z04).vs c a]
mutual
def riB(p:Pg):List St->List (List ByteArray)->RiT->Bool×RiT
 |[],_,s=>(false,s)
 |x::r,lo,s=>if (riS p x lo s).1 then(true,(riS p x lo s).2)else riB p r lo (riS p x lo s).2
def riS(p:Pg):St->List (List ByteArray)->RiT->Bool×RiT
 |.mk k _ nm args thn els,lo,s =>
  if k=4 then ze2 s (z0d s.vs [thn,els]) (riX p s.vs (args.getD 0 ex0) ⟨s.ts,s.ns⟩) (riB p thn lo ⟨s.vs,(riX p s.vs (args.getD 0 ex0) ⟨s.ts,s.ns⟩).2.ts,[],s.jk⟩)
   (riB p els lo ⟨s.vs,(riB p thn lo ⟨s.vs,(riX p s.vs (args.getD 0 ex0) ⟨s.ts,s.ns⟩).2.ts,[],s.jk⟩).2.ts,[],(riB p thn lo ⟨s.vs,(riX p s.vs (args.getD 0 ex0) ⟨s.ts,s.ns⟩).2.ts,[],s.jk⟩).2.jk⟩)
  else if k=5 then
   if zc7 (args.getD 0 ex0)then y5l s (z0d s.vs [thn]) (riB p thn (lo++[z0d s.vs [thn]]) (z2b s (z0d s.vs [thn])))
   else y5m s (z0d s.vs [thn]) (riX p (z2b s (z0d s.vs [thn])).vs (args.getD 0 ex0) ⟨(z2b s (z0d s.vs [thn])).ts,[]⟩)
    (riB p thn (lo++[z0d s.vs [thn]]) ⟨(z2b s (z0d s.vs [thn])).vs,(riX p (z2b s (z0d s.vs [thn])).vs (args.getD 0 ex0) ⟨(z2b s (z0d s.vs [thn])).ts,[]⟩).2.ts,[],s.jk.tail⟩)
  else if k=6 then(true,⟨s.vs,s.ts,z6r 14 ⟨#[]⟩ (riOf s.vs (lo.getLastD [])) s.ns,s.jk⟩)
  else if k=7 then(true,⟨s.vs,s.ts,z6r 13 ⟨#[]⟩ (riOf s.vs (lo.getLastD [])) s.ns,s.jk⟩)
  else if k=8 then(true,⟨s.vs,(riX p s.vs (args.getD 0 ex0) ⟨s.ts,s.ns⟩).2.ts,z6r 15 ⟨#[]⟩ [(riX p s.vs (args.getD 0 ex0) ⟨s.ts,s.ns⟩).1] (riX p s.vs (args.getD 0 ex0) ⟨s.ts,s.ns⟩).2.ns,s.jk⟩)
  else(false,ze3 p k nm args s)
end
def eTxs(l:List ByteArray):List PV:=[.seq (l.map eTx)]
def inRt:RT:=⟨3,1⟩
def loRt:RT:=⟨73,1⟩
def ndRt:RT:=⟨46,8⟩
def riBx(p:Pg)(ts:List Int)(lo:Lo):List (Nat×HO) :=
 [(1,.box [.pv (arrs p.arrays),.pv (fus p.funcs),.sl 2 (ts.map eInt).length,.sp 3 (lo.ls.map eTxs).length ((lo.ls++lo.jk).map eTxs).length]),(2,.row inRt (ts.map eInt)),(3,.row loRt ((lo.ls++lo.jk).map eTxs))]
def riLx(vs:List (Value×PV))(ns:List Nd):List (Nat×HO) :=
 [(4,.box [.ptr 1 0,.mp 5,.sl 6 (ns.map Nd.enc).length]),(5,.map vs),(6,.row ndRt (ns.map Nd.enc))]
theorem zr8(p:Pg)(ts:List Int)(lo:Lo)(t:Int)(hb:ts.length<=34359738368):SC Tryz.prog 37 [.ptr 1 0,.pv (.val (.int .i64 t))] (riBx p ts lo) (λk=>k∈[]) (iInt (ts.length:Int)) (riBx p (ts++[t]) lo):=by
 refine SC.vc tb {} [] Tryz.func37 rfl rfl ?_;exact⟨rfl,z3y rfl,by simp;omega,by simp,by simp,z2x (z:=(ts.length:Int)) sI0 oM0,sI,boq sI0,rwq (by simp[eInt]),rfl,Gd⟩
theorem y8e(op:Int):SC Tryz.prog 167 [.pv (.val (.int .i64 op))] [] (λk=>k∈[]) (iInt (y18 op)) []:=by
 refine SC.vc tb {} [] Tryz.func167 rfl rfl ?_
 by_cases h:op=22∨op=12∨op=13∨op=14∨op=15∨op=16∨op=17
 ·rcases h with rfl|rfl|rfl|rfl|rfl|rfl|rfl<;>exact⟨sI,Gd⟩
 ·have hT:y18 op=1:=by unfold y18;rw[if_neg oM0]
  rw[hT]
  repeat' (first|exact⟨sI,Gd⟩|refine z00 (λg=>absurd (eq_of_beq g) oM0) λ_=>?_)
theorem z48(p:Pg)(ts:List Int)(lo:Lo)(vs:List (Value×PV))(ns:List Nd)(x:Nd)(hb:ns.length<=34359738368):SC Tryz.prog 115 [.ptr 4 0,.pv (.agg [vInt x.kind,vInt x.op,vInt x.n,vStr x.name,ints x.args,ints x.outs,ints x.params,kids x.kids])] (riBx p ts lo++riLx vs ns) (λk=>k∈[]) (.tup []) (riBx p ts lo++riLx vs (ns++[x])):=by
 refine SC.vc tb {} [] Tryz.func115 rfl rfl ?_;exact⟨rfl,z3y rfl,by simp;omega,by simp,sI,rfl,rfl,rfl,boq sI0,rfl,rwq (by rw[Cm,B8,D6,Nd.enc_eq,Nd.cells_eta]),Gd⟩
theorem z6b(p:Pg)(ts:List Int)(lo:Lo)(vs:List (Value×PV))(ns:List Nd)(t k o n:Int)(nm:ByteArray)(args:List Int)(ks:List (List Nd))(ht:ts.length<=34359738368)(hb:ns.length<=34359738368) :
 SC Tryz.prog 166 [.ptr 4 0,.pv (.val (.int .i64 t)),.pv (.agg [vInt k,vInt o,vInt n,vStr nm,ints args,ints [],ints [],kids ks])] (riBx p ts lo++riLx vs ns) (λk=>k∈[]) (iInt (z6k t k o n nm args ks ⟨ts,ns⟩).1) (riBx p (z6k t k o n nm args ks ⟨ts,ns⟩).2.ts lo++riLx vs (z6k t k o n nm args ks ⟨ts,ns⟩).2.ns):=by
 refine SC.vc tb {} [] Tryz.func166 rfl rfl ?_;exact⟨[],zr8 p ts lo t ht,sR,Gg,rfl,[],z48 p (ts++[t]) lo vs ns (.mk k o n nm args [(ts.length:Int)] [] ks) hb,sR,Gk,rfl,sI,rfl,rfl,rfl,rfl,rfl,rfl,Gd⟩
theorem Cnt.getI{es:List (Value×PV)}(h:Cnt es)(name:ByteArray):(z1k (.string name) es).getD (.val (.int .i64 0))=vInt (y2m es name):=by
 unfold y2m
 cases hf:z1k (.string name) es with
 |none=>rfl
 |some p=>obtain⟨a,ha⟩:=z7j hf;obtain⟨s,hs⟩:=h.2 _ ha;dsimp only at hs;subst hs;rfl
theorem Cnt.putI{es:List (Value×PV)}(h:Cnt es)(a:ByteArray)(v:Int):Cnt (riSt es a v):=by
 unfold riSt;refine⟨λe he=>?_,λe he=>?_⟩
 ·rcases z45 he with rfl|he
  ·rfl
  ·exact h.1 e he
 ·rcases z45 he with rfl|he
  ·exact⟨_,rfl⟩
  ·exact h.2 e he
def txs(l:List ByteArray):PV:=.seq (l.map eTx)
theorem zj1(vs:List (Value×PV))(hv:Cnt vs)(l:List ByteArray)(hl:l.length<=34359738368):SC Tryz.prog 116 [.mp 5,.pv (txs l)] [(5,.map vs)] (λk=>k∈[5]) (.pv (ints (riOf vs l))) [(5,.map vs)]:=by
 refine SC.vc tb { gh:=[(1,[.grow 4 1001 3 1]),(6,[.fz 4 1001])] } [5] Tryz.func116 rfl rfl ?_;refine⟨Nat,λi=>[(9,iInt ((i:Nat):Int)),(4,.sl 1001 ((riOf vs (l.take i)).map eInt).length)],λi=>[(1001,.row inRt ((riOf vs (l.take i)).map eInt))],λi=>l.length-i,λi=>i<=l.length,[],0,Ac _,Gf,Ge,?_⟩;intro i hi;refine z00 (λhc=>?_) λhc=>?_
 ·have hlt:i<l.length:=z0x (f:=eTx) rfl hc;obtain⟨x,x1,x2,x3,x4⟩:=z0o hlt;exact⟨z02 (f:=eTx) x1,rfl,VAsk.mk (p:=vInt (y2m vs x)) (b:=(z1k (.string x) vs).isSome) rfl hv.1 (E9 (hv.getI x) rfl) ⟨rfl,z3y rfl,by simp[riOf];omega,z01 rfl oM0,i+1,z03 hlt,hlt,⟨rfl,slq (by simp[riOf];omega),Gd⟩,⟨rwq (by rw[x2];simp[riOf,eInt]),Gd⟩,rfl,rfl,rfl,rfl⟩⟩
 ·have hge:l.length<=i:=z0y (f:=eTx) rfl hc;rw[At hge];exact⟨rfl,sI,rfl,Gd⟩
theorem y3r:∀(a:List ByteArray) (b:List Int) (vs:List (Value×PV)) (n:ByteArray) (v:Int),a.length=b.length->zm3 vs (a++[n]) (b++[v])=riSt (zm3 vs a b) n v
 |[],[],_,_,_,_=>rfl
 |x::a,y::b,vs,n,v,h=>by
  simp only[B9,zm3];exact y3r a b _ n v (by simpa using h)
theorem y7y:∀(a:List ByteArray) (b:List Int) {vs:List (Value×PV)},Cnt vs->Cnt (zm3 vs a b)
 |[],[],_,h=>h
 |[],_::_,_,h=>h
 |_::_,[],_,h=>h
 |x::a,y::b,_,h=>y7y a b (h.putI x y)
theorem y61(vs:List (Value×PV))(hv:Cnt vs)(l:List ByteArray)(q:List Int)(hq:l.length=q.length)(hl:l.length<=34359738368):SC Tryz.prog 162 [.mp 5,.pv (txs l),.pv (ints q)] [(5,.map vs)] (λk=>k∈[]) (.tup []) [(5,.map (zm3 vs l q))]:=by
 refine SC.vc tb {} [] Tryz.func162 rfl rfl ?_;refine⟨Nat,λi=>[(10,iInt ((i:Nat):Int))],λi=>[(5,.map (zm3 vs (l.take i) (q.take i)))],λi=>l.length-i,λi=>i<=l.length,[],0,Ac _,Ge,⟨by simp[zm3];rfl,Gd⟩,?_⟩;intro i hi;have hc0:=y7y (l.take i) (q.take i) hv;refine z00 (λhc=>?_) λhc=>?_
 ·have hlt:i<l.length:=z0x (f:=eTx) rfl hc;obtain⟨x,x1,x2,x3,x4⟩:=z0o hlt;obtain⟨y,y1,y2,y3,y4⟩:=z0o (show i<q.length by omega);exact⟨z02 (f:=eTx) x1,rfl,z02 (f:=eInt) y1,rfl,rfl,hc0.1,z01 rfl oM0,i+1,z03 hlt,hlt,Ge,⟨mpq (by rw[x2,y2,y3r _ _ _ _ _ (by simp;omega)];rfl),Gd⟩,rfl,rfl,rfl,rfl⟩
 ·have hge:l.length<=i:=z0y (f:=eTx) rfl hc;rw[At hge,At oM0];exact⟨sI,rfl,Gd⟩
theorem z3h:∀(l ts:List Int),(z15 ts l).1.length=l.length/\(z15 ts l).2.length=ts.length+l.length
 |[],ts=>⟨rfl,rfl⟩
 |v::r,ts=>by
  have:=z3h r (ts++[ts.getD v.toNat 0]);simp only[z15,A1,B4,A5]at this⊢;omega
theorem y17:∀(l ts:List Int)(v:Int),z15 ts (l++[v])=((z15 ts l).1++[((z15 ts l).2.length:Int)],(z15 ts l).2++[(z15 ts l).2.getD v.toNat 0])
 |[],ts,v=>rfl
 |w::r,ts,v=>by
  have:=y17 r (ts++[ts.getD w.toNat 0]) v;simp only[B9,z15,this]
theorem y1p(p:Pg)(ts:List Int)(lo:Lo)(l:List Int)(hv:∀v∈l,0<=v/\v<ts.length)(hb:ts.length+l.length<=34359738368):SC Tryz.prog 161 [.ptr 1 0,.pv (ints l)] (riBx p ts lo) (λk=>k∈[]) (.pv (ints (z15 ts l).1)) (riBx p (z15 ts l).2 lo):=by
 refine SC.vc tb { gh:=[(1,[.grow 4 1001 3 1]),(6,[.fz 4 1001])] } [] Tryz.func161 rfl rfl ?_;refine⟨Nat,λi=>[(9,iInt ((i:Nat):Int)),(4,.sl 1001 ((z15 ts (l.take i)).1.map eInt).length)],λi=>(1001,.row inRt ((z15 ts (l.take i)).1.map eInt))::riBx p (z15 ts (l.take i)).2 lo,λi=>l.length-i,λi=>i<=l.length,[],0,Ac _,Gf,Gi,?_⟩;intro i hi;obtain⟨g1,g2⟩:=z3h (l.take i) ts;have g3:(l.take i).length=i:=by simp;omega
 refine z00 (λhc=>?_) λhc=>?_
 ·have hlt:i<l.length:=z0x (f:=eInt) rfl hc;obtain⟨x,x1,x2,x3,x4⟩:=z0o hlt;have hs:=y17 (l.take i) ts x;rw[<- x2]at hs;have hx:=hv x x4;have hix:x.toNat<(z15 ts (l.take i)).2.length:=by omega
  have hF:=zr8 p (z15 ts (l.take i)).2 lo ((z15 ts (l.take i)).2.getD x.toNat 0) oM0;refine⟨z02 (f:=eInt) x1,rfl,by simp,by rw[A8];exact hix,by omega,VRow.mk (i:=x.toNat) (j:=0) sI0 (by simp[inRt]) (z02 (f:=eInt) (z3q hix)) rfl ⟨[],hF,sR,Gg,rfl,rfl,z3y rfl,by simp;omega,?_⟩⟩;exact⟨z01 rfl oM0,i+1,z03 hlt,hlt,⟨rfl,slq (by rw[hs];simp),Gd⟩,⟨rwq (by rw[hs];simp[eInt]),by rw[hs];rfl,by rw[hs];rfl,rfl,Gd⟩,rfl,rfl,rfl,rfl⟩
 ·have hge:l.length<=i:=z0y (f:=eInt) rfl hc;rw[At hge];exact⟨by simp,sI,rfl,rfl,rfl,Gd⟩
theorem ze5(p:Pg)(ts:List Int)(lo:Lo)(vs:List (Value×PV))(ns:List Nd):SC Tryz.prog 163 [.ptr 4 0] (riBx p ts lo++riLx vs ns) (λk=>k∈[1,2,3,4,5,6]) (.ptr 14 0) ([(14,.box [.ptr 1 0,.mp 15,.pv (.val (.slice none 0 0))]),(15,.map vs)]++(riBx p ts lo++riLx vs ns)):=by
 refine SC.vc tb { ids:=[(13,14)] } [1,2,3,4,5,6] Tryz.func163 rfl rfl ?_;have hC:SC Tryz.prog 196 [.mp 5] [(5,.map vs)] (λk=>k∈[5]) (.mp 15) [(15,.map vs),(5,.map vs)]:=SC.sameR (((j28 vs).sw 1 5).sw 8 15) λk _ hk=>by rw[An.1 hk];exact Df
 exact⟨[5],hC,sR,⟨rfl,rfl,by simp,Gd⟩,rfl,sI,rfl,rfl,rfl,rfl,rfl,rfl,rfl,rfl,Gd⟩
theorem zc5(vs:List (Value×PV))(x:St)(out:List (Value×PV)):yl5 vs x out=z4p vs x.els (z4p vs x.thn (if (z1k (.string x.name) vs).isSome&&x.kind==2 then mput (.string x.name) (.agg []) out else out)):=by cases x;rw[yl5];rfl
theorem y3n(vs:List (Value×PV)):∀(l:List St) (x:St) (out:List (Value×PV)),z4p vs (l++[x]) out=yl5 vs x (z4p vs l out)
 |[],x,out=>by simp[z4p]
 |y::r,x,out=>by simp only[B9,z4p];exact y3n vs r x _
def StrK(es:List (Value×PV)):Prop:=∀e∈es,z1v .string e.1=true
theorem StrK.put{es:List (Value×PV)}(h:StrK es)(a:ByteArray)(v:PV):StrK (mput (.string a) v es):=λe he=>by
 rcases z45 he with rfl|he
 ·rfl
 ·exact h e he
theorem z8w(vs:List (Value×PV)):∀(N:Nat)(l:List St),SizeOf.sizeOf l<N->∀out,StrK out->StrK (z4p vs l out)
 |0,_,h,_,_=>absurd h (Al _)
 |N+1,[],_,out,h=>by rw[z4p];exact h
 |N+1,x::r,hN,out,h=>by
  have hx:=zs4 x;simp at hN;rw[z4p,zc5];refine z8w vs N r oM0 _ (z8w vs N x.els oM0 _ (z8w vs N x.thn oM0 _ ?_));split
  ·exact h.put _ _
  ·exact h
theorem y5d{o:Oper}{fr:Fr}{hp:Hp}{Rl:List Nat}(ho:o.op=.build 165 #[]):OkF Tryz.prog Rl o fr hp ⟨.pv (.agg []),[],[],[]⟩ :=
 .pure λc R1 fr2 hp2 _ _ _=>bPu (pl:=#[]) (out:=[]) ho (xs:=[]) rfl (z:=.agg #[]) kR0 ⟨#[],Tryz.underlying165,y10 (T:=tb) (a:=#[]) (l:=[]) rfl⟩ rfl (λp hp=>by cases hp) rfl
theorem y60(vs:List (Value×PV))(hv:Cnt vs):∀(N:Nat)(l:List St),SizeOf.sizeOf l<N->szL l<=1073741824->∀out,StrK out ->
 SC Tryz.prog 193 [.mp 5,.pv (sts l),.mp 9] [(5,.map vs),(9,.map out)] (λk=>k∈[5]) (.tup []) [(5,.map vs),(9,.map (z4p vs l out))]
 |0,_,h,_,_,_=>absurd h (Al _)
 |N+1,l,hN,hx,out,ho=>by
  refine SC.vc tb { jn:=[6],an:=[5003] } [5] Tryz.func193 rfl rfl ?_;have hl:=z8j l;refine⟨Nat,λi=>[(12,iInt ((i:Nat):Int))],λi=>[(9,.map (z4p vs (l.take i) out))],λi=>l.length-i,λi=>i<=l.length,[],0,Ac _,Ge,⟨by simp[z4p];rfl,Gd⟩,?_⟩;intro i hi;have hk:=z8w vs _ (l.take i) (Ab _) out ho;refine z00 (λhc=>?_) λhc=>?_
  ·have hlt:i<l.length:=z0x (f:=St.enc) rfl hc;obtain⟨x,x1,x2,x3,x4⟩:=z0o hlt;have hso:=zs4 x;have hmem:=Bq x4;have hsz:=y2p x;have hszm:=zv8 x4;have hs:=y3n vs (l.take i) x out;rw[<- x2,zc5]at hs;generalize z4p vs (l.take i) out=o1 at hk hs⊢;generalize hO:(if (z1k (.string x.name) vs).isSome&&x.kind==2 then mput (.string x.name) (.agg []) o1 else o1)=o2 at hs;have hk2:StrK o2:=by
    rw[<- hO];split
    ·exact hk.put _ _
    ·exact hk
   have hT:=y60 vs hv N x.thn oM0 oM0 o2 hk2;have hk3:=z8w vs _ x.thn (Ab _) o2 hk2;have hE:=y60 vs hv N x.els oM0 oM0 _ hk3;refine⟨zj7 x1,rfl,Unit,λ_=>[],λ_=>[(9,.map o2)],λ_=>True,[9],VAsk.mk (p:=vInt (y2m vs x.name)) (b:=(z1k (.string x.name) vs).isSome) rfl hv.1 (E9 (hv.getI x.name) rfl) ?_,?_⟩
   ·refine z00 (λc=>?_) λc=>?_
    ·rw[c,B5]at hO;refine z00 (λc2=>?_) λc2=>?_
     ·have c2:(x.kind==2)=true:=c2;rw[c2,if_pos rfl]at hO;exact⟨y5d rfl,rfl,hk,(),Gd,Gd,⟨mpq hO,Gd⟩,rfl,rfl,rfl,rfl⟩
     ·have c2:(x.kind==2)=false:=c2;rw[c2,if_neg dC0]at hO;exact⟨(),Gd,Gd,⟨mpq hO,Gd⟩,rfl,rfl,rfl,rfl⟩
    ·rw[c,Cz,if_neg dC0]at hO;exact⟨(),Gd,Gd,⟨mpq hO,Gd⟩,rfl,rfl,rfl,rfl⟩
   ·rintro _ _;exact⟨[5],hT,sR,⟨rfl,rfl,by simp,rfl,Gd⟩,rfl,[5],hE,sR,⟨rfl,rfl,by simp,rfl,Gd⟩,rfl,z01 rfl oM0,i+1,z03 hlt,hlt,Ge,⟨mpq (by rw[hs]),Gd⟩,rfl,rfl,rfl,rfl⟩
  ·have hge:l.length<=i:=z0y (f:=St.enc) rfl hc;rw[At hge];exact⟨sI,rfl,rfl,Gd⟩
section
open Go Go.Proofs Go.RowKit Go.Maps Go.Sort Go.Shelf
def y0e:Go.Shelf.Ren:=⟨λ|7=>195|10=>223|n=>n,λ|23=>242|26=>9|3=>165|28=>246|0=>0|27=>245|33=>111|4=>4|n=>n,λ|n=>n⟩
theorem j0m:Go.Proofs.SlLaysZ.n7 Tryz.prog y0e where
 mixed:=by kernel_rfl
 f7:=⟨"maps.Keys[map[string]struct{},string,struct{}]", by decide,Tryz.func195.trans (Af some kR0)⟩
 f10:=⟨"maps.Keys[map[string]struct{},string,struct{}]$1", by decide,Tryz.func223.trans (Af some kR0)⟩
 t0:=Tryz.underlying0
 a0:=Tryz.isAgg0
 z0:=Tryz.sizeOf0
 v0:=Tryz.zeroValue0
 t4:=Tryz.underlying4
 a4:=Tryz.isAgg4
 z4:=Tryz.sizeOf4
 v4:=Tryz.zeroValue4
 t23:=Tryz.underlying242
 a23:=Tryz.isAgg242
 z23:=Tryz.sizeOf242
 v23:=Tryz.zeroValue242
 t26:=Tryz.underlying9
 a26:=Tryz.isAgg9
 z26:=Tryz.sizeOf9
 v26:=Tryz.zeroValue9
 t27:=Tryz.underlying245
 a27:=Tryz.isAgg245
 z27:=Tryz.sizeOf245
 v27:=Tryz.zeroValue245
 t28:=Tryz.underlying246
 a28:=Tryz.isAgg246
 z28:=Tryz.sizeOf246
 v28:=Tryz.zeroValue246
 t33:=Tryz.underlying111
 a33:=Tryz.isAgg111
 z33:=Tryz.sizeOf111
 v33:=Tryz.zeroValue111
def zn7:Go.Shelf.Ren:=⟨λ|6=>194|8=>221|9=>222|11=>244|13=>246|12=>245|23=>262|24=>240|14=>253|15=>254|16=>255|17=>256|18=>257|19=>258|20=>259|21=>260|22=>261|25=>264|26=>265|27=>266|28=>267|29=>268|30=>269|31=>270|n=>n,λ|26=>9|28=>246|24=>73|0=>0|3=>3|37=>284|48=>282|50=>232|4=>4|40=>294|39=>293|45=>204|5=>5|9=>9|51=>304|55=>308|57=>310|58=>229|33=>111|n=>n,λ|n=>n⟩
theorem j3g:Go.Proofs.SlLaysZ.n6 Tryz.prog zn7 where
 mixed:=by kernel_rfl
 f6:=⟨"slices.Sorted[string]", by decide,Tryz.func194.trans (Af some kR0)⟩
 f8:=⟨"slices.Collect[string]", by decide,Tryz.func221.trans (Af some kR0)⟩
 f11:=⟨"slices.AppendSeq[[]string,string]", by decide,Tryz.func244.trans (Af some kR0)⟩
 t0:=Tryz.underlying0
 a0:=Tryz.isAgg0
 z0:=Tryz.sizeOf0
 v0:=Tryz.zeroValue0
 t24:=Tryz.underlying73
 a24:=Tryz.isAgg73
 z24:=Tryz.sizeOf73
 v24:=Tryz.zeroValue73
 t26:=Tryz.underlying9
 a26:=Tryz.isAgg9
 z26:=Tryz.sizeOf9
 v26:=Tryz.zeroValue9
 t28:=Tryz.underlying246
 a28:=Tryz.isAgg246
 z28:=Tryz.sizeOf246
 v28:=Tryz.zeroValue246
 i26:=by kernel_rfl
def yf6:Go.Shelf.Ren:=⟨λ|6=>222|8=>246|9=>245|19=>262|20=>240|21=>253|22=>254|23=>255|24=>256|25=>257|26=>258|27=>259|28=>260|29=>261|36=>264|31=>265|32=>266|37=>267|38=>268|39=>269|41=>270|n=>n,λ|27=>73|29=>9|3=>3|32=>284|26=>73|0=>0|44=>282|46=>232|4=>4|36=>294|35=>293|41=>204|5=>5|9=>9|53=>304|57=>308|63=>310|64=>229|n=>n,λ|n=>n⟩
theorem j3f:Go.Proofs.SlLaysM.n6 Tryz.prog yf6 where
 mixed:=by kernel_rfl
 f6:=⟨"slices.Sort[[]string,string]", by decide,Tryz.func222.trans (Af some kR0)⟩
 f8:=Tryz.func246.trans (Af some kR0)
 f9:=⟨"slices.pdqsortOrdered[string]", by decide,Tryz.func245.trans (Af some kR0)⟩
 f19:=Tryz.func262.trans (Af some kR0)
 f20:=Tryz.func240.trans (Af some kR0)
 f21:=⟨"slices.insertionSortOrdered[string]", by decide,Tryz.func253.trans (Af some kR0)⟩
 f22:=⟨"slices.heapSortOrdered[string]", by decide,Tryz.func254.trans (Af some kR0)⟩
 f23:=⟨"slices.breakPatternsOrdered[string]", by decide,Tryz.func255.trans (Af some kR0)⟩
 f24:=⟨"slices.choosePivotOrdered[string]", by decide,Tryz.func256.trans (Af some kR0)⟩
 f25:=⟨"slices.reverseRangeOrdered[string]", by decide,Tryz.func257.trans (Af some kR0)⟩
 f26:=⟨"slices.partialInsertionSortOrdered[string]", by decide,Tryz.func258.trans (Af some kR0)⟩
 f27:=⟨"cmp.Less[string]", by decide,Tryz.func259.trans (Af some kR0)⟩
 f28:=⟨"slices.partitionEqualOrdered[string]", by decide,Tryz.func260.trans (Af some kR0)⟩
 f29:=⟨"slices.partitionOrdered[string]", by decide,Tryz.func261.trans (Af some kR0)⟩
 f31:=Tryz.func265.trans (Af some kR0)
 f32:=Tryz.func266.trans (Af some kR0)
 f36:=⟨"slices.siftDownOrdered[string]", by decide,Tryz.func264.trans (Af some kR0)⟩
 f37:=⟨"slices.medianAdjacentOrdered[string]", by decide,Tryz.func267.trans (Af some kR0)⟩
 f38:=⟨"slices.medianOrdered[string]", by decide,Tryz.func268.trans (Af some kR0)⟩
 f39:=⟨"cmp.isNaN[string]", by decide,Tryz.func269.trans (Af some kR0)⟩
 f41:=⟨"slices.order2Ordered[string]", by decide,Tryz.func270.trans (Af some kR0)⟩
 t0:=Tryz.underlying0
 a0:=Tryz.isAgg0
 z0:=Tryz.sizeOf0
 v0:=Tryz.zeroValue0
 t3:=Tryz.underlying3
 a3:=Tryz.isAgg3
 z3:=Tryz.sizeOf3
 v3:=Tryz.zeroValue3
 t4:=Tryz.underlying4
 a4:=Tryz.isAgg4
 z4:=Tryz.sizeOf4
 v4:=Tryz.zeroValue4
 t5:=Tryz.underlying5
 a5:=Tryz.isAgg5
 z5:=Tryz.sizeOf5
 v5:=Tryz.zeroValue5
 t9:=Tryz.underlying9
 a9:=Tryz.isAgg9
 z9:=Tryz.sizeOf9
 v9:=Tryz.zeroValue9
 t26:=Tryz.underlying73
 a26:=Tryz.isAgg73
 z26:=Tryz.sizeOf73
 v26:=Tryz.zeroValue73
 t27:=Tryz.underlying73
 a27:=Tryz.isAgg73
 z27:=Tryz.sizeOf73
 v27:=Tryz.zeroValue73
 t29:=Tryz.underlying9
 a29:=Tryz.isAgg9
 z29:=Tryz.sizeOf9
 v29:=Tryz.zeroValue9
 t32:=Tryz.underlying284
 a32:=Tryz.isAgg284
 z32:=Tryz.sizeOf284
 v32:=Tryz.zeroValue284
 t35:=Tryz.underlying293
 a35:=Tryz.isAgg293
 z35:=Tryz.sizeOf293
 v35:=Tryz.zeroValue293
 t36:=Tryz.underlying294
 a36:=Tryz.isAgg294
 z36:=Tryz.sizeOf294
 v36:=Tryz.zeroValue294
 t41:=Tryz.underlying204
 a41:=Tryz.isAgg204
 z41:=Tryz.sizeOf204
 v41:=Tryz.zeroValue204
 t44:=Tryz.underlying282
 a44:=Tryz.isAgg282
 z44:=Tryz.sizeOf282
 v44:=Tryz.zeroValue282
 t46:=Tryz.underlying232
 a46:=Tryz.isAgg232
 z46:=Tryz.sizeOf232
 v46:=Tryz.zeroValue232
 t53:=Tryz.underlying304
 a53:=Tryz.isAgg304
 z53:=Tryz.sizeOf304
 v53:=Tryz.zeroValue304
 t57:=Tryz.underlying308
 a57:=Tryz.isAgg308
 z57:=Tryz.sizeOf308
 v57:=Tryz.zeroValue308
 t63:=Tryz.underlying310
 a63:=Tryz.isAgg310
 z63:=Tryz.sizeOf310
 v63:=Tryz.zeroValue310
 t64:=Tryz.underlying229
 a64:=Tryz.isAgg229
 z64:=Tryz.sizeOf229
 v64:=Tryz.zeroValue229
theorem sorts194(m:Nat):AnyZ.SortsIn Tryz.prog zn7 Fence.wide m :=
 ⟨λblk off cap ss W hH hblk hsz=>Fy.2 (AnyM.slices_Sort_string j3f blk off cap ss W hH hblk hsz),
  λp cap W=>Fy.2 (AnyM.slices_Sort_string_none j3f p cap W)⟩
theorem yp5{F:Nat->Prop}{ρ:Loc}{σ:Heap'}{w w':World}(h:RelH F ρ σ w)(hb:Go.RowKit.Below w.heap.size w w')(R:Nat->Prop):RelH F ρ σ w'/\Trans F R ρ σ w ρ σ w':=by
 have t:Trans F R ρ σ w ρ σ w':=⟨hb.os,hb.tape,hb.output,hb.size,λb hlt _=>hb.block b hlt,λ_ _ _ hi _=>.inl hi,λ_ _ _ _ _=>rfl,λ_ _ _ _ _=>rfl,λ_ _ _ _ _ _ _ _=>rfl,
  λk s s' els els' h1 h2=>by rw[h1]at h2;cases h2;exact Ag _,λk cs h1=>.inr ⟨cs,h1⟩,λk es h1=>.inr ⟨es,h1⟩,λk s els h1=>.inr ⟨els,h1⟩⟩
 refine⟨⟨h.inj,h.apart,λb hF=>Bc (h.old b hF) hb.size,λk b c hk=>?_,h.real⟩,t⟩;obtain⟨o,h1,h2⟩:=h.obj k b c hk;refine⟨o,h1,h2.keep t (hb.block b (h.lt hk)) λx _ hn=>?_⟩;obtain⟨k,hk⟩:=hn.some;exact hk.2 hk.1
theorem sc_keys(es:List (Value×PV)):SC Tryz.prog 195 [.mp 9] [(9,.map es)] (λk=>k∈[9]) (.fn (.func 223) [] [.ptr 77 0]) [(77,.box [.mp 9]),(9,.map es)]:=by
 intro F ρ w vs hkept hrel hargs;have ha:All ⟨F,λk=>k∈[9],ρ,look (up [(9,.map es)]),w,vs.length⟩ ρ (look (up [(9,.map es)])) w [(0,.mp 9)] { tmps:=vs.toArray,defers:=[] }:=by
  refine⟨hrel,λt x hx=>?_,.refl _ _ _ _ _,rfl,by simp,hkept⟩
  match t,hx with
  |0,hx=>cases hx;obtain⟨v,h1,h2⟩:=hargs.2 0 _ rfl;exact⟨v,by simpa using h1,h2⟩
  |t+1,hx=>cases hx
 obtain⟨b,cc,r,ck,u,hv,hρ,h3,h4,h5,h6⟩:=ha.mapAt (x:=.tmp 0) rfl rfl;have hvs:vs.toArray = #[.map (some b)]:=by
  match vs,hargs.1,hv with
  |[v],_,hv=>simp[Act.eval]at hv;rw[hv]
 rw[hvs];refine(Fy.1 (AnyZ.keys_in j0m Fence.wide 5 trivial rfl (some b) w)).mono ?_;rintro e w' ⟨rfl,rfl⟩;have hn:=ha.alloc (k:=77) (o:=.box [.mp 9]) rfl rfl rfl rfl 1 (.cells #[.map (some b)] 242) λkeepI _=>.box [.mp 9] 242 #[.map (some b)] (λ_=>.map (some b)) (z2w w _) sI0 (λj x hj=>by
  match j,hj with
  |0,_=>rfl) (λj x hj=>by
  match j,hj with
  |0,hj=>cases hj;exact keepI _ _ (.mp _ _ λes' _=>⟨b,cc,hρ,rfl⟩) rfl)
 refine⟨_,_,rfl,.fn _ _ _ _ _ (λ_=>.pointer none) (λ_=>.pointer (some ⟨w.heap.size,0,none⟩)) rfl (λj c hj=>by cases hj) (λj c hj=>by cases hj) rfl (λj c hj=>?_) (λj c hj=>?_),hn.rel,hn.tr⟩
 ·match j,hj with
  |0,_=>rfl
 ·match j,hj with
  |0,hj=>cases hj;exact .ptr _ _ _ λcs _=>⟨w.heap.size,1,z0a,rfl⟩
theorem keys_map{r:Array MapEntry}{es:List (Value×PV)}{u:Nat->Value}(h4:r.size=es.length)(h5:∀i k p,es[i]?=some (k,p)->∃m:MapEntry,r[i]?=some m/\m.key=k/\m.val=u i):r.toList.map (·.key)=es.map (·.1):=by
 refine List.ext_getElem? λi=>?_;rw[Ba,Ba,Be]
 cases he:es[i]? with
 |none =>
  have:=List.getElem?_eq_none_iff.1 he
  rw[Er oM0];rfl
 |some e =>
  obtain⟨m,h1,h2,_⟩:=h5 i e.1 e.2 he;rw[h1];simp[h2]
abbrev rd0:Value->Option (DataW Unit×List MemPlace):=λ_=>some (.nil,[])
theorem keyOf_tx{k:Value}(h1:z1v .string k=true)(h2:(z71 k).size<=maxLen):keyOf Tryz.prog 9 k=some (.string (z71 k).data.toList):=by
 cases k<;>simp[z1v]at h1
 rename_i s;simp only[z71]at h2;simp[keyOf,mapKey,Tryz.underlying9,h2,z71]
theorem j2w(es:List (Value×PV))(hk:StrK es)(hsz:∀e∈es,(z71 e.1).size<=maxLen)(hl:es.length<=1073741824):SC Tryz.prog 194 [.fn (.func 223) [] [.ptr 77 0]] [(77,.box [.mp 9]),(9,.map es)] (λk=>k∈[77,9]) (.pv (txs (zn6 (es.map λe=>z71 e.1)))) [(77,.box [.mp 9]),(9,.map es)]:=by
 intro F ρ w vs hkept hrel hargs;obtain⟨v0,e0,r0⟩:=hargs.2 0 _ rfl;have hv1:∃b c,ρ 77=some (b,c)/\v0=.func (.func 223) #[] #[.pointer (some ⟨b,0,none⟩)]:=by
  cases r0 with
  |fn _ _ _ vs ws u t hl hv hr hl' hv' hr' =>
   have q:=hr' 0 _ rfl;have q2:=hv' 0 _ rfl
   cases q with
   |ptr _ _ _ h =>
    obtain⟨b,c,h1,h2⟩:=h _ rfl;refine⟨b,c,h1,?_⟩;have e1:vs = #[]:=Array.eq_empty_of_size_eq_zero hl;subst e1;have e2:ws = #[.pointer (some ⟨b,0,none⟩)]:=by
     apply Array.ext
     ·simpa using hl'
     ·intro i h1' h2';have:i=0:=by simp at h2';omega
      subst this;rw[Array.getElem?_eq_getElem h1']at q2;exact(C7 q2).trans h2
    rw[e2]
 obtain⟨B,cB,hB,rfl⟩:=hv1;obtain⟨o1,q1,q2⟩:=hrel.obj 77 B cB hB;have q1:look (up [(77,HO.box [.mp 9]),(9,.map es)]) 77=some o1:=q1
 cases q1
 obtain⟨eB,a,uB,g1,g2,g3,g4⟩:=q2.inv_box;have g5:=g4 0 _ rfl;have g6:=g3 0 _ rfl;have hmp:∃b c,ρ 9=some (b,c)/\uB 0=.map (some b):=by
  generalize uB 0=x at g5
  cases g5 with
  |mp _ _ h=>exact h _ rfl
 obtain⟨b,cc,hρ,hu⟩:=hmp;obtain⟨o2,q3,q4⟩:=hrel.obj 9 b cc hρ;have q3:look (up [(77,HO.box [.mp 9]),(9,.map es)]) 9=some o2:=q3
 cases q3
 obtain⟨r,ck,u,h3,h4,h5,h6⟩:=q4.inv_map;have hst:=q4.stamped h3;have hkm:=keys_map h4 h5;have hrd:∀x∈r.toList,Go.WideElems.rg Tryz.prog 9 rd0 x=(.string (z71 x.key).data.toList,.nil)/\∃y,Go.WideElems.rd Tryz.prog 9 rd0 x=some y:=by
  intro x hx;have hm:x.key∈es.map (·.1):=hkm▸D4 hx;obtain⟨e,he,hxe⟩:=Cc.1 hm;have hko:=keyOf_tx (k:=x.key) (hxe▸hk e he) (hxe▸hsz e he);have:Go.WideElems.rd Tryz.prog 9 rd0 x=some (.string (z71 x.key).data.toList,.nil):=by simp[Go.WideElems.rd,hko]
  exact⟨Go.WideElems.rg_of this,_,this⟩
 have hown:w.ownsMap Tryz.prog 9 rd0 b r.size (.map ((r.toList.map (Go.WideElems.rg Tryz.prog 9 rd0)).foldr DataW.insert [])):=⟨r,ck,h3,⟨by rw[h4];exact Bn hl dC0,hst,λx hx=>(hrd x hx).2⟩,Ag _,rfl⟩;have hperm:(strKeys (.map ((r.toList.map (Go.WideElems.rg Tryz.prog 9 rd0)).foldr DataW.insert []))).Perm (es.map λe=>(z71 e.1).data.toList):=by
  refine((Go.WideShapes.sorted_perm _).map _).trans ?_;rw[En];have:r.toList.map ((λp=>strOf p.1) ∘ Go.WideElems.rg Tryz.prog 9 rd0)=(r.toList.map (·.key)).map λk=>(z71 k).data.toList:=by
   rw[En];exact List.map_congr_left λx hx=>by simp only[Function.comp,(hrd x hx).1,strOf]
  rw[this,hkm,En];exact List.Perm.refl _
 have hBlt:=hrel.lt hB;have hsize:Maps.size (.map ((r.toList.map (Go.WideElems.rg Tryz.prog 9 rd0)).foldr DataW.insert []))=es.length:=by
  simp only[Maps.size,length_sorted,A8,Bx,h4]
 have hseq:SeqGives Fence.wide 2 Tryz.prog 223 #[.pointer (some ⟨B,0,none⟩)] encStr (λss=>ss.Perm (strKeys (.map ((r.toList.map (Go.WideElems.rg Tryz.prog 9 rd0)).foldr DataW.insert [])))) (Maps.size (.map ((r.toList.map (Go.WideElems.rg Tryz.prog 9 rd0)).foldr DataW.insert []))) w :=
  AnyZ.keys_gives (ρ:=y0e) { j0m with } Fence.wide _ trivial rfl oM0 B b r.size _ w hBlt (by
   simp only[World.cell?,g1];simpa[hu]using g6) hown
 have hvs:vs=[.func (.func 223) #[] #[.pointer (some ⟨B,0,none⟩)]]:=by
  match vs,hargs.1,e0 with
  |[x],_,e0=>cases e0;rfl
 subst hvs;refine(Fy.1 (AnyZ.sorted_in j3g Fence.wide 5 trivial trivial trivial trivial rfl oM0 (sorts194 _) (enters_of Tryz.func222 kR0 rfl) 223 #[.pointer (some ⟨B,0,none⟩)] trivial (enters_of Tryz.func223 kR0 rfl) _ _ (by rw[hsize];exact Bn hl dC0) (by rw[hsize];omega) _ hseq)).mono ?_;rintro e w' ⟨v,ss,rfl,hS,hrow,hnil,hb⟩;obtain⟨k1,k2⟩:=yp5 hrel hb (λk=>k∈[77,9]);refine⟨ρ,v,rfl,.pv _ _ ?_,k1,k2⟩;have hso:zn6 (es.map λe=>z71 e.1)=(ss.mergeSort (λx y=>decide (x<=y))).map λb=>⟨b.toArray⟩:=by
  unfold zn6;rw[En];exact Af _ (mergeSort_of_perm (hS.trans hperm)).symm
 have hlen:ss.length=((zn6 (es.map λe=>z71 e.1)).map eTx).length:=by simp[hso]
 show RepP _ _ (.seq ((zn6 (es.map λe=>z71 e.1)).map eTx)) v;rcases hrow.2 with⟨rfl,hz⟩|⟨g,cap,cur,rfl,t1,t2,t3,t4,t5,t6⟩
 ·have he:(zn6 (es.map λe=>z71 e.1)).map eTx=[]:=Aw (hlen▸hz);rw[he];exact .seq [] none 0 0 0 (λ_ _=>.bool false) (λh=>absurd rfl h) (λh=>absurd rfl h) (Ag _) (Ac _) (λi el h=>by cases h) (λi el h=>by cases h)
 ·rw[hlen];have hat:∀(i:Nat)(el:List PV),((zn6 (es.map λe=>z71 e.1)).map eTx)[i]?=some el->∃s:ByteArray,el=[PV.val (.string s)]/\cur[i]?=some (Value.string s):=by
   intro i el hi;rw[hso,En,Ba]at hi
   cases hm:(ss.mergeSort (λx y=>decide (x<=y)))[i]? with
   |none=>rw[hm]at hi;cases hi
   |some x =>
    rw[hm]at hi;cases hi
    refine⟨⟨x.toArray⟩,rfl,?_⟩;have:(cur.toList.take (ss.length*1))[i]?=some (encStr x):=by rw[t6,Ba,hm,D9]
    rw[C6]at this;split at this
    ·rw[Be]at this;exact this
    ·cases this
  refine .seq _ _ cap g 0 (λi _=>cur.getD i (.bool false)) (λ_=>rfl) (λ_=>⟨λho=>?_,?_⟩) (hlen▸t3) t4 (λi el hi j c hj=>?_) λi el hi j c hj=>?_
  ·have:=hrel.own_lt ho;omega
  ·rcases Du g w'.heap.size with h|h
   ·exact h
   ·rw[Er h]at t2;cases t2
  ·obtain⟨s,rfl,hs⟩:=hat i el hi
   match j,hj with
   |0,hj=>simp only[World.cell?,t2];simp[hs]
  ·obtain⟨s,rfl,hs⟩:=hat i el hi
   match j,hj with
   |0,hj=>cases hj;simp[hs];exact .val _
theorem ys4(vs:List (Value×PV))(l:List (List St))(x:List St):z8l vs (l++[x])=z4p vs x (z8l vs l):=by simp[z8l]
theorem y19(vs:List (Value×PV))(ls:List (List St)):StrK (z8l vs ls):=by
 suffices ∀(ls:List (List St)) (o:List (Value×PV)),StrK o->StrK (ls.foldl (λo l=>z4p vs l o) o)from this ls [] λe he=>by cases he
 intro ls
 induction ls with
 |nil=>exact λo h=>h
 |cons l r ih=>exact λo h=>ih _ (z8w vs _ l (Ab _) o h)
theorem zv4(vs:List (Value×PV))(hv:Cnt vs)(ls:List (List St))(hls:ls.length<=1000)(hsz:∀l∈ls,szL l<=1073741824)(hn:∀e∈z8l vs ls,(z71 e.1).size<=maxLen)(hl:(z8l vs ls).length<=1073741824) :
 SC Tryz.prog 159 [.mp 5,.pv (.seq (ls.map λl=>[sts l]))] [(5,.map vs)] (λk=>k∈[5]) (.pv (txs (z0d vs ls))) [(5,.map vs)]:=by
 refine SC.vc tb { ids:=[(8,9),(21,77)] } [5] Tryz.func159 rfl rfl ?_;refine⟨Nat,λi=>[(11,iInt ((i:Nat):Int))],λi=>[(9,.map (z8l vs (ls.take i)))],λi=>ls.length-i,λi=>i<=ls.length,[],0,Ac _,Ge,⟨by simp[z8l];rfl,Gd⟩,?_⟩;intro i hi;refine z00 (λhc=>?_) λhc=>?_
 ·have hlt:i<ls.length:=z0x (f:=λl=>[sts l]) rfl hc;obtain⟨x,x1,x2,x3,x4⟩:=z0o hlt;have hA:=y60 vs hv _ x (Ab _) (hsz x x4) _ (y19 vs (ls.take i));exact⟨z02 (f:=λl=>[sts l]) x1,rfl,[5],hA,sR,⟨rfl,rfl,by simp,rfl,Gd⟩,rfl,z01 rfl oM0,i+1,z03 hlt,hlt,Ge,⟨mpq (by rw[x2,ys4]),Gd⟩,rfl,rfl,rfl,rfl⟩
 ·have hge:ls.length<=i:=z0y (f:=λl=>[sts l]) rfl hc;rw[At hge];have hK:=sc_keys (z8l vs ls);have hS:=j2w (z8l vs ls) (y19 vs ls) hn hl;exact⟨[9],hK,sR,Gf,rfl,[77,9],hS,sR,Gi,rfl,sI,rfl,Gd⟩
end
theorem sc_idxNd(fq:FuncId)(ws:List IV)(hent:tb.fn fq=true)(p:(Nd)->Bool)(l:List (Nd))(h:∀x∈l,SC Tryz.prog fq (.pv (ndv x)::ws) [] (λk=>k∈[]) (iBool (p x)) []):SC Tryz.prog 231 [.pv (z1p l),.fn (.func fq) [] ws] [] (λk=>k∈[]) (iInt (idxP p l 0)) []:=by
 refine SC.vc tb { gh:=[(0,[.len 0])] } [] Tryz.func231 rfl rfl ?_;intro hl;simp only[A8]at hl;have hl:l.length<=9223372036854775807:=hl;refine⟨Nat,λi=>[(8,iInt ((i:Nat):Int))],λ_=>[],λi=>l.length-i,λi=>i<=l.length/\∀x∈l.take i,p x=false,[],0,⟨Ac _,λx hx=>by simp at hx⟩,Ge,Gd,?_⟩;rintro i ⟨i1,i2⟩;refine z00 (λhc=>?_) λhc=>?_
 ·have hlt:i<l.length:=z0x (f:=Nd.enc) rfl hc;obtain⟨x,x1,x2,x3,x4⟩:=z0o hlt;refine⟨z06 x1,rfl,z56 (b:=tb.fn fq) hent ⟨h x x4,sR,Gd,λk hk=>hk,rfl,rfl,z00 (λc=>?_) λc=>?_⟩⟩
  ·exact⟨sE (by rw[z16 p l 0 i2,x3,idxP,if_pos c,Dj]),Gd⟩
  ·exact⟨z01 rfl oM0,i+1,z03 hlt,⟨hlt,λy hy=>by rw[x2]at hy;rcases Ax.1 hy with g|g;exact i2 y g;rw[An.1 g];exact c⟩,Ge,Gd,rfl,rfl,rfl,rfl⟩
 ·have hge:l.length<=i:=z0y (f:=Nd.enc) rfl hc;exact⟨sE (by rw[z16 p l 0 i2,Ad hge];rfl),Gd⟩
theorem sc_hasNd(fq:FuncId)(ws:List IV)(hent:tb.fn fq=true)(p:(Nd)->Bool)(l:List (Nd))(h:∀x∈l,SC Tryz.prog fq (.pv (ndv x)::ws) [] (λk=>k∈[]) (iBool (p x)) []):SC Tryz.prog 203 [.pv (z1p l),.fn (.func fq) [] ws] [] (λk=>k∈[]) (iBool (l.any p)) []:=by
 refine SC.vc tb {} [] Tryz.func203 rfl rfl ?_;exact⟨[],sc_idxNd fq ws hent p l h,sR,Gd,rfl,sE (Af iBool (z5k p l 0 dC0)),Gd⟩
theorem sc_idxKd(fq:FuncId)(ws:List IV)(hent:tb.fn fq=true)(p:(List Nd)->Bool)(l:List (List Nd))(h:∀x∈l,SC Tryz.prog fq (.pv (z1p x)::ws) [] (λk=>k∈[]) (iBool (p x)) []):SC Tryz.prog 232 [.pv (kids l),.fn (.func fq) [] ws] [] (λk=>k∈[]) (iInt (idxP p l 0)) []:=by
 refine SC.vc tb { gh:=[(0,[.len 0])] } [] Tryz.func232 rfl rfl ?_;intro hl;simp only[A8]at hl;have hl:l.length<=9223372036854775807:=hl;refine⟨Nat,λi=>[(8,iInt ((i:Nat):Int))],λ_=>[],λi=>l.length-i,λi=>i<=l.length/\∀x∈l.take i,p x=false,[],0,⟨Ac _,λx hx=>by simp at hx⟩,Ge,Gd,?_⟩;rintro i ⟨i1,i2⟩;refine z00 (λhc=>?_) λhc=>?_
 ·have hlt:i<l.length:=z0x (f:=eKid) rfl hc;obtain⟨x,x1,x2,x3,x4⟩:=z0o hlt;refine⟨z02 (f:=eKid) x1,rfl,z56 (b:=tb.fn fq) hent ⟨h x x4,sR,Gd,λk hk=>hk,rfl,rfl,z00 (λc=>?_) λc=>?_⟩⟩
  ·exact⟨sE (by rw[z16 p l 0 i2,x3,idxP,if_pos c,Dj]),Gd⟩
  ·exact⟨z01 rfl oM0,i+1,z03 hlt,⟨hlt,λy hy=>by rw[x2]at hy;rcases Ax.1 hy with g|g;exact i2 y g;rw[An.1 g];exact c⟩,Ge,Gd,rfl,rfl,rfl,rfl⟩
 ·have hge:l.length<=i:=z0y (f:=eKid) rfl hc;exact⟨sE (by rw[z16 p l 0 i2,Ad hge];rfl),Gd⟩
theorem sc_hasKd(fq:FuncId)(ws:List IV)(hent:tb.fn fq=true)(p:(List Nd)->Bool)(l:List (List Nd))(h:∀x∈l,SC Tryz.prog fq (.pv (z1p x)::ws) [] (λk=>k∈[]) (iBool (p x)) []):SC Tryz.prog 205 [.pv (kids l),.fn (.func fq) [] ws] [] (λk=>k∈[]) (iBool (l.any p)) []:=by
 refine SC.vc tb {} [] Tryz.func205 rfl rfl ?_;exact⟨[],sc_idxKd fq ws hent p l h,sR,Gd,rfl,sE (Af iBool (z5k p l 0 dC0)),Gd⟩
theorem sc_idxFl(fq:FuncId)(ws:List IV)(hent:tb.fn fq=true)(p:(Fl)->Bool)(l:List (Fl))(h:∀x∈l,SC Tryz.prog fq (.pv (.agg x.enc)::ws) [] (λk=>k∈[]) (iBool (p x)) []):SC Tryz.prog 122 [.pv (flws l),.fn (.func fq) [] ws] [] (λk=>k∈[]) (iInt (idxP p l 0)) []:=by
 refine SC.vc tb { gh:=[(0,[.len 0])] } [] Tryz.func122 rfl rfl ?_;intro hl;simp only[A8]at hl;have hl:l.length<=9223372036854775807:=hl;refine⟨Nat,λi=>[(8,iInt ((i:Nat):Int))],λ_=>[],λi=>l.length-i,λi=>i<=l.length/\∀x∈l.take i,p x=false,[],0,⟨Ac _,λx hx=>by simp at hx⟩,Ge,Gd,?_⟩;rintro i ⟨i1,i2⟩;refine z00 (λhc=>?_) λhc=>?_
 ·have hlt:i<l.length:=z0x (f:=Fl.enc) rfl hc;obtain⟨x,x1,x2,x3,x4⟩:=z0o hlt;refine⟨z02 (f:=Fl.enc) x1,rfl,z56 (b:=tb.fn fq) hent ⟨h x x4,sR,Gd,λk hk=>hk,rfl,rfl,z00 (λc=>?_) λc=>?_⟩⟩
  ·exact⟨sE (by rw[z16 p l 0 i2,x3,idxP,if_pos c,Dj]),Gd⟩
  ·exact⟨z01 rfl oM0,i+1,z03 hlt,⟨hlt,λy hy=>by rw[x2]at hy;rcases Ax.1 hy with g|g;exact i2 y g;rw[An.1 g];exact c⟩,Ge,Gd,rfl,rfl,rfl,rfl⟩
 ·have hge:l.length<=i:=z0y (f:=Fl.enc) rfl hc;exact⟨sE (by rw[z16 p l 0 i2,Ad hge];rfl),Gd⟩
theorem sc_idxIn(fq:FuncId)(ws:List IV)(hent:tb.fn fq=true)(p:(Int)->Bool)(l:List (Int))(h:∀x∈l,SC Tryz.prog fq (iInt x::ws) [] (λk=>k∈[]) (iBool (p x)) []):SC Tryz.prog 124 [.pv (ints l),.fn (.func fq) [] ws] [] (λk=>k∈[]) (iInt (idxP p l 0)) []:=by
 refine SC.vc tb { gh:=[(0,[.len 0])] } [] Tryz.func124 rfl rfl ?_;intro hl;simp only[A8]at hl;have hl:l.length<=9223372036854775807:=hl;refine⟨Nat,λi=>[(8,iInt ((i:Nat):Int))],λ_=>[],λi=>l.length-i,λi=>i<=l.length/\∀x∈l.take i,p x=false,[],0,⟨Ac _,λx hx=>by simp at hx⟩,Ge,Gd,?_⟩;rintro i ⟨i1,i2⟩;refine z00 (λhc=>?_) λhc=>?_
 ·have hlt:i<l.length:=z0x (f:=eInt) rfl hc;obtain⟨x,x1,x2,x3,x4⟩:=z0o hlt;refine⟨z02 (f:=eInt) x1,rfl,z56 (b:=tb.fn fq) hent ⟨h x x4,sR,Gd,λk hk=>hk,rfl,rfl,z00 (λc=>?_) λc=>?_⟩⟩
  ·exact⟨sE (by rw[z16 p l 0 i2,x3,idxP,if_pos c,Dj]),Gd⟩
  ·exact⟨z01 rfl oM0,i+1,z03 hlt,⟨hlt,λy hy=>by rw[x2]at hy;rcases Ax.1 hy with g|g;exact i2 y g;rw[An.1 g];exact c⟩,Ge,Gd,rfl,rfl,rfl,rfl⟩
 ·have hge:l.length<=i:=z0y (f:=eInt) rfl hc;exact⟨sE (by rw[z16 p l 0 i2,Ad hge];rfl),Gd⟩
theorem sc_hasIn(fq:FuncId)(ws:List IV)(hent:tb.fn fq=true)(p:(Int)->Bool)(l:List (Int))(h:∀x∈l,SC Tryz.prog fq (iInt x::ws) [] (λk=>k∈[]) (iBool (p x)) []):SC Tryz.prog 70 [.pv (ints l),.fn (.func fq) [] ws] [] (λk=>k∈[]) (iBool (l.any p)) []:=by
 refine SC.vc tb {} [] Tryz.func70 rfl rfl ?_;exact⟨[],sc_idxIn fq ws hent p l h,sR,Gd,rfl,sE (Af iBool (z5k p l 0 dC0)),Gd⟩
theorem j2a(fq:FuncId)(ws:List IV)(hent:tb.fn fq=true)(p:(Ar)->Bool)(l:List (Ar))(h:∀x∈l,SC Tryz.prog fq (.pv (.agg x.enc)::ws) [] (λk=>k∈[]) (iBool (p x)) []):SC Tryz.prog 144 [.pv (arrs l),.fn (.func fq) [] ws] [] (λk=>k∈[]) (iInt (idxP p l 0)) []:=by
 refine SC.vc tb { gh:=[(0,[.len 0])] } [] Tryz.func144 rfl rfl ?_;intro hl;simp only[A8]at hl;have hl:l.length<=9223372036854775807:=hl;refine⟨Nat,λi=>[(8,iInt ((i:Nat):Int))],λ_=>[],λi=>l.length-i,λi=>i<=l.length/\∀x∈l.take i,p x=false,[],0,⟨Ac _,λx hx=>by simp at hx⟩,Ge,Gd,?_⟩;rintro i ⟨i1,i2⟩;refine z00 (λhc=>?_) λhc=>?_
 ·have hlt:i<l.length:=z0x (f:=Ar.enc) rfl hc;obtain⟨x,x1,x2,x3,x4⟩:=z0o hlt;refine⟨y2s x1,rfl,z56 (b:=tb.fn fq) hent ⟨h x x4,sR,Gd,λk hk=>hk,rfl,rfl,z00 (λc=>?_) λc=>?_⟩⟩
  ·exact⟨sE (by rw[z16 p l 0 i2,x3,idxP,if_pos c,Dj]),Gd⟩
  ·exact⟨z01 rfl oM0,i+1,z03 hlt,⟨hlt,λy hy=>by rw[x2]at hy;rcases Ax.1 hy with g|g;exact i2 y g;rw[An.1 g];exact c⟩,Ge,Gd,rfl,rfl,rfl,rfl⟩
 ·have hge:l.length<=i:=z0y (f:=Ar.enc) rfl hc;exact⟨sE (by rw[z16 p l 0 i2,Ad hge];rfl),Gd⟩
theorem j29(fq:FuncId)(ws:List IV)(hent:tb.fn fq=true)(p:(Ar)->Bool)(l:List (Ar))(h:∀x∈l,SC Tryz.prog fq (.pv (.agg x.enc)::ws) [] (λk=>k∈[]) (iBool (p x)) []):SC Tryz.prog 98 [.pv (arrs l),.fn (.func fq) [] ws] [] (λk=>k∈[]) (iBool (l.any p)) []:=by
 refine SC.vc tb {} [] Tryz.func98 rfl rfl ?_;exact⟨[],j2a fq ws hent p l h,sR,Gd,rfl,sE (Af iBool (z5k p l 0 dC0)),Gd⟩
theorem z9h(x:Nd):SC Tryz.prog 172 [.pv (ndv x)] [] (λk=>k∈[]) (iBool (z0v x.kind)) []:=by
 refine SC.vc tb {} [] Tryz.func172 rfl rfl ?_;refine z00 (λh=>⟨sE ?_,Gd⟩) λh=>⟨sE ?_,Gd⟩
 ·unfold z0v;rw[show decide (x.kind≥12)=true from h];rfl
 ·unfold z0v;rw[show decide (x.kind≥12)=false from h];rfl
theorem y3u(l:List Nd):SC Tryz.prog 175 [.pv (z1p l)] [] (λk=>k∈[]) (iBool (z8b l)) []:=by
 refine SC.vc tb { gh:=[(0,[.len 0])] } [] Tryz.func175 rfl rfl ?_;intro hl;simp only[A8]at hl;have hl:l.length<=9223372036854775807:=hl;refine z00 (λh=>?_) λh=>?_
 ·have hpos:0<l.length:=by simpa using h
  obtain⟨x,hx⟩:∃x,l[((l.length:Int)-1).toNat]?=some x:=⟨_,A9 oM0⟩;have hT:z8b l=(x.kind==12):=by
   unfold z8b;rw[Ek,show l.length-1=((l.length:Int)-1).toNat by omega,hx]
  have ll:(l.map Nd.enc).length=l.length:=A8 _;have hi:(l.map Nd.enc)[(((l.map Nd.enc).length:Int)-1).toNat]?=some [vInt x.kind,vInt x.op,vInt x.n,vStr x.name,ints x.args,ints x.outs,ints x.params,kids x.kids]:=by
   rw[ll];exact z06 hx
  exact⟨z2x rfl (by rw[ll];omega),hi,(by rw[ll];omega),sE (Af iBool hT.symm),Gd⟩
 ·have e:l=[]:=by
   cases l with
   |nil=>rfl
   |cons a b=>simp at h
  subst e;exact⟨sI,Gd⟩
theorem yd0(x:Nd)(ih:∀q∈x.kids,SC Tryz.prog 176 [.pv (z1p q)] [] (λk=>k∈[]) (iBool (z0b q)) []):SC Tryz.prog 204 [.pv (ndv x)] [] (λk=>k∈[]) (iBool (z2u x)) []:=by
 refine SC.vc tb {} [] Tryz.func204 rfl rfl ?_;rw[z4e,zm0];refine z00 (λh=>⟨sE ?_,Gd⟩) λh=>z00 (λh2=>?_) λh2=>⟨sE ?_,Gd⟩
 ·rw[show(x.kind==14)=true from h];rfl
 ·exact⟨[],sc_hasKd 176 [] rfl z0b x.kids ih,SubA.same sFn,Gd,rfl,sE (by rw[show(x.kind==14)=false from h,show(x.kind==10)=true from h2];rfl),Gd⟩
 ·rw[show(x.kind==14)=false from h,show(x.kind==10)=false from h2];rfl
theorem y2o(N:Nat):∀(l:List Nd),SizeOf.sizeOf l<N->SC Tryz.prog 176 [.pv (z1p l)] [] (λk=>k∈[]) (iBool (z0b l)) []:=by
 induction N with
 |zero=>intro l hN;exact absurd hN (Al _)
 |succ N ih =>
  intro l hN;refine SC.vc tb {} [] Tryz.func176 rfl rfl ?_;have h1:=sc_hasNd 204 [] rfl z2u l λx hx=>yd0 x λq hq=>ih q (by
   have h1:=Bq hx;have h2:=Bq hq;obtain⟨k,o,n,nm,a,b,c,ks⟩:=x;simp[Nd.kids]at h1 h2;omega)
  exact⟨[],h1,SubA.same sFn,Gd,rfl,sE (by rw[zu7]),Gd⟩
theorem yt6(l:List Nd):SC Tryz.prog 176 [.pv (z1p l)] [] (λk=>k∈[]) (iBool (z0b l)) []:=y2o _ l (Ab _)
theorem zr6(x:Nd):SC Tryz.prog 126 [.pv (ndv x)] [] (λk=>k∈[]) (iBool (z08 x)) []:=by
 refine SC.vc tb {} [] Tryz.func126 rfl rfl ?_;obtain⟨kind,op,n,name,args,outs,params,kids⟩:=x;rcases(show kind=10∨kind=11∨(kind≠11/\kind≠10) by omega)with rfl|rfl|⟨k8,k9⟩
 ·match kids with
  |[]=>exact⟨[],z9h _,sR,Gd,rfl,sI,Gd⟩
  |[a]=>exact⟨[],z9h _,sR,Gd,rfl,sI,Gd⟩
  |[a,b] =>
   have hT:z08 (.mk 10 op n name args outs params [a,b])=(!z8b a && !z8b b):=by
    rw[<- y20,<- y20];rfl
   rw[hT];have ha:=y3u a;generalize z8b a=ya at ha⊢
   cases ya
   ·exact⟨at0 (a:=[z1p a]),rfl,[],ha,sR,Gd,rfl,at1 (b:=[z1p b]),rfl,[],y3u b,sR,Gd,rfl,sI,Gd⟩
   ·exact⟨at0 (a:=[z1p a]),rfl,[],ha,sR,Gd,rfl,sI,Gd⟩
  |a::b::c::r=>exact⟨[],z9h _,sR,Gd,rfl,sI,Gd⟩
 ·match kids with
  |[]=>exact⟨[],z9h _,sR,Gd,rfl,sI,Gd⟩
  |[a]=>exact⟨at0 (a:=[z1p a]),rfl,[],yt6 a,sR,Gd,rfl,sI,Gd⟩
  |a::b::r=>exact⟨[],z9h _,sR,Gd,rfl,sI,Gd⟩
 ·have no:∀{i:Int},kind≠i->(kind==i)=true->False:=λh e=>h (eq_of_beq e);exact z00 (λh=>(no k9 h).elim) λ_=>z00 (λh=>(no k8 h).elim) λ_=>⟨[],z9h _,sR,Gd,rfl,sE (by simp[z08,Nd.kind,Nd.kids,k8,k9]),Gd⟩
theorem j2b(t:Int):SC Tryz.prog 68 [iInt t] [] (λ_=>False) (iBool (isTy t)) []:=by
 refine SC.anyR (SC.vc tb {} [] Tryz.func68 rfl rfl ?_);unfold isTy;refine z00 (λh=>⟨sE ?_,Gd⟩) λh=>⟨sE ?_,Gd⟩
 ·rw[show(t==1)=true from h];rfl
 ·rw[show(t==1)=false from h];rfl
theorem sc_flow1(t:Int):SC Tryz.prog 71 [iInt t] [] (λ_=>False) (iBool (!isTy t)) []:=by
 refine SC.anyR (SC.vc tb {} [] Tryz.func71 rfl rfl ?_);exact⟨[],j2b t,sR,Gd,rfl,sI,Gd⟩
theorem j2m(x:Nd):SC Tryz.prog 172 [.pv (ndv x)] [] (λ_=>False) (iBool (z0v x.kind)) []:=SC.anyR (z9h x)
theorem zj2(x:Nd):SC Tryz.prog 126 [.pv (ndv x)] [] (λ_=>False) (iBool (z08 x)) []:=SC.anyR (zr6 x)
theorem y8j(op:Int):SC Tryz.prog 228 [iInt op] [] (λ_=>False) (.tup [iInt (z3a op).1,iInt (z3a op).2]) []:=by
 refine SC.anyR (SC.vc tb {} [] Tryz.func228 rfl rfl ?_)
 by_cases h:op=22∨op=12∨op=13∨op=14∨op=15∨op=16∨op=17
 ·rcases h with rfl|rfl|rfl|rfl|rfl|rfl|rfl<;>exact⟨sI,Gd⟩
 ·have hT:z3a op=(1,1):=by
   unfold z3a;rw[if_neg (by simp;omega),if_neg (by simp;omega),if_neg (by simp;omega)]
  rw[hT]
  repeat' (first|exact⟨sI,Gd⟩|refine z00 (λg=>absurd (eq_of_beq g) oM0) λ_=>?_)
theorem ye8(x:Fl)(s:ByteArray):SC Tryz.prog 123 [.pv (.agg x.enc),.pv (.ept [vStr s] 0)] [] (λk=>k∈[]) (iBool (x.name.toList==s.toList)) []:=by
 refine SC.vc tb {} [] Tryz.func123 rfl rfl ?_;exact⟨sI,Gd⟩
theorem ze6(u:Un)(s:ByteArray):SC Tryz.prog 69 [.pv u.enc,iStr s] [] (λ_=>False) (iInt (z05 s u.flows 0)) []:=by
 refine SC.anyR (SC.vc tb { pb:=[102,103] } [] Tryz.func69 rfl rfl ?_);have h:=sc_idxFl 123 [.pv (.ept [vStr s] 0)] rfl (λf:Fl=>f.name.toList==s.toList) u.flows λx _=>ye8 x s;rw[y38]at h;exact⟨[],h,sR,Gd,rfl,sI,Gd⟩
theorem j2o(x:Ar)(s:ByteArray):SC Tryz.prog 230 [.pv (.agg x.enc),.pv (.ept [vStr s] 0)] [] (λk=>k∈[]) (iBool (x.name.toList==s.toList)) []:=by
 refine SC.vc tb {} [] Tryz.func230 rfl rfl ?_;exact⟨sI,Gd⟩
theorem yn5(u:Un)(s:ByteArray):SC Tryz.prog 202 [.pv u.enc,iStr s] [] (λ_=>False) (iBool (decide (z0h s u.arrays 0≥0))) []:=by
 refine SC.anyR (SC.vc tb { pb:=[102,103],gh:=[(1,[])] } [] Tryz.func202 rfl rfl ?_);rw[y11 s u.arrays 0 dC0];exact⟨[],j29 230 [.pv (.ept [vStr s] 0)] rfl (λa:Ar=>a.name.toList==s.toList) u.arrays λx _=>j2o x s,sR,Gd,rfl,sI,Gd⟩
end Go.Proofs.YtcnjamphfjnflaaGreatDoor
