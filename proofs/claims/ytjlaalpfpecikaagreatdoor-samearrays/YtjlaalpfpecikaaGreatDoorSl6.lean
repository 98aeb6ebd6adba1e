/- PART 6 of 9 of a proof: see the last part. -/
import Derived.Test.YtjlaalpfpecikaaGreatDoorSl5
set_option maxRecDepth 20000
set_option maxHeartbeats 8000000
set_option linter.unusedSimpArgs false
set_option linter.unusedVariables false
set_option linter.unusedSectionVars false
namespace Go.Proofs.YtjlaalpfpecikaaGreatDoor
open Go
def arRt:RT:=⟨84,2⟩
def fuRt:RT:=⟨57,4⟩
theorem ar_snoc(out:List Ar)(x:Ar):(out++[x]).map Ar.enc=out.map Ar.enc++[[vStr x.name,vInt x.size]]:=by rw[Cl];rfl
theorem fu_snoc(out:List Fu)(x:Fu):(out++[x]).map Fu.enc=out.map Fu.enc++[[vStr x.name,vInt x.ty,pms x.params,sts x.body]]:=by rw[Cl];rfl
theorem text_num{T:List Tk}(hT:TkOk T)(hS:TkSz T){s:Ps}(h:s.at_<T.length):(z0n T 0 s).1.data.toList.all (λb=>z3z b.toNat)=true/\(z0n T 0 s).1.size<=1073741824:=by
 unfold z0n;split
 ·exact⟨rfl,Ab _⟩
 ·split
  ·rename_i hk;exact⟨zu7 (tk_num hT h hk),hS _ (j4n h)⟩
  ·exact⟨rfl,Ab _⟩
attribute [local irreducible] z7a
theorem sc_prog(T:List Tk)(hT:TkOk T)(hS:TkSz T)(hb:T.length<=1073741824)(h:0<T.length) :
 SC Tryz.prog 44 [.ptr 1 0] (psO T ⟨0,false,false⟩) (λk=>k∈[]) (.pv (z9n T).1.enc) (psO T (z9n T).2):=by
 refine SC.vc tb { gh:=[(2000000,[.growC 103 0 1001 84 2,.growC 103 1 1002 57 4]),(11,[.fzC 103 0 1001,.fzC 103 1 1002])] } [] Tryz.func44 rfl rfl ?_;generalize hM:z9n T=R;unfold z9n at hM;refine⟨Nat×Pg×Ps,λ_=>[],λa=>[(1001,.row arRt (a.2.1.arrays.map Ar.enc)),(1002,.row fuRt (a.2.1.funcs.map Fu.enc)),(103,.box [.sl 1001 (a.2.1.arrays.map Ar.enc).length,.sl 1002 (a.2.1.funcs.map Fu.enc).length]),(1,psB T a.2.2)],λa=>a.1,
  λa=>R=z3j T a.1 a.2.1 a.2.2/\a.2.2.at_<T.length/\(a.2.2.over=true∨rem T a.2.2+6<=a.1)/\1<=a.1/\a.2.1.arrays.length<=a.2.2.at_+1/\a.2.1.funcs.length<=a.2.2.at_+1/\(a.2.2.over=true∨(a.2.1.arrays.length<=a.2.2.at_/\a.2.1.funcs.length<=a.2.2.at_)),[],(big T,⟨[],[]⟩,⟨0,false,false⟩),
  ⟨hM.symm,h,.inr (by dsimp only;unfold rem big;omega),by unfold big;dsimp only;omega,Ab _,Ab _,.inr ⟨Ab _,Ab _⟩⟩,Gd,Gi,?_⟩
 rintro⟨n,p,z⟩ ⟨i1,i3,i4,i5,i6,i7,i8⟩;dsimp only at i1 i3 i4 i5 i6 i7 i8;obtain⟨m,rfl⟩:∃m,n=m+1:=⟨n-1,by omega⟩;rw[z3j]at i1;refine⟨[],z7d T z,sR,Ge,rfl,z00 (λo1=>?_) λo1=>?_⟩
 ·have o1:z.over=false:=by simpa using o1
  refine⟨yg7 i3,rfl,z00 (λk1=>?_) λk1=>?_⟩
  ·have k1:((tkAt T z).kind==3)=false:=by simpa using k1
   rw[o1,k1,if_neg dC0]at i1;have i4:rem T z+6<=m+1:=i4.resolve_left (by rw[o1];decide);have i8:=i8.resolve_left (by rw[o1];decide);have lx:=zn3 T hT z i3 hb;have lf:=z5k hT (s:=z);have lg:=zl1 (T:=T) (s:=z);generalize z0t T z=t at lx lf lg i1;have hx:=z8b T t.2 (lf.lt i3) hb 1;have fx:=z1w hT (k:=1) dC0 (s:=t.2);generalize z0n T 1 t.2=x at hx fx i1;have lt1:=fx.lt (lf.lt i3);have lg1:=lg.then fx;refine⟨[],lx,sR,Ge,rfl,[],hx,sR,Ge,rfl,?_⟩;have lg2:=lg1;have fnc:qArr T p.funcs t.1 x.2=false->R=z3j T m ⟨p.arrays,p.funcs++[(z7a T t.1 x.1 x.2).1]⟩ (z7a T t.1 x.1 x.2).2:=λe=>by rw[i1,e,if_neg dC0]
   have hF:=ye4 T hT hS hb t.1 x.1 x.2 lt1;have fF:=ya4 hT (t:=t.1) (n:=x.1) (s:=x.2);refine z00 (λc1=>?_) λc1=>?_
   rotate_left
   have i1:=fnc (by unfold qArr;rw[c1];rfl)
   rotate_left
   refine⟨rfl,z00 (λc2=>?_) λc2=>?_⟩
   rotate_left
   have i1:=fnc (by unfold qArr;rw[show(p.funcs.length==0)=false by(have:=(Ad).1 c2;simp at this⊢;exact this)];simp)
   rotate_right
   have tk:=z45 T x.2 lt1 hb sSo;unfold z8n at tk
   cases c3:pIs T sSo x.2
   rw[c3]at tk;have i1:=fnc (by unfold qArr;rw[c3];simp);refine⟨[],tk,sR,Ge,rfl,?_⟩
   rotate_left
   ·rw[c3]at tk;have hc:qArr T p.funcs t.1 x.2=true:=by
     unfold qArr;rw[c1,c3,show(p.funcs.length==0)=true by(have:=eq_of_beq c2;simp at this⊢;exact this)];rfl
    rw[hc,if_pos rfl]at i1;clear fnc hF fF;have n1:=(z11 hT c3).lt lt1;have hv:=text_num hT hS n1;have hy:=z8b T x.2.next n1 hb 0;have fy:=z1w hT (k:=0) dC0 (s:=x.2.next);generalize z0n T 0 x.2.next=y at hv hy fy i1;have n2:=fy.lt n1;have f3:=z0a hT (w:=sSc) (s:=y.2);have n3:=f3.lt n2;have f4:=z0a hT (w:=z5h) (s:=z0p T sSc y.2);have n4:=f4.lt n3;have lg3:=lg1.then ((z11 hT c3).trans (fy.trans (f3.trans f4)));have at4:z.at_<=(z0p T z5h (z0p T sSc y.2)).at_:=by have a1:=lf.at_;have a2:=fx.at_;have a3:=fy.at_;have a4:=f3.at_;have a5:=f4.at_;rw[z0o]at a3;omega
    have h3:=z1a T y.2 n2 hb sSc;have h4:=z1a T _ n3 hb z5h;generalize z0p T z5h (z0p T sSc y.2)=w at h4 n4 lg3 at4 i1;refine⟨[],tk,sR,Ge,rfl,[],hy,sR,Ge,rfl,[],y5y y.1 hv.1 hv.2,sR,Gd,rfl,[],h3,sR,Ge,rfl,[],h4,sR,Ge,rfl,rfl,z3y rfl,by simp;omega,by simp,
     (m,⟨p.arrays++[⟨x.1,z9d y.1⟩],p.funcs⟩,w),A7 _,⟨i1,n4,?_,by dsimp only;unfold rem at i4;omega,by simp;omega,by dsimp only;omega,?_⟩,Gd,⟨rwq (by rw[ar_snoc]),rfl,boq sI0,rfl,Gd⟩,rfl,rfl,rfl,rfl⟩
    ·exact lg3.elim .inl λg=>.inr (by dsimp only;unfold rem at i4⊢;omega)
    ·exact lg3.elim .inl λg=>.inr ⟨by simp;omega,by dsimp only;omega⟩
   iterate 3
    have lg3:=lg2.then fF;have lt2:=fF.lt lt1;have at2:z.at_<=(z7a T t.1 x.1 x.2).2.at_:=by have a1:=lf.at_;have a2:=fx.at_;have a3:=fF.at_;omega
    generalize z7a T t.1 x.1 x.2=f at hF lg3 lt2 at2 i1;refine⟨[],hF,sR,Ge,rfl,rfl,z3y rfl,by simp;omega,by simp,(m,⟨p.arrays,p.funcs++[f.1]⟩,f.2),A7 _,⟨i1,lt2,?_,by dsimp only;unfold rem at i4;omega,by dsimp only;omega,by simp;omega,?_⟩,Gd,⟨rfl,rwq (by rw[fu_snoc]),boq sI0,rfl,Gd⟩,rfl,rfl,rfl,rfl⟩
    ·exact lg3.elim .inl λg=>.inr (by dsimp only;unfold rem at i4⊢;omega)
    ·exact lg3.elim .inl λg=>.inr ⟨by dsimp only;omega,by simp;omega⟩
  ·have k1:((tkAt T z).kind==3)=true:=by simpa using k1
   rw[o1,k1,if_pos dC0]at i1;subst i1;exact⟨rfl,rfl,sI,rfl,Gd⟩
 ·have o1:z.over=true:=by simpa using o1
  rw[o1,Ba,if_pos rfl]at i1;subst i1;exact⟨rfl,rfl,sI,rfl,Gd⟩
theorem zn4(op:Int):SC Tryz.prog 182 [.pv (.val (.int .i64 op))] [] (λk=>k∈[]) (iInt (z4j op)) []:=by
 by_cases h:1<=op/\op<=19
 ·exact y42 op h.1 h.2
 refine SC.vc tb {} [] Tryz.func182 rfl rfl ?_;have hz:z4j op=0:=by
  unfold z4j;split
  ·rfl
  ·rename_i g;simp only[B7,B6,not_or]at g;rcases(show op=0∨op=20∨op=21∨op=22∨op=23∨op=24∨op=25∨op=26∨op=27∨op=28 by omega)with rfl|rfl|rfl|rfl|rfl|rfl|rfl|rfl|rfl|rfl<;>rfl
 exact z00 (λh=>absurd (eq_of_beq h) oM0) λ_=>z00 (λh=>absurd (eq_of_beq h) oM0) λ_=>z00 (λh=>absurd (eq_of_beq h) oM0) λ_=>z00 (λh=>absurd (eq_of_beq h) oM0) λ_=>z00 (λh=>absurd (eq_of_beq h) oM0) λ_=>z00 (λh=>absurd (eq_of_beq h) oM0) λ_=>z00 (λh=>absurd (eq_of_beq h) oM0) λ_=>z00 (λh=>absurd (eq_of_beq h) oM0) λ_=>z00 (λh=>absurd (eq_of_beq h) oM0) λ_=>z00 (λh=>absurd (eq_of_beq h) oM0) λ_=>z00 (λh=>absurd (eq_of_beq h) oM0) λ_=>z00 (λh=>absurd (eq_of_beq h) oM0) λ_=>z00 (λh=>absurd (eq_of_beq h) oM0) λ_=>z00 (λh=>absurd (eq_of_beq h) oM0) λ_=>z00 (λh=>absurd (eq_of_beq h) oM0) λ_=>z00 (λh=>absurd (eq_of_beq h) oM0) λ_=>z00 (λh=>absurd (eq_of_beq h) oM0) λ_=>z00 (λh=>absurd (eq_of_beq h) oM0) λ_=>z00 (λh=>absurd (eq_of_beq h) oM0) λ_=>⟨sE (by rw[hz]),Gd⟩
def rOwn(k o n:Int)(nm:ByteArray)(len:Nat):Bool :=
 if k=1 then o==0&&decide (n≥0)&&nm.toList==[]&&len==0
 else if k=2 then o==0&&(n==0||n==1)&&nm.toList==[]&&len==0
 else if k=3 then o==0&&n==0&&z0m nm&&len==0
 else if k=4 then z2u o&&n==0&&nm.toList==[]&&len==1
 else if k=5 then decide (z4j o > 0)&&n==0&&nm.toList==[]&&len==2
 else if k=6 then o==0&&n==0&&z0m nm&&len==1
 else if k=7 then o==0&&n==0&&z0m nm&&decide (len<=8)
 else if k=8 then o==0&&n==0&&nm.toList==[]&&len==0
 else false
mutual
def rx:Ex->Int->Bool
 |.mk k o n nm args,most=>rxL args most&&rOwn k o n nm args.length
def rxL:List Ex->Int->Bool
 |[],_=>true
 |x::r,most=>(!decide (most<2)&&rx x (most-1))&&rxL r most
end
theorem y1o(op:Int):SC Tryz.prog 181 [.pv (.val (.int .i64 op))] [] (λk=>k∈[]) (iBool (z2u op)) []:=by
 refine SC.vc tb {} [] Tryz.func181 rfl rfl ?_;unfold z2u;exact z00 (λh=>⟨sE (by rw[h];rfl),Gd⟩) λh=>⟨sE (by rw[h];rfl),Gd⟩
theorem zh2{x:Ex}:∀{l:List Ex},x∈l->xz x<=xzL l
 |y::r,h=>by
  simp only[xzL];rcases Am.1 h with rfl|h
  ·omega
  ·have:=zh2 h;omega
theorem zf9(l:Nat):((l:Int)==0)=(l==0):=by rw[D3];simp
theorem zg0(l:Nat):((l:Int)==1)=(l==1):=by rw[D3];simp;omega
theorem zg1(l:Nat):((l:Int)==2)=(l==2):=by rw[D3];simp;omega
theorem zg2(l:Nat):decide ((l:Int)<=8)=decide (l<=8):=by rw[D3];simp;omega
theorem sc_rx:∀(N:Nat)(e:Ex),SizeOf.sizeOf e<N->xz e<=1073741824->∀most:Int,0<=most->most<=100->SC Tryz.prog 133 [.pv (exv e),.pv (.val (.int .i64 most))] [] (λk=>k∈[]) (iBool (rx e most)) []
 |0,_,h,_,_,_,_=>absurd h (Ai _)
 |N+1,.mk k o n nm args,hN,hx,most,h0,h1=>by
  refine SC.vc tb { pb:=[102] } [] Tryz.func133 rfl rfl ?_;have hl:=zc5 args;simp only[xz]at hx;refine⟨Nat,λi=>[(5,iInt ((i:Nat):Int))],λ_=>[],λi=>args.length-i,λi=>i<=args.length/\rxL args most=rxL (args.drop i) most,[],0,⟨Ab _,rfl⟩,Ge,Gd,?_⟩;rintro i ⟨i1,i2⟩;refine z00 (λhc=>?_) λhc=>?_
  ·have hlt:i<args.length:=z12 (f:=Ex.enc) rfl hc;obtain⟨x,x1,x2,x3,x4⟩:=z0s hlt;rw[x3]at i2;simp only[rxL]at i2;refine z00 (λc1=>?_) λc1=>?_
   ·rw[c1]at i2;exact⟨sE (by rw[rx,i2];rfl),Gd⟩
   ·rw[c1]at i2;have hxx:=zh2 x4;have hsz:SizeOf.sizeOf x<N:=by have:=Bo x4;simp at hN;omega
    have c2:=Ap c1;refine⟨z1d x1,rfl,z4b rfl oM0,[],sc_rx N x hsz oM0 (most-1) oM0 oM0,sR,Gd,rfl,z00 (λc3=>?_) λc3=>?_⟩
    ·rw[show rx x (most-1)=false by simpa using c3]at i2;exact⟨sE (by rw[rx,i2];rfl),Gd⟩
    ·rw[show rx x (most-1)=true by simpa using c3]at i2;exact⟨z01 rfl oM0,i+1,z04 hlt,⟨hlt,i2⟩,Ge,Gd,rfl,rfl,rfl,rfl⟩
  ·have hge:args.length<=i:=z13 (f:=Ex.enc) rfl hc;rw[A8 hge]at i2;have hR:rx (.mk k o n nm args) most=rOwn k o n nm args.length:=by rw[rx,i2];rfl
   generalize rx (.mk k o n nm args) most=R at hR;clear i1 i2 hc hge hN hx h0 h1;have nl:(nm.toList==ByteArray.toList ⟨#[]⟩)=(nm.toList==[]):=by simp
   have hnm:=z6t nm;have hcase:k=1∨k=2∨k=3∨k=4∨k=5∨k=6∨k=7∨k=8∨(k≠1/\k≠2/\k≠3/\k≠4/\k≠5/\k≠6/\k≠7/\k≠8):=by omega
   by_cases ho:o=0
   ·subst ho;have e0:z2u 0=false:=rfl;have e1:z4j 0=0:=rfl;refine⟨[],hnm,sR,Gd,rfl,?_⟩;rcases hcase with rfl|rfl|rfl|rfl|rfl|rfl|rfl|rfl|hk
    iterate 3 ·repeat' (first|exact⟨sE (Aa iBool (by rw[hR];simp_all[rOwn,zf9,zg0,zg1,zg2,Ex.op,Ex.n,Ex.name,Ex.args]<;>first|done|omega|(intro h;omega))),Gd⟩|refine z00 (λ_=>?_) λ_=>?_)
    ·refine⟨[],y1o 0,sR,Gd,rfl,?_⟩
     repeat' (first|exact⟨sE (Aa iBool (by rw[hR];simp_all[rOwn,zf9,zg0,zg1,zg2,Ex.op,Ex.n,Ex.name,Ex.args]<;>first|done|omega|(intro h;omega))),Gd⟩|refine z00 (λ_=>?_) λ_=>?_)
    ·refine⟨[],zn4 0,sR,Gd,rfl,?_⟩
     repeat' (first|exact⟨sE (Aa iBool (by rw[hR];simp_all[rOwn,zf9,zg0,zg1,zg2,Ex.op,Ex.n,Ex.name,Ex.args]<;>first|done|omega|(intro h;omega))),Gd⟩|refine z00 (λ_=>?_) λ_=>?_)
    iterate 3 ·repeat' (first|exact⟨sE (Aa iBool (by rw[hR];simp_all[rOwn,zf9,zg0,zg1,zg2,Ex.op,Ex.n,Ex.name,Ex.args]<;>first|done|omega|(intro h;omega))),Gd⟩|refine z00 (λ_=>?_) λ_=>?_)
    ·refine z00 (λh=>absurd (eq_of_beq h) hk.1) λ_=>z00 (λh=>absurd (eq_of_beq h) hk.2.1) λ_=>z00 (λh=>absurd (eq_of_beq h) hk.2.2.1) λ_=>z00 (λh=>absurd (eq_of_beq h) hk.2.2.2.1) λ_=>z00 (λh=>absurd (eq_of_beq h) hk.2.2.2.2.1) λ_=>z00 (λh=>absurd (eq_of_beq h) hk.2.2.2.2.2.1) λ_=>z00 (λh=>absurd (eq_of_beq h) hk.2.2.2.2.2.2.1) λ_=>z00 (λh=>absurd (eq_of_beq h) hk.2.2.2.2.2.2.2) λ_=>?_;exact⟨sE (Aa iBool (by rw[hR];unfold rOwn;obtain⟨g1,g2,g3,g4,g5,g6,g7,g8⟩:=hk;rw[if_neg g1,if_neg g2,if_neg g3,if_neg g4,if_neg g5,if_neg g6,if_neg g7,if_neg g8])),Gd⟩
   ·refine z00 (λh=>absurd (eq_of_beq h) ho) λ_=>⟨[],hnm,sR,Gd,rfl,?_⟩;rcases hcase with rfl|rfl|rfl|rfl|rfl|rfl|rfl|rfl|hk
    iterate 3 ·repeat' (first|exact⟨sE (Aa iBool (by rw[hR];simp_all[rOwn,zf9,zg0,zg1,zg2,Ex.op,Ex.n,Ex.name,Ex.args]<;>first|done|omega|(intro h;omega))),Gd⟩|refine z00 (λ_=>?_) λ_=>?_)
    ·refine⟨[],y1o o,sR,Gd,rfl,?_⟩
     repeat' (first|exact⟨sE (Aa iBool (by rw[hR];simp_all[rOwn,zf9,zg0,zg1,zg2,Ex.op,Ex.n,Ex.name,Ex.args]<;>first|done|omega|(intro h;omega))),Gd⟩|refine z00 (λ_=>?_) λ_=>?_)
    ·refine⟨[],zn4 o,sR,Gd,rfl,?_⟩
     repeat' (first|exact⟨sE (Aa iBool (by rw[hR];simp_all[rOwn,zf9,zg0,zg1,zg2,Ex.op,Ex.n,Ex.name,Ex.args]<;>first|done|omega|(intro h;omega))),Gd⟩|refine z00 (λ_=>?_) λ_=>?_)
    iterate 3 ·repeat' (first|exact⟨sE (Aa iBool (by rw[hR];simp_all[rOwn,zf9,zg0,zg1,zg2,Ex.op,Ex.n,Ex.name,Ex.args]<;>first|done|omega|(intro h;omega))),Gd⟩|refine z00 (λ_=>?_) λ_=>?_)
    ·refine z00 (λh=>absurd (eq_of_beq h) hk.1) λ_=>z00 (λh=>absurd (eq_of_beq h) hk.2.1) λ_=>z00 (λh=>absurd (eq_of_beq h) hk.2.2.1) λ_=>z00 (λh=>absurd (eq_of_beq h) hk.2.2.2.1) λ_=>z00 (λh=>absurd (eq_of_beq h) hk.2.2.2.2.1) λ_=>z00 (λh=>absurd (eq_of_beq h) hk.2.2.2.2.2.1) λ_=>z00 (λh=>absurd (eq_of_beq h) hk.2.2.2.2.2.2.1) λ_=>z00 (λh=>absurd (eq_of_beq h) hk.2.2.2.2.2.2.2) λ_=>?_;exact⟨sE (Aa iBool (by rw[hR];unfold rOwn;obtain⟨g1,g2,g3,g4,g5,g6,g7,g8⟩:=hk;rw[if_neg g1,if_neg g2,if_neg g3,if_neg g4,if_neg g5,if_neg g6,if_neg g7,if_neg g8])),Gd⟩
def shp(k:Int):Bool×Bool×Int×Bool×Bool :=
 if k=1 then(true,true,1,false,false)else if k=2 then(false,true,1,false,false)else if k=3 then(false,true,2,false,false)
 else if k=4 then(false,false,1,true,true)else if k=5 then(false,false,1,true,false)else if k=6∨k=7 then(false,false,0,false,false)
 else if k=8∨k=9∨k=10 then(false,false,1,false,false)else(false,false,-1,false,false)
def shpV(s:Bool×Bool×Int×Bool×Bool):IV:=.tup [iBool s.1,iBool s.2.1,iInt s.2.2.1,iBool s.2.2.2.1,iBool s.2.2.2.2]
theorem sc_shape(k:Int):SC Tryz.prog 132 [.pv (.val (.int .i64 k))] [] (λk=>k∈[]) (shpV (shp k)) []:=by
 refine SC.vc tb {} [] Tryz.func132 rfl rfl ?_;have hcase:k=1∨k=2∨k=3∨k=4∨k=5∨k=6∨k=7∨k=8∨k=9∨k=10∨(k≠1/\k≠2/\k≠3/\k≠4/\k≠5/\k≠6/\k≠7/\k≠8/\k≠9/\k≠10):=by omega
 rcases hcase with rfl|rfl|rfl|rfl|rfl|rfl|rfl|rfl|rfl|rfl|hk
 iterate 10 exact⟨sI,Gd⟩
 have hs:shp k=(false,false,-1,false,false):=by
  unfold shp;rw[if_neg oM0,if_neg oM0,if_neg oM0,if_neg oM0,if_neg oM0,if_neg oM0,if_neg oM0]
 rw[hs]
 repeat' (first|exact⟨sI,Gd⟩|refine z00 (λh=>absurd (eq_of_beq h) oM0) λ_=>?_)
theorem y41(t:Int):SC Tryz.prog 86 [.pv (.val (.int .i64 t))] [] (λk=>k∈[]) (iBool (t==1||t==2)) []:=by
 refine SC.vc tb {} [] Tryz.func86 rfl rfl ?_;exact z00 (λh=>⟨sE (by rw[h];rfl),Gd⟩) λh=>⟨sE (by rw[h];rfl),Gd⟩
def yt7(k ty:Int)(nm:ByteArray)(len:Nat)(most:Int):Bool :=
 decide (most<1)||(len:Int) != (shp k).2.2.1||(shp k).1 != (ty==1||ty==2)||(!(shp k).1&&ty != 0)||(shp k).2.1 != z0m nm||(!(shp k).2.1 && !(nm.toList==[]))
def j25(k:Int)(args:List Ex)(a b:Nat):Bool :=
 (k==10&&((args.head?.map Ex.kind).getD 0) != 7)||(!(shp k).2.2.2.1&&decide (0<a))||(!(shp k).2.2.2.2&&decide (0<b))
mutual
def rst:St->Int->Bool
 |.mk k ty nm args thn els,most=>!yt7 k ty nm args.length most&&args.all (λe=>rx e 100) && !j25 k args thn.length els.length&&rsL thn (most-1)&&rsL els (most-1)
def rsL:List St->Int->Bool
 |[],_=>true
 |x::r,most=>rst x most&&rsL r most
end
def rTy(t:Int):Bool:=t==1||t==2
def rFu(f:Fu):Bool:=z0m f.name&&rTy f.ty&&decide (f.params.length<=8)&&rsL f.body 100&&f.params.all λp=>z0m p.name&&rTy p.ty
def rPg(p:Pg):Bool:=(p.arrays.all λa=>z0m a.name&&decide (1<=a.size)&&decide (a.size<=1000))&&p.funcs.all rFu
theorem y3w(x:St)(most:Int):rst x most=(!yt7 x.kind x.ty x.name x.args.length most&&x.args.all (λe=>rx e 100) && !j25 x.kind x.args x.thn.length x.els.length&&rsL x.thn (most-1)&&rsL x.els (most-1)):=by
 cases x;rw[rst];rfl
theorem y2p(x:St):sz x=1+xzL x.args+szL x.thn+szL x.els:=by cases x;rw[sz];rfl
theorem zw6{x:St}:∀{l:List St},x∈l->sz x<=szL l
 |y::r,h=>by
  simp only[szL];rcases Am.1 h with rfl|h
  ·omega
  ·have:=zw6 h;omega
theorem zs9(x:St):SizeOf.sizeOf x.thn<SizeOf.sizeOf x/\SizeOf.sizeOf x.els<SizeOf.sizeOf x:=by
 cases x;simp[St.thn,St.els];omega
theorem j3c:∀(N:Nat)(l:List St),SizeOf.sizeOf l<N->szL l<=1073741824->∀most:Int,0<=most->most<=100->SC Tryz.prog 87 [.pv (sts l),.pv (.val (.int .i64 most))] [] (λk=>k∈[]) (iBool (rsL l most)) []
 |0,_,h,_,_,_,_=>absurd h (Ai _)
 |N+1,l,hN,hx,most,h0,h1=>by
  refine SC.vc tb { pb:=[106],jn:=[8,3] } [] Tryz.func87 rfl rfl ?_;have hl:=z8m l;refine⟨Nat,λi=>[(5,iInt ((i:Nat):Int))],λ_=>[],λi=>l.length-i,λi=>i<=l.length/\rsL l most=rsL (l.drop i) most,[],0,⟨Ab _,rfl⟩,Ge,Gd,?_⟩;rintro i ⟨i1,i2⟩;refine z00 (λhc=>?_) λhc=>?_
  ·have hlt:i<l.length:=z12 (f:=St.enc) rfl hc;obtain⟨x,x1,x2,x3,x4⟩:=z0s hlt;rw[x3]at i2;rw[rsL,y3w]at i2;have hxx:=zw6 x4;rw[y2p]at hxx;have hal:=zc5 x.args;have hsz:SizeOf.sizeOf x.thn<N/\SizeOf.sizeOf x.els<N:=by have:=Bo x4;have:=zs9 x;omega
   refine⟨Unit,λ_=>[],λ_=>[],λ_=>rsL l most=rsL (l.drop (i+1)) most,[],?_,?_⟩
   ·have hS:=sc_shape x.kind;have h10:x.kind=10->(shp x.kind).2.2.1=1:=λe=>by rw[e];rfl
    unfold yt7 j25 at i2;generalize shp x.kind=s at hS i2 h10;obtain⟨s1,s2,s3,s4,s5⟩:=s;dsimp only at hS i2 h10;generalize hT:((x.kind==10&&((x.args.head?.map Ex.kind).getD 0) != 7)||(!s4&&decide (0<x.thn.length))||(!s5&&decide (0<x.els.length)))=tl at i2;refine⟨zk0 x1,rfl,[],hS,sR,Gd,rfl,Unit,λ_=>[],λ_=>[],λ_=>¬most<1/\(x.args.length:Int)=s3/\rsL l most=(x.args.all (λe=>rx e 100) && !tl&&rsL x.thn (most-1)&&rsL x.els (most-1)&&rsL (l.drop (i+1)) most),[],?_,?_⟩
    ·have nl:(x.name.toList==ByteArray.toList ⟨#[]⟩)=(x.name.toList==[]):=by simp
     have hnm:=z6t x.name;clear hT hS h10 hxx hal hsz x2 x3 x4 hl hx hN;refine z00 (λc1=>⟨sE (Aa iBool (by rw[i2,c1];rfl)),Gd⟩) λc1=>z00 (λc2=>?_) λc2=>?_
     ·have c2:((x.args.length:Int) != s3)=true:=by simpa using c2
      exact⟨sE (Aa iBool (by rw[i2,c2];simp)),Gd⟩
     ·have c2:((x.args.length:Int) != s3)=false:=by simpa using c2
      have fin:=i2;rw[c1,c2]at fin;have d1:=Ap c1;have d2:(x.args.length:Int)=s3:=by simpa using c2
      clear i2 c1 c2
      cases s1<;>cases s2 <;>
      repeat' (first|exact⟨sE (Aa iBool (by rw[fin];simp_all)),Gd⟩|exact⟨(),⟨d1,d2,by rw[fin];simp_all⟩,Gd,Gd,rfl,rfl,rfl,rfl⟩|refine z00 (λ_=>?_) λ_=>?_|refine⟨[],hnm,sR,Gd,rfl,?_⟩)
    ·rintro _ ⟨d1,d2,hA⟩;clear i2;refine⟨Nat,λj=>[(12,iInt ((j:Nat):Int))],λ_=>[],λj=>x.args.length-j,λj=>j<=x.args.length/\x.args.all (λe=>rx e 100)=(x.args.drop j).all (λe=>rx e 100),[],0,⟨Ab _,rfl⟩,Ge,Gd,?_⟩;rintro j ⟨j1,j2⟩;refine z00 (λc1=>?_) λc1=>?_
     ·have c1:(j:Int)<s3:=Aq c1;have hlj:j<x.args.length:=by omega
      obtain⟨e,e1,e2,e3,e4⟩:=z0s hlj;have:=zh2 e4;rw[e3,D9]at j2;refine⟨z1d e1,rfl,[],sc_rx _ e (A7 _) oM0 100 dC0 dC0,sR,Gd,rfl,z00 (λc2=>?_) λc2=>?_⟩
      ·exact⟨sE (Aa iBool (by rw[hA,j2,show rx e 100=false by simpa using c2];rfl)),Gd⟩
      ·rw[show rx e 100=true by simpa using c2,B0]at j2;exact⟨z01 rfl oM0,j+1,z04 hlj,⟨hlj,j2⟩,Ge,Gd,rfl,rfl,rfl,rfl⟩
     ·have c1:¬(j:Int)<s3:=Ap c1;rw[A8 oM0]at j2;rw[j2,show List.all [] (λe=>rx e 100)=true from rfl,B0]at hA;have r1:=j3c N x.thn hsz.1 oM0 (most-1) oM0 oM0;have r2:=j3c N x.els hsz.2 oM0 (most-1) oM0 oM0;have s1:z3i .sub .i64 most 1=some (.int .i64 (most-1)):=z4b rfl oM0;have ha:x.kind=10->∃e,x.args[0]?=some e/\((x.args.head?.map Ex.kind).getD 0)=e.kind:=λe=>by
       have:=h10 e
       match hx:x.args with
       |[]=>rw[hx]at d2;simp at d2;omega
       |e0::r=>exact⟨e0,rfl,rfl⟩
      clear h10 j1 j2 hS hxx hal hsz x2 x3 x4 hl hx hN i1;subst hT;generalize rsL x.thn (most-1)=q1 at hA r1;generalize rsL x.els (most-1)=q2 at hA r2;refine z00 (λk1=>?_) λk1=>?_
      ·obtain⟨e0,e1,e2⟩:=ha (eq_of_beq k1);rw[e2]at hA;refine⟨z1d (i:=0) e1,rfl,?_⟩
       cases s4<;>cases s5 <;>
       repeat' (first|exact⟨sE (Aa iBool (by rw[hA];simp_all)),Gd⟩|exact⟨(),by rw[hA];simp_all,Gd,Gd,rfl,rfl,rfl,rfl⟩|refine z00 (λ_=>?_) λ_=>?_|refine⟨s1,[],r1,sR,Gd,rfl,?_⟩|refine⟨s1,[],r2,sR,Gd,rfl,?_⟩)
      ·cases s4<;>cases s5 <;>
       repeat' (first|exact⟨sE (Aa iBool (by rw[hA];simp_all)),Gd⟩|exact⟨(),by rw[hA];simp_all,Gd,Gd,rfl,rfl,rfl,rfl⟩|refine z00 (λ_=>?_) λ_=>?_|refine⟨s1,[],r1,sR,Gd,rfl,?_⟩|refine⟨s1,[],r2,sR,Gd,rfl,?_⟩)
   ·intro _ hA;exact⟨z01 rfl oM0,i+1,z04 hlt,⟨hlt,hA⟩,Ge,Gd,rfl,rfl,rfl,rfl⟩
  ·have hge:l.length<=i:=z13 (f:=St.enc) rfl hc;rw[A8 hge]at i2;exact⟨sE (by rw[i2];rfl),Gd⟩
section
theorem tStep_sz{s:ByteArray}{line a:Nat}{b:UInt8}{t:Tk}{a2:Nat}(h:zt6 s line a b=.tok t a2):t.text.size<=s.size:=by
 unfold zt6 at h;split at h
 ·cases h
 split at h
 ·cases h
 split at h
 ·cases h
 split at h
 ·split at h
  ·cases h
  ·cases h
   show(s.extract a (a+z4e s a)).size<=s.size;rw[Cm];omega
 ·split at h
  ·cases h
  ·cases h
   show(sgOf (s.extract a s.size)).size<=s.size;rcases zz4 (s.extract a s.size) sgL with h|h
   ·unfold sgOf;rw[h];exact Ab _
   ·have:=h.2;rw[Cm]at this;unfold sgOf;omega
theorem yg9(s:ByteArray):∀(N line a:Nat)(out:List Tk),(∀t∈out,t.text.size<=s.size)->∀t∈(toks s N line a out).1,t.text.size<=s.size
 |0,_,_,_,_,t,ht=>by simp[toks]at ht
 |N+1,line,a,out,ho,t,ht=>by
  unfold toks at ht
  cases hb:s.data.toList[a]? with
  |none =>
   rw[hb]at ht;rcases Aw.1 ht with ht|ht
   ·exact ho t ht
   ·rw[Ag.1 ht];exact Ab _
  |some b =>
   rw[hb]at ht;dsimp only at ht
   cases hst:zt6 s line a b with
   |skip l2 a2=>rw[hst]at ht;exact yg9 s N l2 a2 out ho t ht
   |tok t2 a2 =>
    rw[hst]at ht;refine yg9 s N line a2 (out++[t2]) (λt' ht'=>?_) t ht;rcases Aw.1 ht' with ht'|ht'
    ·exact ho t' ht'
    ·rw[Ag.1 ht'];exact tStep_sz hst
   |bad l=>rw[hst]at ht;cases ht
theorem j4o(s:ByteArray):∀t∈(z1r s).1,t.text.size<=s.size:=by
 unfold z1r;split
 ·intro t ht;cases ht
 ·exact yg9 s _ _ _ [] (λt ht=>by cases ht)
def pz:List Fu->Nat
 |[]=>0
 |f::r=>1+f.params.length+szL f.body+pz r
theorem pz_app:∀a b:List Fu,pz (a++b)=pz a+pz b
 |[],b=>by simp[pz]
 |x::r,b=>by simp only[B9,pz,pz_app r b];omega
variable {T:List Tk}
theorem y84(hT:TkOk T):∀N b out s,(zb2 T N b out s).1.length+s.at_<=out.length+(bif b then 1 else 0)+(zb2 T N b out s).2.at_
 |0,b,out,s=>by show out.length+s.at_<=_+_+s.at_;omega
 |N+1,b,out,s=>by
  unfold zb2;split
  ·rename_i hc;have h1:=y84 hT N false (out++[⟨(z0n T 1 (z0t T (aGo T b s)).2).1,(z0t T (aGo T b s)).1⟩]) (z0n T 1 (z0t T (aGo T b s)).2).2;rw[B5]at h1;have h2:=(z5k hT (s:=aGo T b s)).at_;have h3:=(z1w hT (k:=1) dC0 (s:=(z0t T (aGo T b s)).2)).at_;simp only[Al,Az,D2]at h1
   cases b with
   |true =>
    have h4:(aGo T true s).at_=s.at_:=rfl;simp only[E4]
    omega
   |false =>
    have hi:pIs T zn1 s=true:=by simpa using hc.1
    have h4:(aGo T false s).at_=s.at_+1:=by simp[aGo,z8n,hi,z0o]
    simp only[D2];omega
  ·have:=(y32 hT (b:=b) (s:=s)).at_;dsimp only;omega
theorem func_sz(hT:TkOk T){t:Int}{n:ByteArray}{s:Ps}(h:(z7a T t n s).2.over=false):(z7a T t n s).1.params.length+szL (z7a T t n s).1.body+3*s.at_<=3*(z7a T t n s).2.at_+1:=by
 unfold z7a at h⊢;dsimp only at h⊢;have h1:=(yp7 hT (big T)).2.1 1 _ h;have h2:=(z0a hT (w:=sRo) (s:=s)).at_;have h6:=(zk8 hT (s:=z0p T sRo s)).at_;have h3:=((z5j hT (big T)).2.1 1 (z7o T (z0p T sRo s)).2).at_;have h4:(z7o T (z0p T sRo s)).1.length+(z0p T sRo s).at_<=1+(z7o T (z0p T sRo s)).2.at_:=by
  unfold z7o;split
  ·simp only[Az,z0o];omega
  ·have:=y84 hT (big T) true [] (z0p T sRo s);have h5:=(z0a hT (w:=sRc) (s:=(zb2 T (big T) true [] (z0p T sRo s)).2)).at_;simp only[Az,E4]at this;dsimp only;omega
 omega
theorem z9j(hT:TkOk T):∀N p s,Fw T s (z3j T N p s).2
 |0,_,_=>.rfl
 |N+1,p,s=>by
  unfold z3j;split
  ·exact .rfl
  split
  ·rename_i c2;have hc:pIs T sSo (z0n T 1 (z0t T s).2).2=true:=by unfold qArr at c2;simp only[A0]at c2;exact c2.2
   exact(z5k hT).trans ((z1w hT (k:=1) dC0).trans ((z11 hT hc).trans ((z1w hT (k:=0) dC0).trans ((z0a hT (w:=sSc)).trans ((z0a hT (w:=z5h)).trans (z9j hT N _ _))))))
  ·exact(z5k hT).trans ((z1w hT (k:=1) dC0).trans ((ya4 hT).trans (z9j hT N _ _)))
theorem y5n(hT:TkOk T):∀N p s,(z3j T N p s).2.over=false->pz (z3j T N p s).1.funcs+(z3j T N p s).1.arrays.length+3*s.at_<=pz p.funcs+p.arrays.length+3*(z3j T N p s).2.at_
 |0,_,_,_=>Ae _
 |N+1,p,s,h=>by
  unfold z3j at h⊢;split
  ·exact Ae _
  rename_i c1;rw[if_neg c1]at h;have a1:=(z5k hT (s:=s)).at_;have a2:=(z1w hT (k:=1) dC0 (s:=(z0t T s).2)).at_;split
  ·rename_i c2;rw[if_pos c2]at h;have h1:=y5n hT N _ _ h;have hc:pIs T sSo (z0n T 1 (z0t T s).2).2=true:=by unfold qArr at c2;simp only[A0]at c2;exact c2.2
   have a3:=(z1w hT (k:=0) dC0 (s:=(z0n T 1 (z0t T s).2).2.next)).at_;have a4:=(z0a hT (w:=sSc) (s:=(z0n T 0 (z0n T 1 (z0t T s).2).2.next).2)).at_;have a5:=(z0a hT (w:=z5h) (s:=z0p T sSc (z0n T 0 (z0n T 1 (z0t T s).2).2.next).2)).at_;rw[z0o]at a3;simp only[B5,Al,Az]at h1;omega
  ·rename_i c2;rw[if_neg c2]at h;have h1:=y5n hT N _ _ h;have b1:(z7a T (z0t T s).1 (z0n T 1 (z0t T s).2).1 (z0n T 1 (z0t T s).2).2).2.over=false:=(z9j hT N _ _).back h;have h2:=func_sz hT b1;have b2:=(ya4 hT).back b1;have a3:=z6v.lt b2;have a4:=zl1.lt ((z1w hT (k:=1) dC0).back b2);rw[pz_app]at h1;simp only[pz]at h1;omega
end
theorem zv5{f:Fu}:∀{l:List Fu},f∈l->1+f.params.length+szL f.body<=pz l
 |y::r,h=>by
  simp only[pz];rcases Am.1 h with rfl|h
  ·omega
  ·have:=zv5 h;omega
theorem y2s{l:List Ar}{i:Nat}{x:Ar}(h:l[i]?=some x):(l.map Ar.enc)[i]?=some [vStr x.name,vInt x.size]:=by simp[h,Ar.enc]
theorem zb0{l:List Fu}{i:Nat}{x:Fu}(h:l[i]?=some x):(l.map Fu.enc)[i]?=some [vStr x.name,vInt x.ty,pms x.params,sts x.body]:=by simp[h,Fu.enc]
theorem zv4{l:List Pm}{i:Nat}{x:Pm}(h:l[i]?=some x):(l.map Pm.enc)[i]?=some [vStr x.name,vInt x.ty]:=by simp[h,Pm.enc]
theorem zl6:∀l:List Fu,l.length<=pz l
 |[]=>Ae _
 |x::r=>by have:=zl6 r;simp only[Al,pz];omega
theorem sc_Right(p:Pg)(hb:pz p.funcs<=1073741824)(ha:p.arrays.length<=1073741824):SC Tryz.prog 45 [.pv p.enc] [] (λk=>k∈[]) (iBool (rPg p)) []:=by
 refine SC.vc tb {} [] Tryz.func45 rfl rfl ?_;have hfl:=zl6 p.funcs;refine⟨Nat,λi=>[(3,iInt ((i:Nat):Int))],λ_=>[],λi=>p.arrays.length-i,λi=>i<=p.arrays.length/\(p.arrays.all λa=>z0m a.name&&decide (1<=a.size)&&decide (a.size<=1000))=((p.arrays.drop i).all λa=>z0m a.name&&decide (1<=a.size)&&decide (a.size<=1000)),[],0,⟨Ab _,rfl⟩,Ge,Gd,?_⟩;rintro i ⟨i1,i2⟩;refine z00 (λhc=>?_) λhc=>?_
 ·have hlt:i<p.arrays.length:=z12 (f:=Ar.enc) rfl hc;obtain⟨x,x1,x2,x3,x4⟩:=z0s hlt;rw[x3,D9]at i2;refine⟨y2s x1,rfl,[],z6t x.name,sR,Gd,rfl,z00 (λc1=>?_) λc1=>⟨y2s x1,rfl,z00 (λc2=>?_) λc2=>⟨y2s x1,rfl,z00 (λc3=>?_) λc3=>?_⟩⟩⟩
  ·exact⟨sE (Aa iBool (by unfold rPg;rw[i2,show z0m x.name=false by simpa using c1];rfl)),Gd⟩
  ·exact⟨sE (Aa iBool (by unfold rPg;have:=Aq c2;rw[i2,show decide (1<=x.size)=false by simpa using this];simp)),Gd⟩
  ·exact⟨sE (Aa iBool (by unfold rPg;have:=Aq c3;rw[i2,show decide (x.size<=1000)=false by simpa using this];simp)),Gd⟩
  ·have d2:=Ap c2;have d3:=Ap c3;rw[show z0m x.name=true by simpa using c1,show decide (1<=x.size)=true by simpa using d2,show decide (x.size<=1000)=true by simpa using d3,B0,B0,B0]at i2;exact⟨z01 rfl oM0,i+1,z04 hlt,⟨hlt,i2⟩,Ge,Gd,rfl,rfl,rfl,rfl⟩
 ·have hge:p.arrays.length<=i:=z13 (f:=Ar.enc) rfl hc;rw[A8 hge,Fx]at i2;have hR:rPg p=p.funcs.all rFu:=by unfold rPg;rw[i2,B0]
  clear i1 i2 hc hge;refine⟨Nat,λi=>[(4,iInt ((i:Nat):Int))],λ_=>[],λi=>p.funcs.length-i,λi=>i<=p.funcs.length/\rPg p=(p.funcs.drop i).all rFu,[],0,⟨Ab _,hR⟩,Ge,Gd,?_⟩;rintro i ⟨i1,i2⟩;refine z00 (λhc=>?_) λhc=>?_
  ·have hlt:i<p.funcs.length:=z12 (f:=Fu.enc) rfl hc;obtain⟨x,x1,x2,x3,x4⟩:=z0s hlt;have hpz:=zv5 x4;rw[x3,D9]at i2;refine⟨zb0 x1,rfl,[],z6t x.name,sR,Gd,rfl,z00 (λc1=>?_) λc1=>⟨[],y41 x.ty,sR,Gd,rfl,z00 (λc2=>?_) λc2=>z00 (λc3=>?_) λc3=>⟨[],j3c _ x.body (A7 _) oM0 100 dC0 dC0,sR,Gd,rfl,z00 (λc4=>?_) λc4=>?_⟩⟩⟩
   ·exact⟨sE (Aa iBool (by unfold rFu at i2;rw[i2,show z0m x.name=false by simpa using c1];rfl)),Gd⟩
   ·exact⟨sE (Aa iBool (by unfold rFu at i2;rw[i2,show rTy x.ty=false by simpa[rTy]using c2];simp)),Gd⟩
   ·exact⟨sE (Aa iBool (by unfold rFu at i2;have:=Aq c3;rw[i2,show decide (x.params.length<=8)=false by simp at this⊢;omega];simp)),Gd⟩
   ·exact⟨sE (Aa iBool (by unfold rFu at i2;rw[i2,show rsL x.body 100=false by simpa using c4];simp)),Gd⟩
   ·have hF:rFu x=x.params.all λp=>z0m p.name&&rTy p.ty:=by
     unfold rFu;have:=Ap c3;rw[show z0m x.name=true by simpa using c1,show rTy x.ty=true by unfold rTy;simpa only[Bool.not_eq_false']using c2,show decide (x.params.length<=8)=true by simp at this⊢;omega,show rsL x.body 100=true by simpa using c4];rfl
    rw[hF]at i2;refine⟨Nat,λj=>[(6,iInt ((j:Nat):Int))],λ_=>[],λj=>x.params.length-j,λj=>j<=x.params.length/\(x.params.all λp=>z0m p.name&&rTy p.ty)=(x.params.drop j).all λp=>z0m p.name&&rTy p.ty,[],0,⟨Ab _,rfl⟩,Ge,Gd,?_⟩;rintro j ⟨j1,j2⟩;refine z00 (λhd=>?_) λhd=>?_
    ·have hlj:j<x.params.length:=z12 (f:=Pm.enc) rfl hd;obtain⟨y,y1,y2,y3,y4⟩:=z0s hlj;rw[y3,D9]at j2;refine⟨zv4 y1,rfl,[],z6t y.name,sR,Gd,rfl,z00 (λk1=>?_) λk1=>⟨zv4 y1,rfl,[],y41 y.ty,sR,Gd,rfl,z00 (λk2=>?_) λk2=>?_⟩⟩
     ·exact⟨sE (Aa iBool (by rw[i2,j2,show z0m y.name=false by simpa using k1];rfl)),Gd⟩
     ·exact⟨sE (Aa iBool (by rw[i2,j2,show rTy y.ty=false by simpa[rTy]using k2];simp)),Gd⟩
     ·rw[show z0m y.name=true by simpa using k1,show rTy y.ty=true by unfold rTy;simpa only[Bool.not_eq_false']using k2,B0,B0]at j2;exact⟨z01 rfl oM0,j+1,z04 hlj,⟨hlj,j2⟩,Ge,Gd,rfl,rfl,rfl,rfl⟩
    ·have hge:x.params.length<=j:=z13 (f:=Pm.enc) rfl hd;rw[A8 hge,Fx]at j2;rw[j2,B0]at i2;exact⟨z01 rfl oM0,i+1,z04 hlt,⟨hlt,i2⟩,Ge,Gd,rfl,rfl,rfl,rfl⟩
  ·have hge:p.funcs.length<=i:=z13 (f:=Fu.enc) rfl hc;rw[A8 hge,Fx]at i2;exact⟨sE (by rw[i2]),Gd⟩
theorem z58{b:Bool}{A:Prop}(h:b=true)(a:A):z2c b A:=by rw[h];exact a
theorem z1e{α:Type}(p:α -> Bool):∀(l:List α)(j:Int){i:Nat},(∀x∈l.take i,p x=false)->idxP p l j=idxP p (l.drop i) (j+i)
 |l,j,0,_=>by simp
 |[],j,i+1,_=>by simp[idxP]
 |x::r,j,i+1,h=>by
  have h1:=h x sI0;rw[idxP,if_neg (by simp[h1]),z1e p r (j+1) (i:=i) (λy hy=>h y (by simp[hy])),Fb]
  congr 1;omega
theorem sc_idxSt(fq:FuncId)(ws:List IV)(hent:tb.fn fq=true)(p:St->Bool)(l:List St)(hl:l.length<=4611686018427387904)(h:∀x∈l,SC Tryz.prog fq (.pv (stv x)::ws) [] (λk=>k∈[]) (iBool (p x)) []):SC Tryz.prog 114 [.pv (sts l),.fn (.func fq) [] ws] [] (λk=>k∈[]) (iInt (idxP p l 0)) []:=by
 refine SC.vc tb {} [] Tryz.func114 rfl rfl ?_;refine⟨Nat,λi=>[(8,iInt ((i:Nat):Int))],λ_=>[],λi=>l.length-i,λi=>i<=l.length/\∀x∈l.take i,p x=false,[],0,⟨Ab _,λx hx=>by simp at hx⟩,Ge,Gd,?_⟩;rintro i ⟨i1,i2⟩;refine z00 (λhc=>?_) λhc=>?_
 ·have hlt:i<l.length:=z12 (f:=St.enc) rfl hc;obtain⟨x,x1,x2,x3,x4⟩:=z0s hlt;refine⟨zk0 x1,rfl,z58 (b:=tb.fn fq) hent ⟨h x x4,sR,Gd,λk hk=>hk,rfl,rfl,z00 (λc=>?_) λc=>?_⟩⟩
  ·exact⟨sE (by rw[z1e p l 0 i2,x3,idxP,if_pos c,Dv]),Gd⟩
  ·exact⟨z01 rfl oM0,i+1,z04 hlt,⟨hlt,λy hy=>by rw[x2]at hy;rcases Aw.1 hy with g|g;exact i2 y g;rw[Ag.1 g];exact c⟩,Ge,Gd,rfl,rfl,rfl,rfl⟩
 ·have hge:l.length<=i:=z13 (f:=St.enc) rfl hc;exact⟨sE (by rw[z1e p l 0 i2,A8 hge];rfl),Gd⟩
theorem y61(fq:FuncId)(ws:List IV)(hent:tb.fn fq=true)(p:St->Bool)(l:List St)(hl:l.length<=4611686018427387904)(h:∀x∈l,SC Tryz.prog fq (.pv (stv x)::ws) [] (λk=>k∈[]) (iBool (p x)) []):SC Tryz.prog 66 [.pv (sts l),.fn (.func fq) [] ws] [] (λk=>k∈[]) (iBool (l.any p)) []:=by
 refine SC.vc tb {} [] Tryz.func66 rfl rfl ?_;exact⟨[],sc_idxSt fq ws hent p l hl h,sR,Gd,rfl,sE (Aa iBool (z6f p l 0 dC0)),Gd⟩
theorem sc_idxEx(fq:FuncId)(ws:List IV)(hent:tb.fn fq=true)(p:Ex->Bool)(l:List Ex)(hl:l.length<=4611686018427387904)(h:∀x∈l,SC Tryz.prog fq (.pv (exv x)::ws) [] (λk=>k∈[]) (iBool (p x)) []):SC Tryz.prog 239 [.pv (exs l),.fn (.func fq) [] ws] [] (λk=>k∈[]) (iInt (idxP p l 0)) []:=by
 refine SC.vc tb {} [] Tryz.func239 rfl rfl ?_;refine⟨Nat,λi=>[(8,iInt ((i:Nat):Int))],λ_=>[],λi=>l.length-i,λi=>i<=l.length/\∀x∈l.take i,p x=false,[],0,⟨Ab _,λx hx=>by simp at hx⟩,Ge,Gd,?_⟩;rintro i ⟨i1,i2⟩;refine z00 (λhc=>?_) λhc=>?_
 ·have hlt:i<l.length:=z12 (f:=Ex.enc) rfl hc;obtain⟨x,x1,x2,x3,x4⟩:=z0s hlt;refine⟨z1d x1,rfl,z58 (b:=tb.fn fq) hent ⟨h x x4,sR,Gd,λk hk=>hk,rfl,rfl,z00 (λc=>?_) λc=>?_⟩⟩
  ·exact⟨sE (by rw[z1e p l 0 i2,x3,idxP,if_pos c,Dv]),Gd⟩
  ·exact⟨z01 rfl oM0,i+1,z04 hlt,⟨hlt,λy hy=>by rw[x2]at hy;rcases Aw.1 hy with g|g;exact i2 y g;rw[Ag.1 g];exact c⟩,Ge,Gd,rfl,rfl,rfl,rfl⟩
 ·have hge:l.length<=i:=z13 (f:=Ex.enc) rfl hc;exact⟨sE (by rw[z1e p l 0 i2,A8 hge];rfl),Gd⟩
theorem yo1(fq:FuncId)(ws:List IV)(hent:tb.fn fq=true)(p:Ex->Bool)(l:List Ex)(hl:l.length<=4611686018427387904)(h:∀x∈l,SC Tryz.prog fq (.pv (exv x)::ws) [] (λk=>k∈[]) (iBool (p x)) []):SC Tryz.prog 213 [.pv (exs l),.fn (.func fq) [] ws] [] (λk=>k∈[]) (iBool (l.any p)) []:=by
 refine SC.vc tb {} [] Tryz.func213 rfl rfl ?_;exact⟨[],sc_idxEx fq ws hent p l hl h,sR,Gd,rfl,sE (Aa iBool (z6f p l 0 dC0)),Gd⟩
theorem sc_idxPm(fq:FuncId)(ws:List IV)(hent:tb.fn fq=true)(p:Pm->Bool)(l:List Pm)(hl:l.length<=4611686018427387904)(h:∀x∈l,SC Tryz.prog fq (.pv (.agg x.enc)::ws) [] (λk=>k∈[]) (iBool (p x)) []):SC Tryz.prog 187 [.pv (pms l),.fn (.func fq) [] ws] [] (λk=>k∈[]) (iInt (idxP p l 0)) []:=by
 refine SC.vc tb {} [] Tryz.func187 rfl rfl ?_;refine⟨Nat,λi=>[(8,iInt ((i:Nat):Int))],λ_=>[],λi=>l.length-i,λi=>i<=l.length/\∀x∈l.take i,p x=false,[],0,⟨Ab _,λx hx=>by simp at hx⟩,Ge,Gd,?_⟩;rintro i ⟨i1,i2⟩;refine z00 (λhc=>?_) λhc=>?_
 ·have hlt:i<l.length:=z12 (f:=Pm.enc) rfl hc;obtain⟨x,x1,x2,x3,x4⟩:=z0s hlt;refine⟨zv4 x1,rfl,z58 (b:=tb.fn fq) hent ⟨h x x4,sR,Gd,λk hk=>hk,rfl,rfl,z00 (λc=>?_) λc=>?_⟩⟩
  ·exact⟨sE (by rw[z1e p l 0 i2,x3,idxP,if_pos c,Dv]),Gd⟩
  ·exact⟨z01 rfl oM0,i+1,z04 hlt,⟨hlt,λy hy=>by rw[x2]at hy;rcases Aw.1 hy with g|g;exact i2 y g;rw[Ag.1 g];exact c⟩,Ge,Gd,rfl,rfl,rfl,rfl⟩
 ·have hge:l.length<=i:=z13 (f:=Pm.enc) rfl hc;exact⟨sE (by rw[z1e p l 0 i2,A8 hge];rfl),Gd⟩
theorem sc_hasPm(fq:FuncId)(ws:List IV)(hent:tb.fn fq=true)(p:Pm->Bool)(l:List Pm)(hl:l.length<=4611686018427387904)(h:∀x∈l,SC Tryz.prog fq (.pv (.agg x.enc)::ws) [] (λk=>k∈[]) (iBool (p x)) []):SC Tryz.prog 152 [.pv (pms l),.fn (.func fq) [] ws] [] (λk=>k∈[]) (iBool (l.any p)) []:=by
 refine SC.vc tb {} [] Tryz.func152 rfl rfl ?_;exact⟨[],sc_idxPm fq ws hent p l hl h,sR,Gd,rfl,sE (Aa iBool (z6f p l 0 dC0)),Gd⟩
theorem yo3(fq:FuncId)(ws:List IV)(hent:tb.fn fq=true)(p:Fu->Bool)(l:List Fu)(hl:l.length<=4611686018427387904)(h:∀x∈l,SC Tryz.prog fq (.pv (.agg x.enc)::ws) [] (λk=>k∈[]) (iBool (p x)) []):SC Tryz.prog 149 [.pv (fus l),.fn (.func fq) [] ws] [] (λk=>k∈[]) (iInt (idxP p l 0)) []:=by
 refine SC.vc tb {} [] Tryz.func149 rfl rfl ?_;refine⟨Nat,λi=>[(8,iInt ((i:Nat):Int))],λ_=>[],λi=>l.length-i,λi=>i<=l.length/\∀x∈l.take i,p x=false,[],0,⟨Ab _,λx hx=>by simp at hx⟩,Ge,Gd,?_⟩;rintro i ⟨i1,i2⟩;refine z00 (λhc=>?_) λhc=>?_
 ·have hlt:i<l.length:=z12 (f:=Fu.enc) rfl hc;obtain⟨x,x1,x2,x3,x4⟩:=z0s hlt;refine⟨zb0 x1,rfl,z58 (b:=tb.fn fq) hent ⟨h x x4,sR,Gd,λk hk=>hk,rfl,rfl,z00 (λc=>?_) λc=>?_⟩⟩
  ·exact⟨sE (by rw[z1e p l 0 i2,x3,idxP,if_pos c,Dv]),Gd⟩
  ·exact⟨z01 rfl oM0,i+1,z04 hlt,⟨hlt,λy hy=>by rw[x2]at hy;rcases Aw.1 hy with g|g;exact i2 y g;rw[Ag.1 g];exact c⟩,Ge,Gd,rfl,rfl,rfl,rfl⟩
 ·have hge:l.length<=i:=z13 (f:=Fu.enc) rfl hc;exact⟨sE (by rw[z1e p l 0 i2,A8 hge];rfl),Gd⟩
theorem sc_hasFu(fq:FuncId)(ws:List IV)(hent:tb.fn fq=true)(p:Fu->Bool)(l:List Fu)(hl:l.length<=4611686018427387904)(h:∀x∈l,SC Tryz.prog fq (.pv (.agg x.enc)::ws) [] (λk=>k∈[]) (iBool (p x)) []):SC Tryz.prog 101 [.pv (fus l),.fn (.func fq) [] ws] [] (λk=>k∈[]) (iBool (l.any p)) []:=by
 refine SC.vc tb {} [] Tryz.func101 rfl rfl ?_;exact⟨[],yo3 fq ws hent p l hl h,sR,Gd,rfl,sE (Aa iBool (z6f p l 0 dC0)),Gd⟩
theorem yo2(fq:FuncId)(ws:List IV)(hent:tb.fn fq=true)(p:Ar->Bool)(l:List Ar)(hl:l.length<=4611686018427387904)(h:∀x∈l,SC Tryz.prog fq (.pv (.agg x.enc)::ws) [] (λk=>k∈[]) (iBool (p x)) []):SC Tryz.prog 148 [.pv (arrs l),.fn (.func fq) [] ws] [] (λk=>k∈[]) (iInt (idxP p l 0)) []:=by
 refine SC.vc tb {} [] Tryz.func148 rfl rfl ?_;refine⟨Nat,λi=>[(8,iInt ((i:Nat):Int))],λ_=>[],λi=>l.length-i,λi=>i<=l.length/\∀x∈l.take i,p x=false,[],0,⟨Ab _,λx hx=>by simp at hx⟩,Ge,Gd,?_⟩;rintro i ⟨i1,i2⟩;refine z00 (λhc=>?_) λhc=>?_
 ·have hlt:i<l.length:=z12 (f:=Ar.enc) rfl hc;obtain⟨x,x1,x2,x3,x4⟩:=z0s hlt;refine⟨y2s x1,rfl,z58 (b:=tb.fn fq) hent ⟨h x x4,sR,Gd,λk hk=>hk,rfl,rfl,z00 (λc=>?_) λc=>?_⟩⟩
  ·exact⟨sE (by rw[z1e p l 0 i2,x3,idxP,if_pos c,Dv]),Gd⟩
  ·exact⟨z01 rfl oM0,i+1,z04 hlt,⟨hlt,λy hy=>by rw[x2]at hy;rcases Aw.1 hy with g|g;exact i2 y g;rw[Ag.1 g];exact c⟩,Ge,Gd,rfl,rfl,rfl,rfl⟩
 ·have hge:l.length<=i:=z13 (f:=Ar.enc) rfl hc;exact⟨sE (by rw[z1e p l 0 i2,A8 hge];rfl),Gd⟩
theorem sc_hasAr(fq:FuncId)(ws:List IV)(hent:tb.fn fq=true)(p:Ar->Bool)(l:List Ar)(hl:l.length<=4611686018427387904)(h:∀x∈l,SC Tryz.prog fq (.pv (.agg x.enc)::ws) [] (λk=>k∈[]) (iBool (p x)) []):SC Tryz.prog 100 [.pv (arrs l),.fn (.func fq) [] ws] [] (λk=>k∈[]) (iBool (l.any p)) []:=by
 refine SC.vc tb {} [] Tryz.func100 rfl rfl ?_;exact⟨[],yo2 fq ws hent p l hl h,sR,Gd,rfl,sE (Aa iBool (z6f p l 0 dC0)),Gd⟩
theorem sc_rowOf(op:Int):SC Tryz.prog 250 [iInt op] [] (λk=>k∈[]) (.pv (.agg [vStr (zp2 op),vInt (z4j op)])) []:=by
 refine SC.vc tb {} [] Tryz.func250 rfl rfl ?_;refine z00 (λc=>?_) λc=>z00 (λc2=>?_) λc2=>?_
 ·have h:op<0:=Aq c;exact⟨sE (by simp[zp2,z4j,h];exact⟨rfl,rfl⟩),Gd⟩
 ·have h:op≥29:=Aq c2;exact⟨sE (by simp[zp2,z4j,h];exact⟨rfl,rfl⟩),Gd⟩
 ·have h1:=Ap c;have h2:=Ap c2;rcases j02 (op:=op) oM0 oM0 with rfl|rfl|rfl|rfl|rfl|rfl|rfl|rfl|rfl|rfl|rfl|rfl|rfl|rfl|rfl|rfl|rfl|rfl|rfl|rfl|rfl|rfl|rfl|rfl|rfl|rfl|rfl|rfl|rfl
  ·exact⟨(by decide:(0:Nat)<29),rfl,sI,Gd⟩
  ·exact⟨(by decide:(1:Nat)<29),rfl,sI,Gd⟩
  ·exact⟨(by decide:(2:Nat)<29),rfl,sI,Gd⟩
  ·exact⟨(by decide:(3:Nat)<29),rfl,sI,Gd⟩
  ·exact⟨(by decide:(4:Nat)<29),rfl,sI,Gd⟩
  ·exact⟨(by decide:(5:Nat)<29),rfl,sI,Gd⟩
  ·exact⟨(by decide:(6:Nat)<29),rfl,sI,Gd⟩
  ·exact⟨(by decide:(7:Nat)<29),rfl,sI,Gd⟩
  ·exact⟨(by decide:(8:Nat)<29),rfl,sI,Gd⟩
  ·exact⟨(by decide:(9:Nat)<29),rfl,sI,Gd⟩
  ·exact⟨(by decide:(10:Nat)<29),rfl,sI,Gd⟩
  ·exact⟨(by decide:(11:Nat)<29),rfl,sI,Gd⟩
  ·exact⟨(by decide:(12:Nat)<29),rfl,sI,Gd⟩
  ·exact⟨(by decide:(13:Nat)<29),rfl,sI,Gd⟩
  ·exact⟨(by decide:(14:Nat)<29),rfl,sI,Gd⟩
  ·exact⟨(by decide:(15:Nat)<29),rfl,sI,Gd⟩
  ·exact⟨(by decide:(16:Nat)<29),rfl,sI,Gd⟩
  ·exact⟨(by decide:(17:Nat)<29),rfl,sI,Gd⟩
  ·exact⟨(by decide:(18:Nat)<29),rfl,sI,Gd⟩
  ·exact⟨(by decide:(19:Nat)<29),rfl,sI,Gd⟩
  ·exact⟨(by decide:(20:Nat)<29),rfl,sI,Gd⟩
  ·exact⟨(by decide:(21:Nat)<29),rfl,sI,Gd⟩
  ·exact⟨(by decide:(22:Nat)<29),rfl,sI,Gd⟩
  ·exact⟨(by decide:(23:Nat)<29),rfl,sI,Gd⟩
  ·exact⟨(by decide:(24:Nat)<29),rfl,sI,Gd⟩
  ·exact⟨(by decide:(25:Nat)<29),rfl,sI,Gd⟩
  ·exact⟨(by decide:(26:Nat)<29),rfl,sI,Gd⟩
  ·exact⟨(by decide:(27:Nat)<29),rfl,sI,Gd⟩
  ·exact⟨(by decide:(28:Nat)<29),rfl,sI,Gd⟩
theorem y8z(op:Int):SC Tryz.prog 232 [iInt op] [] (λk=>k∈[]) (iInt (z4j op)) []:=by
 refine SC.vc tb {} [] Tryz.func232 rfl rfl ?_;exact⟨[],sc_rowOf op,sR,Gd,rfl,sI,Gd⟩
theorem y1s(n:Int):SC Tryz.prog 121 [.pv (.val (.int .i32 n))] [] (λ_=>False) (iBool (z4l n)) []:=by
 refine SC.anyR (SC.vc tb {} [] Tryz.func121 rfl rfl ?_);unfold z4l;refine z00 (λh1=>z00 (λh2=>⟨sE (by rw[h1,h2];rfl),Gd⟩) λh2=>?_) λh1=>?_
 ·refine z00 (λh3=>z00 (λh4=>⟨sE (by rw[h1,h2,h3,h4];rfl),Gd⟩) λh4=>⟨sE (by rw[h1,h2,h3,h4];rfl),Gd⟩) λh3=>⟨sE (by rw[h1,h2,h3];rfl),Gd⟩
 ·refine z00 (λh3=>z00 (λh4=>⟨sE (by rw[h1,h3,h4];rfl),Gd⟩) λh4=>⟨sE (by rw[h1,h3,h4];rfl),Gd⟩) λh3=>⟨sE (by rw[h1,h3];rfl),Gd⟩
theorem yw7(n:Int):SC Tryz.prog 171 [.pv (.val (.int .i32 n))] [] (λ_=>False) (iBool (z3z n)) []:=by
 refine SC.anyR (SC.vc tb {} [] Tryz.func171 rfl rfl ?_);unfold z3z;exact z00 (λh1=>⟨sE (by rw[h1];rfl),Gd⟩) λh1=>⟨sE (by rw[h1];rfl),Gd⟩
theorem j3s(s:ByteArray):SC Tryz.prog 123 [iStr s] [] (λ_=>False) (iBool (z1j s)) []:=by
 refine SC.anyR (SC.vc tb {} [] Tryz.func123 rfl rfl ?_);have N:∀{b:Bool}{P:Prop},b=true->b=false->P:=λh g=>by rw[h]at g;cases g
 have T:∀{b:Bool},b=true->SubI (iBool true) (iBool b):=λh=>sE (by rw[h]);exact z00 (λh=>z00 (λ_=>⟨T (by unfold z1j;rw[h];simp only[Bh,Ba]),Gd⟩) λg=>N h g) λh1=>z00 (λh=>z00 (λ_=>⟨T (by unfold z1j;rw[h];simp only[Bh,Ba]),Gd⟩) λg=>N h g) λh2=>z00 (λh=>z00 (λ_=>⟨T (by unfold z1j;rw[h];simp only[Bh,Ba]),Gd⟩) λg=>N h g) λh3=>z00 (λh=>z00 (λ_=>⟨T (by unfold z1j;rw[h];simp only[Bh,Ba]),Gd⟩) λg=>N h g) λh4=>z00 (λh=>z00 (λ_=>⟨T (by unfold z1j;rw[h];simp only[Bh,Ba]),Gd⟩) λg=>N h g) λh5=>z00 (λh=>z00 (λ_=>⟨T (by unfold z1j;rw[h];simp only[Bh,Ba]),Gd⟩) λg=>N h g) λh6=>z00 (λh=>z00 (λ_=>⟨T (by unfold z1j;rw[h];simp only[Bh,Ba]),Gd⟩) λg=>N h g) λh7=>z00 (λh=>z00 (λ_=>⟨T (by unfold z1j;rw[h];simp only[Bh,Ba]),Gd⟩) λg=>N h g) λh8=>z00 (λh=>z00 (λ_=>⟨T (by unfold z1j;rw[h];simp only[Bh,Ba]),Gd⟩) λg=>N h g) λh9=>z00 (λh=>z00 (λ_=>⟨T (by unfold z1j;rw[h];simp only[Bh,Ba]),Gd⟩) λg=>N h g) λh10=>z00 (λh=>z00 (λ_=>⟨T (by unfold z1j;rw[h];simp only[Bh,Ba]),Gd⟩) λg=>N h g) λh11=>z00 (λh=>z00 (λ_=>⟨T (by unfold z1j;rw[h];simp only[Bh,Ba]),Gd⟩) λg=>N h g) λh12=>z00 (λh=>z00 (λ_=>⟨T (by unfold z1j;rw[h];simp only[Bh,Ba]),Gd⟩) λg=>N h g) λh13=>z00 (λh=>z00 (λ_=>⟨T (by unfold z1j;rw[h];simp only[Bh,Ba]),Gd⟩) λg=>N h g) λh14=>z00 (λh=>z00 (λ_=>⟨T (by unfold z1j;rw[h];simp only[Bh,Ba]),Gd⟩) λg=>N h g) λh15=>z00 (λh=>z00 (λ_=>⟨T (by unfold z1j;rw[h];simp only[Bh,Ba]),Gd⟩) λg=>N h g) λh16=>z00 (λh=>z00 (λ_=>⟨T (by unfold z1j;rw[h];simp only[Bh,Ba]),Gd⟩) λg=>N h g) λh17=>z00 (λh=>⟨T (by unfold z1j;rw[h];simp only[Bh,Ba]),Gd⟩) λh18=>⟨sE (by unfold z1j;rw[h1,h2,h3,h4,h5,h6,h7,h8,h9,h10,h11,h12,h13,h14,h15,h16,h17,h18];rfl),Gd⟩
theorem sc_tkRun(s:ByteArray):SC Tryz.prog 122 [iStr s] [] (λ_=>False) (iStr (yu4 s)) []:=by
 refine SC.of Tryz.func122 rfl (Ax rfl) λF ρ w=>?_;refine Tr.seq ?_;refine Tr.region rfl ?_;refine WL.consV rfl rfl rfl (z3u rfl rfl) ?_;refine WL.nil ?_;refine Tr.seq ?_;refine Tr.strRange rfl rfl rfl rfl rfl rfl rfl rfl Tryz.underlying9 rfl rfl rfl rfl rfl rfl rfl rfl rfl rfl rfl (λ_ h=>h) (λk fr=>(k<=s.toList.length/\(s.toList.take k).all isLD=true)/\fr=[(0,iStr s)]) ⟨[(0,iStr s)],Sub.of Ge,⟨Ab _,rfl⟩,rfl⟩ ?_ ?_
 ·skip;rintro b0 k _ hk ⟨hI,rfl⟩;refine Tr.seq ?_;refine Tr.region rfl ?_;refine WL.consV rfl rfl rfl (z2o rfl rfl) ?_;refine WL.consV rfl rfl rfl (z3u rfl rfl) ?_;refine WL.nil ?_;refine tRt ?_;refine rOk rfl ?_ nPo;have hall:s.toList.all isLD=true:=by
   have:=hI.2
   rwa [As (by rw[y02];exact hk)]at this
  simp[yu4,hall]
 ·skip;rintro ρ2 w2 b0 k _ hk ⟨hI,rfl⟩;have hlt:k<s.toList.length:=by rw[y02];exact hk
  refine tBk ?_;refine Tr.seq ?_;refine Tr.region rfl ?_;refine WL.consV rfl rfl rfl (z8z rfl rfl rfl) ?_;refine WL.consV rfl rfl rfl (z8z rfl rfl rfl) ?_;refine WL.consV rfl rfl rfl (z3u rfl rfl) ?_;refine WL.consV rfl rfl rfl (z3u rfl rfl) ?_;refine WL.nil ?_;refine Tr.seq ?_;refine Tr.region rfl ?_;refine WL.consV rfl rfl rfl (z2o rfl rfl) ?_;refine WL.cons rfl rfl rfl (zm3 (y1s _) ent121 rfl rfl (sRf _ _) rfl) ?_;refine WL.consV rfl rfl rfl (ym1 rfl rfl) ?_;refine WL.consV rfl rfl rfl (z2o rfl rfl) ?_;refine WL.split (t:=14) rfl (λhb14=>?_) (λhb14=>?_)
  ·skip;refine WL.yesV rfl rfl rfl rfl rfl rfl (z2o rfl rfl) ?_;refine WL.yes rfl rfl rfl rfl rfl rfl (zm3 (yw7 _) ent171 rfl rfl (sRf _ _) rfl) ?_;refine WL.yesV rfl rfl rfl rfl rfl rfl (ym1 rfl rfl) ?_;refine WL.consV rfl rfl rfl (z5f rfl rfl rfl) ?_;refine WL.nil ?_;refine Tr.cond rfl (λhc18=>?_) (λhc18=>?_)
   ·skip;refine Tr.seq ?_;refine Tr.region rfl ?_;refine WL.consV rfl rfl rfl (z2o rfl rfl) ?_;refine WL.consV rfl rfl rfl (z2o rfl rfl) ?_;refine WL.consV rfl rfl rfl (zv2 rfl rfl Tryz.underlying9 (.inl ⟨rfl,rfl⟩) (.inr ⟨_,_,rfl,rfl⟩) oM0 (Fy (by assumption))) ?_;refine WL.consV rfl rfl rfl (z3u rfl rfl) ?_;refine WL.nil ?_;refine tRt ?_;refine rOk rfl ?_ nPo;have hld:y2g (Utf8.decode s k).1=false:=by
     simp only[y2g]
     first
     |(simp_all;done)
     |(clear hI;simp_all)
    rw[runOf_at hI.2 (A5 hlt) ((y07 hlt).2 hld)]
   ·skip;refine tSk ?_;refine⟨rfl,[(0,iStr s)],Sub.of Gf,?_,rfl⟩;have hld:y2g (Utf8.decode s k).1=true:=by
     simp only[y2g]
     first
     |(simp_all;done)
     |(clear hI;simp_all)
    obtain⟨hw1,hb1⟩:=(y07 hlt).1 hld;rw[hw1];exact⟨by omega,by rw[List.take_succ_eq_append_getElem hlt,List.all_append,hI.2];simp[hb1]⟩
  ·skip;refine WL.no (b:=false) rfl rfl rfl rfl rfl rfl ?_;refine WL.no (b:=false) rfl rfl rfl rfl rfl rfl ?_;refine WL.no (b:=false) rfl rfl rfl rfl rfl rfl ?_;refine WL.consV rfl rfl rfl (z1h rfl rfl rfl) ?_;refine WL.nil ?_;refine Tr.condF rfl ?_;refine tSk ?_;refine⟨rfl,[(0,iStr s)],Sub.of Gf,?_,rfl⟩;have hld:y2g (Utf8.decode s k).1=true:=by
    simp only[y2g]
    first
    |(simp_all;done)
    |(clear hI;simp_all)
   obtain⟨hw1,hb1⟩:=(y07 hlt).1 hld;rw[hw1];exact⟨by omega,by rw[List.take_succ_eq_append_getElem hlt,List.all_append,hI.2];simp[hb1]⟩
theorem z7y(s:ByteArray):SC Tryz.prog 68 [iStr s] [] (λ_=>False) (iBool (z0m s)) []:=by
 refine SC.of Tryz.func68 rfl (Ax rfl) λF ρ w=>?_;refine Tr.seq ?_;refine Tr.region rfl ?_;refine WL.consV rfl rfl rfl (z3u rfl rfl) ?_;refine WL.nil ?_;refine Tr.seq ?_;refine Tr.region rfl ?_;refine WL.consV rfl rfl rfl (z2o rfl rfl) ?_;refine WL.consV rfl rfl rfl (bSt rfl rfl rfl rfl) ?_;refine WL.consV rfl rfl rfl (z2o rfl rfl) ?_;refine WL.split (t:=5) rfl (λhb5=>?_) (λhb5=>?_)
 ·skip;have hne:s.toList≠[]:=by simpa using hb5
  obtain⟨b0,r0,hs0⟩:=Ca hne;have hi0:s[0]?=some b0:=by rw[y2t (i:=0) (by rw[hs0];simp)];simp[hs0]
  have hw0:IntKind.i32.wrap (b0.toNat:Int)=b0.toNat:=by
   have:b0.toNat<256:=b0.toNat_lt;simp[IntKind.wrap,IntKind.bits,IntKind.signed];omega
  have hre:=runOf_eq s;refine WL.yesV rfl rfl rfl rfl rfl rfl (z2o rfl rfl) ?_;refine WL.yesV rfl rfl rfl rfl rfl rfl (zv0 rfl rfl rfl Tryz.underlying9 (by assumption) (by first|rfl|omega)) ?_;refine WL.yesV rfl rfl rfl rfl rfl rfl (y0u rfl rfl ⟨_,Tryz.underlying5⟩ Tryz.underlying21) ?_;refine WL.yes rfl rfl rfl rfl rfl rfl (zm3 (y1s _) ent121 rfl rfl (sRf _ _) rfl) ?_;refine WL.consV rfl rfl rfl (z5f rfl rfl rfl) ?_;refine WL.consV rfl rfl rfl (z2o rfl rfl) ?_;refine WL.split (t:=11) rfl (λhb11=>?_) (λhb11=>?_)
  ·skip;refine WL.yesV rfl rfl rfl rfl rfl rfl (z2o rfl rfl) ?_;refine WL.yes rfl rfl rfl rfl rfl rfl (zm3 (sc_tkRun s) ent122 rfl rfl (sRf _ _) rfl) ?_;refine WL.yesV rfl rfl rfl rfl rfl rfl (z2o rfl rfl) ?_;refine WL.yesV rfl rfl rfl rfl rfl rfl (bSt rfl rfl rfl rfl) ?_;refine WL.consV rfl rfl rfl (z5f rfl rfl rfl) ?_;refine WL.consV rfl rfl rfl (z2o rfl rfl) ?_;refine WL.split (t:=17) rfl (λhb17=>?_) (λhb17=>?_)
   ·skip;refine WL.yesV rfl rfl rfl rfl rfl rfl (z2o rfl rfl) ?_;refine WL.yesV rfl rfl rfl rfl rfl rfl (y3j rfl rfl Tryz.underlying9) ?_;refine WL.yesV rfl rfl rfl rfl rfl rfl (zr0 rfl rfl rfl rfl) ?_;refine WL.consV rfl rfl rfl (z5f rfl rfl rfl) ?_;refine WL.consV rfl rfl rfl (z2o rfl rfl) ?_;refine WL.split (t:=22) rfl (λhb22=>?_) (λhb22=>?_)
    ·skip;refine WL.yesV rfl rfl rfl rfl rfl rfl (z2o rfl rfl) ?_;refine WL.yes rfl rfl rfl rfl rfl rfl (zm3 (j3s s) ent123 rfl rfl (sRf _ _) rfl) ?_;refine WL.yesV rfl rfl rfl rfl rfl rfl (ym1 rfl rfl) ?_;refine WL.consV rfl rfl rfl (z5f rfl rfl rfl) ?_;refine WL.consV rfl rfl rfl (z3u rfl rfl) ?_;refine WL.nil ?_;refine tRt ?_;refine rOk rfl ?_ nPo;refine Aa (λb=>iBool b) ?_
     first
     |(simp_all[z0m];done)
     |(simp_all[z0m]<;>omega)
    ·skip;refine WL.no (b:=false) rfl rfl rfl rfl rfl rfl ?_;refine WL.no (b:=false) rfl rfl rfl rfl rfl rfl ?_;refine WL.no (b:=false) rfl rfl rfl rfl rfl rfl ?_;refine WL.consV rfl rfl rfl (z1h rfl rfl rfl) ?_;refine WL.consV rfl rfl rfl (z3u rfl rfl) ?_;refine WL.nil ?_;refine tRt ?_;refine rOk rfl ?_ nPo;refine Aa (λb=>iBool b) ?_
     first
     |(simp_all[z0m];done)
     |(simp_all[z0m]<;>omega)
   ·skip;refine WL.no (b:=false) rfl rfl rfl rfl rfl rfl ?_;refine WL.no (b:=false) rfl rfl rfl rfl rfl rfl ?_;refine WL.no (b:=false) rfl rfl rfl rfl rfl rfl ?_;refine WL.consV rfl rfl rfl (z1h rfl rfl rfl) ?_;refine WL.consV rfl rfl rfl (z2o rfl rfl) ?_;refine WL.no (b:=false) rfl rfl rfl rfl rfl rfl ?_;refine WL.no (b:=false) rfl rfl rfl rfl rfl rfl ?_;refine WL.no (b:=false) rfl rfl rfl rfl rfl rfl ?_;refine WL.consV rfl rfl rfl (z1h rfl rfl rfl) ?_;refine WL.consV rfl rfl rfl (z3u rfl rfl) ?_;refine WL.nil ?_;refine tRt ?_;refine rOk rfl ?_ nPo;refine Aa (λb=>iBool b) ?_
    first
    |(simp_all[z0m];done)
    |(simp_all[z0m]<;>omega)
  ·skip;refine WL.no (b:=false) rfl rfl rfl rfl rfl rfl ?_;refine WL.no (b:=false) rfl rfl rfl rfl rfl rfl ?_;refine WL.no (b:=false) rfl rfl rfl rfl rfl rfl ?_;refine WL.no (b:=false) rfl rfl rfl rfl rfl rfl ?_;refine WL.consV rfl rfl rfl (z1h rfl rfl rfl) ?_;refine WL.consV rfl rfl rfl (z2o rfl rfl) ?_;refine WL.no (b:=false) rfl rfl rfl rfl rfl rfl ?_;refine WL.no (b:=false) rfl rfl rfl rfl rfl rfl ?_;refine WL.no (b:=false) rfl rfl rfl rfl rfl rfl ?_;refine WL.consV rfl rfl rfl (z1h rfl rfl rfl) ?_;refine WL.consV rfl rfl rfl (z2o rfl rfl) ?_;refine WL.no (b:=false) rfl rfl rfl rfl rfl rfl ?_;refine WL.no (b:=false) rfl rfl rfl rfl rfl rfl ?_;refine WL.no (b:=false) rfl rfl rfl rfl rfl rfl ?_;refine WL.consV rfl rfl rfl (z1h rfl rfl rfl) ?_;refine WL.consV rfl rfl rfl (z3u rfl rfl) ?_;refine WL.nil ?_;refine tRt ?_;refine rOk rfl ?_ nPo;refine Aa (λb=>iBool b) ?_
   first
   |(simp_all[z0m];done)
   |(simp_all[z0m]<;>omega)
 ·skip;refine WL.no (b:=false) rfl rfl rfl rfl rfl rfl ?_;refine WL.no (b:=false) rfl rfl rfl rfl rfl rfl ?_;refine WL.no (b:=false) rfl rfl rfl rfl rfl rfl ?_;refine WL.no (b:=false) rfl rfl rfl rfl rfl rfl ?_;refine WL.consV rfl rfl rfl (z1h rfl rfl rfl) ?_;refine WL.consV rfl rfl rfl (z2o rfl rfl) ?_;refine WL.no (b:=false) rfl rfl rfl rfl rfl rfl ?_;refine WL.no (b:=false) rfl rfl rfl rfl rfl rfl ?_;refine WL.no (b:=false) rfl rfl rfl rfl rfl rfl ?_;refine WL.no (b:=false) rfl rfl rfl rfl rfl rfl ?_;refine WL.consV rfl rfl rfl (z1h rfl rfl rfl) ?_;refine WL.consV rfl rfl rfl (z2o rfl rfl) ?_;refine WL.no (b:=false) rfl rfl rfl rfl rfl rfl ?_;refine WL.no (b:=false) rfl rfl rfl rfl rfl rfl ?_;refine WL.no (b:=false) rfl rfl rfl rfl rfl rfl ?_;refine WL.consV rfl rfl rfl (z1h rfl rfl rfl) ?_;refine WL.consV rfl rfl rfl (z2o rfl rfl) ?_;refine WL.no (b:=false) rfl rfl rfl rfl rfl rfl ?_;refine WL.no (b:=false) rfl rfl rfl rfl rfl rfl ?_;refine WL.no (b:=false) rfl rfl rfl rfl rfl rfl ?_;refine WL.consV rfl rfl rfl (z1h rfl rfl rfl) ?_;refine WL.consV rfl rfl rfl (z3u rfl rfl) ?_;refine WL.nil ?_;refine tRt ?_;refine rOk rfl ?_ nPo;refine Aa (λb=>iBool b) ?_
  first
  |(simp_all[z0m];done)
  |(simp_all[z0m]<;>omega)
theorem y1t(t:Int):SC Tryz.prog 151 [.pv (.val (.int .i64 t))] [] (λk=>k∈[]) (iBool (rTy t)) []:=by
 refine SC.vc tb {} [] Tryz.func151 rfl rfl ?_;unfold rTy;exact z00 (λh=>⟨sE (by rw[h];rfl),Gd⟩) λh=>⟨sE (by rw[h];rfl),Gd⟩
theorem y4c(k:Int)(nm:ByteArray)(hn:nm.toList=[]):SC Tryz.prog 253 [.pv (.agg [vInt k,vInt 0,vInt 0,vStr nm,.val (.slice none 0 0)])] [] (λk=>k∈[]) (iBool true) []:=by
 refine SC.vc tb {} [] Tryz.func253 rfl rfl ?_;exact z00 (λ_=>⟨sI,Gd⟩) λh=>absurd h (by simp[hn])
theorem y3p{k o n:Int}{nm:ByteArray}{len:Nat}(h:rOwn k o n nm len=true) :
 (k=1/\o=0/\0<=n/\nm.toList=[]/\len=0)∨(k=2/\o=0/\(n=0∨n=1)/\nm.toList=[]/\len=0)∨(k=3/\o=0/\n=0/\z0m nm=true/\len=0)∨(k=4/\z2u o=true/\n=0/\nm.toList=[]/\len=1) ∨
 (k=5/\z4j o > 0/\n=0/\nm.toList=[]/\len=2)∨(k=6/\o=0/\n=0/\z0m nm=true/\len=1)∨(k=7/\o=0/\n=0/\z0m nm=true/\len<=8)∨(k=8/\o=0/\n=0/\nm.toList=[]/\len=0):=by
 unfold rOwn at h;split at h
 ·rename_i e;simp at h;exact .inl ⟨e,h.1.1.1,h.1.1.2,by simpa using h.1.2,h.2⟩
 split at h
 ·rename_i e;simp at h;exact .inr (.inl ⟨e,h.1.1.1,h.1.1.2,by simpa using h.1.2,h.2⟩)
 split at h
 ·rename_i e;simp at h;exact .inr (.inr (.inl ⟨e,h.1.1.1,h.1.1.2,h.1.2,h.2⟩))
 split at h
 ·rename_i e;simp at h;exact .inr (.inr (.inr (.inl ⟨e,h.1.1.1,h.1.1.2,by simpa using h.1.2,h.2⟩)))
 split at h
 ·rename_i e;simp at h;exact .inr (.inr (.inr (.inr (.inl ⟨e,h.1.1.1,h.1.1.2,by simpa using h.1.2,h.2⟩))))
 split at h
 ·rename_i e;simp at h;exact .inr (.inr (.inr (.inr (.inr (.inl ⟨e,h.1.1.1,h.1.1.2,h.1.2,h.2⟩)))))
 split at h
 ·rename_i e;simp at h;exact .inr (.inr (.inr (.inr (.inr (.inr (.inl ⟨e,h.1.1.1,h.1.1.2,h.1.2,h.2⟩))))))
 split at h
 ·rename_i e;simp at h;exact .inr (.inr (.inr (.inr (.inr (.inr (.inr ⟨e,h.1.1.1,h.1.1.2,by simpa using h.1.2,h.2⟩))))))
 ·cases h
theorem sc_trOwn(k o n:Int)(nm:ByteArray)(args:List Ex)(h:rOwn k o n nm args.length=true):SC Tryz.prog 240 [.pv (.agg [vInt k,vInt o,vInt n,vStr nm,exs args])] [] (λk=>k∈[]) (.tup [iInt args.length,iBool true]) []:=by
 refine SC.vc tb { pb:=[101] } [] Tryz.func240 rfl rfl ?_;have hb:=λk h=>y4c k nm h;have hb0:=λk=>y4c k ⟨#[]⟩ sI0;have hN:=z7y nm;rcases y3p h with⟨rfl,rfl,h1,h2,h3⟩|⟨rfl,rfl,h1,h2,h3⟩|⟨rfl,rfl,rfl,h2,h3⟩|⟨rfl,h1,rfl,h2,h3⟩|⟨rfl,h1,rfl,h2,h3⟩|⟨rfl,rfl,rfl,h2,h3⟩|⟨rfl,rfl,rfl,h2,h3⟩|⟨rfl,rfl,rfl,h2,h3⟩
 ·exact z00 (λ_=>⟨[],hb 1 h2,sR,Gd,rfl,sE (by rw[h3];rfl),Gd⟩) λc=>absurd (Ap c) oM0
 ·rcases h1 with rfl|rfl
  iterate 2 ·exact⟨[],hb 2 h2,sR,Gd,rfl,sE (by rw[h3];rfl),Gd⟩
 ·exact⟨[],hN,sR,Gd,rfl,z00 (λ_=>⟨[],hb0 3,sR,Gd,rfl,sE (by rw[h3];rfl),Gd⟩) λc=>by rw[h2]at c;cases c⟩
 ·have h4:20<=o/\o<=28:=by unfold z2u at h1;simpa using h1
  exact z00 (λ_=>z00 (λ_=>⟨[],hb 4 h2,sR,Gd,rfl,sE (by rw[h3];rfl),Gd⟩) λc=>absurd (Ap c) oM0) λc=>absurd (Ap c) oM0
 ·exact⟨[],y8z o,sR,Gd,rfl,z00 (λ_=>⟨[],hb 5 h2,sR,Gd,rfl,sE (by rw[h3];rfl),Gd⟩) λc=>absurd (Ap c) oM0⟩
 ·exact⟨[],hN,sR,Gd,rfl,z00 (λ_=>⟨[],hb0 6,sR,Gd,rfl,sE (by rw[h3];rfl),Gd⟩) λc=>by rw[h2]at c;cases c⟩
 ·exact⟨[],hN,sR,Gd,rfl,z00 (λ_=>⟨[],hb0 7,sR,Gd,rfl,sE (by rw[A6,show decide ((args.length:Int)<=8)=true from C6 oM0]),Gd⟩) λc=>by rw[h2]at c;cases c⟩
 ·exact⟨[],hb 8 h2,sR,Gd,rfl,sE (by rw[h3];rfl),Gd⟩
theorem y5w{x:Ex}{most:Int}:∀{l:List Ex},rxL l most=true->x∈l->2<=most/\rx x (most-1)=true
 |y::r,h,hm=>by
  simp only[rxL,A0,Bf,Cc]at h;rcases Am.1 hm with rfl|hm
  ·exact⟨by omega,h.1.2⟩
  ·exact y5w h.2 hm
theorem zp5{α:Type}{p:α -> Bool}{l:List α}(h:∀x∈l,p x=true):l.any (λx=>!p x)=false:=by
 rw[List.any_eq_false];intro x hx;simp[h x hx]
theorem y8w:∀(N:Nat)(e:Ex),SizeOf.sizeOf e<N->xz e<=1073741824->∀most:Int,1<=most->most<=100->rx e most=true->SC Tryz.prog 215 [.pv (exv e),.pv (.val (.int .i64 most))] [] (λk=>k∈[]) (iBool true) []
 |0,_,h,_,_,_,_,_=>absurd h (Ai _)
 |N+1,.mk k o n nm args,hN,hx,most,h0,h1,hr=>by
  refine SC.vc tb { pb:=[102,103] } [] Tryz.func215 rfl rfl ?_;have hl:=zc5 args;simp only[xz]at hx;rw[rx,A0]at hr;have hc:=yo1 241 [.pv (.ept [vInt most] 0)] rfl (λx=>!rx x (most-1)) args oM0 (λx hm=>by
   obtain⟨g1,g2⟩:=y5w hr.1 hm;have hxx:=zh2 hm;have hsz:SizeOf.sizeOf x<N:=by have:=Bo hm;simp at hN;omega
   refine SC.vc tb { pb:=[102] } [] Tryz.func241 rfl rfl ?_;exact⟨z4b rfl oM0,[],y8w N x hsz oM0 (most-1) oM0 oM0 g2,sR,Gd,rfl,sE (by rw[g2]),Gd⟩)
  rw[zp5 λx hm=>(y5w hr.1 hm).2]at hc;exact⟨[],sc_trOwn k o n nm args hr.2,sR,Gd,rfl,z00 (λ_=>z00 (λ_=>⟨[],hc,sR,Gd,rfl,sI,Gd⟩) λc=>absurd c (by simp[Ex.args])) λc=>absurd (Ap c) oM0⟩
theorem kyQ{d:TypeDesc}{es:List (Value×PV)}(h:(es.all λe=>z1y d e.1)=true):∀e∈es,z1y d e.1=true:=Bg.1 h
theorem sFn{f:Fn}:SubA [.pv (.val (.func f #[] #[]))] [.fn f [] []]:=SubA.cons (λ_ _ _ _ _ h=>sub_func h) SubA.nil
def trV(t n:Bool)(a:Int)(th ot:Bool):PV:=.agg [.val (.bool t),.val (.bool n),vInt a,.val (.bool th),.val (.bool ot)]
def trTab:List (Value×PV):=[(.int .i64 1,trV true true 1 false false),(.int .i64 2,trV false true 1 false false),(.int .i64 3,trV false true 2 false false),(.int .i64 4,trV false false 1 true true),(.int .i64 5,trV false false 1 true false),
 (.int .i64 6,trV false false 0 false false),(.int .i64 7,trV false false 0 false false),(.int .i64 8,trV false false 1 false false),(.int .i64 9,trV false false 1 false false),(.int .i64 10,trV false false 1 false false)]
theorem yf8:SC Tryz.prog 212 [] [] (λk=>k∈[]) (.mp 1) [(1,.map trTab)]:=by
 refine SC.vc tb { ids:=[(3,1)],pb:=[101] } [] Tryz.func212 rfl rfl ?_;exact⟨rfl,kyQ rfl,rfl,kyQ rfl,rfl,kyQ rfl,rfl,kyQ rfl,rfl,kyQ rfl,rfl,kyQ rfl,rfl,kyQ rfl,rfl,kyQ rfl,rfl,kyQ rfl,rfl,kyQ rfl,sI,rfl,Gd⟩
theorem rTy_of{ty:Int}(h:¬ty=1->ty=2):rTy ty=true:=by
 unfold rTy;by_cases e:ty=1
 ·simp[e]
 ·simp[h e]
theorem zn0{k ty:Int}{nm:ByteArray}{args:List Ex}{thn els:List St}{most:Int}(h:yt7 k ty nm args.length most=false)(ht:j25 k args thn.length els.length=false) :
 1<=most/\((k=1/\rTy ty=true/\z0m nm=true/\(∃e,args=[e])/\thn=[]/\els=[])∨(k=2/\ty=0/\z0m nm=true/\(∃e,args=[e])/\thn=[]/\els=[])∨(k=3/\ty=0/\z0m nm=true/\(∃e e2,args=[e,e2])/\thn=[]/\els=[]) ∨
  (k=4/\ty=0/\nm.toList=[]/\(∃e,args=[e]))∨(k=5/\ty=0/\nm.toList=[]/\(∃e,args=[e])/\els=[])∨(k=6/\ty=0/\nm.toList=[]/\args=[]/\thn=[]/\els=[])∨(k=7/\ty=0/\nm.toList=[]/\args=[]/\thn=[]/\els=[]) ∨
  (k=8/\ty=0/\nm.toList=[]/\(∃e,args=[e])/\thn=[]/\els=[])∨(k=9/\ty=0/\nm.toList=[]/\(∃e,args=[e])/\thn=[]/\els=[])∨(k=10/\ty=0/\nm.toList=[]/\(∃e,args=[e]/\e.kind=7)/\thn=[]/\els=[])):=by
 unfold yt7 at h;unfold j25 at ht;simp only[Bm]at h ht;obtain⟨⟨⟨⟨⟨h1,h2⟩,h3⟩,h4⟩,h5⟩,h6⟩:=h;obtain⟨⟨t1,t2⟩,t3⟩:=ht;refine⟨by have:=Ap h1;omega,?_⟩;have l0:∀l:List St,decide (0<l.length)=false->l=[]:=λl hl=>by have:=Ap hl;exact List.length_eq_zero_iff.1 oM0
 have a1:(args.length:Int)=1->∃e,args=[e]:=λha=>Ci.1 oM0;have a2:(args.length:Int)=2->∃e e2,args=[e,e2]:=λha=>by
  match args,ha with
  |[x,y],_=>exact⟨x,y,rfl⟩
  |[],ha=>simp at ha
  |[x],ha=>simp at ha
  |x::y::z::r,ha=>simp at ha;omega
 have hcase:k=1∨k=2∨k=3∨k=4∨k=5∨k=6∨k=7∨k=8∨k=9∨k=10∨(k≠1/\k≠2/\k≠3/\k≠4/\k≠5/\k≠6/\k≠7/\k≠8/\k≠9/\k≠10):=by omega
 rcases hcase with rfl|rfl|rfl|rfl|rfl|rfl|rfl|rfl|rfl|rfl|hk
 ·exact .inl ⟨rfl,rTy_of (by simpa[shp]using h3),by simpa[shp]using h5,a1 (by simpa[shp]using h2),l0 _ (by simpa[shp]using t2),l0 _ (by simpa[shp]using t3)⟩
 ·exact .inr (.inl ⟨rfl,by simpa[shp]using h4,by simpa[shp]using h5,a1 (by simpa[shp]using h2),l0 _ (by simpa[shp]using t2),l0 _ (by simpa[shp]using t3)⟩)
 ·exact .inr (.inr (.inl ⟨rfl,by simpa[shp]using h4,by simpa[shp]using h5,a2 (by simpa[shp]using h2),l0 _ (by simpa[shp]using t2),l0 _ (by simpa[shp]using t3)⟩))
 ·exact .inr (.inr (.inr (.inl ⟨rfl,by simpa[shp]using h4,by simpa[shp]using h6,a1 (by simpa[shp]using h2)⟩)))
 ·exact .inr (.inr (.inr (.inr (.inl ⟨rfl,by simpa[shp]using h4,by simpa[shp]using h6,a1 (by simpa[shp]using h2),l0 _ (by simpa[shp]using t3)⟩))))
 ·exact .inr (.inr (.inr (.inr (.inr (.inl ⟨rfl,by simpa[shp]using h4,by simpa[shp]using h6,by simpa[shp]using h2,l0 _ (by simpa[shp]using t2),l0 _ (by simpa[shp]using t3)⟩)))))
 ·exact .inr (.inr (.inr (.inr (.inr (.inr (.inl ⟨rfl,by simpa[shp]using h4,by simpa[shp]using h6,by simpa[shp]using h2,l0 _ (by simpa[shp]using t2),l0 _ (by simpa[shp]using t3)⟩))))))
 ·exact .inr (.inr (.inr (.inr (.inr (.inr (.inr (.inl ⟨rfl,by simpa[shp]using h4,by simpa[shp]using h6,a1 (by simpa[shp]using h2),l0 _ (by simpa[shp]using t2),l0 _ (by simpa[shp]using t3)⟩)))))))
 ·exact .inr (.inr (.inr (.inr (.inr (.inr (.inr (.inr (.inl ⟨rfl,by simpa[shp]using h4,by simpa[shp]using h6,a1 (by simpa[shp]using h2),l0 _ (by simpa[shp]using t2),l0 _ (by simpa[shp]using t3)⟩))))))))
 ·obtain⟨e,rfl⟩:=a1 (by simpa[shp]using h2);exact .inr (.inr (.inr (.inr (.inr (.inr (.inr (.inr (.inr ⟨rfl,by simpa[shp]using h4,by simpa[shp]using h6,⟨e,rfl,by simpa using t1⟩,l0 _ (by simpa[shp]using t2),l0 _ (by simpa[shp]using t3)⟩))))))))
 ·exfalso;have hs:shp k=(false,false,-1,false,false):=by
   unfold shp;rw[if_neg oM0,if_neg oM0,if_neg oM0,if_neg oM0,if_neg oM0,if_neg oM0,if_neg oM0]
  rw[hs]at h2;simp at h2
  try omega
theorem sc_trNot(e:Ex)(hx:xz e<=1073741824)(hr:rx e 100=true):SC Tryz.prog 214 [.pv (exv e)] [] (λk=>k∈[]) (iBool (!rx e 100)) []:=by
 refine SC.vc tb { pb:=[101] } [] Tryz.func214 rfl rfl ?_;exact⟨[],y8w _ e (A7 _) hx 100 dC0 dC0 hr,sR,Gd,rfl,sE (by rw[hr]),Gd⟩
theorem y1f{x:St}{most:Int}:∀{l:List St},rsL l most=true->x∈l->rst x most=true
 |y::r,h,hm=>by
  simp only[rsL,A0]at h;rcases Am.1 hm with rfl|hm
  ·exact h.1
  ·exact y1f h.2 hm
theorem j3t(x:St)(hx:sz x<=1073741824)(most:Int)(h0:most<=100)(hr:rst x most=true)
 (ih:∀l:List St,l=x.thn∨l=x.els->1<=most->SC Tryz.prog 153 [.pv (sts l),.pv (.val (.int .i64 (most-1)))] [] (λk=>k∈[]) (iBool true) []) :
 SC Tryz.prog 189 [.pv (stv x),.pv (.val (.int .i64 most))] [] (λk=>k∈[]) (iBool true) []:=by
 refine SC.vc tb { pb:=[102,105] } [] Tryz.func189 rfl rfl ?_;rw[y3w]at hr;simp only[A0,Bf]at hr;obtain⟨⟨⟨⟨r1,r2⟩,r3⟩,_⟩,_⟩:=hr;rw[y2p]at hx;have hl:=zc5 x.args;have hA:=yo1 214 [] rfl (λe=>!rx e 100) x.args oM0 (λe he=>sc_trNot e (by have:=zh2 he;omega) (Bg.1 r2 e he));rw[zp5 λe he=>Bg.1 r2 e he]at hA;obtain⟨h1,hc⟩:=zn0 r1 r3;have i1:=ih x.thn (.inl rfl) h1;have i2:=ih x.els (.inr rfl) h1;have hs:z3i .sub .i64 most 1=some (.int .i64 (most-1)):=z4b rfl oM0;have hN:=z7y x.name;have hT:=y1t x.ty;clear ih r1 r2 r3 hl;obtain⟨k,ty,nm,args,thn,els⟩:=x;simp only[St.kind,St.ty,St.name,St.args,St.thn,St.els]at *
 rcases hc with⟨rfl,t,n,⟨e,rfl⟩,rfl,rfl⟩|⟨rfl,rfl,n,⟨e,rfl⟩,rfl,rfl⟩|⟨rfl,rfl,n,⟨e,e2,rfl⟩,rfl,rfl⟩|⟨rfl,rfl,n,⟨e,rfl⟩⟩|⟨rfl,rfl,n,⟨e,rfl⟩,rfl⟩|⟨rfl,rfl,n,rfl,rfl,rfl⟩|⟨rfl,rfl,n,rfl,rfl,rfl⟩|⟨rfl,rfl,n,⟨e,rfl⟩,rfl,rfl⟩|⟨rfl,rfl,n,⟨e,rfl⟩,rfl,rfl⟩|⟨rfl,rfl,n,⟨e,rfl,e7⟩,rfl,rfl⟩
 all_goals refine⟨[],yf8,sR,Gd,rfl,rfl,kyQ rfl,rfl,z00 (λc=>absurd (Aq c) oM0) λ_=>?_⟩
 ·rw[t]at hT;rw[n]at hN;exact⟨[],hT,sR,Gd,rfl,[],hN,sR,Gd,rfl,[],hA,SubA.same sFn,Gd,rfl,hs,[],i1,sR,Gd,rfl,hs,[],i2,sR,Gd,rfl,sI,Gd⟩
 iterate 2 ·rw[n]at hN;exact⟨[],hN,sR,Gd,rfl,[],hA,SubA.same sFn,Gd,rfl,hs,[],i1,sR,Gd,rfl,hs,[],i2,sR,Gd,rfl,sI,Gd⟩
 iterate 6 exact z00 (λc=>absurd c (by simp[St.name,n])) λ_=>⟨[],hA,SubA.same sFn,Gd,rfl,hs,[],i1,sR,Gd,rfl,hs,[],i2,sR,Gd,rfl,sI,Gd⟩
 ·exact z00 (λc=>absurd c (by simp[St.name,n])) λ_=>⟨z1d (i:=0) rfl,rfl,z00 (λc=>absurd c (by simp[St.name,e7])) λ_=>⟨[],hA,SubA.same sFn,Gd,rfl,hs,[],i1,sR,Gd,rfl,hs,[],i2,sR,Gd,rfl,sI,Gd⟩⟩
theorem zs5:∀(N:Nat)(l:List St),SizeOf.sizeOf l<N->szL l<=1073741824->∀most:Int,0<=most->most<=100->rsL l most=true->SC Tryz.prog 153 [.pv (sts l),.pv (.val (.int .i64 most))] [] (λk=>k∈[]) (iBool true) []
 |0,_,h,_,_,_,_,_=>absurd h (Ai _)
 |N+1,l,hN,hx,most,h0,h1,hr=>by
  refine SC.vc tb { pb:=[103] } [] Tryz.func153 rfl rfl ?_;have hl:=z8m l;have hc:=y61 188 [.pv (.ept [vInt most] 0)] rfl (λx=>!rst x most) l oM0 (λx hm=>by
   have g:=y1f hr hm;have hxx:=zw6 hm;have hsz:SizeOf.sizeOf x.thn<N/\SizeOf.sizeOf x.els<N:=by have:=Bo hm;have:=zs9 x;omega
   have hsz2:szL x.thn<=1073741824/\szL x.els<=1073741824:=by rw[y2p]at hxx;omega
   have g2:=g;rw[y3w]at g2;simp only[A0]at g2;have hS:=j3t x oM0 most h1 g (λq hq h1'=>by
    rcases hq with rfl|rfl
    ·exact zs5 N x.thn hsz.1 hsz2.1 (most-1) oM0 oM0 g2.1.2
    ·exact zs5 N x.els hsz.2 hsz2.2 (most-1) oM0 oM0 g2.2)
   refine SC.vc tb { pb:=[102] } [] Tryz.func188 rfl rfl ?_;exact⟨[],hS,sR,Gd,rfl,sE (by rw[g]),Gd⟩)
  rw[zp5 λx hm=>y1f hr hm]at hc;exact⟨[],hc,sR,Gd,rfl,sI,Gd⟩
theorem yw8(x:Pm):SC Tryz.prog 150 [.pv (.agg x.enc)] [] (λk=>k∈[]) (iBool (!(z0m x.name&&rTy x.ty))) []:=by
 refine SC.vc tb { pb:=[101] } [] Tryz.func150 rfl rfl ?_;exact⟨[],z7y x.name,sR,Gd,rfl,z00 (λc=>⟨sE (Aa iBool (by rw[show z0m x.name=false by simpa using c];rfl)),Gd⟩) λc=>⟨[],y1t x.ty,sR,Gd,rfl,sE (Aa iBool (by rw[show z0m x.name=true by simpa using c];rfl)),Gd⟩⟩
theorem y68(f:Fu)(hx:1+f.params.length+szL f.body<=1073741824)(hr:rFu f=true):SC Tryz.prog 103 [.pv (.agg f.enc)] [] (λk=>k∈[]) (iBool true) []:=by
 refine SC.vc tb { pb:=[101] } [] Tryz.func103 rfl rfl ?_;unfold rFu at hr;simp only[A0]at hr;obtain⟨⟨⟨⟨h1,h2⟩,h3⟩,h4⟩,h5⟩:=hr;have hc:=sc_hasPm 150 [] rfl (λx=>!(z0m x.name&&rTy x.ty)) f.params oM0 (λx _=>yw8 x);rw[zp5 λx hm=>Bg.1 h5 x hm]at hc;have hN:=z7y f.name;rw[h1]at hN;have hT:=y1t f.ty;rw[h2]at hT;have h3:=Aq h3;exact⟨[],hN,sR,Gd,rfl,[],hT,sR,Gd,rfl,z00 (λ_=>⟨[],hc,SubA.same sFn,Gd,rfl,[],zs5 _ f.body (A7 _) oM0 100 dC0 dC0 h4,sR,Gd,rfl,sI,Gd⟩) λc=>absurd (Ap c) (by rw[A6];omega)⟩
theorem yf7(x:Ar):SC Tryz.prog 99 [.pv (.agg x.enc)] [] (λk=>k∈[]) (iBool (!(z0m x.name&&decide (1<=x.size)&&decide (x.size<=1000)))) []:=by
 refine SC.vc tb { pb:=[101] } [] Tryz.func99 rfl rfl ?_;refine⟨[],z7y x.name,sR,Gd,rfl,z00 (λc=>⟨sE (Aa iBool (by rw[show z0m x.name=false by simpa using c];rfl)),Gd⟩) λc=>z00 (λc2=>⟨sE (Aa iBool ?_),Gd⟩) λc2=>⟨sE (Aa iBool ?_),Gd⟩⟩
 ·have:=Aq c2;rw[show decide (1<=x.size)=false from Dh oM0];simp
 ·have:=Ap c2;rw[show z0m x.name=true by simpa using c,show decide (1<=x.size)=true from C6 oM0];simp only[B0]
  by_cases h:x.size<=1000
  ·rw[C6 h,Dh oM0];rfl
  ·rw[Dh h,C6 oM0];rfl
theorem yw9(p:Pg)(hb:pz p.funcs<=1073741824)(ha:p.arrays.length<=1073741824)(hr:rPg p=true):SC Tryz.prog 57 [.pv p.enc] [] (λk=>k∈[]) (iBool true) []:=by
 refine SC.vc tb { pb:=[101] } [] Tryz.func57 rfl rfl ?_;unfold rPg at hr;simp only[A0]at hr;have hl:=zl6 p.funcs;have h1:=sc_hasAr 99 [] rfl (λx=>!(z0m x.name&&decide (1<=x.size)&&decide (x.size<=1000))) p.arrays oM0 (λx _=>yf7 x);rw[zp5 λx hm=>Bg.1 hr.1 x hm]at h1;have h2:=sc_hasFu 102 [] rfl (λx=>!rFu x) p.funcs oM0 (λx hm=>by
  have g:=Bg.1 hr.2 x hm;have g2:=zv5 hm;refine SC.vc tb { pb:=[101] } [] Tryz.func102 rfl rfl ?_;exact⟨[],y68 x oM0 g,sR,Gd,rfl,sE (by rw[g]),Gd⟩)
 rw[zp5 λx hm=>Bg.1 hr.2 x hm]at h2;exact⟨[],h1,SubA.same sFn,Gd,rfl,[],h2,SubA.same sFn,Gd,rfl,sI,Gd⟩
abbrev Sc:Type:=List (ByteArray×Int×Int)
def scV:Sc->PV
 |[]=>.val (.pointer none)
 |(n,t,d)::r=>.ept [vStr n,vInt t,scV r,vInt d] 0
def zb6(name:ByteArray):Sc->Sc
 |[]=>[]
 |(n,t,d)::r=>if !(n.toList==name.toList)then zb6 name r else(n,t,d)::r
def z3m(p:Pg)(name:ByteArray):Int:=idxP (λf:Fu=>f.name.toList==name.toList) p.funcs 0
def j5m(p:Pg)(name:ByteArray):Int:=idxP (λa:Ar=>a.name.toList==name.toList) p.arrays 0
def fu0:Fu:=⟨⟨#[]⟩,0,[],[]⟩
def fuAt(p:Pg)(i:Int):Fu:=p.funcs.getD i.toNat fu0
def zx4(ok:Bool)(e:Int):Int:=if ok then 0 else e
def zw7(op t:Int):Int×Bool :=
 if op=18∨op=19∨op=22 then(2,t==2)else if op=16∨op=17 then(2,true)else if op=12∨op=13∨op=14∨op=15 then(2,t==1)else(1,t==1)
def z8f(p:Pg)(s:Sc)(k:Int)(name:ByteArray)(len:Nat):Int :=
 if k=3 then zx4 (!(zb6 name s).isEmpty) 50 else if k=6 then zx4 (decide (j5m p name≥0)) 50
 else if k=7 then(if z3m p name<0 then 50 else zx4 ((fuAt p (z3m p name)).params.length==len) 51)else 0
def yEq:List Int->List Pm->Bool
 |[],[]=>true
 |t::r,p::q=>t==p.ty&&yEq r q
 |_,_=>false
def scTy:Sc->Int
 |[]=>0
 |(_,t,_)::_=>t
def yz7(p:Pg)(s:Sc)(k op:Int)(name:ByteArray)(l:List Int):Int×Bool :=
 if k=2 then(2,true)else if k=3 then(scTy (zb6 name s),true)else if k=6 then(1,l.getD 0 0==1)else if k=4 then zw7 op (l.getD 0 0)
 else if k=5 then((zw7 op (l.getD 0 0)).1,(zw7 op (l.getD 0 0)).2&&l.getD 0 0==l.getD 1 0)
 else if k=7 then((fuAt p (z3m p name)).ty,yEq l (fuAt p (z3m p name)).params)else(1,true)
mutual
def z5d(p:Pg)(s:Sc):Ex->Int×Int
 |.mk k op _ name args=>if z8f p s k name args.length=0 then
  if (z73 p s args).2=0 then(if (yz7 p s k op name (z73 p s args).1).2 then((yz7 p s k op name (z73 p s args).1).1,0)else(0,51))else(0,(z73 p s args).2)
  else(0,z8f p s k name args.length)
def z73(p:Pg)(s:Sc):List Ex->List Int×Int
 |[]=>([],0)
 |e::r=>if (z5d p s e).2=0 then(if (z73 p s r).2=0 then((z5d p s e).1::(z73 p s r).1,0)else([],(z73 p s r).2))else([],(z5d p s e).2)
end
def ex0:Ex:=.mk 0 0 0 ⟨#[]⟩ []
def ze0(p:Pg)(s:Sc)(e:Ex)(t:Int):Int:=if (z5d p s e).2=0 then zx4 ((z5d p s e).1==t) 51 else(z5d p s e).2
def scDeep:Sc->Int
 |[]=>0
 |(_,_,d)::_=>d
def y9o(p:Pg)(s:Sc)(k ty:Int)(name:ByteArray)(args:List Ex)(depth:Int):Int :=
 if k=1 then(if ze0 p s (args.getD 0 ex0) ty=0 then zx4 ((zb6 name s).isEmpty||decide (scDeep (zb6 name s)<depth)) 50 else ze0 p s (args.getD 0 ex0) ty)
 else if k=2 then(if (zb6 name s).isEmpty then 50 else ze0 p s (args.getD 0 ex0) (scTy (zb6 name s)))
 else if j5m p name<0 then 50
 else if ze0 p s (args.getD 0 ex0) 1=0 then ze0 p s (args.getD 1 ex0) 1 else ze0 p s (args.getD 0 ex0) 1
def zx5(p:Pg)(res:Int)(s:Sc)(k ty:Int)(name:ByteArray)(args:List Ex)(depth:Int)(loop:Bool):Int :=
 if k=4∨k=5 then ze0 p s (args.getD 0 ex0) 2 else if k=8 then ze0 p s (args.getD 0 ex0) res else if k=9 then ze0 p s (args.getD 0 ex0) 1
 else if k=10 then(z5d p s (args.getD 0 ex0)).2 else if k=6∨k=7 then zx4 loop 53 else y9o p s k ty name args depth
def z6u(s:Sc)(k ty:Int)(name:ByteArray)(depth:Int):Sc:=if k=1 then(name,ty,depth)::s else s
mutual
def z2f(p:Pg)(res:Int):List St->Sc->Int->Bool->Nat->Int×Nat
 |[],_,_,_,n=>(0,n)
 |x::r,s,depth,loop,n=>if (yOne p res x s depth loop n).1=0 then z2f p res r (z6u s x.kind x.ty x.name depth) depth loop (yOne p res x s depth loop n).2 else yOne p res x s depth loop n
def yOne(p:Pg)(res:Int):St->Sc->Int->Bool->Nat->Int×Nat
 |.mk k ty name args thn els,s,depth,loop,n=>if zx5 p res s k ty name args depth loop=0 then
  if (z2f p res thn (z6u s k ty name depth) (depth+1) (loop||k==5) (n+1)).1=0 then
   z2f p res els (z6u s k ty name depth) (depth+1) loop (z2f p res thn (z6u s k ty name depth) (depth+1) (loop||k==5) (n+1)).2
  else z2f p res thn (z6u s k ty name depth) (depth+1) (loop||k==5) (n+1)
  else(zx5 p res s k ty name args depth loop,n)
end
mutual
def lvs:List St->Bool
 |[]=>false
 |x::r=>lvS x||lvs r
def lvS:St->Bool
 |.mk k _ _ _ thn els=>k==6||(k==4&&(lvs thn||lvs els))
end
mutual
def ens:List St->Bool
 |[]=>false
 |x::r=>enS x||ens r
def enS:St->Bool
 |.mk k _ _ args thn els=>if k=8 then true else if k=4 then ens thn&&ens els else if k=5 then((args.getD 0 ex0).kind==2&&((args.getD 0 ex0).n==1 && !lvs thn))else false
end
def ySc(l:List Pm):Sc:=l.foldl (λs x=>(x.name,x.ty,0)::s) []
theorem zf2(p:Pg)(name:ByteArray)(hl:p.funcs.length<=1073741824):SC Tryz.prog 104 [.pv p.enc,.pv (.val (.string name))] [] (λk=>k∈[]) (iInt (z3m p name)) []:=by
 refine SC.vc tb { pb:=[102,103] } [] Tryz.func104 rfl rfl ?_;refine⟨[],yo3 154 [.pv (.ept [vStr name] 0)] rfl (λf=>f.name.toList==name.toList) p.funcs oM0 (λx _=>?_),sR,Gd,rfl,sI,Gd⟩;refine SC.vc tb { pb:=[102] } [] Tryz.func154 rfl rfl ?_;exact⟨sI,Gd⟩
theorem y4d(p:Pg)(name:ByteArray)(hl:p.arrays.length<=1073741824):SC Tryz.prog 194 [.pv p.enc,.pv (.val (.string name))] [] (λk=>k∈[]) (iInt (j5m p name)) []:=by
 refine SC.vc tb { pb:=[102,103] } [] Tryz.func194 rfl rfl ?_;refine⟨[],yo2 219 [.pv (.ept [vStr name] 0)] rfl (λf=>f.name.toList==name.toList) p.arrays oM0 (λx _=>?_),sR,Gd,rfl,sI,Gd⟩;refine SC.vc tb { pb:=[102] } [] Tryz.func219 rfl rfl ?_;exact⟨sI,Gd⟩
theorem z5v(ok:Bool)(e:Int):SC Tryz.prog 157 [iBool ok,.pv (.val (.int .i64 e))] [] (λk=>k∈[]) (iInt (zx4 ok e)) []:=by
 refine SC.vc tb {} [] Tryz.func157 rfl rfl ?_;exact z00 (λh=>⟨sE (by rw[h];rfl),Gd⟩) λh=>⟨sE (by rw[h];rfl),Gd⟩
theorem y4e(op t:Int):SC Tryz.prog 216 [.pv (.val (.int .i64 op)),.pv (.val (.int .i64 t))] [] (λk=>k∈[]) (.tup [iInt (zw7 op t).1,iBool (zw7 op t).2]) []:=by
 refine SC.vc tb {} [] Tryz.func216 rfl rfl ?_
 by_cases h:op=18∨op=19∨op=22∨op=16∨op=17∨op=12∨op=13∨op=14∨op=15
 ·rcases h with rfl|rfl|rfl|rfl|rfl|rfl|rfl|rfl|rfl<;>exact⟨sI,Gd⟩
 ·have hT:zw7 op t=(1,t==1):=by
   unfold zw7;rw[if_neg oM0,if_neg oM0,if_neg oM0]
  rw[hT]
  repeat' (first|exact⟨sI,Gd⟩|refine z00 (λg=>absurd (eq_of_beq g) oM0) λ_=>?_)
theorem y8y(s:Sc)(n:ByteArray)(t d:Int):SC Tryz.prog 106 [.pv (scV s),.pv (.agg [vStr n,vInt t]),.pv (.val (.int .i64 d))] [] (λk=>k∈[]) (.pv (scV ((n,t,d)::s))) []:=by
 refine SC.vc tb { pb:=[104,111] } [] Tryz.func106 rfl rfl ?_
 cases s with
 |nil=>exact⟨sI,Gd⟩
 |cons a r=>exact⟨sI,Gd⟩
theorem y1v(name:ByteArray)(s:Sc):SC Tryz.prog 193 [.pv (scV s),.pv (.val (.string name))] [] (λk=>k∈[]) (.pv (scV (zb6 name s))) []:=by
 refine SC.vc tb {} [] Tryz.func193 rfl rfl ?_;refine⟨Sc,λq=>[(0,.pv (scV q))],λ_=>[],λq=>q.length,λq=>zb6 name s=zb6 name q,[],s,rfl,Ge,Gd,?_⟩;intro q hq
 cases q with
 |nil=>exact⟨sE (by rw[hq];rfl),Gd⟩
 |cons a r =>
  obtain⟨n,t,d⟩:=a;refine z00 (λh=>?_) λh=>?_
  ·exact⟨r,A7 _,by rw[hq,zb6,h];rfl,Ge,Gd,rfl,rfl,rfl,rfl⟩
  ·exact⟨sE (by rw[hq,zb6,h];rfl),Gd⟩
theorem yf9(l:List Pm)(hl:l.length<=1073741824):SC Tryz.prog 61 [.pv (pms l)] [] (λk=>k∈[]) (.pv (scV (ySc l))) []:=by
 refine SC.vc tb {} [] Tryz.func61 rfl rfl ?_;refine⟨Nat,λi=>[(7,iInt ((i:Nat):Int)),(2,.pv (scV (ySc (l.take i))))],λ_=>[],λi=>l.length-i,λi=>i<=l.length,[],0,Ab _,Gf,Gd,?_⟩;intro i hi;refine z00 (λhc=>?_) λhc=>?_
 ·have hlt:i<l.length:=z12 (f:=Pm.enc) rfl hc;obtain⟨x,x1,x2,x3,x4⟩:=z0s hlt;have hs:ySc (l.take (i+1))=(x.name,x.ty,0)::ySc (l.take i):=by unfold ySc;rw[x2,Dm];rfl
  exact⟨zv4 x1,rfl,[],y8y (ySc (l.take i)) x.name x.ty 0,sR,Gd,rfl,z01 rfl oM0,i+1,z04 hlt,hlt,⟨rfl,by rw[hs];rfl,Gd⟩,Gd,rfl,rfl,rfl,rfl⟩
 ·have hge:l.length<=i:=z13 (f:=Pm.enc) rfl hc;exact⟨sE (by rw[As hge]),Gd⟩
theorem yx2(t:Int)(x:Pm):SC Tryz.prog 218 [iInt t,.pv (.agg x.enc)] [] (λk=>k∈[]) (iBool (t==x.ty)) []:=by
 refine SC.vc tb { pb:=[103] } [] Tryz.func218 rfl rfl ?_;exact⟨sI,Gd⟩
theorem j5n:∀(l:List Int)(q:List Pm),l.length≠q.length->yEq l q=false
 |[],[],h=>absurd rfl h
 |[],_::_,_=>rfl
 |_::_,[],_=>rfl
 |a::l,b::q,h=>by
  rw[yEq,j5n l q (by simp at h;omega),Dk]
theorem sc_tyEq(l:List Int)(q:List Pm)(hl:l.length<=1073741824):SC Tryz.prog 217 [.pv (ints l),.pv (pms q),.fn (.func 218) [] []] [] (λk=>k∈[]) (iBool (yEq l q)) []:=by
 refine SC.vc tb {} [] Tryz.func217 rfl rfl ?_;refine z00 (λh=>?_) λh=>?_
 ·exact⟨sE (by rw[j5n l q (λe=>by simp[e]at h)]),Gd⟩
 ·have hlen:l.length=q.length:=by
   have h2:=eq_of_beq (show((l.map eInt).length:Int)==((q.map Pm.enc).length:Int) by simpa[bne]using h);simp only[A6]at h2;omega
  refine⟨Nat,λi=>[(17,iInt ((i:Nat):Int))],λ_=>[],λi=>l.length-i,λi=>i<=l.length/\yEq l q=yEq (l.drop i) (q.drop i),[],0,⟨Ab _,rfl⟩,Ge,Gd,?_⟩;rintro i ⟨i1,i2⟩;refine z00 (λhc=>?_) λhc=>?_
  ·have hlt:i<l.length:=z12 (f:=eInt) rfl hc;obtain⟨x,x1,x2,x3,x4⟩:=z0s hlt;obtain⟨y,y1,y2,y3,y4⟩:=z0s (show i<q.length by omega);rw[x3,y3,yEq]at i2;refine⟨z02 (f:=eInt) x1,rfl,zv4 y1,rfl,yx2 x y,sR,Gd,(λk hk=>hk),rfl,rfl,z00 (λc=>?_) λc=>?_⟩
   ·exact⟨sE (Aa iBool (by rw[i2,show(x==y.ty)=false by simpa using c];rfl)),Gd⟩
   ·rw[show(x==y.ty)=true by simpa using c,B0]at i2;exact⟨z01 rfl oM0,i+1,z04 hlt,⟨hlt,i2⟩,Ge,Gd,rfl,rfl,rfl,rfl⟩
  ·have hge:l.length<=i:=z13 (f:=eInt) rfl hc;exact⟨sE (by rw[i2,A8 hge,A8 oM0];rfl),Gd⟩
theorem j0w{α:Type}(p:α -> Bool):∀(l:List α)(j:Int),0<=j->0<=idxP p l j->∃(i:Nat)(x:α),idxP p l j=j+i/\l[i]?=some x/\p x=true
 |[],_,_,h=>absurd h (by simp[idxP])
 |x::r,j,hj,h=>by
  rw[idxP]at h⊢
  by_cases hx:p x=true
  ·exact⟨0,x,by rw[if_pos hx];simp,rfl,hx⟩
  ·rw[if_neg hx]at h⊢;obtain⟨i,y,h1,h2,h3⟩:=j0w p r (j+1) oM0 h;exact⟨i+1,y,by rw[h1];simp;omega,by simpa using h2,h3⟩
theorem zy0{p:Pg}{name:ByteArray}(h:0<=z3m p name):∃i:Nat,z3m p name=i/\p.funcs[i]?=some (fuAt p (z3m p name)):=by
 obtain⟨i,x,h1,h2,_⟩:=j0w _ p.funcs 0 dC0 h;refine⟨i,by unfold z3m;omega,?_⟩;unfold fuAt z3m;rw[h1];simp[h2]
theorem yx3(p:Pg)(s:Sc)(k o n:Int)(nm:ByteArray)(args:List Ex)(hf:p.funcs.length<=1073741824)(ha:p.arrays.length<=1073741824) :
 SC Tryz.prog 190 [.pv p.enc,.pv (scV s),.pv (.agg [vInt k,vInt o,vInt n,vStr nm,exs args])] [] (λk=>k∈[]) (iInt (z8f p s k nm args.length)) []:=by
 refine SC.vc tb { pb:=[103,105] } [] Tryz.func190 rfl rfl ?_;have hF:=y1v nm s;have hP:=zf2 p nm hf;have hA:=y4d p nm ha;have hg:=@zy0 p nm;unfold z8f;generalize zb6 nm s=q at hF;refine z00 (λc=>?_) λc=>z00 (λc2=>?_) λc2=>z00 (λc3=>?_) λc3=>?_
 ·rw[if_pos (eq_of_beq c)]
  cases q with
  |nil=>exact⟨[],hF,sR,Gd,rfl,[],z5v false 50,sR,Gd,rfl,sI,Gd⟩
  |cons a r=>exact⟨[],hF,sR,Gd,rfl,[],z5v true 50,sR,Gd,rfl,sI,Gd⟩
 ·rw[if_neg (Ad.1 c),if_pos (eq_of_beq c2)];exact⟨[],hA,sR,Gd,rfl,[],z5v _ 50,sR,Gd,rfl,sI,Gd⟩
 ·rw[if_neg (Ad.1 c),if_neg (Ad.1 c2),if_pos (eq_of_beq c3)];refine⟨[],hP,sR,Gd,rfl,z00 (λc4=>?_) λc4=>?_⟩
  ·rw[if_pos (Aq c4)];exact⟨sI,Gd⟩
  ·have c4:=Ap c4;rw[if_neg c4];obtain⟨i,h1,h2⟩:=hg oM0;exact⟨zb0 h2,h1,[],z5v _ 51,sR,Gd,rfl,sE (Aa iInt (Aa (λb=>zx4 b 51) (by rw[D3];simp;omega))),Gd⟩
 ·rw[if_neg (Ad.1 c),if_neg (Ad.1 c2),if_neg (Ad.1 c3)];exact⟨sI,Gd⟩
theorem z3o{l:List Int}{i:Nat}(h:i<l.length):l[i]?=some (l.getD i 0):=by
 rw[At,A5 h];rfl
theorem j3v(p:Pg)(s:Sc)(k o n:Int)(nm:ByteArray)(args:List Ex)(l:List Int)(hl:l.length<=1073741824)(hf:p.funcs.length<=1073741824)(h3:k=3->zb6 nm s≠[])(h7:k=7->0<=z3m p nm)(h1:k=4∨k=6->1<=l.length)(h5:k=5->2<=l.length) :
 SC Tryz.prog 192 [.pv p.enc,.pv (scV s),.pv (.agg [vInt k,vInt o,vInt n,vStr nm,exs args]),.pv (ints l)] [] (λk=>k∈[]) (.tup [iInt (yz7 p s k o nm l).1,iBool (yz7 p s k o nm l).2]) []:=by
 refine SC.vc tb { pb:=[104,106,112] } [] Tryz.func192 rfl rfl ?_;have hF:=y1v nm s;unfold yz7;refine z00 (λc=>?_) λc=>z00 (λc2=>?_) λc2=>z00 (λc3=>?_) λc3=>z00 (λc4=>?_) λc4=>z00 (λc5=>?_) λc5=>z00 (λc6=>?_) λc6=>?_
 all_goals try replace c:=Ad.1 c
 all_goals try replace c2:=Ad.1 c2
 all_goals try replace c3:=Ad.1 c3
 all_goals try replace c4:=Ad.1 c4
 all_goals try replace c5:=Ad.1 c5
 all_goals try replace c6:=Ad.1 c6
 ·rw[if_pos (eq_of_beq c)];exact⟨sI,Gd⟩
 ·rw[if_neg c,if_pos (eq_of_beq c2)];have:=h3 (eq_of_beq c2);generalize zb6 nm s=q at hF this
  cases q with
  |nil=>exact absurd rfl this
  |cons a r=>exact⟨[],hF,sR,Gd,rfl,sI,Gd⟩
 ·rw[if_neg c,if_neg c2,if_pos (eq_of_beq c3)];exact⟨z02 (f:=eInt) (z3o (i:=0) (h1 (.inr (eq_of_beq c3)))),rfl,sI,Gd⟩
 ·rw[if_neg c,if_neg c2,if_neg c3,if_pos (eq_of_beq c4)];exact⟨z02 (f:=eInt) (z3o (i:=0) (h1 (.inl (eq_of_beq c4)))),rfl,[],y4e _ _,sR,Gd,rfl,sI,Gd⟩
 ·rw[if_neg c,if_neg c2,if_neg c3,if_neg c4,if_pos (eq_of_beq c5)];have h:=h5 (eq_of_beq c5);have hT:=y4e o (l.getD 0 0);generalize zw7 o (l.getD 0 0)=t at hT;obtain⟨t1,t2⟩:=t;refine⟨z02 (f:=eInt) (z3o (i:=0) oM0),rfl,[],hT,sR,Gd,rfl,?_⟩
  cases t2 with
  |true=>exact⟨z02 (f:=eInt) (z3o (i:=0) oM0),rfl,z02 (f:=eInt) (z3o (i:=1) oM0),rfl,sI,Gd⟩
  |false=>exact⟨sI,Gd⟩
 ·rw[if_neg c,if_neg c2,if_neg c3,if_neg c4,if_neg c5,if_pos (eq_of_beq c6)];obtain⟨i,g1,g2⟩:=zy0 (h7 (eq_of_beq c6));exact⟨[],zf2 p nm hf,sR,Gd,rfl,zb0 g2,g1,[],sc_tyEq l _ hl,SubA.same (SubA.same sFn),Gd,rfl,sI,Gd⟩
 ·rw[if_neg c,if_neg c2,if_neg c3,if_neg c4,if_neg c5,if_neg c6];exact⟨sI,Gd⟩
theorem yi4{p:Pg}{s:Sc}{nm:ByteArray}{len:Nat}(h:z8f p s 3 nm len=0):zb6 nm s≠[]:=λe=>by
 unfold z8f at h;rw[if_pos rfl,e]at h;exact absurd h dC0
theorem y9q{p:Pg}{s:Sc}{nm:ByteArray}{len:Nat}(h:z8f p s 7 nm len=0):0<=z3m p nm/\(fuAt p (z3m p nm)).params.length=len:=by
 unfold z8f at h;rw[if_neg dC0,if_neg dC0,if_pos rfl]at h;split at h
 ·exact absurd h dC0
 ·rename_i g;refine⟨by omega,?_⟩;unfold zx4 at h;split at h
  ·rename_i g2;exact eq_of_beq g2
  ·exact absurd h dC0
theorem y9n(p:Pg)(s:Sc):∀l,(z73 p s l).2=0->(z73 p s l).1.length=l.length
 |[],_=>rfl
 |e::r,h=>by
  rw[z73]at h⊢;split at h
  ·rename_i g;rw[if_pos g];split at h
   ·rename_i g2;rw[if_pos g2];simp[y9n p s r g2]
   ·rename_i g2;exact absurd h g2
  ·rename_i g;exact absurd h g
theorem y4n{p:Pg}{s:Sc}:∀{l:List Ex}{i:Nat}{e:Ex},(∀x∈l.take i,(z5d p s x).2=0)->l.drop i=e::l.drop (i+1)->(z5d p s e).2≠0->z73 p s l=([],(z5d p s e).2)
 |[],i,e,_,h,_=>by simp at h
 |x::r,0,e,_,h,he=>by
  simp only[List.drop_zero,List.cons.injEq]at h
  rw[z73,h.1,if_neg he]
 |x::r,i+1,e,hq,h,he=>by
  have:=y4n (l:=r) (i:=i) (λy hy=>hq y (by simp[hy])) (by simpa using h) he;rw[z73,if_pos (hq x sI0),this,if_neg he]
theorem y9m{p:Pg}{s:Sc}:∀{l:List Ex},(∀x∈l,(z5d p s x).2=0)->z73 p s l=(l.map λx=>(z5d p s x).1,0)
 |[],_=>rfl
 |x::r,hq=>by
  have:=y9m (l:=r) (λy hy=>hq y (by simp[hy]));rw[z73,if_pos (hq x sI0),this];rfl
def fYE(p:Pg)(s:Sc)(e:Ex):Prop:=SC Tryz.prog 156 [.pv p.enc,.pv (scV s),.pv (exv e)] [] (λk=>k∈[]) (.tup [iInt (z5d p s e).1,iInt (z5d p s e).2]) []
theorem j3u(p:Pg)(s:Sc)(k o n:Int)(nm:ByteArray)(args:List Ex)(hl:args.length<=1073741824)(ih:∀x∈args,fYE p s x) :
 SC Tryz.prog 191 [.pv p.enc,.pv (scV s),.pv (.agg [vInt k,vInt o,vInt n,vStr nm,exs args])] [] (λk=>k∈[]) (.tup [.pv (ints (z73 p s args).1),iInt (z73 p s args).2]) []:=by
 refine SC.vc tb { pb:=[103,105,109],gh:=[(1,[.grow 6 1001 3 1]),(9,[.fz 6 1001])] } [] Tryz.func191 rfl rfl ?_;refine⟨Nat,λi=>[(15,iInt ((i:Nat):Int)),(6,.sl 1001 (((args.take i).map λx=>(z5d p s x).1).map eInt).length)],λi=>[(1001,.row ⟨3,1⟩ (((args.take i).map λx=>(z5d p s x).1).map eInt))],λi=>args.length-i,λi=>i<=args.length/\∀x∈args.take i,(z5d p s x).2=0,[],0,⟨Ab _,λx hx=>by simp at hx⟩,Gf,Ge,?_⟩;rintro i ⟨i1,i2⟩;refine z00 (λhc=>?_) λhc=>?_
 ·have hlt:i<args.length:=z12 (f:=Ex.enc) rfl hc;obtain⟨x,x1,x2,x3,x4⟩:=z0s hlt;refine⟨z1d x1,rfl,[],ih x x4,sR,Gd,rfl,z00 (λc=>?_) λc=>?_⟩
  ·have c:(z5d p s x).2≠0:=by simpa using c
   rw[y4n i2 x3 c];exact⟨sT2 sN,Gd⟩
  ·have c:(z5d p s x).2=0:=by simpa using c
   exact⟨rfl,z3y rfl,by simp;omega,z01 rfl oM0,i+1,z04 hlt,⟨hlt,λy hy=>by rw[x2]at hy;rcases Aw.1 hy with g|g;exact i2 y g;rw[Ag.1 g];exact c⟩,⟨rfl,slq (by simp;omega),Gd⟩,⟨rwq (by rw[x2];simp[eInt]),Gd⟩,rfl,rfl,rfl,rfl⟩
 ·have hge:args.length<=i:=z13 (f:=Ex.enc) rfl hc;rw[As hge]at i2⊢;rw[y9m i2];exact⟨rfl,sI,Gd⟩
def szP(p:Pg):Prop:=p.funcs.length<=1073741824/\p.arrays.length<=1073741824
theorem y8x(p:Pg)(hp:szP p)(s:Sc):∀(N:Nat)(e:Ex),SizeOf.sizeOf e<N->xz e<=1073741824->∀most,rx e most=true->fYE p s e
 |0,_,h,_,_,_=>absurd h (Ai _)
 |N+1,.mk k o n nm args,hN,hx,most,hr=>by
  have hl:=zc5 args;simp only[xz]at hx;rw[rx,A0]at hr;have hA:=j3u p s k o n nm args oM0 (λx hm=>y8x p hp s N x (by have:=Bo hm;simp at hN;omega) (by have:=zh2 hm;omega) (most-1) (y5w hr.1 hm).2);have hlen:=y9n p s args;refine SC.vc tb { pb:=[103,105] } [] Tryz.func156 rfl rfl ?_;unfold z5d;refine⟨[],yx3 p s k o n nm args hp.1 hp.2,sR,Gd,rfl,z00 (λc=>?_) λc=>?_⟩
  ·have c:¬z8f p s k nm args.length=0:=by simpa using c
   rw[if_neg c];exact⟨sI,Gd⟩
  ·have c:z8f p s k nm args.length=0:=by simpa using c
   rw[if_pos c];generalize z73 p s args=A at hA hlen;obtain⟨a1,a2⟩:=A;dsimp only at hlen⊢;refine⟨[],hA,sR,Gd,rfl,z00 (λc2=>?_) λc2=>?_⟩
   ·have c2:¬a2=0:=by simpa using c2
    rw[if_neg c2];exact⟨sI,Gd⟩
   ·have c2:a2=0:=by simpa using c2
    rw[if_pos c2];have h:=hlen c2;have hcs:=y3p hr.2;have hM:=j3v p s k o n nm args a1 oM0 hp.1 (λe=>by subst e;exact yi4 c) (λe=>by subst e;exact(y9q c).1) (λe=>by omega) (λe=>by omega);generalize yz7 p s k o nm a1=M at hM;obtain⟨m1,m2⟩:=M;refine⟨[],hM,sR,Gd,rfl,z00 (λc3=>?_) λc3=>?_⟩
    ·have c3:m2=false:=by simpa using c3
     subst c3;exact⟨sI,Gd⟩
    ·have c3:m2=true:=by simpa using c3
     subst c3;exact⟨sI,Gd⟩
def fnO(p:Pg)(res:Int)(n:Nat):List (Nat×HO):=[(1,.box [.pv (arrs p.arrays),.pv (fus p.funcs),iInt res,iInt (n:Nat)])]
def fYW(p:Pg)(s:Sc)(e:Ex):Prop:=∀(res:Int)(n:Nat)(t:Int),SC Tryz.prog 155 [.ptr 1 0,.pv (scV s),.pv (exv e),.pv (.val (.int .i64 t))] (fnO p res n) (λk=>k∈[]) (iInt (ze0 p s e t)) (fnO p res n)
theorem j3x(p:Pg)(s:Sc)(e:Ex)(h:fYE p s e):fYW p s e:=by
 intro res n t;refine SC.vc tb { pb:=[106] } [] Tryz.func155 rfl rfl ?_;unfold ze0;unfold fYE at h;generalize z5d p s e=E at h;obtain⟨e1,e2⟩:=E;refine⟨[],h,sR,Gd,rfl,z00 (λc=>?_) λc=>?_⟩
 ·have c:¬e2=0:=by simpa using c
  rw[if_neg c];exact⟨sI,rfl,Gd⟩
 ·have c:e2=0:=by simpa using c
  rw[if_pos c];exact⟨[],z5v _ 51,sR,Gd,rfl,sI,rfl,Gd⟩
theorem yx0(p:Pg)(hp:szP p)(s:Sc)(k ty:Int)(nm:ByteArray)(args:List Ex)(thn els:List St)(depth:Int)(hk:(k=1/\∃e,args=[e])∨(k=2/\∃e,args=[e])∨(k=3/\∃e e2,args=[e,e2]))(hw:∀e∈args,fYW p s e)(res:Int)(n:Nat) :
 SC Tryz.prog 158 [.ptr 1 0,.pv (.agg [vInt k,vInt ty,vStr nm,exs args,sts thn,sts els]),.pv (scV s),.pv (.val (.int .i64 depth))] (fnO p res n) (λk=>k∈[]) (iInt (y9o p s k ty nm args depth)) (fnO p res n):=by
 refine SC.vc tb { pb:=[105] } [] Tryz.func158 rfl rfl ?_;have hF:=y1v nm s;unfold y9o;generalize zb6 nm s=q at hF;rcases hk with⟨rfl,e,rfl⟩|⟨rfl,e,rfl⟩|⟨rfl,e,e2,rfl⟩
 ·rw[if_pos rfl];have W:=hw e sI0 res n ty;have hg:([e].getD 0 ex0)=e:=rfl;rw[hg];refine⟨[],hF,sR,Gd,rfl,z1d (i:=0) rfl,rfl,[],W,sR,Ge,rfl,z00 (λc=>?_) λc=>?_⟩
  ·have c:¬ze0 p s e ty=0:=by simpa using c
   rw[if_neg c];exact⟨sI,rfl,Gd⟩
  ·have c:ze0 p s e ty=0:=by simpa using c
   rw[if_pos c]
   cases q with
   |nil=>exact⟨[],z5v true 50,sR,Gd,rfl,sI,rfl,Gd⟩
   |cons a r=>exact⟨[],z5v _ 50,sR,Gd,rfl,sI,rfl,Gd⟩
 ·rw[if_neg dC0,if_pos rfl]
  cases q with
  |nil=>exact⟨[],hF,sR,Gd,rfl,sI,rfl,Gd⟩
  |cons a r =>
   obtain⟨a1,a2,a3⟩:=a;have W:=hw e sI0 res n a2;exact⟨[],hF,sR,Gd,rfl,z1d (i:=0) rfl,rfl,[],W,sR,Ge,rfl,sI,rfl,Gd⟩
 ·rw[if_neg dC0,if_neg dC0];have W:=hw e sI0 res n 1;have W2:=hw e2 sI0 res n 1;have hg:([e,e2].getD 0 ex0)=e:=rfl;have hg2:([e,e2].getD 1 ex0)=e2:=rfl;rw[hg,hg2];refine⟨[],hF,sR,Gd,rfl,[],y4d p nm hp.2,sR,Gd,rfl,z00 (λc=>?_) λc=>?_⟩
  ·rw[if_pos (Aq c)];exact⟨sI,rfl,Gd⟩
  ·rw[if_neg (Ap c)];refine⟨z1d (i:=0) rfl,rfl,[],W,sR,Ge,rfl,z00 (λc2=>?_) λc2=>?_⟩
   ·have c2:¬ze0 p s e 1=0:=by simpa using c2
    rw[if_neg c2];exact⟨sI,rfl,Gd⟩
   ·have c2:ze0 p s e 1=0:=by simpa using c2
    rw[if_pos c2];exact⟨z1d (i:=1) rfl,rfl,[],W2,sR,Ge,rfl,sI,rfl,Gd⟩
theorem j3w(p:Pg)(hp:szP p)(s:Sc)(x:St)(depth:Int)(loop:Bool)(most:Int)(hr:rst x most=true)(hw:∀e∈x.args,fYE p s e)(res:Int)(n:Nat) :
 SC Tryz.prog 105 [.ptr 1 0,.pv (stv x),.pv (scV s),.pv (.val (.int .i64 depth)),iBool loop] (fnO p res n) (λk=>k∈[]) (iInt (zx5 p res s x.kind x.ty x.name x.args depth loop)) (fnO p res n):=by
 refine SC.vc tb { pb:=[106] } [] Tryz.func105 rfl rfl ?_;rw[y3w]at hr;simp only[A0,Bf]at hr;obtain⟨h1,hc⟩:=zn0 hr.1.1.1.1 hr.1.1.2;have hW:∀e∈x.args,fYW p s e:=λe he=>j3x p s e (hw e he);clear hr;obtain⟨k,ty,nm,args,thn,els⟩:=x;simp only[St.kind,St.ty,St.name,St.args,St.thn,St.els]at *
 have hB:=λhk=>yx0 p hp s k ty nm args thn els depth hk hW res n;unfold zx5;rcases hc with⟨rfl,t,nn,⟨e,rfl⟩,rfl,rfl⟩|⟨rfl,rfl,nn,⟨e,rfl⟩,rfl,rfl⟩|⟨rfl,rfl,nn,⟨e,e2,rfl⟩,rfl,rfl⟩|⟨rfl,rfl,nn,⟨e,rfl⟩⟩|⟨rfl,rfl,nn,⟨e,rfl⟩,rfl⟩|⟨rfl,rfl,nn,rfl,rfl,rfl⟩|⟨rfl,rfl,nn,rfl,rfl,rfl⟩|⟨rfl,rfl,nn,⟨e,rfl⟩,rfl,rfl⟩|⟨rfl,rfl,nn,⟨e,rfl⟩,rfl,rfl⟩|⟨rfl,rfl,nn,⟨e,rfl,e7⟩,rfl,rfl⟩
 ·exact⟨[],hB (.inl ⟨rfl,e,rfl⟩),sR,Ge,rfl,sI,rfl,Gd⟩
 ·exact⟨[],hB (.inr (.inl ⟨rfl,e,rfl⟩)),sR,Ge,rfl,sI,rfl,Gd⟩
 ·exact⟨[],hB (.inr (.inr ⟨rfl,e,e2,rfl⟩)),sR,Ge,rfl,sI,rfl,Gd⟩
 iterate 2 exact⟨z1d (i:=0) rfl,rfl,[],hW e sI0 res n 2,sR,Ge,rfl,sI,rfl,Gd⟩
 iterate 2 exact⟨[],z5v loop 53,sR,Gd,rfl,sI,rfl,Gd⟩
 ·exact⟨z1d (i:=0) rfl,rfl,[],hW e sI0 res n res,sR,Ge,rfl,sI,rfl,Gd⟩
 ·exact⟨z1d (i:=0) rfl,rfl,[],hW e sI0 res n 1,sR,Ge,rfl,sI,rfl,Gd⟩
 ·have hE:=hw e sI0;exact⟨z1d (i:=0) rfl,rfl,[],hE,sR,Gd,rfl,sI,rfl,Gd⟩
theorem j5p(p:Pg)(res:Int)(x:St)(s:Sc)(depth:Int)(loop:Bool)(n:Nat):yOne p res x s depth loop n=if zx5 p res s x.kind x.ty x.name x.args depth loop=0 then
 if (z2f p res x.thn (z6u s x.kind x.ty x.name depth) (depth+1) (loop||x.kind==5) (n+1)).1=0 then
  z2f p res x.els (z6u s x.kind x.ty x.name depth) (depth+1) loop (z2f p res x.thn (z6u s x.kind x.ty x.name depth) (depth+1) (loop||x.kind==5) (n+1)).2
 else z2f p res x.thn (z6u s x.kind x.ty x.name depth) (depth+1) (loop||x.kind==5) (n+1)
 else(zx5 p res s x.kind x.ty x.name x.args depth loop,n):=by
 cases x;rw[yOne];rfl
theorem zp3(p:Pg)(res:Int):∀(N:Nat)(l:List St),SizeOf.sizeOf l<N->∀(s:Sc)(depth:Int)(loop:Bool)(n:Nat),(z2f p res l s depth loop n).2<=n+szL l
 |0,_,h,_,_,_,_=>absurd h (Ai _)
 |N+1,[],_,s,depth,loop,n=>by rw[z2f];simp[szL]
 |N+1,x::r,hN,s,depth,loop,n=>by
  have hx:=zs9 x;simp at hN;have h1:(yOne p res x s depth loop n).2<=n+sz x:=by
   rw[j5p,y2p];have a1:=zp3 p res N x.thn oM0 (z6u s x.kind x.ty x.name depth) (depth+1) (loop||x.kind==5) (n+1);have a2:=λm=>zp3 p res N x.els oM0 (z6u s x.kind x.ty x.name depth) (depth+1) loop m;split
   ·split
    ·have:=a2 (z2f p res x.thn (z6u s x.kind x.ty x.name depth) (depth+1) (loop||x.kind==5) (n+1)).2;omega
    ·omega
   ·dsimp only;omega
  have h2:=zp3 p res N r oM0 (z6u s x.kind x.ty x.name depth) depth loop (yOne p res x s depth loop n).2;rw[z2f,szL];split
  iterate 2 omega
theorem zs6(p:Pg)(hp:szP p)(res:Int):∀(N:Nat)(l:List St),SizeOf.sizeOf l<N->szL l<=1073741824->∀most,rsL l most=true->∀(s:Sc)(depth:Int)(loop:Bool)(n:Nat),0<=depth->depth+most<=1073741824->0<=most->n+szL l<=1073741824 ->
 SC Tryz.prog 60 [.ptr 1 0,.pv (sts l),.pv (scV s),.pv (.val (.int .i64 depth)),iBool loop] (fnO p res n) (λk=>k∈[]) (iInt (z2f p res l s depth loop n).1) (fnO p res (z2f p res l s depth loop n).2)
 |0,_,h,_,_,_,_,_,_,_,_,_,_,_=>absurd h (Ai _)
 |N+1,l,hN,hx,most,hr,s,depth,loop,n,hd,hd2,hm0,hn=>by
  generalize hR:z2f p res l s depth loop n=R;refine SC.vc tb { pb:=[112],jn:=[10] } [] Tryz.func60 rfl rfl ?_;have hll:=z8m l;refine⟨Nat×Sc×Nat,λa=>[(18,iInt ((a.1:Nat):Int)),(2,.pv (scV a.2.1))],λa=>fnO p res a.2.2,λa=>l.length-a.1,λa=>a.1<=l.length/\R=z2f p res (l.drop a.1) a.2.1 depth loop a.2.2/\a.2.2+szL (l.drop a.1)<=1073741824,[],(0,s,n),⟨Ab _,hR.symm,hn⟩,Gf,Ge,?_⟩;rintro⟨i,q,m⟩ ⟨i1,i2,i3⟩;dsimp only at i1 i2 i3;refine z00 (λhc=>?_) λhc=>?_
  ·have hlt:i<l.length:=z12 (f:=St.enc) rfl hc;obtain⟨x,x1,x2,x3,x4⟩:=z0s hlt;rw[x3,z2f,j5p]at i2;rw[x3,szL]at i3;have hxr:=y1f hr x4;have hxr2:=hxr;rw[y3w]at hxr2;simp only[A0,Bf]at hxr2;have hmost:=(zn0 hxr2.1.1.1.1 hxr2.1.1.2).1;have hsz:=zw6 x4;have hsz2:=y2p x;have hso:=zs9 x;have hmem:=Bo x4;have hE:∀e∈x.args,fYE p q e:=λe he=>y8x p hp q _ e (A7 _) (by have:=zh2 he;omega) 100 (Bg.1 hxr2.1.1.1.2 e he);have hS:=j3w p hp q x depth loop most hxr hE res m;refine⟨zk0 x1,rfl,?_⟩;generalize zx5 p res q x.kind x.ty x.name x.args depth loop=e0 at hS i2;refine⟨[],hS,sR,Ge,rfl,z00 (λc=>?_) λc=>?_⟩
   ·have c:¬e0=0:=by simpa using c
    rw[if_neg c,if_neg c]at i2;subst i2;exact⟨sI,rfl,Gd⟩
   ·have c:e0=0:=by simpa using c
    rw[if_pos c]at i2;refine⟨z01 (z:=((m+1:Nat):Int)) oM0 oM0,Unit,λ_=>[(2,.pv (scV (z6u q x.kind x.ty x.name depth)))],λ_=>[],λ_=>True,[],?_,?_⟩
    ·refine z00 (λk1=>?_) λk1=>?_
     ·exact⟨[],y8y q x.name x.ty depth,sR,Gd,rfl,(),Gd,⟨by unfold z6u;rw[if_pos (eq_of_beq k1)];rfl,Gd⟩,Gd,rfl,rfl,rfl,rfl⟩
     ·exact⟨(),Gd,⟨by unfold z6u;rw[if_neg (Ad.1 k1)];rfl,Gd⟩,Gd,rfl,rfl,rfl,rfl⟩
    ·rintro _ _;generalize z6u q x.kind x.ty x.name depth=q2 at i2;have b1:=zs6 p hp res N x.thn oM0 oM0 (most-1) hxr2.1.2 q2 (depth+1) (loop||x.kind==5) (m+1) oM0 oM0 oM0 oM0;have n1:=zp3 p res _ x.thn (A7 _) q2 (depth+1) (loop||x.kind==5) (m+1);generalize z2f p res x.thn q2 (depth+1) (loop||x.kind==5) (m+1)=B1 at b1 n1 i2;obtain⟨e1,m1⟩:=B1;dsimp only at b1 n1 i2;have b2:=zs6 p hp res N x.els oM0 oM0 (most-1) hxr2.2 q2 (depth+1) loop m1 oM0 oM0 oM0 oM0;have n2:=zp3 p res _ x.els (A7 _) q2 (depth+1) loop m1;generalize z2f p res x.els q2 (depth+1) loop m1=B2 at b2 n2 i2;obtain⟨e2,m2⟩:=B2;dsimp only at b2 n2 i2;have hdp:z3i .add .i64 depth 1=some (.int .i64 (depth+1)):=z01 rfl oM0;clear hS hE hR;refine⟨hdp,z00 (λk5=>?_) λk5=>?_⟩
     all_goals
      subst k5;refine⟨[],b1,sR,Ge,rfl,z00 (λc1=>?_) λc1=>?_⟩
      ·have c1:¬e1=0:=by simpa using c1
       rw[if_neg c1,if_neg c1]at i2;subst i2;exact⟨sI,rfl,Gd⟩
      ·have c1:e1=0:=by simpa using c1
       rw[if_pos c1]at i2;refine⟨hdp,[],b2,sR,Ge,rfl,z00 (λc2=>?_) λc2=>?_⟩
       ·have c2:¬e2=0:=by simpa using c2
        rw[if_neg c2]at i2;subst i2;exact⟨sI,rfl,Gd⟩
       ·have c2:e2=0:=by simpa using c2
        rw[if_pos c2]at i2;exact⟨z01 rfl oM0,(i+1,q2,m2),z04 hlt,⟨hlt,i2,by dsimp only;omega⟩,Gf,Ge,rfl,rfl,rfl,rfl⟩
  ·have hge:l.length<=i:=z13 (f:=St.enc) rfl hc;rw[A8 hge,z2f]at i2;subst i2;exact⟨sI,rfl,Gd⟩
theorem j1b:∀l:List St,lvs l=l.any lvS
 |[]=>by rw[lvs];rfl
 |x::r=>by rw[lvs,j1b r];rfl
theorem j0i:∀l:List St,ens l=l.any enS
 |[]=>by rw[ens];rfl
 |x::r=>by rw[ens,j0i r];rfl
theorem lvS_eq(x:St):lvS x=(x.kind==6||(x.kind==4&&(lvs x.thn||lvs x.els))):=by cases x;rw[lvS];rfl
theorem enS_eq(x:St):enS x=if x.kind=8 then true else if x.kind=4 then ens x.thn&&ens x.els else if x.kind=5 then((x.args.getD 0 ex0).kind==2&&((x.args.getD 0 ex0).n==1 && !lvs x.thn))else false:=by cases x;rw[enS];rfl
theorem zj6:∀(N:Nat)(l:List St),SizeOf.sizeOf l<N->l.length<=1073741824->szL l<=1073741824->SC Tryz.prog 108 [.pv (sts l)] [] (λk=>k∈[]) (iBool (lvs l)) []
 |0,_,h,_,_=>absurd h (Ai _)
 |N+1,l,hN,hl,hz=>by
  have hc:=y61 159 [] rfl lvS l oM0 (λx hm=>by
   have hsz:SizeOf.sizeOf x.thn<N/\SizeOf.sizeOf x.els<N:=by have:=Bo hm;have:=zs9 x;omega
   have h1:=zw6 hm;have h2:=y2p x;have h3:=z8m x.thn;have h4:=z8m x.els;have a1:=zj6 N x.thn hsz.1 oM0 oM0;have a2:=zj6 N x.els hsz.2 oM0 oM0;rw[lvS_eq];refine SC.vc tb { pb:=[101] } [] Tryz.func159 rfl rfl ?_;refine z00 (λc=>?_) λc=>z00 (λc2=>?_) λc2=>?_
   ·have c:(x.kind==6)=true:=c;exact⟨sE (by rw[c];rfl),Gd⟩
   ·have c:(x.kind==6)=false:=c;have c2:(x.kind==4)=true:=c2;rw[c,c2];generalize lvs x.thn=q1 at a1;refine⟨[],a1,sR,Gd,rfl,?_⟩
    cases q1 with
    |true=>exact⟨sI,Gd⟩
    |false=>exact⟨[],a2,sR,Gd,rfl,sI,Gd⟩
   ·have c:(x.kind==6)=false:=c;have c2:(x.kind==4)=false:=c2;exact⟨sE (by rw[c,c2];rfl),Gd⟩)
  rw[<- j1b]at hc;refine SC.vc tb {} [] Tryz.func108 rfl rfl ?_;exact⟨[],hc,SubA.same sFn,Gd,rfl,sI,Gd⟩
theorem y1u:∀(N:Nat)(l:List St),SizeOf.sizeOf l<N->szL l<=1073741824->∀most,rsL l most=true->SC Tryz.prog 62 [.pv (sts l)] [] (λk=>k∈[]) (iBool (ens l)) []
 |0,_,h,_,_,_=>absurd h (Ai _)
 |N+1,l,hN,hz,most,hr=>by
  have hl:=z8m l;have hc:=y61 107 [] rfl enS l oM0 (λx hm=>by
   have hsz:SizeOf.sizeOf x.thn<N/\SizeOf.sizeOf x.els<N:=by have:=Bo hm;have:=zs9 x;omega
   have h1:=zw6 hm;have h2:=y2p x;have h3:=z8m x.thn;have hxr:=y1f hr hm;rw[y3w]at hxr;simp only[A0,Bf]at hxr;have a1:=y1u N x.thn hsz.1 oM0 (most-1) hxr.1.2;have a2:=y1u N x.els hsz.2 oM0 (most-1) hxr.2;have a3:=zj6 _ x.thn (A7 _) oM0 oM0;have hcs:=(zn0 hxr.1.1.1.1 hxr.1.1.2).2;rw[enS_eq];refine SC.vc tb { pb:=[101] } [] Tryz.func107 rfl rfl ?_;refine z00 (λc=>?_) λc=>z00 (λc2=>?_) λc2=>z00 (λc3=>?_) λc3=>?_
   ·have c:x.kind=8:=eq_of_beq c;rw[if_pos c];exact⟨sI,Gd⟩
   ·have c:¬x.kind=8:=Ad.1 c;have c2:x.kind=4:=eq_of_beq c2;rw[if_neg c,if_pos c2];generalize ens x.thn=q1 at a1;refine⟨[],a1,sR,Gd,rfl,?_⟩
    cases q1 with
    |false=>exact⟨sI,Gd⟩
    |true=>exact⟨[],a2,sR,Gd,rfl,sI,Gd⟩
   ·have c:¬x.kind=8:=Ad.1 c;have c2:¬x.kind=4:=Ad.1 c2;have c3:x.kind=5:=eq_of_beq c3;obtain⟨e,he⟩:∃e,x.args=[e]:=by
     rw[c3]at hcs;rcases hcs with h|h|h|h|h|h|h|h|h|h
     iterate 4 exact absurd h.1 dC0
     ·exact h.2.2.2.1
     iterate 5 exact absurd h.1 dC0
    have hg:(x.args.getD 0 ex0)=e:=by rw[he];rfl
    have hx:x.args[0]?=some e:=by rw[he];rfl
    rw[if_neg c,if_neg c2,if_pos c3,hg];refine⟨z1d hx,rfl,z00 (λk1=>?_) λk1=>?_⟩
    ·refine⟨z1d hx,rfl,z00 (λk2=>?_) λk2=>?_⟩
     ·have k1:(e.kind==2)=true:=k1;have k2:(e.n==1)=true:=k2;rw[k1,k2];exact⟨[],a3,sR,Gd,rfl,sI,Gd⟩
     ·have k1:(e.kind==2)=true:=k1;have k2:(e.n==1)=false:=k2;rw[k1,k2];exact⟨sI,Gd⟩
    ·have k1:(e.kind==2)=false:=k1;rw[k1];exact⟨sI,Gd⟩
   ·have c:¬x.kind=8:=Ad.1 c;have c2:¬x.kind=4:=Ad.1 c2;have c3:¬x.kind=5:=Ad.1 c3;rw[if_neg c,if_neg c2,if_neg c3];exact⟨sI,Gd⟩)
  rw[<- j0i]at hc;refine SC.vc tb {} [] Tryz.func62 rfl rfl ?_;exact⟨[],hc,SubA.same sFn,Gd,rfl,sI,Gd⟩
def yd6:ByteArray:=⟨#[109,97,105,110]⟩
def z8h(es:List (Value×PV))(l:List ByteArray):List (Value×PV):=l.foldl (λe s=>bump s e) es
theorem zk4:∀(l:List ByteArray) {es:List (Value×PV)},Cnt es->Cnt (z8h es l)
 |[],_,h=>h
 |s::r,_,h=>zk4 r (h.bump s)
theorem zp6(es:List (Value×PV))(l:List ByteArray)(s:ByteArray):z8h es (l++[s])=bump s (z8h es l):=by unfold z8h;rw[Dm];rfl
theorem zt7{α:Type}(f:α -> ByteArray){l:List α}{i:Nat}{x:α}(h:l.take (i+1)=l.take i++[x]):(l.map f).take (i+1)=(l.map f).take i++[f x]:=by
 rw[<- Ei,h,Cl,Ei];rfl
def y4o(p:Pg):Bool :=
 ((z8h (z8h [] (p.arrays.map Ar.name)) (p.funcs.map Fu.name)).length:Int)==p.arrays.length+p.funcs.length&&(decide (z3m p yd6≥0)&&((fuAt p (z3m p yd6)).ty==1&&(fuAt p (z3m p yd6)).params.length==0))
theorem yx4(p:Pg)(hp:szP p):SC Tryz.prog 58 [.pv p.enc] [] (λk=>k∈[]) (iBool (y4o p)) []:=by
 refine SC.vc tb { pb:=[101] } [] Tryz.func58 rfl rfl ?_;obtain⟨hf,ha⟩:=hp;refine⟨Nat,λi=>[(13,iInt ((i:Nat):Int))],λi=>[(109,.map (z8h [] ((p.arrays.map Ar.name).take i)))],λi=>p.arrays.length-i,λi=>i<=p.arrays.length,[],0,Ab _,Ge,Ge,?_⟩;intro i hi;have hc0:=zk4 ((p.arrays.map Ar.name).take i) (es:=[]) Cnt.nil;refine z00 (λhc=>?_) λhc=>?_
 ·have hlt:i<p.arrays.length:=z12 (f:=Ar.enc) rfl hc;obtain⟨x,x1,x2,x3,x4⟩:=z0s hlt;have hs:=zt7 Ar.name x2;have hs2:z8h [] ((p.arrays.map Ar.name).take (i+1))=bump x.name (z8h [] ((p.arrays.map Ar.name).take i)):=by rw[hs,zp6]
  obtain⟨n,hn⟩:=hc0.find (.string x.name);refine⟨y2s x1,rfl,VAsk.mk (p:=vInt n) (b:=(z1z (.string x.name) (z8h [] ((p.arrays.map Ar.name).take i))).isSome) rfl hc0.1 (Ea hn rfl) ⟨rfl,rfl,hc0.1,z01 rfl oM0,i+1,z04 hlt,hlt,Ge,⟨mpq (by rw[hs2];exact(zh3 hn).symm),Gd⟩,rfl,rfl,rfl,rfl⟩⟩
 ·have hge:p.arrays.length<=i:=z13 (f:=Ar.enc) rfl hc;rw[As (by simpa using hge)]at hc0⊢;have hP:=zf2 p yd6 hf;have hfu:=@zy0 p yd6;unfold y4o;generalize z8h [] (p.arrays.map Ar.name)=e1 at hc0⊢;refine⟨Nat,λi=>[(26,iInt ((i:Nat):Int))],λi=>[(109,.map (z8h e1 ((p.funcs.map Fu.name).take i)))],λi=>p.funcs.length-i,λi=>i<=p.funcs.length,[],0,Ab _,Ge,Ge,?_⟩;intro i hi;have hc1:=zk4 ((p.funcs.map Fu.name).take i) hc0;refine z00 (λhc=>?_) λhc=>?_
  ·have hlt:i<p.funcs.length:=z12 (f:=Fu.enc) rfl hc;obtain⟨x,x1,x2,x3,x4⟩:=z0s hlt;have hs:=zt7 Fu.name x2;have hs2:z8h e1 ((p.funcs.map Fu.name).take (i+1))=bump x.name (z8h e1 ((p.funcs.map Fu.name).take i)):=by rw[hs,zp6]
   obtain⟨n,hn⟩:=hc1.find (.string x.name);refine⟨zb0 x1,rfl,VAsk.mk (p:=vInt n) (b:=(z1z (.string x.name) (z8h e1 ((p.funcs.map Fu.name).take i))).isSome) rfl hc1.1 (Ea hn rfl) ⟨rfl,rfl,hc1.1,z01 rfl oM0,i+1,z04 hlt,hlt,Ge,⟨mpq (by rw[hs2];exact(zh3 hn).symm),Gd⟩,rfl,rfl,rfl,rfl⟩⟩
  ·have hge:p.funcs.length<=i:=z13 (f:=Fu.enc) rfl hc;rw[As (by simpa using hge)];generalize z8h e1 (p.funcs.map Fu.name)=e2;have hadd:z3i .add .i64 ((p.arrays.map Ar.enc).length:Int) ((p.funcs.map Fu.enc).length:Int)=some (.int .i64 ((p.arrays.length:Int)+p.funcs.length)):=z01 sI0 oM0;refine⟨[],hP,sR,Gd,rfl,hadd,z00 (λc1=>?_) λc1=>?_⟩
   ·rw[c1,B0];refine z00 (λc2=>?_) λc2=>?_
    ·obtain⟨j,g1,g2⟩:=hfu (Aq c2);rw[c2,B0];refine⟨zb0 g2,g1,z00 (λc3=>?_) λc3=>?_⟩
     ·have c3:((fuAt p (z3m p yd6)).ty==1)=true:=c3;rw[c3,B0];exact⟨zb0 g2,g1,sE (Aa iBool (by rw[D3];simp)),Gd⟩
     ·have c3:((fuAt p (z3m p yd6)).ty==1)=false:=c3;rw[c3];exact⟨sI,Gd⟩
    ·rw[c2];exact⟨sI,Gd⟩
   ·rw[c1];exact⟨sI,Gd⟩
def j5r(l:List Pm):Bool:=decide (((z8h [] (l.map Pm.name)).length:Int)<l.length)
theorem yx5(l:List Pm)(hl:l.length<=1073741824):SC Tryz.prog 59 [.pv (pms l)] [] (λk=>k∈[]) (iBool (j5r l)) []:=by
 refine SC.vc tb {} [] Tryz.func59 rfl rfl ?_;refine⟨Nat,λi=>[(9,iInt ((i:Nat):Int))],λi=>[(106,.map (z8h [] ((l.map Pm.name).take i)))],λi=>l.length-i,λi=>i<=l.length,[],0,Ab _,Ge,Ge,?_⟩;intro i hi;have hc0:=zk4 ((l.map Pm.name).take i) (es:=[]) Cnt.nil;refine z00 (λhc=>?_) λhc=>?_
 ·have hlt:i<l.length:=z12 (f:=Pm.enc) rfl hc;obtain⟨x,x1,x2,x3,x4⟩:=z0s hlt;have hs:=zt7 Pm.name x2;have hs2:z8h [] ((l.map Pm.name).take (i+1))=bump x.name (z8h [] ((l.map Pm.name).take i)):=by rw[hs,zp6]
  obtain⟨n,hn⟩:=hc0.find (.string x.name);refine⟨zv4 x1,rfl,VAsk.mk (p:=vInt n) (b:=(z1z (.string x.name) (z8h [] ((l.map Pm.name).take i))).isSome) rfl hc0.1 (Ea hn rfl) ⟨rfl,rfl,hc0.1,z01 rfl oM0,i+1,z04 hlt,hlt,Ge,⟨mpq (by rw[hs2];exact(zh3 hn).symm),Gd⟩,rfl,rfl,rfl,rfl⟩⟩
 ·have hge:l.length<=i:=z13 (f:=Pm.enc) rfl hc;rw[As (by simpa using hge)];exact⟨sE (Aa iBool (by unfold j5r;rw[A6])),Gd⟩
def yFun(p:Pg)(f:Fu):Int×Nat :=
 (if (z2f p f.ty f.body (ySc f.params) 1 false 0).1=0/\ens f.body=false then 52 else(z2f p f.ty f.body (ySc f.params) 1 false 0).1,(z2f p f.ty f.body (ySc f.params) 1 false 0).2)
def y9p(p:Pg):List Fu->Nat->Int×Int×Int
 |[],_=>(0,0,0)
 |f::r,i=>if j5r f.params then(50,i,0)else if (yFun p f).1=0 then y9p p r (i+1)else((yFun p f).1,i,(yFun p f).2)
def z8e(p:Pg):Int×Int×Int:=if y4o p then y9p p p.funcs 0 else(50,0,0)
attribute [local irreducible] y4o z2f
theorem yx1(p:Pg)(hb:pz p.funcs<=1000000)(ha:p.arrays.length<=1000000)(hr:rPg p=true):SC Tryz.prog 34 [.pv p.enc] [] (λk=>k∈[]) (.tup [iInt (z8e p).1,.pv (.agg [vInt (z8e p).2.1,vInt (z8e p).2.2])]) []:=by
 refine SC.vc tb { pb:=[101,105],ids:=[(36,1)] } [] Tryz.func34 rfl rfl ?_;have hlp:=zl6 p.funcs;have hP:szP p:=⟨by omega,by omega⟩;have hN:=yx4 p hP;have hR:=yw9 p oM0 oM0 hr;unfold rPg at hr;simp only[A0]at hr;unfold z8e;refine⟨[],hR,sR,Gd,rfl,[],hN,sR,Gd,rfl,z00 (λc=>?_) λc=>?_⟩
 ·rw[show y4o p=false by simpa using c];exact⟨sI,Gd⟩
 ·rw[show y4o p=true by simpa using c,if_pos rfl];generalize hR:y9p p p.funcs 0=R;refine⟨Nat,λi=>[(21,iInt ((i:Nat):Int))],λ_=>[],λi=>p.funcs.length-i,λi=>i<=p.funcs.length/\R=y9p p (p.funcs.drop i) i,[],0,⟨Ab _,hR.symm⟩,Ge,Gd,?_⟩;rintro i ⟨i1,i2⟩;refine z00 (λhc=>?_) λhc=>?_
  ·have hlt:i<p.funcs.length:=z12 (f:=Fu.enc) rfl hc;obtain⟨x,x1,x2,x3,x4⟩:=z0s hlt;have hpz:=zv5 x4;have hrx:=Bg.1 hr.2 x x4;unfold rFu at hrx;simp only[A0]at hrx;rw[x3,y9p]at i2;refine⟨zb0 x1,rfl,[],yx5 x.params oM0,sR,Gd,rfl,z00 (λc1=>?_) λc1=>?_⟩
   ·rw[if_pos c1]at i2;subst i2;exact⟨sI,Gd⟩
   ·rw[if_neg (by rw[c1];decide)]at i2;have hB:=zs6 p hP x.ty _ x.body (A7 _) oM0 100 hrx.1.2 (ySc x.params) 1 false 0 dC0 dC0 dC0 oM0;have hE:=y1u _ x.body (A7 _) oM0 100 hrx.1.2;unfold yFun at i2;generalize z2f p x.ty x.body (ySc x.params) 1 false 0=B at hB i2;obtain⟨b1,b2⟩:=B;dsimp only at hB i2;refine⟨[],yf9 x.params oM0,sR,Gd,rfl,[],hB,sR,Ge,rfl,z00 (λc2=>?_) λc2=>?_⟩
    ·have c2:b1=0:=by simpa using c2
     subst c2;refine⟨[],hE,sR,Gd,rfl,z00 (λc3=>?_) λc3=>?_⟩
     ·rw[show(if (0:Int)=0/\ens x.body=false then(52:Int)else 0)=52 from if_pos ⟨rfl,by simpa using c3⟩,if_neg dC0]at i2;subst i2;exact⟨sI,Gd⟩
     ·have c3:ens x.body=true:=by simpa using c3
      rw[show(if (0:Int)=0/\ens x.body=false then(52:Int)else 0)=0 from if_neg (λh=>by rw[c3]at h;cases h.2),if_pos rfl]at i2;exact⟨z01 rfl oM0,i+1,z04 hlt,⟨hlt,i2⟩,Ge,Gd,rfl,rfl,rfl,rfl⟩
    ·have c2:¬b1=0:=by simpa using c2
     rw[show(if b1=0/\ens x.body=false then(52:Int)else b1)=b1 from if_neg (λh=>c2 h.1),if_neg c2]at i2;subst i2;exact z00 (λ_=>⟨sI,Gd⟩) λh=>absurd h (by simp[c2])
  ·have hge:p.funcs.length<=i:=z13 (f:=Fu.enc) rfl hc;rw[A8 hge,y9p]at i2;subst i2;exact⟨sI,Gd⟩
theorem SC.nilArg{P:Program}{f:FuncId}{xs:List IV}{pre post:List (Nat×HO)}{R:Nat->Prop}{r:IV}(h:∀a cap,cap<=maxLen->SC P f (.pv (.val (.slice a 0 cap))::xs) pre R r post):SC P f (.pv (.seq [])::xs) pre R r post:=by
 intro F ρ w vs hk hr hargs;obtain⟨v,hv,h1⟩:=hargs.2 0 _ rfl
 cases h1 with
 |pv _ _ h1 =>
  cases h1 with
  |seq _ a cap b off u ha hb hl hm hc hr1 =>
   refine h a cap hm F ρ w vs hk hr ⟨hargs.1,λt x hx=>?_⟩
   cases t with
   |zero=>cases hx;exact⟨_,hv,z3b _⟩
   |succ t=>exact hargs.2 (t+1) x hx
theorem ye0:SC Tryz.prog 35 [.pv (.seq [])] [] (λk=>k∈[]) (.pv (.seq [])) []:=by
 refine SC.nilArg λa cap hc=>?_
 cases a with
 |none =>
  refine SC.vc tb { } [] Tryz.func35 rfl rfl ?_
  exact⟨sN,Gd⟩
 |some a =>
  refine SC.give (k:=7) (n:=0) (s:=⟨84,2⟩) (els:=[]) ?_ rfl rfl;refine SC.vc tb { ids:=[(5,7)],ob:=[7],gh:=[(3,[.un 0])] } [] Tryz.func35 rfl rfl ?_;exact⟨hc,rfl,(λel h=>absurd h (C5)),by decide,sI,rfl,Gd⟩
theorem yv4(l:List Ar)(hne:l≠[])(hl:l.length<=1073741824):SC Tryz.prog 35 [.pv (arrs l)] [] (λk=>k∈[]) (.sl 7 (l.map Ar.enc).length) [(7,.row ⟨84,2⟩ (l.map Ar.enc))]:=by
 obtain⟨x,r,rfl⟩:=Ca hne;refine SC.vc tb { ids:=[(5,7)],ob:=[7] } [] Tryz.func35 rfl rfl ?_;exact⟨rfl,zk7 λy _=>⟨rfl,Bg.1 (show y.enc.all PV.one=true from rfl)⟩,by simp at hl⊢;omega,sE (by rw[Bu];rfl),rfl,Gd⟩
theorem ye2:SC Tryz.prog 64 [.pv (.seq [])] [] (λk=>k∈[]) (.pv (.seq [])) []:=by
 refine SC.nilArg λa cap hc=>?_
 cases a with
 |none =>
  refine SC.vc tb { } [] Tryz.func64 rfl rfl ?_
  exact⟨sN,Gd⟩
 |some a =>
  refine SC.give (k:=7) (n:=0) (s:=⟨102,2⟩) (els:=[]) ?_ rfl rfl;refine SC.vc tb { ids:=[(5,7)],ob:=[7],gh:=[(3,[.un 0])] } [] Tryz.func64 rfl rfl ?_;exact⟨hc,rfl,(λel h=>absurd h (C5)),by decide,sI,rfl,Gd⟩
theorem yv6(l:List Pm)(hne:l≠[])(hl:l.length<=1073741824):SC Tryz.prog 64 [.pv (pms l)] [] (λk=>k∈[]) (.sl 7 (l.map Pm.enc).length) [(7,.row ⟨102,2⟩ (l.map Pm.enc))]:=by
 obtain⟨x,r,rfl⟩:=Ca hne;refine SC.vc tb { ids:=[(5,7)],ob:=[7] } [] Tryz.func64 rfl rfl ?_;exact⟨rfl,zk7 λy _=>⟨rfl,Bg.1 (show y.enc.all PV.one=true from rfl)⟩,by simp at hl⊢;omega,sE (by rw[Bu];rfl),rfl,Gd⟩
theorem ye3:SC Tryz.prog 112 [.pv (.seq [])] [] (λk=>k∈[]) (.pv (.seq [])) []:=by
 refine SC.nilArg λa cap hc=>?_
 cases a with
 |none =>
  refine SC.vc tb { } [] Tryz.func112 rfl rfl ?_
  exact⟨sN,Gd⟩
 |some a =>
  refine SC.give (k:=7) (n:=0) (s:=⟨149,6⟩) (els:=[]) ?_ rfl rfl;refine SC.vc tb { ids:=[(5,7)],ob:=[7],gh:=[(3,[.un 0])] } [] Tryz.func112 rfl rfl ?_;exact⟨hc,rfl,(λel h=>absurd h (C5)),by decide,sI,rfl,Gd⟩
theorem yv7(l:List St)(hne:l≠[])(hl:l.length<=1073741824):SC Tryz.prog 112 [.pv (sts l)] [] (λk=>k∈[]) (.sl 7 (l.map St.enc).length) [(7,.row ⟨149,6⟩ (l.map St.enc))]:=by
 obtain⟨x,r,rfl⟩:=Ca hne;refine SC.vc tb { ids:=[(5,7)],ob:=[7] } [] Tryz.func112 rfl rfl ?_;exact⟨rfl,zk7 λy _=>⟨by rw[St.enc_eq];rfl,Bg.1 (show y.enc.all PV.one=true by rw[St.enc_eq];rfl)⟩,by simp at hl⊢;omega,sE (by rw[Bu];rfl),rfl,Gd⟩
theorem ye1:SC Tryz.prog 161 [.pv (.seq [])] [] (λk=>k∈[]) (.pv (.seq [])) []:=by
 refine SC.nilArg λa cap hc=>?_
 cases a with
 |none =>
  refine SC.vc tb { } [] Tryz.func161 rfl rfl ?_
  exact⟨sN,Gd⟩
 |some a =>
  refine SC.give (k:=7) (n:=0) (s:=⟨187,5⟩) (els:=[]) ?_ rfl rfl;refine SC.vc tb { ids:=[(5,7)],ob:=[7],gh:=[(3,[.un 0])] } [] Tryz.func161 rfl rfl ?_;exact⟨hc,rfl,(λel h=>absurd h (C5)),by decide,sI,rfl,Gd⟩
theorem yv5(l:List Ex)(hne:l≠[])(hl:l.length<=1073741824):SC Tryz.prog 161 [.pv (exs l)] [] (λk=>k∈[]) (.sl 7 (l.map Ex.enc).length) [(7,.row ⟨187,5⟩ (l.map Ex.enc))]:=by
 obtain⟨x,r,rfl⟩:=Ca hne;refine SC.vc tb { ids:=[(5,7)],ob:=[7] } [] Tryz.func161 rfl rfl ?_;exact⟨rfl,zk7 λy _=>⟨by rw[Ex.enc_eq];rfl,Bg.1 (show y.enc.all PV.one=true by rw[Ex.enc_eq];rfl)⟩,by simp at hl⊢;omega,sE (by rw[Bu];rfl),rfl,Gd⟩
set_option maxRecDepth 100000 in
set_option maxHeartbeats 4000000 in
theorem y6x(b:Nat)(r:Array MapEntry)(ck:Nat)(w:World)(hb:w.heap[b]?=some (.map r ck)) :
 Calls Tryz.prog 111 #[.map (some b)] w λe w'=>e=.returned (.map (some w.heap.size))/\w'=w.alloc (.map r ck):=by
 have hq:=λw=>run_eql_map_nil_sl (P:=Tryz.prog) w 141 _ _ (some b) Tryz.underlying141
 go_enter Tryz.func111,Tryz.ntmps111
 go_wp2
 rw[run_callFunc_extern Tryz.func142 kR0 kR0 kR0 (e:=Extern.MapsClone.clone) kR0,run_maps_clone_sl w 141 hb];simp only[Result.andThen];rw[Co]
 go_wp2
 rw[run_typeAssert_map_sl _ 141 20 _ _ _ Tryz.underlying141];simp only[Result.andThen];rw[Co]
 go_wp2
 go_ret
 exact⟨rfl,rfl⟩
set_option maxRecDepth 100000 in
set_option maxHeartbeats 4000000 in
theorem y6y(b:Nat)(r:Array MapEntry)(ck:Nat)(w:World)(hb:w.heap[b]?=some (.map r ck)) :
 Calls Tryz.prog 199 #[.map (some b)] w λe w'=>e=.returned (.map (some w.heap.size))/\w'=w.alloc (.map r ck):=by
 have hq:=λw=>run_eql_map_nil_sl (P:=Tryz.prog) w 98 _ _ (some b) Tryz.underlying98
 go_enter Tryz.func199,Tryz.ntmps199
 go_wp2
 rw[run_callFunc_extern Tryz.func142 kR0 kR0 kR0 (e:=Extern.MapsClone.clone) kR0,run_maps_clone_sl w 98 hb];simp only[Result.andThen];rw[Co]
 go_wp2
 rw[run_typeAssert_map_sl _ 98 20 _ _ _ Tryz.underlying98];simp only[Result.andThen];rw[Co]
 go_wp2
 go_ret
 exact⟨rfl,rfl⟩
theorem SC.clone{P:Program}{f:FuncId}{es:List (Value×PV)}(hcl:∀(b:Nat)(r:Array MapEntry)(ck:Nat)(w:World),w.heap[b]?=some (.map r ck)->Calls P f #[.map (some b)] w λe w'=>e=.returned (.map (some w.heap.size))/\w'=w.alloc (.map r ck)) :
 SC P f [.mp 1] [(1,.map es)] (λk=>k∈[1]) (.mp 8) [(8,.map es),(1,.map es)]:=by
 intro F ρ w vs hkept hrel hargs;have ha:All ⟨F,λk=>k∈[1],ρ,look (up [(1,.map es)]),w,vs.length⟩ ρ (look (up [(1,.map es)])) w [(0,.mp 1)] { tmps:=vs.toArray,defers:=[] }:=by
  refine⟨hrel,λt x hx=>?_,.refl _ _ _ _ _,rfl,by simp,hkept⟩
  match t,hx with
  |0,hx=>cases hx;obtain⟨v,h1,h2⟩:=hargs.2 0 _ rfl;exact⟨v,by simpa using h1,h2⟩
  |t+1,hx=>cases hx
 obtain⟨b,cc,r,ck,u,hv,hρ,h3,h4,h5,h6⟩:=ha.mapAt (x:=.tmp 0) rfl rfl;have hst:=ha.stamped hρ rfl h3;have hvs:vs.toArray = #[.map (some b)]:=by
  match vs,hargs.1,hv with
  |[v],_,hv=>simp[Act.eval]at hv;rw[hv]
 rw[hvs];refine(hcl b r ck w h3).mono ?_;rintro e w' ⟨rfl,rfl⟩;have hn:=ha.alloc (k:=8) (o:=.map es) rfl rfl rfl rfl 1 (.map r ck) λ_ keepP=>.map es r ck u (z30 w _) h4 h5 λi k p hi=>keepP _ _ (h6 i k p hi);exact⟨_,_,rfl,.mp _ _ λes' _=>⟨w.heap.size,1,z09,rfl⟩,hn.rel,hn.tr⟩
theorem y8j(es:List (Value×PV)):SC Tryz.prog 111 [.mp 1] [(1,.map es)] (λk=>k∈[1]) (.mp 8) [(8,.map es),(1,.map es)]:=SC.clone y6x
theorem j31(es:List (Value×PV)):SC Tryz.prog 199 [.mp 1] [(1,.map es)] (λk=>k∈[1]) (.mp 8) [(8,.map es),(1,.map es)]:=SC.clone y6y
def y7j:Go.Shelf.Ren:=⟨λ|246=>195|283=>220|284=>221|285=>222|286=>223|129=>243|317=>242|318=>244|319=>245|320=>246|337=>254|338=>255|n=>n,λ|2=>2|3=>3|9=>9|4=>4|171=>273|0=>0|53=>237|37=>22|5=>5|173=>276|212=>286|51=>287|20=>20|213=>288|46=>289|232=>307|233=>308|n=>n,λ|17=>0|18=>1|19=>2|n=>n⟩
theorem yk5:Go.Proofs.LaysM.n246 Tryz.prog y7j where
 mixed:=by kernel_rfl
 f129:=Tryz.func243.trans (Aa some kR0)
 f246:=Tryz.func195.trans (Aa some kR0)
 f283:=Tryz.func220.trans (Aa some kR0)
 f284:=Tryz.func221.trans (Aa some kR0)
 f285:=Tryz.func222.trans (Aa some kR0)
 f286:=Tryz.func223.trans (Aa some kR0)
 f317:=Tryz.func242.trans (Aa some kR0)
 f318:=Tryz.func244.trans (Aa some kR0)
 f319:=Tryz.func245.trans (Aa some kR0)
 f320:=Tryz.func246.trans (Aa some kR0)
 f337:=Tryz.func254.trans (Aa some kR0)
 f338:=Tryz.func255.trans (Aa some kR0)
 t0:=Tryz.underlying0
 a0:=Tryz.isAgg0
 z0:=Tryz.sizeOf0
 v0:=Tryz.zeroValue0
 t2:=Tryz.underlying2
 a2:=Tryz.isAgg2
 z2:=Tryz.sizeOf2
 v2:=Tryz.zeroValue2
 t3:=Tryz.underlying3
 a3:=Tryz.isAgg3
 z3:=Tryz.sizeOf3
 v3:=Tryz.zeroValue3
 t4:=Tryz.underlying4
 a4:=Tryz.isAgg4
 z4:=Tryz.sizeOf4
 v4:=Tryz.zeroValue4
 t5:=Tryz.underlying5
 a5:=Tryz.isAgg5
 z5:=Tryz.sizeOf5
 v5:=Tryz.zeroValue5
 t9:=Tryz.underlying9
 a9:=Tryz.isAgg9
 z9:=Tryz.sizeOf9
 v9:=Tryz.zeroValue9
 t20:=Tryz.underlying20
 a20:=Tryz.isAgg20
 z20:=Tryz.sizeOf20
 v20:=Tryz.zeroValue20
 t37:=Tryz.underlying22
 a37:=Tryz.isAgg22
 z37:=Tryz.sizeOf22
 v37:=Tryz.zeroValue22
 t46:=Tryz.underlying289
 a46:=Tryz.isAgg289
 z46:=Tryz.sizeOf289
 v46:=Tryz.zeroValue289
 t51:=Tryz.underlying287
 a51:=Tryz.isAgg287
 z51:=Tryz.sizeOf287
 v51:=Tryz.zeroValue287
 t53:=Tryz.underlying237
 a53:=Tryz.isAgg237
 z53:=Tryz.sizeOf237
 v53:=Tryz.zeroValue237
 t171:=Tryz.underlying273
 a171:=Tryz.isAgg273
 z171:=Tryz.sizeOf273
 v171:=Tryz.zeroValue273
 t173:=Tryz.underlying276
 a173:=Tryz.isAgg276
 z173:=Tryz.sizeOf276
 v173:=Tryz.zeroValue276
 t212:=Tryz.underlying286
 a212:=Tryz.isAgg286
 z212:=Tryz.sizeOf286
 v212:=Tryz.zeroValue286
 t213:=Tryz.underlying288
 a213:=Tryz.isAgg288
 z213:=Tryz.sizeOf288
 t232:=Tryz.underlying307
 a232:=Tryz.isAgg307
 z232:=Tryz.sizeOf307
 v232:=Tryz.zeroValue307
 t233:=Tryz.underlying308
 a233:=Tryz.isAgg308
 z233:=Tryz.sizeOf308
 v233:=Tryz.zeroValue308
 g17:=by kernel_rfl
 g18:=by kernel_rfl
 g19:=by kernel_rfl
 i0:=by kernel_rfl
 i2:=by kernel_rfl
 i3:=by kernel_rfl
 i4:=by kernel_rfl
 i5:=by kernel_rfl
 i9:=by kernel_rfl
 i20:=by kernel_rfl
 i37:=by kernel_rfl
 i46:=by kernel_rfl
 i51:=by kernel_rfl
 i53:=by kernel_rfl
 i171:=by kernel_rfl
 i173:=by kernel_rfl
 i212:=by kernel_rfl
 i232:=by kernel_rfl
 i233:=by kernel_rfl
 m17:=by kernel_rfl
 m18:=by kernel_rfl
 m19:=by kernel_rfl
theorem loc_none{F:Nat->Prop}{ρ:Loc}{w:World}(h:RelH F ρ (look (up [])) w)(k:Nat):ρ k=none:=by
 cases hk:ρ k with
 |none=>rfl
 |some l =>
  obtain⟨o,ho,_⟩:=h.obj k l.1 l.2 hk
  cases ho
theorem grown{F:Nat->Prop}{ρ:Loc}{w:World}(h:RelH F ρ (look (up [])) w)(R:Nat->Prop)(k:Nat)(os:Array Obj) :
 RelH F ρ (look (up [])) (Go.Sort.grow (w.drewN k) os)/\Trans F R ρ (look (up [])) w ρ (look (up [])) (Go.Sort.grow (w.drewN k) os):=by
 have hn:=loc_none h;have hs:w.heap.size<=(Go.Sort.grow (w.drewN k) os).heap.size:=by simp[Go.Sort.grow,World.drewN]
 have hb:∀b,b<w.heap.size->(Go.Sort.grow (w.drewN k) os).heap[b]?=w.heap[b]?:=λb hb=>Go.Sort.heap_grow_old (w.drewN k) os hb;refine⟨⟨λi _ _ _ _ hi=>?_,λi _ _ hi=>?_,λb hF=>Bb (h.old b hF) hs,λi _ _ hi=>?_,λi o ho=>?_⟩,
  ⟨rfl,rfl,rfl,hs,λb hlt _=>hb b hlt,λi _ _ hi _=>.inl hi,λi cs _ hi=>?_,λi cs _ hi=>?_,λi _ _ _ _ hi=>?_,λi _ _ _ _ hi=>?_,λi _ hi=>?_,λi _ hi=>?_,λi _ _ hi=>?_⟩⟩
 all_goals first
 |(rw[hn i]at hi;cases hi)
 |cases ho
 |cases hi
theorem y8g(n:Int)(h0:-9223372036854775808<=n)(h1:n<=9223372036854775807) :
 SC Tryz.prog 195 [.pv (.val (.int .i64 n)),.pv (.val (.int .i64 10))] [] (λk=>k∈[]) (.pv (.val (.string ⟨(Lib.itoa n).toArray⟩))) []:=by
 intro F ρ w vs hk hrel hargs;obtain⟨v0,e0,r0⟩:=hargs.2 0 _ rfl;obtain⟨v1,e1,r1⟩:=hargs.2 1 _ rfl;have hv:vs=[.int .i64 n,.int .i64 10]:=by
  have hl:=hargs.1;have d0:=r0.val;have d1:=r1.val;subst d0 d1
  match vs,hl,e0,e1 with
  |[a,b],_,e0,e1=>cases e0;cases e1;rfl
 subst hv;refine(Any.internal_strconv_FormatInt_10 yk5 n h0 h1 w ?_).mono ?_
 ·obtain⟨⟨T,f,h1⟩,_⟩:=hk _ (D1);unfold Lib.TabIs World.var?;rw[yk5.m17]
  show(match w.heap[0]? with
   |some (.cells cs _ _)=>some cs
   |_=>none)=_
  rw[h1]
 rintro e w' ⟨rfl,k,os,rfl⟩;obtain⟨g1,g2⟩:=grown hrel (λk=>k∈[]) k os;exact⟨ρ,_,rfl,.pv _ _ (.val _),g1,g2⟩
def tNum(n:Int):ByteArray:=⟨(Lib.itoa n).toArray⟩
def tVal(n:Int):ByteArray:=⟨#[118]⟩++tNum n
def SMap(es:List (Value×PV)):Prop:=(∀e∈es,z1y .string e.1=true)/\∀e∈es,∃s,e.2=vStr s
def z8q(es:List (Value×PV))(name:ByteArray):ByteArray:=match z1z (.string name) es with
 |some (.val (.string s))=>s
 |_=>⟨#[]⟩
def z9x(es:List (Value×PV))(a b:ByteArray):List (Value×PV):=mput (.string a) (vStr b) es
theorem SMap.nil:SMap []:=⟨λ_ h=>by simp at h,λ_ h=>by simp at h⟩
theorem SMap.put{es:List (Value×PV)}(h:SMap es)(a b:ByteArray):SMap (z9x es a b):=by
 unfold z9x;refine⟨λe he=>?_,λe he=>?_⟩
 ·rcases z56 he with rfl|he
  ·rfl
  ·exact h.1 e he
 ·rcases z56 he with rfl|he
  ·exact⟨_,rfl⟩
  ·exact h.2 e he
theorem SMap.get{es:List (Value×PV)}(h:SMap es)(name:ByteArray):(z1z (.string name) es).getD (.val (.string ⟨#[]⟩))=vStr (z8q es name):=by
 unfold z8q
 cases hf:z1z (.string name) es with
 |none=>rfl
 |some p=>obtain⟨a,ha⟩:=z8x hf;obtain⟨s,hs⟩:=h.2 _ ha;dsimp only at hs;subst hs;rfl
mutual
def rnX(es:List (Value×PV)):Ex->Ex
 |.mk k o n nm args=>.mk k o n (if k=3 then z8q es nm else nm) (rnXL es args)
def rnXL(es:List (Value×PV)):List Ex->List Ex
 |[]=>[]
 |x::r=>rnX es x::rnXL es r
end
theorem zr9(es:List (Value×PV)):∀l,rnXL es l=l.map (rnX es)
 |[]=>rfl
 |x::r=>by simp[rnXL,zr9 es r]
theorem rnX_eq(es:List (Value×PV))(x:Ex):rnX es x=.mk x.kind x.op x.n (if x.kind=3 then z8q es x.name else x.name) (x.args.map (rnX es)):=by
 cases x;rw[rnX,zr9];rfl
def z1s(es:List (Value×PV))(k:Int)(nm:ByteArray)(n:Nat):ByteArray×List (Value×PV)×Nat :=
 if k=1 then(z8q (z9x es nm (tVal n)) nm,z9x es nm (tVal n),n+1)else if k=2 then(z8q es nm,es,n)else(nm,es,n)
mutual
def rnB:List St->List (Value×PV)->Nat->List St×Nat
 |[],_,n=>([],n)
 |x::r,es,n=>((rnS x es n).1::(rnB r (z1s es x.kind x.name n).2.1 (rnS x es n).2).1,(rnB r (z1s es x.kind x.name n).2.1 (rnS x es n).2).2)
def rnS:St->List (Value×PV)->Nat->St×Nat
 |.mk k ty nm args thn els,es,n=>(.mk k ty (z1s es k nm n).1 (args.map (rnX es)) (rnB thn (z1s es k nm n).2.1 (z1s es k nm n).2.2).1 (rnB els (z1s es k nm n).2.1 (rnB thn (z1s es k nm n).2.1 (z1s es k nm n).2.2).2).1,
  (rnB els (z1s es k nm n).2.1 (rnB thn (z1s es k nm n).2.1 (z1s es k nm n).2.2).2).2)
end
def rnPm(l:List Pm)(es:List (Value×PV))(n:Nat):List Pm×List (Value×PV)×Nat:=match l with
 |[]=>([],es,n)
 |x::r=>(⟨z8q (z9x es x.name (tVal n)) x.name,x.ty⟩::(rnPm r (z9x es x.name (tVal n)) (n+1)).1,(rnPm r (z9x es x.name (tVal n)) (n+1)).2)
def rnF(f:Fu):Fu:=⟨f.name,f.ty,(rnPm f.params [] 0).1,(rnB f.body (rnPm f.params [] 0).2.1 (rnPm f.params [] 0).2.2).1⟩
def rnP(p:Pg):Pg:=⟨p.arrays,p.funcs.map rnF⟩
def N64(n:Int):Prop:=-9223372036854775808<=n/\n<=9223372036854775807
theorem tNum_le{n:Int}(h:N64 n):(tNum n).size<=21:=Lib.itoa_length_le n h.1 h.2
theorem sc_ItoaI(n:Int)(h:N64 n):SC Tryz.prog 160 [.pv (.val (.int .i64 n))] [] (λk=>k∈[]) (.pv (.val (.string (tNum n)))) []:=by
 refine SC.vc tb {} [] Tryz.func160 rfl rfl ?_;exact⟨[],y8g n h.1 h.2,sR,Gd,rfl,sI,Gd⟩
theorem sc_Itoa(n:Int)(h:N64 n):SC Tryz.prog 110 [.pv (.val (.int .i64 n))] [] (λk=>k∈[]) (.pv (.val (.string (tNum n)))) []:=by
 refine SC.vc tb {} [] Tryz.func110 rfl rfl ?_;exact⟨[],sc_ItoaI n h,sR,Gd,rfl,sI,Gd⟩
def pg0:Pg:=⟨[],[]⟩
def z1x(s:ByteArray):Pg×Int×Int :=
 if (z1r s).2.1=0 then
  if (z9n (z1r s).1).2.deep then(pg0,2,(tkAt (z1r s).1 (z9n (z1r s).1).2).line)
  else if (z9n (z1r s).1).2.bad then(pg0,20,(tkAt (z1r s).1 (z9n (z1r s).1).2).line)
  else if rPg (z9n (z1r s).1).1 then((z9n (z1r s).1).1,0,0)else(pg0,2,0)
 else(pg0,(z1r s).2)
theorem y7d(s:ByteArray):pz (z1x s).1.funcs+(z1x s).1.arrays.length<=300003:=by
 unfold z1x;split
 ·rename_i h0;obtain⟨hT,hl⟩:=zo6 h0;split
  ·exact Ab _
  ·rename_i h1;split
   ·exact Ab _
   ·rename_i h2;split
    ·have ho:(z9n (z1r s).1).2.over=false:=by unfold Ps.over;rw[Ew.2 h1,Ew.2 h2];rfl
     have hp:0<(z1r s).1.length:=by obtain⟨i,e,h,_⟩:=hT;rw[h];simp
     have h3:=y5n hT (big (z1r s).1) ⟨[],[]⟩ ⟨0,false,false⟩ ho;have h4:=(z9j hT (big (z1r s).1) ⟨[],[]⟩ ⟨0,false,false⟩).lt hp;unfold z9n;simp only[pz,Az]at h3;dsimp only at h3 h4⊢;omega
    ·exact Ab _
 ·exact Ab _
theorem zu5(s:ByteArray):rPg (z1x s).1=true:=by
 unfold z1x;split
 ·split
  ·rfl
  ·split
   ·rfl
   ·split
    ·rename_i h;exact h
    ·rfl
 ·rfl
attribute [local irreducible] z9n z1r
theorem sc_Parse(s:ByteArray)(hs:s.size<=1073741824):SC Tryz.prog 23 [.pv (.val (.string s))] [] (λk=>k∈[]) (.tup [.pv (z1x s).1.enc,iInt (z1x s).2.1,iInt (z1x s).2.2]) []:=by
 refine SC.vc tb { ids:=[(23,1)] } [] Tryz.func23 rfl rfl ?_;have h0:=j2y s hs;have hok:=@zo6 s;have hsz:=j4o s;unfold z1x;generalize z1r s=t at h0 hok hsz;obtain⟨T,e,line⟩:=t;dsimp only at h0 hok hsz⊢;refine⟨[],h0,sR,Gd,rfl,z00 (λc1=>?_) λc1=>?_⟩
 ·have c1:¬e=0:=by simpa using c1
  rw[if_neg c1];exact⟨sT3 (sP (z0g _)),Gd⟩
 ·have c1:e=0:=by simpa using c1
  obtain⟨hT,hl⟩:=hok c1;rw[if_pos c1];have hp:0<T.length:=by obtain⟨i,e,h,_⟩:=hT;rw[h];simp
  have hS:TkSz T:=λx hx=>Bi (hsz x hx) hs;have h1:=sc_prog T hT hS oM0 hp;have h2:=(z9j hT (big T) ⟨[],[]⟩ ⟨0,false,false⟩).lt hp;have h3:=y5n hT (big T) ⟨[],[]⟩ ⟨0,false,false⟩;rw[show z3j T (big T) ⟨[],[]⟩ ⟨0,false,false⟩=z9n T from by unfold z9n;rfl]at h2 h3;generalize z9n T=r at h1 h2 h3;obtain⟨p,a,b,d⟩:=r;dsimp only at h1 h2 h3⊢;simp only[pz,Az]at h3;refine⟨[],h1,sR,Ge,rfl,?_⟩
  cases d with
  |true=>exact⟨yg7 (s:=⟨a,b,true⟩) h2,rfl,sT3 (sP (z0g _)),Gd⟩
  |false =>
   cases b with
   |true=>exact⟨yg7 (s:=⟨a,true,false⟩) h2,rfl,sT3 (sP (z0g _)),Gd⟩
   |false =>
    have h4:=h3 rfl;refine⟨[],sc_Right p oM0 oM0,sR,Gd,rfl,z00 (λc2=>?_) λc2=>?_⟩
    ·rw[show rPg p=false by simpa using c2];exact⟨sT3 (sP (z0g _)),Gd⟩
    ·rw[show rPg p=true by simpa using c2];exact⟨sI,Gd⟩
def lines0:List ByteArray:=[⟨#[119,104,105,108,101,32,40,120,32,60,32,53,41,32,123,32,120,32,61,32,120,32,43,32,49,59,32,105,102,32,40,120,32,61,61,32,51,41,32,123,32,99,111,110,116,105,110,117,101,59,32,125,32,121,32,61,32,121,32,43,32,120,59,32,125]⟩,⟨#[119,104,105,108,101,32,40,116,114,117,101,41,32,123,32,120,32,61,32,120,32,43,32,50,59,32,105,102,32,40,120,32,62,32,57,41,32,123,32,98,114,101,97,107,59,32,125,32,112,114,105,110,116,40,120,41,59,32,125]⟩,⟨#[120,32,61,32,48,59]⟩,⟨#[121,32,61,32,120,32,42,32,121,32,43,32,49,59]⟩,⟨#[112,114,105,110,116,40,121,41,59]⟩,⟨#[119,104,105,108,101,32,40,98,41,32,123,32,98,32,61,32,121,32,62,32,50,48,59,32,121,32,61,32,121,32,43,32,55,59,32,125]⟩,⟨#[105,102,32,40,120,32,62,32,121,41,32,123,32,120,32,61,32,121,59,32,125,32,101,108,115,101,32,123,32,121,32,61,32,120,59,32,125]⟩,⟨#[119,104,105,108,101,32,40,120,32,62,32,48,41,32,123,32,120,32,61,32,120,32,45,32,49,59,32,119,104,105,108,101,32,40,121,32,62,32,120,41,32,123,32,121,32,61,32,121,32,45,32,50,59,32,105,102,32,40,121,32,61,61,32,52,41,32,123,32,98,114,101,97,107,59,32,125,32,125,32,125]⟩,⟨#[98,32,61,32,120,32,60,32,121,59]⟩,⟨#[119,104,105,108,101,32,40,121,32,62,32,53,48,41,32,123,32,114,101,116,117,114,110,32,120,59,32,125]⟩,⟨#[120,32,61,32,120,32,38,32,55,59]⟩,⟨#[119,104,105,108,101,32,40,102,97,108,115,101,41,32,123,32,112,114,105,110,116,40,49,41,59,32,125]⟩,⟨#[105,102,32,40,116,114,117,101,41,32,123,32,105,110,116,32,116,32,61,32,120,59,32,120,32,61,32,121,59,32,121,32,61,32,116,59,32,125]⟩,⟨#[119,104,105,108,101,32,40,121,32,62,32,49,32,38,38,32,120,32,62,32,121,41,32,123,32,120,32,61,32,120,32,45,32,49,59,32,121,32,61,32,121,32,62,62,62,32,49,59,32,125]⟩,⟨#[119,104,105,108,101,32,40,116,114,117,101,41,32,123,32,105,102,32,40,99,41,32,123,32,99,32,61,32,102,97,108,115,101,59,32,99,111,110,116,105,110,117,101,59,32,125,32,98,114,101,97,107,59,32,125]⟩,⟨#[119,104,105,108,101,32,40,120,32,60,32,51,41,32,123,32,105,110,116,32,122,32,61,32,120,32,42,32,50,59,32,120,32,61,32,122,32,43,32,49,59,32,105,102,32,40,122,32,62,32,121,41,32,123,32,121,32,61,32,122,59,32,98,114,101,97,107,59,32,125,32,125]⟩]
def lines1:List ByteArray:=[⟨#[98,32,61,32,120,32,60,32,121,32,38,38,32,121,32,47,32,120,32,62,32,49,59]⟩,⟨#[99,32,61,32,98,32,124,124,32,114,101,97,100,40,41,32,61,61,32,49,59]⟩,⟨#[105,102,32,40,98,32,38,38,32,33,99,32,124,124,32,120,32,61,61,32,50,41,32,123,32,112,114,105,110,116,40,49,41,59,32,125]⟩,⟨#[119,104,105,108,101,32,40,99,32,38,38,32,120,32,60,32,54,41,32,123,32,120,32,61,32,120,32,43,32,49,59,32,99,32,61,32,120,32,33,61,32,52,32,124,124,32,98,59,32,125]⟩,⟨#[98,32,61,32,33,98,59]⟩,⟨#[99,32,61,32,98,32,61,61,32,99,59]⟩,⟨#[105,102,32,40,120,32,47,32,40,120,32,45,32,49,41,32,62,32,48,32,124,124,32,98,41,32,123,32,120,32,61,32,49,59,32,125]⟩,⟨#[120,32,61,32,120,32,43,32,49,59]⟩,⟨#[121,32,61,32,121,32,45,32,120,59]⟩,⟨#[112,114,105,110,116,40,120,41,59]⟩,⟨#[98,32,61,32,116,114,117,101,32,38,38,32,40,99,32,124,124,32,102,97,108,115,101,41,59]⟩,⟨#[105,102,32,40,103,40,120,41,32,38,38,32,103,40,121,41,41,32,123,32,121,32,61,32,48,59,32,125]⟩,⟨#[99,32,61,32,103,40,120,41,32,124,124,32,103,40,121,41,32,38,38,32,98,59]⟩,⟨#[105,102,32,40,33,40,98,32,124,124,32,99,41,41,32,123,32,98,32,61,32,120,32,62,32,50,59,32,125,32,101,108,115,101,32,123,32,99,32,61,32,121,32,62,32,50,32,38,38,32,98,59,32,125]⟩]
def lines2:List ByteArray:=[⟨#[97,91,120,32,38,32,51,93,32,61,32,121,59]⟩,⟨#[121,32,61,32,97,91,120,93,59]⟩,⟨#[120,32,61,32,120,32,43,32,97,91,48,93,59]⟩,⟨#[112,114,105,110,116,40,97,91,49,93,32,43,32,97,91,121,32,38,32,51,93,41,59]⟩,⟨#[97,91,120,93,32,61,32,97,91,121,93,32,43,32,49,59]⟩,⟨#[120,32,61,32,49,59]⟩,⟨#[121,32,61,32,50,59]⟩,⟨#[97,91,48,93,32,61,32,114,101,97,100,40,41,59]⟩,⟨#[119,104,105,108,101,32,40,120,32,60,32,52,41,32,123,32,97,91,120,93,32,61,32,120,32,42,32,121,59,32,120,32,61,32,120,32,43,32,49,59,32,125]⟩,⟨#[105,102,32,40,97,91,120,32,38,32,51,93,32,62,32,50,41,32,123,32,97,91,48,93,32,61,32,48,59,32,125,32,101,108,115,101,32,123,32,121,32,61,32,97,91,51,93,59,32,125]⟩,⟨#[120,32,61,32,121,32,47,32,97,91,50,93,59]⟩,⟨#[121,32,61,32,121,32,37,32,51,59]⟩,⟨#[97,91,97,91,48,93,32,38,32,51,93,32,61,32,97,91,97,91,49,93,32,38,32,51,93,59]⟩,⟨#[112,114,105,110,116,40,97,91,48,93,32,45,32,120,41,59]⟩]
def lines3:List ByteArray:=[⟨#[120,32,61,32,102,40,120,44,32,98,41,59]⟩,⟨#[121,32,61,32,102,40,121,44,32,33,98,41,32,43,32,102,40,120,44,32,116,114,117,101,41,59]⟩,⟨#[98,32,61,32,103,40,120,41,59]⟩,⟨#[112,114,105,110,116,40,102,40,49,44,32,102,97,108,115,101,41,41,59]⟩,⟨#[105,102,32,40,103,40,121,41,41,32,123,32,120,32,61,32,104,40,51,41,59,32,125]⟩,⟨#[121,32,61,32,104,40,120,32,38,32,55,41,59]⟩,⟨#[102,40,120,44,32,98,41,59]⟩,⟨#[120,32,61,32,120,32,38,32,49,53,59]⟩,⟨#[99,32,61,32,103,40,104,40,52,41,41,32,38,38,32,98,59]⟩,⟨#[97,91,49,93,32,61,32,102,40,97,91,49,93,44,32,99,41,59]⟩,⟨#[119,104,105,108,101,32,40,103,40,120,41,32,38,38,32,120,32,60,32,57,41,32,123,32,120,32,61,32,120,32,43,32,102,40,50,44,32,99,41,59,32,125]⟩,⟨#[114,101,116,117,114,110,32,104,40,120,32,38,32,51,41,59]⟩,⟨#[121,32,61,32,114,101,97,100,40,41,59]⟩,⟨#[112,114,105,110,116,40,105,56,40,120,41,32,43,32,117,49,54,40,121,41,32,45,32,126,120,41,59]⟩]
def z2n(k:Int):List ByteArray:=if k=0 then lines0 else if k=1 then lines1 else if k=2 then lines2 else lines3
def eTx(s:ByteArray):List PV:=[.val (.string s)]
theorem sc_lined(k:Int)(h0:0<=k)(h1:k<=3):SC Tryz.prog 30 [.pv (.val (.int .i64 k))] [] (λk=>k∈[]) (.pv (.seq ((z2n k).map eTx))) []:=by
 refine SC.vc tb {} [] Tryz.func30 rfl rfl ?_;rcases(show k=0∨k=1∨k=2∨k=3 by omega)with rfl|rfl|rfl|rfl<;>exact⟨sI,Gd⟩
section
structure Gn where
 pos:Nat
 types:List Int
 left:Nat
structure Plc where
 If:Bool
 Loop:Bool
 Yield:List Int
 Next:List Int
 Left:List Int
section
variable (l:List UInt8)
end
end
def eB(x:UInt8):List PV:=[.val (.int .u8 (x.toNat:Int))]
def bts(l:List UInt8):PV:=.seq (l.map eB)
theorem r64{m n z:Int}(hn:n≠0)(h:m.tmod n=z):z3i .rem .i64 m n=some (.int .i64 z):=by
 subst h;simp only[z3i];rw[if_neg hn]
theorem y6i{a b:ByteArray}(h:a.size+b.size<=9223372036854775807):y23 .add a b=some (.string (a++b)):=by
 show(if ((a.size+b.size:Nat):Int) > IntKind.i64.max then none else some (Value.string (a++b)))=_;rw[if_neg];have:IntKind.i64.max=9223372036854775807:=rfl;rw[this];omega
def fam0:ByteArray:=⟨#[105,110,116,32,97,91,52,93,59,32,105,110,116,32,102,40,105,110,116,32,110,44,32,98,111,111,108,32,98,41,32,123,32,97,91,110,32,38,32,51,93,32,61,32,110,59,32,105,102,32,40,98,41,32,123,32,114,101,116,117,114,110,32,110,32,42,32,50,59,32,125,32,114,101,116,117,114,110,32,97,91,49,93,59,32,125,32,98,111,111,108,32,103,40,105,110,116,32,110,41,32,123,32,112,114,105,110,116,40,110,41,59,32,114,101,116,117,114,110,32,110,32,62,32,49,59,32,125,32,105,110,116,32,104,40,105,110,116,32,110,41,32,123,32,105,102,32,40,110,32,60,32,50,41,32,123,32,114,101,116,117,114,110,32,110,59,32,125,32,114,101,116,117,114,110,32,104,40,110,32,45,32,49,41,32,43,32,104,40,110,32,45,32,50,41,59,32,125,32,105,110,116,32,109,97,105,110,40,41,32,123,32,105,110,116,32,120,32,61,32,114,101,97,100,40,41,59,32,105,110,116,32,121,32,61,32,51,59,32,98,111,111,108,32,98,32,61,32,102,97,108,115,101,59,32,98,111,111,108,32,99,32,61,32,116,114,117,101,59,10]⟩
def famE:ByteArray:=⟨#[114,101,116,117,114,110,32,120,32,43,32,121,59,32,125]⟩
def sNl:ByteArray:=⟨#[10]⟩
def y09(t:List ByteArray)(s:ByteArray)(b:UInt8):ByteArray:=s++t.getD (b.toNat%t.length) s_++sNl
def famS(t:List ByteArray)(l:List UInt8):ByteArray:=l.foldl (y09 t) fam0
def famT(k:Int)(l:List UInt8):ByteArray:=famS (z2n k) (l.take 10)++famE
theorem y3b(k:Int):0<(z2n k).length/\(z2n k).length<=16/\∀w∈z2n k,w.size<=200:=by
 unfold z2n;split
 ·exact⟨by decide,by decide,by decide⟩
 ·split
  ·exact⟨by decide,by decide,by decide⟩
  ·split
   iterate 2 exact⟨by decide,by decide,by decide⟩
theorem y76(k:Int)(s:ByteArray)(b:UInt8):((z2n k).getD (b.toNat%(z2n k).length) s_).size<=200/\(y09 (z2n k) s b).size<=s.size+201:=by
 have h:((z2n k).getD (b.toNat%(z2n k).length) s_).size<=200:=by
  obtain⟨h1,h2,h3⟩:=y3b k;rw[At,A5 (Nat.mod_lt _ h1)];exact h3 _ (Cq _)
 refine⟨h,?_⟩;unfold y09;rw[Dd,Dd];have:sNl.size=1:=rfl;omega
theorem y77(t:List ByteArray)(l:List UInt8){i:Nat}{b:UInt8}(h:l.take (i+1)=l.take i++[b]):famS t (l.take (i+1))=y09 t (famS t (l.take i)) b:=by
 unfold famS;rw[h,Dm];rfl
theorem ya3(k:Int)(l:List UInt8):∀i,(famS (z2n k) (l.take i)).size<=300+201*i
 |0=>by rw[List.take_zero];exact Ax rfl
 |i+1=>by
  have h:=ya3 k l i;rcases Ef i l.length with hi|hi
  ·obtain⟨b,_,b2,_⟩:=z0s hi;rw[y77 _ l b2];have:=(y76 k (famS (z2n k) (l.take i)) b).2;omega
  ·rw[As oM0,<- As hi];omega
theorem j2w(k:Int)(h0:0<=k)(h1:k<=3)(l:List UInt8)(hl:l.length<=9223372036854775807):SC Tryz.prog 14 [.pv (.val (.int .i64 k)),.pv (bts l)] [] (λk=>k∈[]) (.pv (z1x (famT k l)).1.enc) []:=by
 refine SC.vc tb {} [] Tryz.func14 rfl rfl ?_;refine⟨[],sc_lined k h0 h1,sR,Gd,rfl,?_⟩;refine⟨Nat,λi=>[(7,iInt ((i:Nat):Int)),(5,iStr (famS (z2n k) (l.take i)))],λ_=>[],λi=>l.length-i,λi=>i<=l.length/\i<=10,[],0,⟨Ab _,Ab _⟩,Gf,Gd,?_⟩;rintro i ⟨i1,i2⟩;have fin:l.length<=i∨10<=i->famS (z2n k) (l.take i)=famS (z2n k) (l.take 10):=λh=>by
  rcases h with h|h
  ·rw[As h,As oM0]
  ·rw[show i=10 by omega]
 have hz:=ya3 k l i;have hz2:=ya3 k l 10;have e2:famE.size=15:=rfl;have hP:=sc_Parse (famT k l) (by unfold famT;rw[Dd];omega);have ha:y23 .add (famS (z2n k) (l.take 10)) famE=some (.string (famT k l)):=y6i oM0;refine z00 (λc1=>?_) λc1=>?_
 ·have hlt:i<l.length:=z12 (f:=eB) rfl c1;refine z00 (λc2=>?_) λc2=>?_
  ·have c2:=Aq c2;obtain⟨b,b1,b2,b3,b4⟩:=z0s hlt;obtain⟨q1,q2,q3⟩:=y3b k;have q4:=(y76 k (famS (z2n k) (l.take i)) b).1;have hb:=b.toNat_lt;have hw:IntKind.i64.wrap (b.toNat:Int)=(b.toNat:Int):=Cz _ oM0;have hg:(z2n k)[b.toNat%(z2n k).length]?=some ((z2n k).getD (b.toNat%(z2n k).length) s_):=by
    rw[At,A5 (Nat.mod_lt _ q1)];rfl
   exact⟨z02 (f:=eB) b1,rfl,r64 (z:=((b.toNat%(z2n k).length:Nat):Int)) (by rw[A6];omega) (by rw[hw,A6,Int.tmod_eq_emod_of_nonneg oM0];omega),z02 (f:=eTx) hg,rfl,y6i oM0,y6i (by rw[Dd];exact Bi (Nat.add_le_add_left (Ae 1) _) oM0),
    z01 rfl oM0,i+1,by omega,⟨hlt,by omega⟩,⟨rfl,by rw[y77 _ l b2];rfl,Gd⟩,Gd,rfl,rfl,rfl,rfl⟩
  ·have c2:=Ap c2;rw[fin (.inr oM0)];exact⟨ha,[],hP,sR,Gd,rfl,sI,Gd⟩
 ·have hge:=z13 (f:=eB) rfl c1;rw[fin (.inl hge)];exact⟨ha,[],hP,sR,Gd,rfl,sI,Gd⟩
def cnB(c:Nat):HO:=.box [iInt ((c:Int)-1)]
theorem y47(c:Nat)(hc:c<=4294967296):SC Tryz.prog 109 [.ptr 2 0] [(2,cnB c)] (λk=>k∈[1]) (iStr (tVal c)) [(2,cnB (c+1))]:=by
 refine SC.vc tb {} [1] Tryz.func109 rfl rfl ?_;have h:N64 (c:Int):=⟨by omega,by omega⟩;have e:(⟨#[118]⟩:ByteArray).size=1:=rfl;have:=tNum_le h;exact⟨z01 (z:=(c:Int)) oM0 oM0,[],sc_Itoa c h,sR,Gd,rfl,y6i oM0,sI,boq sI0,Gd⟩
theorem zw3:SC Tryz.prog 63 [] [] (λk=>k∈[]) (.fn (.func 109) [] [.ptr 2 0]) [(2,cnB 0)]:=by
 refine SC.vc tb { ids:=[(1,2)] } [] Tryz.func63 rfl rfl ?_;exact⟨sI,rfl,Gd⟩
def rnAt(es:List (Value×PV))(l:List Ex)(i:Nat):List Ex:=(l.take i).map (rnX es)++l.drop i
theorem rnAt_len(es:List (Value×PV))(l:List Ex)(i:Nat):(rnAt es l i).length=l.length:=by unfold rnAt;simp;omega
theorem rnAt_get{es:List (Value×PV)}{l:List Ex}{i:Nat}{x:Ex}(h:l[i]?=some x):(rnAt es l i)[i]?=some x:=by
 have hi:=(A4.1 h).1;unfold rnAt;rw[Ay (by simp;omega)];simp;rw[show i-min i l.length=0 by omega];simpa using h
theorem rnAt_set{es:List (Value×PV)}{l:List Ex}{i:Nat}{x:Ex}(h:l[i]?=some x):(rnAt es l i).set i (rnX es x)=rnAt es l (i+1):=by
 have hi:=(A4.1 h).1;obtain⟨y,y1,y2,y3,y4⟩:=z0s hi;rw[h]at y1;cases y1
 unfold rnAt;rw[y2,y3,De _ _ (by simp;omega)];simp;rw[show i-min i l.length=0 by omega];rfl
theorem set_same{α:Type}{l:List α}{i:Nat}{x:α}(h:l[i]?=some x):l.set i x=l:=by
 obtain⟨hi,rfl⟩:=A4.1 h;exact List.set_getElem_self hi
theorem sc_rnX(es:List (Value×PV))(hes:SMap es):∀(N:Nat)(l:List Ex),SizeOf.sizeOf l<N->xzL l<=1073741824->SC Tryz.prog 113 [.mp 1,.pv (exs l)] [(1,.map es)] (λk=>k∈[1]) (.pv (exs (l.map (rnX es)))) [(1,.map es)]
 |0,_,h,_=>absurd h (Ai _)
 |N+1,[],hN,hx=>by
  refine SC.vc tb {} [1] Tryz.func113 rfl rfl ?_;refine⟨[],ye1,sR,Gd,rfl,Unit,λ_=>[(10,iInt 0)],λ_=>[],λ_=>0,λ_=>True,[],(),Gd,Ge,Gd,?_⟩;rintro _ _
  exact⟨sI,rfl,Gd⟩
 |N+1,y::r,hN,hx=>by
  have hne:y::r≠[]:=by simp
  generalize hL:y::r=l at hN hx hne;clear hL;have hl:=zc5 l;refine SC.vc tb { jn:=[7],gh:=[(9,[.fz 1 7])] } [1] Tryz.func113 rfl rfl ?_;refine⟨[],yv5 l hne oM0,sR,Gd,rfl,by simp,?_⟩;refine⟨Nat,λi=>[(10,iInt ((i:Nat):Int))],λi=>[(7,.row exRt ((rnAt es l i).map Ex.enc))],λi=>l.length-i,λi=>i<=l.length,[],0,Ab _,Ge,Ge,?_⟩;intro i hi;have hlen:((rnAt es l i).map Ex.enc).length=(l.map Ex.enc).length:=by simp[rnAt_len]
  refine z00 (λhc=>?_) λhc=>?_
  ·have hlt:i<l.length:=z12 (f:=Ex.enc) rfl hc;obtain⟨x,x1,x2,x3,x4⟩:=z0s hlt;have hget:((rnAt es l i).map Ex.enc)[i]?=some [vInt x.kind,vInt x.op,vInt x.n,vStr x.name,exs x.args]:=z1d (rnAt_get x1);have hsz:SizeOf.sizeOf x.args<N:=by
    have:=Bo x4;have h2:SizeOf.sizeOf x.args<SizeOf.sizeOf x:=by cases x;simp[Ex.args];omega
    omega
   have hxx:=zh2 x4;have hax:xzL x.args<=1073741824:=by
    have:xz x=1+xzL x.args:=by cases x;simp[xz,Ex.args]
    omega
   refine⟨Unit,λ_=>[],λ_=>[(7,.row exRt (((rnAt es l i).map Ex.enc).set i [vInt x.kind,vInt x.op,vInt x.n,vStr (if x.kind=3 then z8q es x.name else x.name),exs x.args]))],λ_=>True,[7],⟨hlen,by rw[A6];exact hlt,rfl,hlen,VRow.mk (i:=i) (j:=0) hlen rfl hget rfl ?_⟩,?_⟩
   ·refine z00 (λc=>?_) λc=>?_
    ·have c:x.kind=3:=eq_of_beq c;refine⟨hlen,by rw[A6];exact hlt,rfl,hlen,VRow.mk (i:=i) (j:=3) hlen rfl hget rfl (VAsk.mk (p:=vStr (z8q es x.name)) (b:=(z1z (.string x.name) es).isSome) rfl hes.1 (Ea (hes.get x.name) rfl) ?_)⟩;exact⟨hlen,by rw[A6];exact hlt,rfl,hlen,i,3,_,hlen,rfl,hget,by simp,(),Gd,Gd,⟨by rw[if_pos c];rfl,Gd⟩,rfl,rfl,rfl,rfl⟩
    ·have c:¬x.kind=3:=Ad.1 c;exact⟨(),Gd,Gd,⟨rwq (by rw[if_neg c];exact(set_same hget).symm),Gd⟩,rfl,rfl,rfl,rfl⟩
   ·rintro _ _;have hlen2:(((rnAt es l i).map Ex.enc).set i [vInt x.kind,vInt x.op,vInt x.n,vStr (if x.kind=3 then z8q es x.name else x.name),exs x.args]).length=(l.map Ex.enc).length:=by rw[E3];exact hlen
    have hget2:(((rnAt es l i).map Ex.enc).set i [vInt x.kind,vInt x.op,vInt x.n,vStr (if x.kind=3 then z8q es x.name else x.name),exs x.args])[i]?=some [vInt x.kind,vInt x.op,vInt x.n,vStr (if x.kind=3 then z8q es x.name else x.name),exs x.args]:=Bl (by rw[hlen,A6];exact hlt);refine⟨hlen2,by rw[A6];exact hlt,rfl,hlen2,VRow.mk (i:=i) (j:=4) hlen2 rfl hget2 rfl ⟨[1],sc_rnX es hes N x.args hsz hax,sR,⟨rfl,rfl,D1,Gd⟩,rfl,?_⟩⟩;exact⟨hlen2,by rw[A6];exact hlt,rfl,hlen2,i,4,_,hlen2,rfl,hget2,by simp,z01 rfl oM0,i+1,z04 hlt,hlt,Ge,⟨rwq (by rw[Fj,<- rnAt_set x1,Bt,rnX_eq,Ex.enc_eq];rfl),Gd⟩,rfl,rfl,rfl,rfl⟩
  ·have hge:l.length<=i:=z13 (f:=Ex.enc) rfl hc;exact⟨hlen,sE (by unfold rnAt;rw[As hge,A8 hge,Cu];rfl),rfl,Gd⟩
theorem rnS_eq(x:St)(es:List (Value×PV))(n:Nat):rnS x es n=(.mk x.kind x.ty (z1s es x.kind x.name n).1 (x.args.map (rnX es)) (rnB x.thn (z1s es x.kind x.name n).2.1 (z1s es x.kind x.name n).2.2).1 (rnB x.els (z1s es x.kind x.name n).2.1 (rnB x.thn (z1s es x.kind x.name n).2.1 (z1s es x.kind x.name n).2.2).2).1,
 (rnB x.els (z1s es x.kind x.name n).2.1 (rnB x.thn (z1s es x.kind x.name n).2.1 (z1s es x.kind x.name n).2.2).2).2):=by cases x;rw[rnS];rfl
def rnG:List St->List (Value×PV)->Nat->List St×List (Value×PV)×Nat
 |[],es,n=>([],es,n)
 |x::r,es,n=>((rnS x es n).1::(rnG r (z1s es x.kind x.name n).2.1 (rnS x es n).2).1,(rnG r (z1s es x.kind x.name n).2.1 (rnS x es n).2).2)
theorem rnB_G:∀(l:List St) (es:List (Value×PV)) (n:Nat),rnB l es n=((rnG l es n).1,(rnG l es n).2.2)
 |[],_,_=>by rw[rnB];rfl
 |x::r,es,n=>by rw[rnB,rnB_G r];rfl
theorem y5t:∀(l:List St) (x:St) (es:List (Value×PV)) (n:Nat),rnG (l++[x]) es n=((rnG l es n).1++[(rnS x (rnG l es n).2.1 (rnG l es n).2.2).1],(z1s (rnG l es n).2.1 x.kind x.name (rnG l es n).2.2).2.1,(rnS x (rnG l es n).2.1 (rnG l es n).2.2).2)
 |[],x,es,n=>rfl
 |y::r,x,es,n=>by
  have:=y5t r x (z1s es y.kind y.name n).2.1 (rnS y es n).2;simp only[B9,rnG,this]
theorem zj2:∀(l:List St) (es:List (Value×PV)) (n:Nat),(rnG l es n).1.length=l.length
 |[],_,_=>rfl
 |x::r,es,n=>by simp[rnG,zj2 r]
theorem y8b{es:List (Value×PV)}(h:SMap es)(k:Int)(nm:ByteArray)(n:Nat):SMap (z1s es k nm n).2.1:=by
 unfold z1s;split
 ·exact h.put _ _
 ·split
  iterate 2 exact h
theorem j2q(es:List (Value×PV))(k:Int)(nm:ByteArray)(n:Nat):(z1s es k nm n).2.2<=n+1:=by
 unfold z1s;split
 ·exact Ae _
 ·split
  iterate 2 exact Fe _
theorem j2p:∀(l:List St) (es:List (Value×PV)) (n:Nat),SMap es->SMap (rnG l es n).2.1
 |[],_,_,h=>h
 |x::r,es,n,h=>j2p r _ _ (y8b h _ _ _)
theorem j2o:∀(N:Nat)(l:List St),SizeOf.sizeOf l<N->∀(es:List (Value×PV)) (n:Nat),(rnB l es n).2<=n+szL l
 |0,_,h,_,_=>absurd h (Ai _)
 |N+1,[],_,es,n=>by rw[rnB];simp[szL]
 |N+1,x::r,hN,es,n=>by
  have hx:=zs9 x;simp at hN;have h1:(rnS x es n).2<=n+sz x:=by
   rw[rnS_eq,y2p];have a0:=j2q es x.kind x.name n;have a1:=j2o N x.thn oM0 (z1s es x.kind x.name n).2.1 (z1s es x.kind x.name n).2.2;have a2:=j2o N x.els oM0 (z1s es x.kind x.name n).2.1 (rnB x.thn (z1s es x.kind x.name n).2.1 (z1s es x.kind x.name n).2.2).2;dsimp only;omega
  have h2:=j2o N r oM0 (z1s es x.kind x.name n).2.1 (rnS x es n).2;rw[rnB,szL];dsimp only;omega
theorem rnG_n(l:List St)(es:List (Value×PV))(n:Nat):(rnG l es n).2.2<=n+szL l:=by
 have:=j2o _ l (A7 _) es n;rw[rnB_G]at this;exact this
theorem yq0:∀(l:List St)(i:Nat),szL (l.take i)+szL (l.drop i)=szL l
 |[],i=>by simp[szL]
 |_::_,0=>by simp[szL]
 |x::r,i+1=>by have:=yq0 r i;simp only[Fd,Fb,szL];omega
def zj1(es:List (Value×PV))(c:Nat)(l:List St)(i:Nat):List St:=(rnG (l.take i) es c).1++l.drop i
theorem j2m(es:List (Value×PV))(c:Nat)(l:List St)(i:Nat):(zj1 es c l i).length=l.length:=by unfold zj1;simp[zj2];omega
theorem j2l{es:List (Value×PV)}{c:Nat}{l:List St}{i:Nat}{x:St}(h:l[i]?=some x):(zj1 es c l i)[i]?=some x:=by
 have hi:=(A4.1 h).1;unfold zj1;rw[Ay (by simp[zj2];omega)];simp[zj2];rw[show i-min i l.length=0 by omega];simpa using h
theorem j2n{es:List (Value×PV)}{c:Nat}{l:List St}{i:Nat}{x:St}(h:l[i]?=some x):(zj1 es c l i).set i (rnS x (rnG (l.take i) es c).2.1 (rnG (l.take i) es c).2.2).1=zj1 es c l (i+1):=by
 have hi:=(A4.1 h).1;obtain⟨y,y1,y2,y3,y4⟩:=z0s hi;rw[h]at y1;cases y1
 unfold zj1;rw[y2,y5t,y3,De _ _ (by simp[zj2];omega)];simp[zj2];rw[show i-min i l.length=0 by omega];rfl
def fRN(N:Nat):Prop:=∀(l:List St),SizeOf.sizeOf l<N->szL l<=1073741824->∀(es:List (Value×PV)),SMap es->∀c:Nat,c+szL l<=1073741824 ->
 SC Tryz.prog 65 [.mp 1,.pv (sts l),.fn (.func 109) [] [.ptr 2 0]] [(1,.map es),(2,cnB c)] (λk=>k∈[1]) (.pv (sts (rnB l es c).1)) [(1,.map es),(2,cnB (rnB l es c).2)]
theorem sc_rnB0(es:List (Value×PV))(c:Nat):SC Tryz.prog 65 [.mp 1,.pv (sts []),.fn (.func 109) [] [.ptr 2 0]] [(1,.map es),(2,cnB c)] (λk=>k∈[1]) (.pv (sts [])) [(1,.map es),(2,cnB c)]:=by
 refine SC.vc tb {} [1] Tryz.func65 rfl rfl ?_;refine⟨[1],y8j es,sR,⟨rfl,rfl,D1,Gd⟩,rfl,[],ye3,sR,Gd,rfl,Unit,λ_=>[(15,iInt 0)],λ_=>[],λ_=>0,λ_=>True,[],(),Gd,Ge,Gd,?_⟩;rintro _ _;exact⟨sI,rfl,rfl,Gd⟩
theorem St.enc_mk(k t:Int)(n:ByteArray)(a:List Ex)(th e:List St):(St.mk k t n a th e).enc=[vInt k,vInt t,vStr n,exs a,sts th,sts e]:=by rw[St.enc_eq];rfl
theorem yf3(N:Nat)(ih:fRN N):fRN (N+1):=by
 intro l hN hx es hes c hc;rcases l with _|⟨y,r⟩
 ·have:=sc_rnB0 es c;rw[show(rnB [] es c)=([],c) by rw[rnB]];exact this
 have hne:y::r≠[]:=by simp
 generalize y::r=l at hN hx hc hne;have hl:=z8m l;rw[rnB_G];refine SC.vc tb { jn:=[13],gh:=[(15,[.fz 1 7])] } [1] Tryz.func65 rfl rfl ?_;refine⟨[1],y8j es,sR,⟨rfl,rfl,D1,Gd⟩,rfl,[],yv7 l hne oM0,sR,Gd,rfl,rfl,?_⟩;refine⟨Nat,λi=>[(15,iInt ((i:Nat):Int))],λi=>[(7,.row stRt ((zj1 es c l i).map St.enc)),(8,.map (rnG (l.take i) es c).2.1),(2,cnB (rnG (l.take i) es c).2.2)],λi=>l.length-i,λi=>i<=l.length,[],0,Ab _,Ge,Gg,?_⟩;intro i hi;refine z00 (λhcc=>?_) λhcc=>?_
 ·have hlt:i<l.length:=z12 (f:=St.enc) rfl hcc;obtain⟨x,x1,x2,x3,x4⟩:=z0s hlt;have hin:i<(l.map St.enc).length:=by rw[A6];exact hlt
  have hlen:((zj1 es c l i).map St.enc).length=(l.map St.enc).length:=by simp[j2m]
  have hget:((zj1 es c l i).map St.enc)[i]?=some [vInt x.kind,vInt x.ty,vStr x.name,exs x.args,sts x.thn,sts x.els]:=zk0 (j2l x1);have hfin:((zj1 es c l (i+1)).map St.enc)=((zj1 es c l i).map St.enc).set i (rnS x (rnG (l.take i) es c).2.1 (rnG (l.take i) es c).2.2).1.enc:=by rw[<- j2n x1,Bt]
  have hsn:=y5t (l.take i) x es c;rw[<- x2]at hsn;have hg:=j2p (l.take i) es c hes;have hgn:=rnG_n (l.take i) es c;have hszs:=yq0 l i;rw[x3]at hszs;simp only[szL]at hszs;generalize rnG (l.take i) es c=G at hg hgn hfin hsn⊢;obtain⟨G1,g,q⟩:=G;dsimp only at hg hgn hfin hsn;generalize(zj1 es c l i).map St.enc=M at hlen hget hfin⊢;rw[rnS_eq]at hfin hsn;dsimp only at hfin hsn;rw[St.enc_mk]at hfin;have hso:=zs9 x;have hmem:=Bo x4;have hsz:=y2p x;have hX:SC Tryz.prog 113 [.mp 8,.pv (exs x.args)] [(8,.map g)] _ (.pv (exs (x.args.map (rnX g)))) [(8,.map g)]:=(sc_rnX g hg _ x.args (A7 _) oM0).sw 1 8;have hF:=y47 q oM0;have hOm:=y8b hg x.kind x.name q;have hOn:=j2q g x.kind x.name q;have hO1:x.kind=1->z1s g x.kind x.name q=(z8q (z9x g x.name (tVal q)) x.name,z9x g x.name (tVal q),q+1):=λh=>by unfold z1s;rw[if_pos h]
  have hO2:x.kind=2->z1s g x.kind x.name q=(z8q g x.name,g,q):=λh=>by unfold z1s;rw[if_neg oM0,if_pos h]
  have hO3:x.kind≠1->x.kind≠2->z1s g x.kind x.name q=(x.name,g,q):=λh h2=>by unfold z1s;rw[if_neg h,if_neg h2]
  generalize z1s g x.kind x.name q=O at hfin hsn hOm hOn hO1 hO2 hO3;have ht:=ih x.thn oM0 oM0 O.2.1 hOm O.2.2 oM0;have hn1:=j2o _ x.thn (A7 _) O.2.1 O.2.2;generalize rnB x.thn O.2.1 O.2.2=t' at ht hn1 hfin hsn;have he:=ih x.els oM0 oM0 O.2.1 hOm t'.2 oM0;generalize rnB x.els O.2.1 t'.2=e' at he hfin hsn;have hT:SC Tryz.prog 65 [.mp 8,.pv (sts x.thn),.fn (.func 109) [] [.ptr 2 0]] [(8,.map O.2.1),(2,cnB O.2.2)] _ (.pv (sts t'.1)) [(8,.map O.2.1),(2,cnB t'.2)]:=ht.sw 1 8;have hE:SC Tryz.prog 65 [.mp 8,.pv (sts x.els),.fn (.func 109) [] [.ptr 2 0]] [(8,.map O.2.1),(2,cnB t'.2)] _ (.pv (sts e'.1)) [(8,.map O.2.1),(2,cnB e'.2)]:=he.sw 1 8;clear ht he;have hl1:∀e,(M.set i e).length=(l.map St.enc).length:=λe=>by rw[E3];exact hlen
  have hg1:∀e,(M.set i e)[i]?=some e:=λe=>Bl (by rw[hlen];exact hin);refine⟨hlen,hin,rfl,hlen,hlen,VRow.mk (i:=i) (j:=3) hlen rfl hget rfl ⟨[8],hX,sR,Gf,rfl,hlen,hlen,i,3,_,hlen,rfl,hget,by simp,?_⟩⟩;have hl2:∀e e2,((M.set i e).set i e2).length=(l.map St.enc).length:=λe e2=>by rw[E3];exact hl1 e
  have hg2:∀e e2,((M.set i e).set i e2)[i]?=some e2:=λe e2=>Bl (by rw[hl1];exact hin);refine⟨Unit,λ_=>[],λ_=>[(7,.row stRt (M.set i [vInt x.kind,vInt x.ty,vStr O.1,exs (x.args.map (rnX g)),sts x.thn,sts x.els])),(8,.map O.2.1),(2,cnB O.2.2)],λ_=>True,[7,8,2],⟨hl1 _,hl1 _,VRow.mk (i:=i) (j:=0) (hl1 _) rfl (hg1 [vInt x.kind,vInt x.ty,vStr x.name,exs (x.args.map (rnX g)),sts x.thn,sts x.els]) rfl ?_⟩,?_⟩
  ·refine z00 (λk1=>?_) λk1=>z00 (λk2=>?_) λk2=>?_
   ·obtain rfl:=hO1 (eq_of_beq k1);have hp:=hg.put x.name (tVal q);exact⟨hl1 _,hl1 _,VRow.mk (i:=i) (j:=2) (hl1 _) rfl (hg1 [vInt x.kind,vInt x.ty,vStr x.name,exs (x.args.map (rnX g)),sts x.thn,sts x.els]) rfl ⟨hF,sR,Ge,λk hk=>hk,rfl,rfl,rfl,hg.1,hl1 _,hl1 _,VRow.mk (i:=i) (j:=2) (hl1 _) rfl (hg1 [vInt x.kind,vInt x.ty,vStr x.name,exs (x.args.map (rnX g)),sts x.thn,sts x.els]) rfl
     (VAsk.mk (p:=vStr (z8q (z9x g x.name (tVal q)) x.name)) (b:=(z1z (.string x.name) (z9x g x.name (tVal q))).isSome) rfl hp.1 (Ea (hp.get x.name) rfl) ⟨hl1 _,hl1 _,i,2,_,hl1 _,rfl,hg1 [vInt x.kind,vInt x.ty,vStr x.name,exs (x.args.map (rnX g)),sts x.thn,sts x.els],by simp,(),Gd,Gd,⟨rwq (by rw[Fj];rfl),rfl,rfl,Gd⟩,rfl,rfl,rfl,rfl⟩)⟩⟩
   ·obtain rfl:=hO2 (eq_of_beq k2);exact⟨hl1 _,hl1 _,VRow.mk (i:=i) (j:=2) (hl1 _) rfl (hg1 [vInt x.kind,vInt x.ty,vStr x.name,exs (x.args.map (rnX g)),sts x.thn,sts x.els]) rfl
     (VAsk.mk (p:=vStr (z8q g x.name)) (b:=(z1z (.string x.name) g).isSome) rfl hg.1 (Ea (hg.get x.name) rfl) ⟨hl1 _,hl1 _,i,2,_,hl1 _,rfl,hg1 [vInt x.kind,vInt x.ty,vStr x.name,exs (x.args.map (rnX g)),sts x.thn,sts x.els],by simp,(),Gd,Gd,⟨rwq (by rw[Fj];rfl),rfl,rfl,Gd⟩,rfl,rfl,rfl,rfl⟩)⟩
   ·obtain rfl:=hO3 (Ad.1 k1) (Ad.1 k2);exact⟨(),Gd,Gd,Gg,rfl,rfl,rfl,rfl⟩
  ·rintro _ _;refine⟨hl1 _,hl1 _,VRow.mk (i:=i) (j:=4) (hl1 _) rfl (hg1 [vInt x.kind,vInt x.ty,vStr O.1,exs (x.args.map (rnX g)),sts x.thn,sts x.els]) rfl ⟨[8],hT,sR,Gg,rfl,hl1 _,hl1 _,VRow.mk (i:=i) (j:=5) (hl1 _) rfl (hg1 [vInt x.kind,vInt x.ty,vStr O.1,exs (x.args.map (rnX g)),sts x.thn,sts x.els]) rfl ⟨[8],hE,sR,Gg,rfl,hl1 _,hl1 _,i,4,_,hl1 _,rfl,hg1 [vInt x.kind,vInt x.ty,vStr O.1,exs (x.args.map (rnX g)),sts x.thn,sts x.els],by simp,hl2 _ _,hl2 _ _,i,5,_,hl2 _ _,rfl,hg2 _ [vInt x.kind,vInt x.ty,vStr O.1,exs (x.args.map (rnX g)),sts t'.1,sts x.els],by simp,?_⟩⟩⟩;exact⟨z01 rfl oM0,i+1,z04 hlt,hlt,Ge,⟨rwq (by rw[Fj,Fj,hfin];rfl),mpq (by rw[hsn]),by rw[hsn];rfl,Gd⟩,rfl,rfl,rfl,rfl⟩
 ·have hge:l.length<=i:=z13 (f:=St.enc) rfl hcc;have h1:zj1 es c l i=(rnG l es c).1:=by unfold zj1;rw[As hge,A8 hge,Cu]
  rw[h1,As hge];exact⟨by simp[zj2],sI,rfl,rfl,Gd⟩
theorem j0p:∀N,fRN N
 |0=>λ_ h=>absurd h (Ai _)
 |N+1=>yf3 N (j0p N)
theorem y1e:∀(l:List Pm) (x:Pm) (es:List (Value×PV)) (n:Nat),rnPm (l++[x]) es n=((rnPm l es n).1++[⟨z8q (z9x (rnPm l es n).2.1 x.name (tVal (rnPm l es n).2.2)) x.name,x.ty⟩],z9x (rnPm l es n).2.1 x.name (tVal (rnPm l es n).2.2),(rnPm l es n).2.2+1)
 |[],x,es,n=>rfl
 |y::r,x,es,n=>by
  have:=y1e r x (z9x es y.name (tVal n)) (n+1);simp only[B9,rnPm,this]
theorem z9w:∀(l:List Pm) (es:List (Value×PV)) (n:Nat),(rnPm l es n).1.length=l.length
 |[],_,_=>rfl
 |x::r,es,n=>by simp[rnPm,z9w r]
theorem yn4:∀(l:List Pm) (es:List (Value×PV)) (n:Nat),SMap es->SMap (rnPm l es n).2.1
 |[],_,_,h=>h
 |x::r,es,n,h=>yn4 r _ _ (h.put _ _)
theorem rnPm_n:∀(l:List Pm) (es:List (Value×PV)) (n:Nat),(rnPm l es n).2.2=n+l.length
 |[],_,_=>rfl
 |x::r,es,n=>by simp only[rnPm,rnPm_n r,Al];omega
def zx0(l:List Pm)(i:Nat):List Pm:=(rnPm (l.take i) [] 0).1++l.drop i
theorem j2j(l:List Pm)(i:Nat):(zx0 l i).length=l.length:=by unfold zx0;simp[z9w];omega
theorem j2i{l:List Pm}{i:Nat}{x:Pm}(h:l[i]?=some x):(zx0 l i)[i]?=some x:=by
 have hi:=(A4.1 h).1;unfold zx0;rw[Ay (by simp[z9w];omega)];simp[z9w];rw[show i-min i l.length=0 by omega];simpa using h
theorem j2k{l:List Pm}{i:Nat}{x:Pm}(h:l[i]?=some x):(zx0 l i).set i ⟨z8q (z9x (rnPm (l.take i) [] 0).2.1 x.name (tVal (rnPm (l.take i) [] 0).2.2)) x.name,x.ty⟩=zx0 l (i+1):=by
 have hi:=(A4.1 h).1;obtain⟨y,y1,y2,y3,y4⟩:=z0s hi;rw[h]at y1;cases y1
 unfold zx0;rw[y2,y1e,y3,De _ _ (by simp[z9w];omega)];simp[z9w];rw[show i-min i l.length=0 by omega];rfl
theorem sc_rnF0(nm:ByteArray)(ty:Int)(body:List St)(hb:szL body<=1000000):SC Tryz.prog 36 [.pv (.agg [vStr nm,vInt ty,pms [],sts body])] [] (λk=>k∈[]) (.pv (.agg (rnF ⟨nm,ty,[],body⟩).enc)) []:=by
 refine SC.vc tb { ids:=[(7,1)] } [] Tryz.func36 rfl rfl ?_;have h:=j0p _ body (A7 _) oM0 [] SMap.nil 0 oM0;refine⟨[],zw3,sR,Gd,rfl,[],ye2,sR,Gd,rfl,Unit,λ_=>[(16,iInt 0)],λ_=>[],λ_=>0,λ_=>True,[],(),Gd,Ge,Gd,?_⟩;rintro _ _;exact⟨[],h,sR,Gf,rfl,sI,Gd⟩
theorem sc_rnF1(nm:ByteArray)(ty:Int)(l:List Pm)(body:List St)(hne:l≠[])(hl:l.length<=1000000)(hb:szL body<=1000000):SC Tryz.prog 36 [.pv (.agg [vStr nm,vInt ty,pms l,sts body])] [] (λk=>k∈[]) (.pv (.agg (rnF ⟨nm,ty,l,body⟩).enc)) []:=by
 refine SC.vc tb { ids:=[(7,1)],gh:=[(10,[.fzC 101 2 7])] } [] Tryz.func36 rfl rfl ?_;refine⟨[],zw3,sR,Gd,rfl,[],yv6 l hne oM0,sR,Gd,rfl,rfl,rfl,?_⟩;refine⟨Nat,λi=>[(16,iInt ((i:Nat):Int))],λi=>[(7,.row pmRt ((zx0 l i).map Pm.enc)),(1,.map (rnPm (l.take i) [] 0).2.1),(2,cnB (rnPm (l.take i) [] 0).2.2)],λi=>l.length-i,λi=>i<=l.length,[],0,Ab _,Ge,Gg,?_⟩;intro i hi;have hmap:=yn4 (l.take i) [] 0 SMap.nil;have hcnt:=rnPm_n (l.take i) [] 0;have hlen:((zx0 l i).map Pm.enc).length=(l.map Pm.enc).length:=by simp[j2j]
 refine z00 (λhc=>?_) λhc=>?_
 ·have hlt:i<l.length:=z12 (f:=Pm.enc) rfl hc;obtain⟨x,x1,x2,x3,x4⟩:=z0s hlt;have hin:i<(l.map Pm.enc).length:=by rw[A6];exact hlt
  have hget:((zx0 l i).map Pm.enc)[i]?=some [vStr x.name,vInt x.ty]:=zv4 (j2i x1);have hset:=j2k x1;have hsn:=y1e (l.take i) x [] 0;rw[<- x2]at hsn;have hF:=y47 (rnPm (l.take i) [] 0).2.2 (by rw[hcnt];simp;omega);have hp:=hmap.put x.name (tVal (rnPm (l.take i) [] 0).2.2);refine⟨hlen,hin,rfl,VRowS.mk (i:=i) hlen rfl hget ⟨hF,sR,Ge,(λk hk=>absurd hk C5),rfl,rfl,rfl,hmap.1,VAsk.mk (p:=vStr (z8q (z9x (rnPm (l.take i) [] 0).2.1 x.name (tVal (rnPm (l.take i) [] 0).2.2)) x.name)) (b:=(z1z (.string x.name) (z9x (rnPm (l.take i) [] 0).2.1 x.name (tVal (rnPm (l.take i) [] 0).2.2))).isSome) rfl hp.1 (Ea (hp.get x.name) rfl) ⟨hlen,hin,rfl,hlen,i,0,_,hlen,rfl,hget,by simp,?_⟩⟩⟩;exact⟨z01 rfl oM0,i+1,z04 hlt,hlt,Ge,⟨rwq (by rw[<- hset,Bt];rfl),mpq (by rw[hsn];rfl),by rw[hsn];rfl,Gd⟩,rfl,rfl,rfl,rfl⟩
 ·have hge:l.length<=i:=z13 (f:=Pm.enc) rfl hc;have h1:zx0 l i=(rnPm l [] 0).1:=by unfold zx0;rw[As hge,A8 hge,Cu]
  rw[As hge]at hmap hcnt⊢;rw[h1]at hlen⊢;have h:=j0p _ body (A7 _) oM0 (rnPm l [] 0).2.1 hmap (rnPm l [] 0).2.2 oM0;exact⟨[],h,sR,Gf,rfl,hlen,sI,Gd⟩
theorem sc_rnF(f:Fu)(hl:1+f.params.length+szL f.body<=1000000):SC Tryz.prog 36 [.pv (.agg f.enc)] [] (λk=>k∈[]) (.pv (.agg (rnF f).enc)) []:=by
 obtain⟨nm,ty,l,body⟩:=f;dsimp only at hl
 cases l with
 |nil=>exact sc_rnF0 nm ty body oM0
 |cons a r=>exact sc_rnF1 nm ty (a::r) body sI0 oM0 oM0
def rnOf(p:Pg):Pg×Int:=if (z8e p).1=0 then(rnP p,0)else(pg0,1)
theorem yv0(p:Pg)(h0:p.arrays=[])(hb:pz p.funcs<=1000000){c2 c3:Int}(hC:SC Tryz.prog 34 [.pv p.enc] [] (λk=>k∈[]) (.tup [iInt 0,.pv (.agg [vInt c2,vInt c3])]) []):SC Tryz.prog 17 [.pv p.enc] [] (λk=>k∈[]) (.tup [.pv (rnP p).enc,iInt 0]) []:=by
 have hlp:=zl6 p.funcs;obtain⟨ars,fs⟩:=p;dsimp only at h0 hb hlp;subst h0;refine SC.vc tb { gh:=[(5,[.growC 102 1 1002 57 4]),(10,[.fzC 102 1 1002])] } [] Tryz.func17 rfl rfl ?_;refine⟨[],hC,sR,Gd,rfl,[],ye0,sR,Gd,rfl,?_⟩;refine⟨Nat,λi=>[(23,iInt ((i:Nat):Int))],λi=>[(1002,.row fuRt (((fs.take i).map rnF).map Fu.enc)),(102,.box [.pv (.seq []),.sl 1002 (((fs.take i).map rnF).map Fu.enc).length])],λi=>fs.length-i,λi=>i<=fs.length,[],0,Ab _,Ge,Gf,?_⟩;intro i hi;refine z00 (λhcc=>?_) λhcc=>?_
 ·have hlt:i<fs.length:=z12 (f:=Fu.enc) rfl hcc;obtain⟨x,x1,x2,x3,x4⟩:=z0s hlt;have hpz:=zv5 x4;exact⟨zb0 x1,rfl,[],sc_rnF x oM0,sR,Gd,rfl,rfl,z3y rfl,by simp;omega,by simp,z01 rfl oM0,i+1,z04 hlt,hlt,Ge,⟨rwq (by rw[x2];simp[Fu.enc]),boq (by simp;omega),Gd⟩,rfl,rfl,rfl,rfl⟩
 ·have hge:fs.length<=i:=z13 (f:=Fu.enc) rfl hcc;rw[As hge];exact⟨rfl,sI,Gd⟩
theorem yv1(p:Pg)(hne:p.arrays≠[])(ha:p.arrays.length<=1000000)(hb:pz p.funcs<=1000000){c2 c3:Int}(hC:SC Tryz.prog 34 [.pv p.enc] [] (λk=>k∈[]) (.tup [iInt 0,.pv (.agg [vInt c2,vInt c3])]) []):SC Tryz.prog 17 [.pv p.enc] [] (λk=>k∈[]) (.tup [.pv (rnP p).enc,iInt 0]) []:=by
 have hlp:=zl6 p.funcs;refine SC.vc tb { gh:=[(5,[.growC 102 1 1002 57 4]),(10,[.fzC 102 1 1002,.fzC 102 0 7])] } [] Tryz.func17 rfl rfl ?_;refine⟨[],hC,sR,Gd,rfl,[],yv4 p.arrays hne oM0,sR,Gd,rfl,rfl,?_⟩;refine⟨Nat,λi=>[(23,iInt ((i:Nat):Int))],λi=>[(1002,.row fuRt (((p.funcs.take i).map rnF).map Fu.enc)),(102,.box [.sl 7 (p.arrays.map Ar.enc).length,.sl 1002 (((p.funcs.take i).map rnF).map Fu.enc).length])],λi=>p.funcs.length-i,λi=>i<=p.funcs.length,[],0,Ab _,Ge,Gf,?_⟩;intro i hi;refine z00 (λhcc=>?_) λhcc=>?_
 ·have hlt:i<p.funcs.length:=z12 (f:=Fu.enc) rfl hcc;obtain⟨x,x1,x2,x3,x4⟩:=z0s hlt;have hpz:=zv5 x4;exact⟨zb0 x1,rfl,[],sc_rnF x oM0,sR,Gd,rfl,rfl,z3y rfl,by simp;omega,by simp,z01 rfl oM0,i+1,z04 hlt,hlt,Ge,⟨rwq (by rw[x2];simp[Fu.enc]),boq (by simp;omega),Gd⟩,rfl,rfl,rfl,rfl⟩
 ·have hge:p.funcs.length<=i:=z13 (f:=Fu.enc) rfl hcc;rw[As hge];exact⟨rfl,rfl,sI,Gd⟩
theorem j2x(p:Pg)(hb:pz p.funcs<=1000000)(ha:p.arrays.length<=1000000)(hr:rPg p=true):SC Tryz.prog 17 [.pv p.enc] [] (λk=>k∈[]) (.tup [.pv (rnOf p).1.enc,iInt (rnOf p).2]) []:=by
 have hC:=yx1 p hb ha hr;unfold rnOf;generalize z8e p=C at hC;obtain⟨c1,c2,c3⟩:=C;dsimp only at hC⊢
 by_cases hc:c1=0
 ·rw[if_pos hc];subst hc
  by_cases hne:p.arrays=[]
  ·exact yv0 p hne hb hC
  ·exact yv1 p hne ha hb hC
 ·rw[if_neg hc];refine SC.vc tb {} [] Tryz.func17 rfl rfl ?_;exact⟨[],hC,sR,Gd,rfl,z00 (λ_=>⟨sT2 (sP (z0g _)),Gd⟩) λh=>absurd h (by simp[hc])⟩
structure RiS where
 ts:List Int
 ns:List Nd
def y2k(vs:List (Value×PV))(name:ByteArray):Int:=match z1z (.string name) vs with
 |some (.val (.int .i64 n))=>n
 |_=>0
def riSt(vs:List (Value×PV))(name:ByteArray)(v:Int):List (Value×PV):=mput (.string name) (vInt v) vs
def z5y(t k o n:Int)(nm:ByteArray)(args:List Int)(kids:List (List Nd))(s:RiS):Int×RiS:=(s.ts.length,⟨s.ts++[t],s.ns++[.mk k o n nm args [(s.ts.length:Int)] [] kids]⟩)
def z6b(k:Int)(nm:ByteArray)(args:List Int)(ns:List Nd):List Nd:=ns++[.mk k 0 0 nm args [] [] []]
def y1a(op:Int):Int:=if op=22∨(12<=op/\op<=17)then 2 else 1
def zj0(p:Pg)(k o n:Int)(nm:ByteArray)(l:List Int)(s:RiS):Int×RiS :=
 if k=1 then z5y 1 1 0 n ⟨#[]⟩ [] [] s else if k=2 then z5y 2 2 0 n ⟨#[]⟩ [] [] s else if k=4 then z5y (y1a o) 3 o 0 ⟨#[]⟩ l [] s else if k=5 then z5y (y1a o) 4 o 0 ⟨#[]⟩ l [] s
 else if k=6 then z5y 1 5 0 0 nm l [] s else if k=8 then z5y 1 8 0 0 ⟨#[]⟩ [] [] s else z5y (fuAt p (z3m p nm)).ty 7 0 0 nm l [] s
def z5r(o a:Int)(ns:List Nd)(r:Int×RiS):Int×RiS :=
 if o=19 then z5y 2 10 0 0 ⟨#[]⟩ [a] [z6b 12 ⟨#[]⟩ [(r.2.ts.length:Int)] [.mk 2 0 1 ⟨#[]⟩ [] [(r.2.ts.length:Int)] [] []],z6b 12 ⟨#[]⟩ [r.1] r.2.ns] ⟨r.2.ts++[2],ns⟩
 else z5y 2 10 0 0 ⟨#[]⟩ [a] [z6b 12 ⟨#[]⟩ [r.1] r.2.ns,z6b 12 ⟨#[]⟩ [(r.2.ts.length:Int)] [.mk 2 0 0 ⟨#[]⟩ [] [(r.2.ts.length:Int)] [] []]] ⟨r.2.ts++[2],ns⟩
mutual
def riX(p:Pg)(vs:List (Value×PV)):Ex->RiS->Int×RiS
 |.mk k o n nm args,s=>if k=3 then(y2k vs nm,s)else if k=5/\(o=18∨o=19)then riSh p vs o args s else zj0 p k o n nm (riXL p vs args s).1 (riXL p vs args s).2
def riXL(p:Pg)(vs:List (Value×PV)):List Ex->RiS->List Int×RiS
 |[],s=>([],s)
 |e::r,s=>((riX p vs e s).1::(riXL p vs r (riX p vs e s).2).1,(riXL p vs r (riX p vs e s).2).2)
def riSh(p:Pg)(vs:List (Value×PV))(o:Int):List Ex->RiS->Int×RiS
 |[],s=>(0,s)
 |e::r,s=>zi8 p vs o (riX p vs e s).1 (riX p vs e s).2 r
def zi8(p:Pg)(vs:List (Value×PV))(o a:Int)(s:RiS):List Ex->Int×RiS
 |[]=>(0,s)
 |e::_=>z5r o a s.ns (riX p vs e ⟨s.ts,[]⟩)
end
mutual
def z4o(vs:List (Value×PV)):List St->List (Value×PV)->List (Value×PV)
 |[],out=>out
 |x::r,out=>z4o vs r (ym8 vs x out)
def ym8(vs:List (Value×PV)):St->List (Value×PV)->List (Value×PV)
 |.mk k _ nm _ thn els,out=>z4o vs els (z4o vs thn (if (z1z (.string nm) vs).isSome&&k==2 then mput (.string nm) (.agg []) out else out))
end
def z78:Value->ByteArray
 |.string s=>s
 |_=>⟨#[]⟩
def zo0(l:List ByteArray):List ByteArray:=((l.map λs=>s.data.toList).mergeSort λx y=>decide (x<=y)).map λb=>⟨b.toArray⟩
def z8o(vs:List (Value×PV))(ls:List (List St)):List (Value×PV):=ls.foldl (λo l=>z4o vs l o) []
def z0b(vs:List (Value×PV))(ls:List (List St)):List ByteArray:=zo0 ((z8o vs ls).map λe=>z78 e.1)
def riOf(vs:List (Value×PV))(z03:List ByteArray):List Int:=z03.map (y2k vs)
def zm9(vs:List (Value×PV)):List ByteArray->List Int->List (Value×PV)
 |n::r,v::q=>zm9 (riSt vs n v) r q
 |_,_=>vs
def z15(ts:List Int):List Int->List Int×List Int
 |[]=>([],ts)
 |v::r=>((ts.length:Int)::(z15 (ts++[ts.getD v.toNat 0]) r).1,(z15 (ts++[ts.getD v.toNat 0]) r).2)
structure Lo where
 ls:List (List ByteArray)
 jk:List (List ByteArray)
structure RiT where
 vs:List (Value×PV)
 ts:List Int
 ns:List Nd
 jk:List (List ByteArray)
def z5b(k:Int)(z03:List ByteArray)(a:Bool×RiT):List Nd:=if a.1 then a.2.ns else z6b k ⟨#[]⟩ (riOf a.2.vs z03) a.2.ns
def z5q(vs:List (Value×PV))(z03:List ByteArray)(ts:List Int)(ns:List Nd)(jk:List (List ByteArray))(k:Int)(args params:List Int)(kids:List (List Nd)):Bool×RiT :=
 if z05 (.mk k 0 0 ⟨#[]⟩ args [] params kids)then(true,⟨vs,ts,ns++[.mk k 0 0 ⟨#[]⟩ args [] params kids],jk⟩)
 else(false,⟨zm9 vs z03 (z15 ts (riOf vs z03)).1,(z15 ts (riOf vs z03)).2,ns++[.mk k 0 0 ⟨#[]⟩ args (z15 ts (riOf vs z03)).1 params kids],jk⟩)
def z8a(p:Pg)(k:Int)(nm:ByteArray)(args:List Ex)(s:RiT):RiT :=
 if k=1∨k=2 then⟨riSt s.vs nm (riX p s.vs (args.getD 0 ex0) ⟨s.ts,s.ns⟩).1,(riX p s.vs (args.getD 0 ex0) ⟨s.ts,s.ns⟩).2.ts,(riX p s.vs (args.getD 0 ex0) ⟨s.ts,s.ns⟩).2.ns,s.jk⟩
 else if k=3 then⟨s.vs,(riX p s.vs (args.getD 1 ex0) (riX p s.vs (args.getD 0 ex0) ⟨s.ts,s.ns⟩).2).2.ts,z6b 6 nm [(riX p s.vs (args.getD 0 ex0) ⟨s.ts,s.ns⟩).1,(riX p s.vs (args.getD 1 ex0) (riX p s.vs (args.getD 0 ex0) ⟨s.ts,s.ns⟩).2).1] (riX p s.vs (args.getD 1 ex0) (riX p s.vs (args.getD 0 ex0) ⟨s.ts,s.ns⟩).2).2.ns,s.jk⟩
 else if k=9 then⟨s.vs,(riX p s.vs (args.getD 0 ex0) ⟨s.ts,s.ns⟩).2.ts,z6b 9 ⟨#[]⟩ [(riX p s.vs (args.getD 0 ex0) ⟨s.ts,s.ns⟩).1] (riX p s.vs (args.getD 0 ex0) ⟨s.ts,s.ns⟩).2.ns,s.jk⟩
 else⟨s.vs,(riX p s.vs (args.getD 0 ex0) ⟨s.ts,s.ns⟩).2.ts,(riX p s.vs (args.getD 0 ex0) ⟨s.ts,s.ns⟩).2.ns,s.jk⟩
def zd7(e:Ex):Bool:=e.kind==2&&e.n==1
def z8p(z03:List ByteArray)(kvs:List (Value×PV))(c:Int×RiS)(a:Bool×RiT):List Nd:=c.2.ns++[.mk 10 0 0 ⟨#[]⟩ [c.1] [] [] [z5b 13 z03 a,z6b 14 ⟨#[]⟩ (riOf kvs z03) []]]
def ze8(s:RiT)(z03:List ByteArray)(c:Int×RiS)(a b:Bool×RiT):Bool×RiT:=z5q s.vs z03 b.2.ts c.2.ns b.2.jk 10 [c.1] [] [z5b 12 z03 a,z5b 12 z03 b]
def z2a(s:RiT)(z03:List ByteArray):RiT:=⟨zm9 s.vs z03 (z15 s.ts (riOf s.vs z03)).1,(z15 s.ts (riOf s.vs z03)).2,[],s.jk.tail⟩
def y5r(s:RiT)(z03:List ByteArray)(a:Bool×RiT):Bool×RiT:=z5q s.vs z03 a.2.ts s.ns (z03::a.2.jk) 11 (riOf s.vs z03) (z15 s.ts (riOf s.vs z03)).1 [z5b 13 z03 a]
def y5s(s:RiT)(z03:List ByteArray)(c:Int×RiS)(a:Bool×RiT):Bool×RiT:=z5q s.vs z03 a.2.ts s.ns (z03::a.2.jk) 11 (riOf s.vs z03) (z15 s.ts (riOf s.vs z03)).1 [z8p z03 (z2a s z03).vs c a]
mutual
def riB(p:Pg):List St->List (List ByteArray)->RiT->Bool×RiT
 |[],_,s=>(false,s)
 |x::r,lo,s=>if (riS p x lo s).1 then(true,(riS p x lo s).2)else riB p r lo (riS p x lo s).2
def riS(p:Pg):St->List (List ByteArray)->RiT->Bool×RiT
 |.mk k _ nm args thn els,lo,s =>
  if k=4 then ze8 s (z0b s.vs [thn,els]) (riX p s.vs (args.getD 0 ex0) ⟨s.ts,s.ns⟩) (riB p thn lo ⟨s.vs,(riX p s.vs (args.getD 0 ex0) ⟨s.ts,s.ns⟩).2.ts,[],s.jk⟩)
   (riB p els lo ⟨s.vs,(riB p thn lo ⟨s.vs,(riX p s.vs (args.getD 0 ex0) ⟨s.ts,s.ns⟩).2.ts,[],s.jk⟩).2.ts,[],(riB p thn lo ⟨s.vs,(riX p s.vs (args.getD 0 ex0) ⟨s.ts,s.ns⟩).2.ts,[],s.jk⟩).2.jk⟩)
  else if k=5 then
   if zd7 (args.getD 0 ex0)then y5r s (z0b s.vs [thn]) (riB p thn (lo++[z0b s.vs [thn]]) (z2a s (z0b s.vs [thn])))
   else y5s s (z0b s.vs [thn]) (riX p (z2a s (z0b s.vs [thn])).vs (args.getD 0 ex0) ⟨(z2a s (z0b s.vs [thn])).ts,[]⟩)
    (riB p thn (lo++[z0b s.vs [thn]]) ⟨(z2a s (z0b s.vs [thn])).vs,(riX p (z2a s (z0b s.vs [thn])).vs (args.getD 0 ex0) ⟨(z2a s (z0b s.vs [thn])).ts,[]⟩).2.ts,[],s.jk.tail⟩)
  else if k=6 then(true,⟨s.vs,s.ts,z6b 14 ⟨#[]⟩ (riOf s.vs (lo.getLastD [])) s.ns,s.jk⟩)
  else if k=7 then(true,⟨s.vs,s.ts,z6b 13 ⟨#[]⟩ (riOf s.vs (lo.getLastD [])) s.ns,s.jk⟩)
  else if k=8 then(true,⟨s.vs,(riX p s.vs (args.getD 0 ex0) ⟨s.ts,s.ns⟩).2.ts,z6b 15 ⟨#[]⟩ [(riX p s.vs (args.getD 0 ex0) ⟨s.ts,s.ns⟩).1] (riX p s.vs (args.getD 0 ex0) ⟨s.ts,s.ns⟩).2.ns,s.jk⟩)
  else(false,z8a p k nm args s)
end
def eTxs(l:List ByteArray):List PV:=[.seq (l.map eTx)]
def inRt:RT:=⟨3,1⟩
def loRt:RT:=⟨77,1⟩
def ndRt:RT:=⟨47,8⟩
def riBx(p:Pg)(ts:List Int)(lo:Lo):List (Nat×HO) :=
 [(1,.box [.pv (arrs p.arrays),.pv (fus p.funcs),.sl 2 (ts.map eInt).length,.sp 3 (lo.ls.map eTxs).length ((lo.ls++lo.jk).map eTxs).length]),(2,.row inRt (ts.map eInt)),(3,.row loRt ((lo.ls++lo.jk).map eTxs))]
def riLx(vs:List (Value×PV))(ns:List Nd):List (Nat×HO) :=
 [(4,.box [.ptr 1 0,.mp 5,.sl 6 (ns.map Nd.enc).length]),(5,.map vs),(6,.row ndRt (ns.map Nd.enc))]
theorem zs3(p:Pg)(ts:List Int)(lo:Lo)(t:Int)(hb:ts.length<=34359738368):SC Tryz.prog 37 [.ptr 1 0,.pv (.val (.int .i64 t))] (riBx p ts lo) (λk=>k∈[]) (iInt (ts.length:Int)) (riBx p (ts++[t]) lo):=by
 refine SC.vc tb {} [] Tryz.func37 rfl rfl ?_;exact⟨rfl,z3y rfl,by simp;omega,by simp,by simp,z4b (z:=(ts.length:Int)) sI0 oM0,sI,boq sI0,rwq (by simp[eInt]),rfl,Gd⟩
theorem y8p(op:Int):SC Tryz.prog 170 [.pv (.val (.int .i64 op))] [] (λk=>k∈[]) (iInt (y1a op)) []:=by
 refine SC.vc tb {} [] Tryz.func170 rfl rfl ?_
 by_cases h:op=22∨op=12∨op=13∨op=14∨op=15∨op=16∨op=17
 ·rcases h with rfl|rfl|rfl|rfl|rfl|rfl|rfl<;>exact⟨sI,Gd⟩
 ·have hT:y1a op=1:=by unfold y1a;rw[if_neg oM0]
  rw[hT]
  repeat' (first|exact⟨sI,Gd⟩|refine z00 (λg=>absurd (eq_of_beq g) oM0) λ_=>?_)
theorem z47(p:Pg)(ts:List Int)(lo:Lo)(vs:List (Value×PV))(ns:List Nd)(x:Nd)(hb:ns.length<=34359738368):SC Tryz.prog 117 [.ptr 4 0,.pv (.agg [vInt x.kind,vInt x.op,vInt x.n,vStr x.name,ints x.args,ints x.outs,ints x.params,kids x.kids])] (riBx p ts lo++riLx vs ns) (λk=>k∈[]) (.tup []) (riBx p ts lo++riLx vs (ns++[x])):=by
 refine SC.vc tb {} [] Tryz.func117 rfl rfl ?_;exact⟨rfl,z3y rfl,by simp;omega,by simp,sI,rfl,rfl,rfl,boq sI0,rfl,rwq (by rw[Cl,B3,Cs,Nd.enc_eq,Nd.cells_eta]),Gd⟩
theorem z6i(p:Pg)(ts:List Int)(lo:Lo)(vs:List (Value×PV))(ns:List Nd)(t k o n:Int)(nm:ByteArray)(args:List Int)(ks:List (List Nd))(ht:ts.length<=34359738368)(hb:ns.length<=34359738368) :
 SC Tryz.prog 169 [.ptr 4 0,.pv (.val (.int .i64 t)),.pv (.agg [vInt k,vInt o,vInt n,vStr nm,ints args,ints [],ints [],kids ks])] (riBx p ts lo++riLx vs ns) (λk=>k∈[]) (iInt (z5y t k o n nm args ks ⟨ts,ns⟩).1) (riBx p (z5y t k o n nm args ks ⟨ts,ns⟩).2.ts lo++riLx vs (z5y t k o n nm args ks ⟨ts,ns⟩).2.ns):=by
 refine SC.vc tb {} [] Tryz.func169 rfl rfl ?_;exact⟨[],zs3 p ts lo t ht,sR,Gg,rfl,[],z47 p (ts++[t]) lo vs ns (.mk k o n nm args [(ts.length:Int)] [] ks) hb,sR,Gk,rfl,sI,rfl,rfl,rfl,rfl,rfl,rfl,Gd⟩
theorem Cnt.getI{es:List (Value×PV)}(h:Cnt es)(name:ByteArray):(z1z (.string name) es).getD (.val (.int .i64 0))=vInt (y2k es name):=by
 unfold y2k
 cases hf:z1z (.string name) es with
 |none=>rfl
 |some p=>obtain⟨a,ha⟩:=z8x hf;obtain⟨s,hs⟩:=h.2 _ ha;dsimp only at hs;subst hs;rfl
theorem Cnt.putI{es:List (Value×PV)}(h:Cnt es)(a:ByteArray)(v:Int):Cnt (riSt es a v):=by
 unfold riSt;refine⟨λe he=>?_,λe he=>?_⟩
 ·rcases z56 he with rfl|he
  ·rfl
  ·exact h.1 e he
 ·rcases z56 he with rfl|he
  ·exact⟨_,rfl⟩
  ·exact h.2 e he
def txs(l:List ByteArray):PV:=.seq (l.map eTx)
theorem zj4(vs:List (Value×PV))(hv:Cnt vs)(l:List ByteArray)(hl:l.length<=34359738368):SC Tryz.prog 118 [.mp 5,.pv (txs l)] [(5,.map vs)] (λk=>k∈[5]) (.pv (ints (riOf vs l))) [(5,.map vs)]:=by
 refine SC.vc tb { gh:=[(1,[.grow 4 1001 3 1]),(6,[.fz 4 1001])] } [5] Tryz.func118 rfl rfl ?_;refine⟨Nat,λi=>[(9,iInt ((i:Nat):Int)),(4,.sl 1001 ((riOf vs (l.take i)).map eInt).length)],λi=>[(1001,.row inRt ((riOf vs (l.take i)).map eInt))],λi=>l.length-i,λi=>i<=l.length,[],0,Ab _,Gf,Ge,?_⟩;intro i hi;refine z00 (λhc=>?_) λhc=>?_
 ·have hlt:i<l.length:=z12 (f:=eTx) rfl hc;obtain⟨x,x1,x2,x3,x4⟩:=z0s hlt;exact⟨z02 (f:=eTx) x1,rfl,VAsk.mk (p:=vInt (y2k vs x)) (b:=(z1z (.string x) vs).isSome) rfl hv.1 (Ea (hv.getI x) rfl) ⟨rfl,z3y rfl,by simp[riOf];omega,z01 rfl oM0,i+1,z04 hlt,hlt,⟨rfl,slq (by simp[riOf];omega),Gd⟩,⟨rwq (by rw[x2];simp[riOf,eInt]),Gd⟩,rfl,rfl,rfl,rfl⟩⟩
 ·have hge:l.length<=i:=z13 (f:=eTx) rfl hc;rw[As hge];exact⟨rfl,sI,rfl,Gd⟩
theorem y3u:∀(a:List ByteArray) (b:List Int) (vs:List (Value×PV)) (n:ByteArray) (v:Int),a.length=b.length->zm9 vs (a++[n]) (b++[v])=riSt (zm9 vs a b) n v
 |[],[],_,_,_,_=>rfl
 |x::a,y::b,vs,n,v,h=>by
  simp only[B9,zm9];exact y3u a b _ n v (by simpa using h)
theorem y88:∀(a:List ByteArray) (b:List Int) {vs:List (Value×PV)},Cnt vs->Cnt (zm9 vs a b)
 |[],[],_,h=>h
 |[],_::_,_,h=>h
 |_::_,[],_,h=>h
 |x::a,y::b,_,h=>y88 a b (h.putI x y)
theorem y64(vs:List (Value×PV))(hv:Cnt vs)(l:List ByteArray)(q:List Int)(hq:l.length=q.length)(hl:l.length<=34359738368):SC Tryz.prog 165 [.mp 5,.pv (txs l),.pv (ints q)] [(5,.map vs)] (λk=>k∈[]) (.tup []) [(5,.map (zm9 vs l q))]:=by
 refine SC.vc tb {} [] Tryz.func165 rfl rfl ?_;refine⟨Nat,λi=>[(10,iInt ((i:Nat):Int))],λi=>[(5,.map (zm9 vs (l.take i) (q.take i)))],λi=>l.length-i,λi=>i<=l.length,[],0,Ab _,Ge,⟨by simp[zm9];rfl,Gd⟩,?_⟩;intro i hi;have hc0:=y88 (l.take i) (q.take i) hv;refine z00 (λhc=>?_) λhc=>?_
 ·have hlt:i<l.length:=z12 (f:=eTx) rfl hc;obtain⟨x,x1,x2,x3,x4⟩:=z0s hlt;obtain⟨y,y1,y2,y3,y4⟩:=z0s (show i<q.length by omega);exact⟨z02 (f:=eTx) x1,rfl,z02 (f:=eInt) y1,rfl,rfl,hc0.1,z01 rfl oM0,i+1,z04 hlt,hlt,Ge,⟨mpq (by rw[x2,y2,y3u _ _ _ _ _ (by simp;omega)];rfl),Gd⟩,rfl,rfl,rfl,rfl⟩
 ·have hge:l.length<=i:=z13 (f:=eTx) rfl hc;rw[As hge,As oM0];exact⟨sI,rfl,Gd⟩
theorem z3g:∀(l ts:List Int),(z15 ts l).1.length=l.length/\(z15 ts l).2.length=ts.length+l.length
 |[],ts=>⟨rfl,rfl⟩
 |v::r,ts=>by
  have:=z3g r (ts++[ts.getD v.toNat 0]);simp only[z15,Al,B5,Az]at this⊢;omega
theorem y19:∀(l ts:List Int)(v:Int),z15 ts (l++[v])=((z15 ts l).1++[((z15 ts l).2.length:Int)],(z15 ts l).2++[(z15 ts l).2.getD v.toNat 0])
 |[],ts,v=>rfl
 |w::r,ts,v=>by
  have:=y19 r (ts++[ts.getD w.toNat 0]) v;simp only[B9,z15,this]
theorem y1q(p:Pg)(ts:List Int)(lo:Lo)(l:List Int)(hv:∀v∈l,0<=v/\v<ts.length)(hb:ts.length+l.length<=34359738368):SC Tryz.prog 164 [.ptr 1 0,.pv (ints l)] (riBx p ts lo) (λk=>k∈[]) (.pv (ints (z15 ts l).1)) (riBx p (z15 ts l).2 lo):=by
 refine SC.vc tb { gh:=[(1,[.grow 4 1001 3 1]),(6,[.fz 4 1001])] } [] Tryz.func164 rfl rfl ?_;refine⟨Nat,λi=>[(9,iInt ((i:Nat):Int)),(4,.sl 1001 ((z15 ts (l.take i)).1.map eInt).length)],λi=>(1001,.row inRt ((z15 ts (l.take i)).1.map eInt))::riBx p (z15 ts (l.take i)).2 lo,λi=>l.length-i,λi=>i<=l.length,[],0,Ab _,Gf,Gi,?_⟩;intro i hi;obtain⟨g1,g2⟩:=z3g (l.take i) ts;have g3:(l.take i).length=i:=by simp;omega
 refine z00 (λhc=>?_) λhc=>?_
 ·have hlt:i<l.length:=z12 (f:=eInt) rfl hc;obtain⟨x,x1,x2,x3,x4⟩:=z0s hlt;have hs:=y19 (l.take i) ts x;rw[<- x2]at hs;have hx:=hv x x4;have hix:x.toNat<(z15 ts (l.take i)).2.length:=by omega
  have hF:=zs3 p (z15 ts (l.take i)).2 lo ((z15 ts (l.take i)).2.getD x.toNat 0) oM0;refine⟨z02 (f:=eInt) x1,rfl,by simp,by rw[A6];exact hix,by omega,VRow.mk (i:=x.toNat) (j:=0) sI0 (by simp[inRt]) (z02 (f:=eInt) (z3o hix)) rfl ⟨[],hF,sR,Gg,rfl,rfl,z3y rfl,by simp;omega,?_⟩⟩;exact⟨z01 rfl oM0,i+1,z04 hlt,hlt,⟨rfl,slq (by rw[hs];simp),Gd⟩,⟨rwq (by rw[hs];simp[eInt]),by rw[hs];rfl,by rw[hs];rfl,rfl,Gd⟩,rfl,rfl,rfl,rfl⟩
 ·have hge:l.length<=i:=z13 (f:=eInt) rfl hc;rw[As hge];exact⟨by simp,sI,rfl,rfl,rfl,Gd⟩
theorem zf0(p:Pg)(ts:List Int)(lo:Lo)(vs:List (Value×PV))(ns:List Nd):SC Tryz.prog 166 [.ptr 4 0] (riBx p ts lo++riLx vs ns) (λk=>k∈[1,2,3,4,5,6]) (.ptr 14 0) ([(14,.box [.ptr 1 0,.mp 15,.pv (.val (.slice none 0 0))]),(15,.map vs)]++(riBx p ts lo++riLx vs ns)):=by
 refine SC.vc tb { ids:=[(13,14)] } [1,2,3,4,5,6] Tryz.func166 rfl rfl ?_;have hC:SC Tryz.prog 199 [.mp 5] [(5,.map vs)] (λk=>k∈[5]) (.mp 15) [(15,.map vs),(5,.map vs)]:=SC.sameR (((j31 vs).sw 1 5).sw 8 15) λk _ hk=>by rw[Ag.1 hk];exact D1
 exact⟨[5],hC,sR,⟨rfl,rfl,by simp,Gd⟩,rfl,sI,rfl,rfl,rfl,rfl,rfl,rfl,rfl,rfl,Gd⟩
theorem zd5(vs:List (Value×PV))(x:St)(out:List (Value×PV)):ym8 vs x out=z4o vs x.els (z4o vs x.thn (if (z1z (.string x.name) vs).isSome&&x.kind==2 then mput (.string x.name) (.agg []) out else out)):=by cases x;rw[ym8];rfl
theorem y3q(vs:List (Value×PV)):∀(l:List St) (x:St) (out:List (Value×PV)),z4o vs (l++[x]) out=ym8 vs x (z4o vs l out)
 |[],x,out=>by simp[z4o]
 |y::r,x,out=>by simp only[B9,z4o];exact y3q vs r x _
def StrK(es:List (Value×PV)):Prop:=∀e∈es,z1y .string e.1=true
theorem StrK.put{es:List (Value×PV)}(h:StrK es)(a:ByteArray)(v:PV):StrK (mput (.string a) v es):=λe he=>by
 rcases z56 he with rfl|he
 ·rfl
 ·exact h e he
theorem z97(vs:List (Value×PV)):∀(N:Nat)(l:List St),SizeOf.sizeOf l<N->∀out,StrK out->StrK (z4o vs l out)
 |0,_,h,_,_=>absurd h (Ai _)
 |N+1,[],_,out,h=>by rw[z4o];exact h
 |N+1,x::r,hN,out,h=>by
  have hx:=zs9 x;simp at hN;rw[z4o,zd5];refine z97 vs N r oM0 _ (z97 vs N x.els oM0 _ (z97 vs N x.thn oM0 _ ?_));split
  ·exact h.put _ _
  ·exact h
theorem okf_unit{o:Oper}{fr:Fr}{hp:Hp}{Rl:List Nat}(ho:o.op=.build 253 #[]):OkF Tryz.prog Rl o fr hp ⟨.pv (.agg []),[],[],[]⟩ :=
 .pure λc R1 fr2 hp2 _ _ _=>bPu (pl:=#[]) (out:=[]) ho (xs:=[]) rfl (z:=.agg #[]) kR0 ⟨#[],Tryz.underlying253,y12 (T:=tb) (a:=#[]) (l:=[]) rfl⟩ rfl (λp hp=>by cases hp) rfl
theorem y63(vs:List (Value×PV))(hv:Cnt vs):∀(N:Nat)(l:List St),SizeOf.sizeOf l<N->szL l<=1073741824->∀out,StrK out ->
 SC Tryz.prog 196 [.mp 5,.pv (sts l),.mp 9] [(5,.map vs),(9,.map out)] (λk=>k∈[5]) (.tup []) [(5,.map vs),(9,.map (z4o vs l out))]
 |0,_,h,_,_,_=>absurd h (Ai _)
 |N+1,l,hN,hx,out,ho=>by
  refine SC.vc tb { jn:=[6],an:=[5003] } [5] Tryz.func196 rfl rfl ?_;have hl:=z8m l;refine⟨Nat,λi=>[(12,iInt ((i:Nat):Int))],λi=>[(9,.map (z4o vs (l.take i) out))],λi=>l.length-i,λi=>i<=l.length,[],0,Ab _,Ge,⟨by simp[z4o];rfl,Gd⟩,?_⟩;intro i hi;have hk:=z97 vs _ (l.take i) (A7 _) out ho;refine z00 (λhc=>?_) λhc=>?_
  ·have hlt:i<l.length:=z12 (f:=St.enc) rfl hc;obtain⟨x,x1,x2,x3,x4⟩:=z0s hlt;have hso:=zs9 x;have hmem:=Bo x4;have hsz:=y2p x;have hszm:=zw6 x4;have hs:=y3q vs (l.take i) x out;rw[<- x2,zd5]at hs;generalize z4o vs (l.take i) out=o1 at hk hs⊢;generalize hO:(if (z1z (.string x.name) vs).isSome&&x.kind==2 then mput (.string x.name) (.agg []) o1 else o1)=o2 at hs;have hk2:StrK o2:=by
    rw[<- hO];split
    ·exact hk.put _ _
    ·exact hk
   have hT:=y63 vs hv N x.thn oM0 oM0 o2 hk2;have hk3:=z97 vs _ x.thn (A7 _) o2 hk2;have hE:=y63 vs hv N x.els oM0 oM0 _ hk3;refine⟨zk0 x1,rfl,Unit,λ_=>[],λ_=>[(9,.map o2)],λ_=>True,[9],VAsk.mk (p:=vInt (y2k vs x.name)) (b:=(z1z (.string x.name) vs).isSome) rfl hv.1 (Ea (hv.getI x.name) rfl) ?_,?_⟩
   ·refine z00 (λc=>?_) λc=>?_
    ·rw[c,B0]at hO;refine z00 (λc2=>?_) λc2=>?_
     ·have c2:(x.kind==2)=true:=c2;rw[c2,if_pos rfl]at hO;exact⟨okf_unit rfl,rfl,hk,(),Gd,Gd,⟨mpq hO,Gd⟩,rfl,rfl,rfl,rfl⟩
     ·have c2:(x.kind==2)=false:=c2;rw[c2,if_neg dC0]at hO;exact⟨(),Gd,Gd,⟨mpq hO,Gd⟩,rfl,rfl,rfl,rfl⟩
    ·rw[c,Cy,if_neg dC0]at hO;exact⟨(),Gd,Gd,⟨mpq hO,Gd⟩,rfl,rfl,rfl,rfl⟩
   ·rintro _ _;exact⟨[5],hT,sR,⟨rfl,rfl,by simp,rfl,Gd⟩,rfl,[5],hE,sR,⟨rfl,rfl,by simp,rfl,Gd⟩,rfl,z01 rfl oM0,i+1,z04 hlt,hlt,Ge,⟨mpq (by rw[hs]),Gd⟩,rfl,rfl,rfl,rfl⟩
  ·have hge:l.length<=i:=z13 (f:=St.enc) rfl hc;rw[As hge];exact⟨sI,rfl,rfl,Gd⟩
section
open Go Go.Proofs Go.RowKit Go.Maps Go.Sort Go.Shelf
def y0m:Go.Shelf.Ren:=⟨λ|7=>198|10=>226|n=>n,λ|23=>247|26=>9|3=>253|28=>251|0=>0|27=>250|33=>115|4=>4|n=>n,λ|n=>n⟩
theorem j13:Go.Proofs.SlLaysZ.n7 Tryz.prog y0m where
 mixed:=by kernel_rfl
 f7:=⟨"maps.Keys[map[string]struct{},string,struct{}]", by decide,Tryz.func198.trans (Aa some kR0)⟩
 f10:=⟨"maps.Keys[map[string]struct{},string,struct{}]$1", by decide,Tryz.func226.trans (Aa some kR0)⟩
 t0:=Tryz.underlying0
 a0:=Tryz.isAgg0
 z0:=Tryz.sizeOf0
 v0:=Tryz.zeroValue0
 t4:=Tryz.underlying4
 a4:=Tryz.isAgg4
 z4:=Tryz.sizeOf4
 v4:=Tryz.zeroValue4
 t23:=Tryz.underlying247
 a23:=Tryz.isAgg247
 z23:=Tryz.sizeOf247
 v23:=Tryz.zeroValue247
 t26:=Tryz.underlying9
 a26:=Tryz.isAgg9
 z26:=Tryz.sizeOf9
 v26:=Tryz.zeroValue9
 t27:=Tryz.underlying250
 a27:=Tryz.isAgg250
 z27:=Tryz.sizeOf250
 v27:=Tryz.zeroValue250
 t28:=Tryz.underlying251
 a28:=Tryz.isAgg251
 z28:=Tryz.sizeOf251
 v28:=Tryz.zeroValue251
 t33:=Tryz.underlying115
 a33:=Tryz.isAgg115
 z33:=Tryz.sizeOf115
 v33:=Tryz.zeroValue115
def zo1:Go.Shelf.Ren:=⟨λ|6=>197|8=>224|9=>225|11=>247|13=>249|12=>248|23=>265|24=>243|14=>256|15=>257|16=>258|17=>259|18=>260|19=>261|20=>262|21=>263|22=>264|25=>267|26=>268|27=>269|28=>270|29=>271|30=>272|31=>273|n=>n,λ|26=>9|28=>251|24=>77|0=>0|3=>3|37=>289|48=>287|50=>237|4=>4|40=>299|39=>298|45=>168|5=>5|9=>9|51=>309|55=>313|57=>315|58=>234|33=>115|n=>n,λ|n=>n⟩
theorem j4b:Go.Proofs.SlLaysZ.n6 Tryz.prog zo1 where
 mixed:=by kernel_rfl
 f6:=⟨"slices.Sorted[string]", by decide,Tryz.func197.trans (Aa some kR0)⟩
 f8:=⟨"slices.Collect[string]", by decide,Tryz.func224.trans (Aa some kR0)⟩
 f11:=⟨"slices.AppendSeq[[]string,string]", by decide,Tryz.func247.trans (Aa some kR0)⟩
 t0:=Tryz.underlying0
 a0:=Tryz.isAgg0
 z0:=Tryz.sizeOf0
 v0:=Tryz.zeroValue0
 t24:=Tryz.underlying77
 a24:=Tryz.isAgg77
 z24:=Tryz.sizeOf77
 v24:=Tryz.zeroValue77
 t26:=Tryz.underlying9
 a26:=Tryz.isAgg9
 z26:=Tryz.sizeOf9
 v26:=Tryz.zeroValue9
 t28:=Tryz.underlying251
 a28:=Tryz.isAgg251
 z28:=Tryz.sizeOf251
 v28:=Tryz.zeroValue251
 i26:=by kernel_rfl
def yg3:Go.Shelf.Ren:=⟨λ|6=>225|8=>249|9=>248|19=>265|20=>243|21=>256|22=>257|23=>258|24=>259|25=>260|26=>261|27=>262|28=>263|29=>264|36=>267|31=>268|32=>269|37=>270|38=>271|39=>272|41=>273|n=>n,λ|27=>77|29=>9|3=>3|32=>289|26=>77|0=>0|44=>287|46=>237|4=>4|36=>299|35=>298|41=>168|5=>5|9=>9|53=>309|57=>313|63=>315|64=>234|n=>n,λ|n=>n⟩
theorem j4a:Go.Proofs.SlLaysM.n6 Tryz.prog yg3 where
 mixed:=by kernel_rfl
 f6:=⟨"slices.Sort[[]string,string]", by decide,Tryz.func225.trans (Aa some kR0)⟩
 f8:=Tryz.func249.trans (Aa some kR0)
 f9:=⟨"slices.pdqsortOrdered[string]", by decide,Tryz.func248.trans (Aa some kR0)⟩
 f19:=Tryz.func265.trans (Aa some kR0)
 f20:=Tryz.func243.trans (Aa some kR0)
 f21:=⟨"slices.insertionSortOrdered[string]", by decide,Tryz.func256.trans (Aa some kR0)⟩
 f22:=⟨"slices.heapSortOrdered[string]", by decide,Tryz.func257.trans (Aa some kR0)⟩
 f23:=⟨"slices.breakPatternsOrdered[string]", by decide,Tryz.func258.trans (Aa some kR0)⟩
 f24:=⟨"slices.choosePivotOrdered[string]", by decide,Tryz.func259.trans (Aa some kR0)⟩
 f25:=⟨"slices.reverseRangeOrdered[string]", by decide,Tryz.func260.trans (Aa some kR0)⟩
 f26:=⟨"slices.partialInsertionSortOrdered[string]", by decide,Tryz.func261.trans (Aa some kR0)⟩
 f27:=⟨"cmp.Less[string]", by decide,Tryz.func262.trans (Aa some kR0)⟩
 f28:=⟨"slices.partitionEqualOrdered[string]", by decide,Tryz.func263.trans (Aa some kR0)⟩
 f29:=⟨"slices.partitionOrdered[string]", by decide,Tryz.func264.trans (Aa some kR0)⟩
 f31:=Tryz.func268.trans (Aa some kR0)
 f32:=Tryz.func269.trans (Aa some kR0)
 f36:=⟨"slices.siftDownOrdered[string]", by decide,Tryz.func267.trans (Aa some kR0)⟩
 f37:=⟨"slices.medianAdjacentOrdered[string]", by decide,Tryz.func270.trans (Aa some kR0)⟩
 f38:=⟨"slices.medianOrdered[string]", by decide,Tryz.func271.trans (Aa some kR0)⟩
 f39:=⟨"cmp.isNaN[string]", by decide,Tryz.func272.trans (Aa some kR0)⟩
 f41:=⟨"slices.order2Ordered[string]", by decide,Tryz.func273.trans (Aa some kR0)⟩
 t0:=Tryz.underlying0
 a0:=Tryz.isAgg0
 z0:=Tryz.sizeOf0
 v0:=Tryz.zeroValue0
 t3:=Tryz.underlying3
 a3:=Tryz.isAgg3
 z3:=Tryz.sizeOf3
 v3:=Tryz.zeroValue3
 t4:=Tryz.underlying4
 a4:=Tryz.isAgg4
 z4:=Tryz.sizeOf4
 v4:=Tryz.zeroValue4
 t5:=Tryz.underlying5
 a5:=Tryz.isAgg5
 z5:=Tryz.sizeOf5
 v5:=Tryz.zeroValue5
 t9:=Tryz.underlying9
 a9:=Tryz.isAgg9
 z9:=Tryz.sizeOf9
 v9:=Tryz.zeroValue9
 t26:=Tryz.underlying77
 a26:=Tryz.isAgg77
 z26:=Tryz.sizeOf77
 v26:=Tryz.zeroValue77
 t27:=Tryz.underlying77
 a27:=Tryz.isAgg77
 z27:=Tryz.sizeOf77
 v27:=Tryz.zeroValue77
 t29:=Tryz.underlying9
 a29:=Tryz.isAgg9
 z29:=Tryz.sizeOf9
 v29:=Tryz.zeroValue9
 t32:=Tryz.underlying289
 a32:=Tryz.isAgg289
 z32:=Tryz.sizeOf289
 v32:=Tryz.zeroValue289
 t35:=Tryz.underlying298
 a35:=Tryz.isAgg298
 z35:=Tryz.sizeOf298
 v35:=Tryz.zeroValue298
 t36:=Tryz.underlying299
 a36:=Tryz.isAgg299
 z36:=Tryz.sizeOf299
 v36:=Tryz.zeroValue299
 t41:=Tryz.underlying168
 a41:=Tryz.isAgg168
 z41:=Tryz.sizeOf168
 v41:=Tryz.zeroValue168
 t44:=Tryz.underlying287
 a44:=Tryz.isAgg287
 z44:=Tryz.sizeOf287
 v44:=Tryz.zeroValue287
 t46:=Tryz.underlying237
 a46:=Tryz.isAgg237
 z46:=Tryz.sizeOf237
 v46:=Tryz.zeroValue237
 t53:=Tryz.underlying309
 a53:=Tryz.isAgg309
 z53:=Tryz.sizeOf309
 v53:=Tryz.zeroValue309
 t57:=Tryz.underlying313
 a57:=Tryz.isAgg313
 z57:=Tryz.sizeOf313
 v57:=Tryz.zeroValue313
 t63:=Tryz.underlying315
 a63:=Tryz.isAgg315
 z63:=Tryz.sizeOf315
 v63:=Tryz.zeroValue315
 t64:=Tryz.underlying234
 a64:=Tryz.isAgg234
 z64:=Tryz.sizeOf234
 v64:=Tryz.zeroValue234
theorem sorts194(m:Nat):AnyZ.SortsIn Tryz.prog zo1 Fence.wide m :=
 ⟨λblk off cap ss W hH hblk hsz=>Fz.2 (AnyM.slices_Sort_string j4a blk off cap ss W hH hblk hsz),
  λp cap W=>Fz.2 (AnyM.slices_Sort_string_none j4a p cap W)⟩
theorem yr2{F:Nat->Prop}{ρ:Loc}{σ:Heap'}{w w':World}(h:RelH F ρ σ w)(hb:Go.RowKit.Below w.heap.size w w')(R:Nat->Prop):RelH F ρ σ w'/\Trans F R ρ σ w ρ σ w':=by
 have t:Trans F R ρ σ w ρ σ w':=⟨hb.os,hb.tape,hb.output,hb.size,λb hlt _=>hb.block b hlt,λ_ _ _ hi _=>.inl hi,λ_ _ _ _ _=>rfl,λ_ _ _ _ _=>rfl,λ_ _ _ _ _ _ _ _=>rfl,
  λk s s' els els' h1 h2=>by rw[h1]at h2;cases h2;exact Ae _,λk cs h1=>.inr ⟨cs,h1⟩,λk es h1=>.inr ⟨es,h1⟩,λk s els h1=>.inr ⟨els,h1⟩⟩
 refine⟨⟨h.inj,h.apart,λb hF=>Bb (h.old b hF) hb.size,λk b c hk=>?_,h.real⟩,t⟩;obtain⟨o,h1,h2⟩:=h.obj k b c hk;refine⟨o,h1,h2.keep t (hb.block b (h.lt hk)) λx _ hn=>?_⟩;obtain⟨k,hk⟩:=hn.some;exact hk.2 hk.1
theorem sc_keys(es:List (Value×PV)):SC Tryz.prog 198 [.mp 9] [(9,.map es)] (λk=>k∈[9]) (.fn (.func 226) [] [.ptr 77 0]) [(77,.box [.mp 9]),(9,.map es)]:=by
 intro F ρ w vs hkept hrel hargs;have ha:All ⟨F,λk=>k∈[9],ρ,look (up [(9,.map es)]),w,vs.length⟩ ρ (look (up [(9,.map es)])) w [(0,.mp 9)] { tmps:=vs.toArray,defers:=[] }:=by
  refine⟨hrel,λt x hx=>?_,.refl _ _ _ _ _,rfl,by simp,hkept⟩
  match t,hx with
  |0,hx=>cases hx;obtain⟨v,h1,h2⟩:=hargs.2 0 _ rfl;exact⟨v,by simpa using h1,h2⟩
  |t+1,hx=>cases hx
 obtain⟨b,cc,r,ck,u,hv,hρ,h3,h4,h5,h6⟩:=ha.mapAt (x:=.tmp 0) rfl rfl;have hvs:vs.toArray = #[.map (some b)]:=by
  match vs,hargs.1,hv with
  |[v],_,hv=>simp[Act.eval]at hv;rw[hv]
 rw[hvs];refine(Fz.1 (AnyZ.keys_in j13 Fence.wide 5 trivial rfl (some b) w)).mono ?_;rintro e w' ⟨rfl,rfl⟩;have hn:=ha.alloc (k:=77) (o:=.box [.mp 9]) rfl rfl rfl rfl 1 (.cells #[.map (some b)] 247) λkeepI _=>.box [.mp 9] 247 #[.map (some b)] (λ_=>.map (some b)) (z30 w _) sI0 (λj x hj=>by
  match j,hj with
  |0,_=>rfl) (λj x hj=>by
  match j,hj with
  |0,hj=>cases hj;exact keepI _ _ (.mp _ _ λes' _=>⟨b,cc,hρ,rfl⟩) rfl)
 refine⟨_,_,rfl,.fn _ _ _ _ _ (λ_=>.pointer none) (λ_=>.pointer (some ⟨w.heap.size,0,none⟩)) rfl (λj c hj=>by cases hj) (λj c hj=>by cases hj) rfl (λj c hj=>?_) (λj c hj=>?_),hn.rel,hn.tr⟩
 ·match j,hj with
  |0,_=>rfl
 ·match j,hj with
  |0,hj=>cases hj;exact .ptr _ _ _ λcs _=>⟨w.heap.size,1,z09,rfl⟩
theorem keys_map{r:Array MapEntry}{es:List (Value×PV)}{u:Nat->Value}(h4:r.size=es.length)(h5:∀i k p,es[i]?=some (k,p)->∃m:MapEntry,r[i]?=some m/\m.key=k/\m.val=u i):r.toList.map (·.key)=es.map (·.1):=by
 refine List.ext_getElem? λi=>?_;rw[B8,B8,Be]
 cases he:es[i]? with
 |none =>
  have:=List.getElem?_eq_none_iff.1 he
  rw[Dr oM0];rfl
 |some e =>
  obtain⟨m,h1,h2,_⟩:=h5 i e.1 e.2 he;rw[h1];simp[h2]
abbrev rd0:Value->Option (DataW Unit×List MemPlace):=λ_=>some (.nil,[])
theorem keyOf_tx{k:Value}(h1:z1y .string k=true)(h2:(z78 k).size<=maxLen):keyOf Tryz.prog 9 k=some (.string (z78 k).data.toList):=by
 cases k<;>simp[z1y]at h1
 rename_i s;simp only[z78]at h2;simp[keyOf,mapKey,Tryz.underlying9,h2,z78]
theorem j3o(es:List (Value×PV))(hk:StrK es)(hsz:∀e∈es,(z78 e.1).size<=maxLen)(hl:es.length<=1073741824):SC Tryz.prog 197 [.fn (.func 226) [] [.ptr 77 0]] [(77,.box [.mp 9]),(9,.map es)] (λk=>k∈[77,9]) (.pv (txs (zo0 (es.map λe=>z78 e.1)))) [(77,.box [.mp 9]),(9,.map es)]:=by
 intro F ρ w vs hkept hrel hargs;obtain⟨v0,e0,r0⟩:=hargs.2 0 _ rfl;have hv1:∃b c,ρ 77=some (b,c)/\v0=.func (.func 226) #[] #[.pointer (some ⟨b,0,none⟩)]:=by
  cases r0 with
  |fn _ _ _ vs ws u t hl hv hr hl' hv' hr' =>
   have q:=hr' 0 _ rfl;have q2:=hv' 0 _ rfl
   cases q with
   |ptr _ _ _ h =>
    obtain⟨b,c,h1,h2⟩:=h _ rfl;refine⟨b,c,h1,?_⟩;have e1:vs = #[]:=Array.eq_empty_of_size_eq_zero hl;subst e1;have e2:ws = #[.pointer (some ⟨b,0,none⟩)]:=by
     apply Array.ext
     ·simpa using hl'
     ·intro i h1' h2';have:i=0:=by simp at h2';omega
      subst this;rw[Array.getElem?_eq_getElem h1']at q2;exact(Bv q2).trans h2
    rw[e2]
 obtain⟨B,cB,hB,rfl⟩:=hv1;obtain⟨o1,q1,q2⟩:=hrel.obj 77 B cB hB;have q1:look (up [(77,HO.box [.mp 9]),(9,.map es)]) 77=some o1:=q1
 cases q1
 obtain⟨eB,a,uB,g1,g2,g3,g4⟩:=q2.inv_box;have g5:=g4 0 _ rfl;have g6:=g3 0 _ rfl;have hmp:∃b c,ρ 9=some (b,c)/\uB 0=.map (some b):=by
  generalize uB 0=x at g5
  cases g5 with
  |mp _ _ h=>exact h _ rfl
 obtain⟨b,cc,hρ,hu⟩:=hmp;obtain⟨o2,q3,q4⟩:=hrel.obj 9 b cc hρ;have q3:look (up [(77,HO.box [.mp 9]),(9,.map es)]) 9=some o2:=q3
 cases q3
 obtain⟨r,ck,u,h3,h4,h5,h6⟩:=q4.inv_map;have hst:=q4.stamped h3;have hkm:=keys_map h4 h5;have hrd:∀x∈r.toList,Go.WideElems.rg Tryz.prog 9 rd0 x=(.string (z78 x.key).data.toList,.nil)/\∃y,Go.WideElems.rd Tryz.prog 9 rd0 x=some y:=by
  intro x hx;have hm:x.key∈es.map (·.1):=hkm▸Db hx;obtain⟨e,he,hxe⟩:=Bx.1 hm;have hko:=keyOf_tx (k:=x.key) (hxe▸hk e he) (hxe▸hsz e he);have:Go.WideElems.rd Tryz.prog 9 rd0 x=some (.string (z78 x.key).data.toList,.nil):=by simp[Go.WideElems.rd,hko]
  exact⟨Go.WideElems.rg_of this,_,this⟩
 have hown:w.ownsMap Tryz.prog 9 rd0 b r.size (.map ((r.toList.map (Go.WideElems.rg Tryz.prog 9 rd0)).foldr DataW.insert [])):=⟨r,ck,h3,⟨by rw[h4];exact Bi hl dC0,hst,λx hx=>(hrd x hx).2⟩,Ae _,rfl⟩;have hperm:(strKeys (.map ((r.toList.map (Go.WideElems.rg Tryz.prog 9 rd0)).foldr DataW.insert []))).Perm (es.map λe=>(z78 e.1).data.toList):=by
  refine((Go.WideShapes.sorted_perm _).map _).trans ?_;rw[Ed];have:r.toList.map ((λp=>strOf p.1) ∘ Go.WideElems.rg Tryz.prog 9 rd0)=(r.toList.map (·.key)).map λk=>(z78 k).data.toList:=by
   rw[Ed];exact List.map_congr_left λx hx=>by simp only[Function.comp,(hrd x hx).1,strOf]
  rw[this,hkm,Ed];exact List.Perm.refl _
 have hBlt:=hrel.lt hB;have hsize:Maps.size (.map ((r.toList.map (Go.WideElems.rg Tryz.prog 9 rd0)).foldr DataW.insert []))=es.length:=by
  simp only[Maps.size,length_sorted,A6,Bs,h4]
 have hseq:SeqGives Fence.wide 2 Tryz.prog 226 #[.pointer (some ⟨B,0,none⟩)] encStr (λss=>ss.Perm (strKeys (.map ((r.toList.map (Go.WideElems.rg Tryz.prog 9 rd0)).foldr DataW.insert [])))) (Maps.size (.map ((r.toList.map (Go.WideElems.rg Tryz.prog 9 rd0)).foldr DataW.insert []))) w :=
  AnyZ.keys_gives (ρ:=y0m) { j13 with } Fence.wide _ trivial rfl oM0 B b r.size _ w hBlt (by
   simp only[World.cell?,g1];simpa[hu]using g6) hown
 have hvs:vs=[.func (.func 226) #[] #[.pointer (some ⟨B,0,none⟩)]]:=by
  match vs,hargs.1,e0 with
  |[x],_,e0=>cases e0;rfl
 subst hvs;refine(Fz.1 (AnyZ.sorted_in j4b Fence.wide 5 trivial trivial trivial trivial rfl oM0 (sorts194 _) (enters_of Tryz.func225 kR0 rfl) 226 #[.pointer (some ⟨B,0,none⟩)] trivial (enters_of Tryz.func226 kR0 rfl) _ _ (by rw[hsize];exact Bi hl dC0) (by rw[hsize];omega) _ hseq)).mono ?_;rintro e w' ⟨v,ss,rfl,hS,hrow,hnil,hb⟩;obtain⟨k1,k2⟩:=yr2 hrel hb (λk=>k∈[77,9]);refine⟨ρ,v,rfl,.pv _ _ ?_,k1,k2⟩;have hso:zo0 (es.map λe=>z78 e.1)=(ss.mergeSort (λx y=>decide (x<=y))).map λb=>⟨b.toArray⟩:=by
  unfold zo0;rw[Ed];exact Aa _ (mergeSort_of_perm (hS.trans hperm)).symm
 have hlen:ss.length=((zo0 (es.map λe=>z78 e.1)).map eTx).length:=by simp[hso]
 show RepP _ _ (.seq ((zo0 (es.map λe=>z78 e.1)).map eTx)) v;rcases hrow.2 with⟨rfl,hz⟩|⟨g,cap,cur,rfl,t1,t2,t3,t4,t5,t6⟩
 ·have he:(zo0 (es.map λe=>z78 e.1)).map eTx=[]:=Au (hlen▸hz);rw[he];exact .seq [] none 0 0 0 (λ_ _=>.bool false) (λh=>absurd rfl h) (λh=>absurd rfl h) (Ae _) (Ab _) (λi el h=>by cases h) (λi el h=>by cases h)
 ·rw[hlen];have hat:∀(i:Nat)(el:List PV),((zo0 (es.map λe=>z78 e.1)).map eTx)[i]?=some el->∃s:ByteArray,el=[PV.val (.string s)]/\cur[i]?=some (Value.string s):=by
   intro i el hi;rw[hso,Ed,B8]at hi
   cases hm:(ss.mergeSort (λx y=>decide (x<=y)))[i]? with
   |none=>rw[hm]at hi;cases hi
   |some x =>
    rw[hm]at hi;cases hi
    refine⟨⟨x.toArray⟩,rfl,?_⟩;have:(cur.toList.take (ss.length*1))[i]?=some (encStr x):=by rw[t6,B8,hm,Da]
    rw[Bz]at this;split at this
    ·rw[Be]at this;exact this
    ·cases this
  refine .seq _ _ cap g 0 (λi _=>cur.getD i (.bool false)) (λ_=>rfl) (λ_=>⟨λho=>?_,?_⟩) (hlen▸t3) t4 (λi el hi j c hj=>?_) λi el hi j c hj=>?_
  ·have:=hrel.own_lt ho;omega
  ·rcases Ef g w'.heap.size with h|h
   ·exact h
   ·rw[Dr h]at t2;cases t2
  ·obtain⟨s,rfl,hs⟩:=hat i el hi
   match j,hj with
   |0,hj=>simp only[World.cell?,t2];simp[hs]
  ·obtain⟨s,rfl,hs⟩:=hat i el hi
   match j,hj with
   |0,hj=>cases hj;simp[hs];exact .val _
theorem yu0(vs:List (Value×PV))(l:List (List St))(x:List St):z8o vs (l++[x])=z4o vs x (z8o vs l):=by simp[z8o]
theorem y1b(vs:List (Value×PV))(ls:List (List St)):StrK (z8o vs ls):=by
 suffices ∀(ls:List (List St)) (o:List (Value×PV)),StrK o->StrK (ls.foldl (λo l=>z4o vs l o) o)from this ls [] λe he=>by cases he
 intro ls
 induction ls with
 |nil=>exact λo h=>h
 |cons l r ih=>exact λo h=>ih _ (z97 vs _ l (A7 _) o h)
theorem zw2(vs:List (Value×PV))(hv:Cnt vs)(ls:List (List St))(hls:ls.length<=1000)(hsz:∀l∈ls,szL l<=1073741824)(hn:∀e∈z8o vs ls,(z78 e.1).size<=maxLen)(hl:(z8o vs ls).length<=1073741824) :
 SC Tryz.prog 162 [.mp 5,.pv (.seq (ls.map λl=>[sts l]))] [(5,.map vs)] (λk=>k∈[5]) (.pv (txs (z0b vs ls))) [(5,.map vs)]:=by
 refine SC.vc tb { ids:=[(8,9),(21,77)] } [5] Tryz.func162 rfl rfl ?_;refine⟨Nat,λi=>[(11,iInt ((i:Nat):Int))],λi=>[(9,.map (z8o vs (ls.take i)))],λi=>ls.length-i,λi=>i<=ls.length,[],0,Ab _,Ge,⟨by simp[z8o];rfl,Gd⟩,?_⟩;intro i hi;refine z00 (λhc=>?_) λhc=>?_
 ·have hlt:i<ls.length:=z12 (f:=λl=>[sts l]) rfl hc;obtain⟨x,x1,x2,x3,x4⟩:=z0s hlt;have hA:=y63 vs hv _ x (A7 _) (hsz x x4) _ (y1b vs (ls.take i));exact⟨z02 (f:=λl=>[sts l]) x1,rfl,[5],hA,sR,⟨rfl,rfl,by simp,rfl,Gd⟩,rfl,z01 rfl oM0,i+1,z04 hlt,hlt,Ge,⟨mpq (by rw[x2,yu0]),Gd⟩,rfl,rfl,rfl,rfl⟩
 ·have hge:ls.length<=i:=z13 (f:=λl=>[sts l]) rfl hc;rw[As hge];have hK:=sc_keys (z8o vs ls);have hS:=j3o (z8o vs ls) (y1b vs ls) hn hl;exact⟨[9],hK,sR,Gf,rfl,[77,9],hS,sR,Gi,rfl,sI,rfl,Gd⟩
end
end Go.Proofs.YtjlaalpfpecikaaGreatDoor
