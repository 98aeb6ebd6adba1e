/- PART 6 of 9 of a proof: see the last part. -/
import Derived.Test.YtdhllinkobindaaGreatDoorWp5
set_option maxRecDepth 20000
set_option maxHeartbeats 8000000
set_option linter.unusedSimpArgs false
set_option linter.unusedVariables false
set_option linter.unusedSectionVars false
namespace Go.Proofs.YtdhllinkobindaaGreatDoor
open Go
theorem y26(t:Int):SC Tryz.prog 149 [.pv (.val (.int .i64 t))] [] (λk=>k∈[]) (iBool (rTy t)) []:=by
 refine SC.vc tb {} [] Tryz.func149 rfl rfl ?_;unfold rTy;exact z00 (λh=>⟨sE (by rw[h];rfl),Gb⟩) λh=>⟨sE (by rw[h];rfl),Gb⟩
theorem y4x(k:Int)(nm:ByteArray)(hn:nm.toList=[]):SC Tryz.prog 252 [.pv (.agg [vInt k,vInt 0,vInt 0,vStr nm,.val (.slice none 0 0)])] [] (λk=>k∈[]) (iBool true) []:=by
 refine SC.vc tb {} [] Tryz.func252 rfl rfl ?_;exact z00 (λ_=>⟨sI,Gb⟩) λh=>absurd h (by simp[hn])
theorem y4c{k o n:Int}{nm:ByteArray}{len:Nat}(h:rOwn k o n nm len=true) :
 (k=1/\o=0/\0<=n/\nm.toList=[]/\len=0)∨(k=2/\o=0/\(n=0∨n=1)/\nm.toList=[]/\len=0)∨(k=3/\o=0/\n=0/\z0l nm=true/\len=0)∨(k=4/\z2w o=true/\n=0/\nm.toList=[]/\len=1) ∨
 (k=5/\z4j o > 0/\n=0/\nm.toList=[]/\len=2)∨(k=6/\o=0/\n=0/\z0l nm=true/\len=1)∨(k=7/\o=0/\n=0/\z0l nm=true/\len<=8)∨(k=8/\o=0/\n=0/\nm.toList=[]/\len=0):=by
 unfold rOwn at h;split at h
 ·rename_i e;simp at h;exact .inl ⟨e,h.1.1.1,h.1.1.2,by simpa using h.1.2,h.2⟩
 split at h
 ·rename_i e;simp at h;exact .inr (.inl ⟨e,h.1.1.1,h.1.1.2,by simpa using h.1.2,h.2⟩)
 split at h
 ·rename_i e;simp at h;exact .inr (.inr (.inl ⟨e,h.1.1.1,h.1.1.2,h.1.2,h.2⟩))
 split at h
 ·rename_i e;simp at h;exact .inr (.inr (.inr (.inl ⟨e,h.1.1.1,h.1.1.2,by simpa using h.1.2,h.2⟩)))
 split at h
 ·rename_i e;simp at h;exact .inr (.inr (.inr (.inr (.inl ⟨e,h.1.1.1,h.1.1.2,by simpa using h.1.2,h.2⟩))))
 split at h
 ·rename_i e;simp at h;exact .inr (.inr (.inr (.inr (.inr (.inl ⟨e,h.1.1.1,h.1.1.2,h.1.2,h.2⟩)))))
 split at h
 ·rename_i e;simp at h;exact .inr (.inr (.inr (.inr (.inr (.inr (.inl ⟨e,h.1.1.1,h.1.1.2,h.1.2,h.2⟩))))))
 split at h
 ·rename_i e;simp at h;exact .inr (.inr (.inr (.inr (.inr (.inr (.inr ⟨e,h.1.1.1,h.1.1.2,by simpa using h.1.2,h.2⟩))))))
 ·cases h
theorem sc_trOwn(k o n:Int)(nm:ByteArray)(args:List Ex)(h:rOwn k o n nm args.length=true):SC Tryz.prog 239 [.pv (.agg [vInt k,vInt o,vInt n,vStr nm,exs args])] [] (λk=>k∈[]) (.tup [iInt args.length,iBool true]) []:=by
 refine SC.vc tb { pb:=[101] } [] Tryz.func239 rfl rfl ?_;have hb:=λk h=>y4x k nm h;have hb0:=λk=>y4x k ⟨#[]⟩ sI0;have hN:=z7y nm;rcases y4c h with⟨rfl,rfl,h1,h2,h3⟩|⟨rfl,rfl,h1,h2,h3⟩|⟨rfl,rfl,rfl,h2,h3⟩|⟨rfl,h1,rfl,h2,h3⟩|⟨rfl,h1,rfl,h2,h3⟩|⟨rfl,rfl,rfl,h2,h3⟩|⟨rfl,rfl,rfl,h2,h3⟩|⟨rfl,rfl,rfl,h2,h3⟩
 ·exact z00 (λ_=>⟨[],hb 1 h2,sR,Gb,rfl,sE (by rw[h3];rfl),Gb⟩) λc=>absurd (Al c) oM0
 ·rcases h1 with rfl|rfl
  ·exact⟨[],hb 2 h2,sR,Gb,rfl,sE (by rw[h3];rfl),Gb⟩
  ·exact⟨[],hb 2 h2,sR,Gb,rfl,sE (by rw[h3];rfl),Gb⟩
 ·exact⟨[],hN,sR,Gb,rfl,z00 (λ_=>⟨[],hb0 3,sR,Gb,rfl,sE (by rw[h3];rfl),Gb⟩) λc=>by rw[h2]at c;cases c⟩
 ·have h4:20<=o/\o<=28:=by unfold z2w at h1;simpa using h1
  exact z00 (λ_=>z00 (λ_=>⟨[],hb 4 h2,sR,Gb,rfl,sE (by rw[h3];rfl),Gb⟩) λc=>absurd (Al c) oM0) λc=>absurd (Al c) oM0
 ·exact⟨[],y9n o,sR,Gb,rfl,z00 (λ_=>⟨[],hb 5 h2,sR,Gb,rfl,sE (by rw[h3];rfl),Gb⟩) λc=>absurd (Al c) oM0⟩
 ·exact⟨[],hN,sR,Gb,rfl,z00 (λ_=>⟨[],hb0 6,sR,Gb,rfl,sE (by rw[h3];rfl),Gb⟩) λc=>by rw[h2]at c;cases c⟩
 ·exact⟨[],hN,sR,Gb,rfl,z00 (λ_=>⟨[],hb0 7,sR,Gb,rfl,sE (by rw[Ac,show decide ((args.length:Int)<=8)=true from C9 oM0]),Gb⟩) λc=>by rw[h2]at c;cases c⟩
 ·exact⟨[],hb 8 h2,sR,Gb,rfl,sE (by rw[h3];rfl),Gb⟩
theorem y6j{x:Ex}{most:Int}:∀{l:List Ex},rxL l most=true->x∈l->2<=most/\rx x (most-1)=true
 |y::r,h,hm=>by
  simp only[rxL,A0,Bc,Ci]at h;rcases Ao.1 hm with rfl|hm
  ·exact⟨by omega,h.1.2⟩
  ·exact y6j h.2 hm
theorem zq2{α:Type}{p:α -> Bool}{l:List α}(h:∀x∈l,p x=true):l.any (λx=>!p x)=false:=by
 rw[List.any_eq_false];intro x hx;simp[h x hx]
theorem y9k:∀(N:Nat)(e:Ex),SizeOf.sizeOf e<N->xz e<=1073741824->∀most:Int,1<=most->most<=100->rx e most=true->SC Tryz.prog 214 [.pv (exv e),.pv (.val (.int .i64 most))] [] (λk=>k∈[]) (iBool true) []
 |0,_,h,_,_,_,_,_=>absurd h (Aj _)
 |N+1,.mk k o n nm args,hN,hx,most,h0,h1,hr=>by
  refine SC.vc tb { pb:=[102,103] } [] Tryz.func214 rfl rfl ?_;have hl:=zb5 args;simp only[xz]at hx;rw[rx,A0]at hr;have hc:=yo7 240 [.pv (.ept [vInt most] 0)] rfl (λx=>!rx x (most-1)) args oM0 (λx hm=>by
   obtain⟨g1,g2⟩:=y6j hr.1 hm;have hxx:=zh4 hm;have hsz:SizeOf.sizeOf x<N:=by have:=Bm hm;simp at hN;omega
   refine SC.vc tb { pb:=[102] } [] Tryz.func240 rfl rfl ?_;exact⟨z3b rfl oM0,[],y9k N x hsz oM0 (most-1) oM0 oM0 g2,sR,Gb,rfl,sE (by rw[g2]),Gb⟩)
  rw[zq2 λx hm=>(y6j hr.1 hm).2]at hc;exact⟨[],sc_trOwn k o n nm args hr.2,sR,Gb,rfl,z00 (λ_=>z00 (λ_=>⟨[],hc,sR,Gb,rfl,sI,Gb⟩) λc=>absurd c (by simp[Ex.args])) λc=>absurd (Al c) oM0⟩
theorem kyQ{d:TypeDesc}{es:List (Value×PV)}(h:(es.all λe=>z1w d e.1)=true):∀e∈es,z1w d e.1=true:=Be.1 h
theorem sFn{f:Fn}:SubA [.pv (.val (.func f #[] #[]))] [.fn f [] []]:=SubA.cons (λ_ _ _ _ _ h=>sub_func h) SubA.nil
def trV(t n:Bool)(a:Int)(th ot:Bool):PV:=.agg [.val (.bool t),.val (.bool n),vInt a,.val (.bool th),.val (.bool ot)]
def trTab:List (Value×PV):=[(.int .i64 1,trV true true 1 false false),(.int .i64 2,trV false true 1 false false),(.int .i64 3,trV false true 2 false false),(.int .i64 4,trV false false 1 true true),(.int .i64 5,trV false false 1 true false),
 (.int .i64 6,trV false false 0 false false),(.int .i64 7,trV false false 0 false false),(.int .i64 8,trV false false 1 false false),(.int .i64 9,trV false false 1 false false),(.int .i64 10,trV false false 1 false false)]
theorem yh5:SC Tryz.prog 211 [] [] (λk=>k∈[]) (.mp 1) [(1,.map trTab)]:=by
 refine SC.vc tb { ids:=[(3,1)],pb:=[101] } [] Tryz.func211 rfl rfl ?_;exact⟨rfl,kyQ rfl,rfl,kyQ rfl,rfl,kyQ rfl,rfl,kyQ rfl,rfl,kyQ rfl,rfl,kyQ rfl,rfl,kyQ rfl,rfl,kyQ rfl,rfl,kyQ rfl,rfl,kyQ rfl,sI,rfl,Gb⟩
theorem rTy_of{ty:Int}(h:¬ty=1->ty=2):rTy ty=true:=by
 unfold rTy;by_cases e:ty=1
 ·simp[e]
 ·simp[h e]
theorem zn2{k ty:Int}{nm:ByteArray}{args:List Ex}{thn els:List St}{most:Int}(h:yu4 k ty nm args.length most=false)(ht:j1x k args thn.length els.length=false) :
 1<=most/\((k=1/\rTy ty=true/\z0l nm=true/\(∃e,args=[e])/\thn=[]/\els=[])∨(k=2/\ty=0/\z0l nm=true/\(∃e,args=[e])/\thn=[]/\els=[])∨(k=3/\ty=0/\z0l nm=true/\(∃e e2,args=[e,e2])/\thn=[]/\els=[]) ∨
  (k=4/\ty=0/\nm.toList=[]/\(∃e,args=[e]))∨(k=5/\ty=0/\nm.toList=[]/\(∃e,args=[e])/\els=[])∨(k=6/\ty=0/\nm.toList=[]/\args=[]/\thn=[]/\els=[])∨(k=7/\ty=0/\nm.toList=[]/\args=[]/\thn=[]/\els=[]) ∨
  (k=8/\ty=0/\nm.toList=[]/\(∃e,args=[e])/\thn=[]/\els=[])∨(k=9/\ty=0/\nm.toList=[]/\(∃e,args=[e])/\thn=[]/\els=[])∨(k=10/\ty=0/\nm.toList=[]/\(∃e,args=[e]/\e.kind=7)/\thn=[]/\els=[])):=by
 unfold yu4 at h;unfold j1x at ht;simp only[C0]at h ht;obtain⟨⟨⟨⟨⟨h1,h2⟩,h3⟩,h4⟩,h5⟩,h6⟩:=h;obtain⟨⟨t1,t2⟩,t3⟩:=ht;refine⟨by have:=Al h1;omega,?_⟩;have l0:∀l:List St,decide (0<l.length)=false->l=[]:=λl hl=>by have:=Al hl;exact List.length_eq_zero_iff.1 oM0
 have a1:(args.length:Int)=1->∃e,args=[e]:=λha=>C7.1 oM0;have a2:(args.length:Int)=2->∃e e2,args=[e,e2]:=λha=>by
  match args,ha with
  |[x,y],_=>exact⟨x,y,rfl⟩
  |[],ha=>simp at ha
  |[x],ha=>simp at ha
  |x::y::z::r,ha=>simp at ha;omega
 have hcase:k=1∨k=2∨k=3∨k=4∨k=5∨k=6∨k=7∨k=8∨k=9∨k=10∨(k≠1/\k≠2/\k≠3/\k≠4/\k≠5/\k≠6/\k≠7/\k≠8/\k≠9/\k≠10):=by omega
 rcases hcase with rfl|rfl|rfl|rfl|rfl|rfl|rfl|rfl|rfl|rfl|hk
 ·exact .inl ⟨rfl,rTy_of (by simpa[shp]using h3),by simpa[shp]using h5,a1 (by simpa[shp]using h2),l0 _ (by simpa[shp]using t2),l0 _ (by simpa[shp]using t3)⟩
 ·exact .inr (.inl ⟨rfl,by simpa[shp]using h4,by simpa[shp]using h5,a1 (by simpa[shp]using h2),l0 _ (by simpa[shp]using t2),l0 _ (by simpa[shp]using t3)⟩)
 ·exact .inr (.inr (.inl ⟨rfl,by simpa[shp]using h4,by simpa[shp]using h5,a2 (by simpa[shp]using h2),l0 _ (by simpa[shp]using t2),l0 _ (by simpa[shp]using t3)⟩))
 ·exact .inr (.inr (.inr (.inl ⟨rfl,by simpa[shp]using h4,by simpa[shp]using h6,a1 (by simpa[shp]using h2)⟩)))
 ·exact .inr (.inr (.inr (.inr (.inl ⟨rfl,by simpa[shp]using h4,by simpa[shp]using h6,a1 (by simpa[shp]using h2),l0 _ (by simpa[shp]using t3)⟩))))
 ·exact .inr (.inr (.inr (.inr (.inr (.inl ⟨rfl,by simpa[shp]using h4,by simpa[shp]using h6,by simpa[shp]using h2,l0 _ (by simpa[shp]using t2),l0 _ (by simpa[shp]using t3)⟩)))))
 ·exact .inr (.inr (.inr (.inr (.inr (.inr (.inl ⟨rfl,by simpa[shp]using h4,by simpa[shp]using h6,by simpa[shp]using h2,l0 _ (by simpa[shp]using t2),l0 _ (by simpa[shp]using t3)⟩))))))
 ·exact .inr (.inr (.inr (.inr (.inr (.inr (.inr (.inl ⟨rfl,by simpa[shp]using h4,by simpa[shp]using h6,a1 (by simpa[shp]using h2),l0 _ (by simpa[shp]using t2),l0 _ (by simpa[shp]using t3)⟩)))))))
 ·exact .inr (.inr (.inr (.inr (.inr (.inr (.inr (.inr (.inl ⟨rfl,by simpa[shp]using h4,by simpa[shp]using h6,a1 (by simpa[shp]using h2),l0 _ (by simpa[shp]using t2),l0 _ (by simpa[shp]using t3)⟩))))))))
 ·obtain⟨e,rfl⟩:=a1 (by simpa[shp]using h2);exact .inr (.inr (.inr (.inr (.inr (.inr (.inr (.inr (.inr ⟨rfl,by simpa[shp]using h4,by simpa[shp]using h6,⟨e,rfl,by simpa using t1⟩,l0 _ (by simpa[shp]using t2),l0 _ (by simpa[shp]using t3)⟩))))))))
 ·exfalso;have hs:shp k=(false,false,-1,false,false):=by
   unfold shp;rw[if_neg oM0,if_neg oM0,if_neg oM0,if_neg oM0,if_neg oM0,if_neg oM0,if_neg oM0]
  rw[hs]at h2;simp at h2
  try omega
theorem sc_trNot(e:Ex)(hx:xz e<=1073741824)(hr:rx e 100=true):SC Tryz.prog 213 [.pv (exv e)] [] (λk=>k∈[]) (iBool (!rx e 100)) []:=by
 refine SC.vc tb { pb:=[101] } [] Tryz.func213 rfl rfl ?_;exact⟨[],y9k _ e (Aa _) hx 100 dC0 dC0 hr,sR,Gb,rfl,sE (by rw[hr]),Gb⟩
theorem y1s{x:St}{most:Int}:∀{l:List St},rsL l most=true->x∈l->rst x most=true
 |y::r,h,hm=>by
  simp only[rsL,A0]at h;rcases Ao.1 hm with rfl|hm
  ·exact h.1
  ·exact y1s h.2 hm
theorem j3j(x:St)(hx:sz x<=1073741824)(most:Int)(h0:most<=100)(hr:rst x most=true)
 (ih:∀l:List St,l=x.thn∨l=x.els->1<=most->SC Tryz.prog 151 [.pv (sts l),.pv (.val (.int .i64 (most-1)))] [] (λk=>k∈[]) (iBool true) []) :
 SC Tryz.prog 188 [.pv (stv x),.pv (.val (.int .i64 most))] [] (λk=>k∈[]) (iBool true) []:=by
 refine SC.vc tb { pb:=[102,105] } [] Tryz.func188 rfl rfl ?_;rw[y4j]at hr;simp only[A0,Bc]at hr;obtain⟨⟨⟨⟨r1,r2⟩,r3⟩,_⟩,_⟩:=hr;rw[y3e]at hx;have hl:=zb5 x.args;have hA:=yo7 213 [] rfl (λe=>!rx e 100) x.args oM0 (λe he=>sc_trNot e (by have:=zh4 he;omega) (Be.1 r2 e he));rw[zq2 λe he=>Be.1 r2 e he]at hA;obtain⟨h1,hc⟩:=zn2 r1 r3;have i1:=ih x.thn (.inl rfl) h1;have i2:=ih x.els (.inr rfl) h1;have hs:z3c .sub .i64 most 1=some (.int .i64 (most-1)):=z3b rfl oM0;have hN:=z7y x.name;have hT:=y26 x.ty;clear ih r1 r2 r3 hl;obtain⟨k,ty,nm,args,thn,els⟩:=x;simp only[St.kind,St.ty,St.name,St.args,St.thn,St.els]at *
 rcases hc with⟨rfl,t,n,⟨e,rfl⟩,rfl,rfl⟩|⟨rfl,rfl,n,⟨e,rfl⟩,rfl,rfl⟩|⟨rfl,rfl,n,⟨e,e2,rfl⟩,rfl,rfl⟩|⟨rfl,rfl,n,⟨e,rfl⟩⟩|⟨rfl,rfl,n,⟨e,rfl⟩,rfl⟩|⟨rfl,rfl,n,rfl,rfl,rfl⟩|⟨rfl,rfl,n,rfl,rfl,rfl⟩|⟨rfl,rfl,n,⟨e,rfl⟩,rfl,rfl⟩|⟨rfl,rfl,n,⟨e,rfl⟩,rfl,rfl⟩|⟨rfl,rfl,n,⟨e,rfl,e7⟩,rfl,rfl⟩
 all_goals refine⟨[],yh5,sR,Gb,rfl,rfl,kyQ rfl,rfl,z00 (λc=>absurd (An c) oM0) λ_=>?_⟩
 ·rw[t]at hT;rw[n]at hN;exact⟨[],hT,sR,Gb,rfl,[],hN,sR,Gb,rfl,[],hA,SubA.same sFn,Gb,rfl,hs,[],i1,sR,Gb,rfl,hs,[],i2,sR,Gb,rfl,sI,Gb⟩
 ·rw[n]at hN;exact⟨[],hN,sR,Gb,rfl,[],hA,SubA.same sFn,Gb,rfl,hs,[],i1,sR,Gb,rfl,hs,[],i2,sR,Gb,rfl,sI,Gb⟩
 ·rw[n]at hN;exact⟨[],hN,sR,Gb,rfl,[],hA,SubA.same sFn,Gb,rfl,hs,[],i1,sR,Gb,rfl,hs,[],i2,sR,Gb,rfl,sI,Gb⟩
 ·exact z00 (λc=>absurd c (by simp[St.name,n])) λ_=>⟨[],hA,SubA.same sFn,Gb,rfl,hs,[],i1,sR,Gb,rfl,hs,[],i2,sR,Gb,rfl,sI,Gb⟩
 ·exact z00 (λc=>absurd c (by simp[St.name,n])) λ_=>⟨[],hA,SubA.same sFn,Gb,rfl,hs,[],i1,sR,Gb,rfl,hs,[],i2,sR,Gb,rfl,sI,Gb⟩
 ·exact z00 (λc=>absurd c (by simp[St.name,n])) λ_=>⟨[],hA,SubA.same sFn,Gb,rfl,hs,[],i1,sR,Gb,rfl,hs,[],i2,sR,Gb,rfl,sI,Gb⟩
 ·exact z00 (λc=>absurd c (by simp[St.name,n])) λ_=>⟨[],hA,SubA.same sFn,Gb,rfl,hs,[],i1,sR,Gb,rfl,hs,[],i2,sR,Gb,rfl,sI,Gb⟩
 ·exact z00 (λc=>absurd c (by simp[St.name,n])) λ_=>⟨[],hA,SubA.same sFn,Gb,rfl,hs,[],i1,sR,Gb,rfl,hs,[],i2,sR,Gb,rfl,sI,Gb⟩
 ·exact z00 (λc=>absurd c (by simp[St.name,n])) λ_=>⟨[],hA,SubA.same sFn,Gb,rfl,hs,[],i1,sR,Gb,rfl,hs,[],i2,sR,Gb,rfl,sI,Gb⟩
 ·exact z00 (λc=>absurd c (by simp[St.name,n])) λ_=>⟨z1c (i:=0) rfl,rfl,z00 (λc=>absurd c (by simp[St.name,e7])) λ_=>⟨[],hA,SubA.same sFn,Gb,rfl,hs,[],i1,sR,Gb,rfl,hs,[],i2,sR,Gb,rfl,sI,Gb⟩⟩
theorem zt1:∀(N:Nat)(l:List St),SizeOf.sizeOf l<N->szL l<=1073741824->∀most:Int,0<=most->most<=100->rsL l most=true->SC Tryz.prog 151 [.pv (sts l),.pv (.val (.int .i64 most))] [] (λk=>k∈[]) (iBool true) []
 |0,_,h,_,_,_,_,_=>absurd h (Aj _)
 |N+1,l,hN,hx,most,h0,h1,hr=>by
  refine SC.vc tb { pb:=[103] } [] Tryz.func151 rfl rfl ?_;have hl:=z8j l;have hc:=y6o 187 [.pv (.ept [vInt most] 0)] rfl (λx=>!rst x most) l oM0 (λx hm=>by
   have g:=y1s hr hm;have hxx:=zx5 hm;have hsz:SizeOf.sizeOf x.thn<N/\SizeOf.sizeOf x.els<N:=by have:=Bm hm;have:=zt6 x;omega
   have hsz2:szL x.thn<=1073741824/\szL x.els<=1073741824:=by rw[y3e]at hxx;omega
   have g2:=g;rw[y4j]at g2;simp only[A0]at g2;have hS:=j3j x oM0 most h1 g (λq hq h1'=>by
    rcases hq with rfl|rfl
    ·exact zt1 N x.thn hsz.1 hsz2.1 (most-1) oM0 oM0 g2.1.2
    ·exact zt1 N x.els hsz.2 hsz2.2 (most-1) oM0 oM0 g2.2)
   refine SC.vc tb { pb:=[102] } [] Tryz.func187 rfl rfl ?_;exact⟨[],hS,sR,Gb,rfl,sE (by rw[g]),Gb⟩)
  rw[zq2 λx hm=>y1s hr hm]at hc;exact⟨[],hc,sR,Gb,rfl,sI,Gb⟩
theorem yx1(x:Pm):SC Tryz.prog 148 [.pv (.agg x.enc)] [] (λk=>k∈[]) (iBool (!(z0l x.name&&rTy x.ty))) []:=by
 refine SC.vc tb { pb:=[101] } [] Tryz.func148 rfl rfl ?_;exact⟨[],z7y x.name,sR,Gb,rfl,z00 (λc=>⟨sE (Af iBool (by rw[show z0l x.name=false by simpa using c];rfl)),Gb⟩) λc=>⟨[],y26 x.ty,sR,Gb,rfl,sE (Af iBool (by rw[show z0l x.name=true by simpa using c];rfl)),Gb⟩⟩
theorem y6w(f:Fu)(hx:1+f.params.length+szL f.body<=1073741824)(hr:rFu f=true):SC Tryz.prog 102 [.pv (.agg f.enc)] [] (λk=>k∈[]) (iBool true) []:=by
 refine SC.vc tb { pb:=[101] } [] Tryz.func102 rfl rfl ?_;unfold rFu at hr;simp only[A0]at hr;obtain⟨⟨⟨⟨h1,h2⟩,h3⟩,h4⟩,h5⟩:=hr;have hc:=sc_hasPm 148 [] rfl (λx=>!(z0l x.name&&rTy x.ty)) f.params oM0 (λx _=>yx1 x);rw[zq2 λx hm=>Be.1 h5 x hm]at hc;have hN:=z7y f.name;rw[h1]at hN;have hT:=y26 f.ty;rw[h2]at hT;have h3:=An h3;exact⟨[],hN,sR,Gb,rfl,[],hT,sR,Gb,rfl,z00 (λ_=>⟨[],hc,SubA.same sFn,Gb,rfl,[],zt1 _ f.body (Aa _) oM0 100 dC0 dC0 h4,sR,Gb,rfl,sI,Gb⟩) λc=>absurd (Al c) (by rw[Ac];omega)⟩
theorem yh4(x:Ar):SC Tryz.prog 98 [.pv (.agg x.enc)] [] (λk=>k∈[]) (iBool (!(z0l x.name&&decide (1<=x.size)&&decide (x.size<=1000)))) []:=by
 refine SC.vc tb { pb:=[101] } [] Tryz.func98 rfl rfl ?_;refine⟨[],z7y x.name,sR,Gb,rfl,z00 (λc=>⟨sE (Af iBool (by rw[show z0l x.name=false by simpa using c];rfl)),Gb⟩) λc=>z00 (λc2=>⟨sE (Af iBool ?_),Gb⟩) λc2=>⟨sE (Af iBool ?_),Gb⟩⟩
 ·have:=An c2;rw[show decide (1<=x.size)=false from Dc oM0];simp
 ·have:=Al c2;rw[show z0l x.name=true by simpa using c,show decide (1<=x.size)=true from C9 oM0];simp only[B0]
  by_cases h:x.size<=1000
  ·rw[C9 h,Dc oM0];rfl
  ·rw[Dc h,C9 oM0];rfl
theorem yx2(p:Pg)(hb:pz p.funcs<=1073741824)(ha:p.arrays.length<=1073741824)(hr:rPg p=true):SC Tryz.prog 56 [.pv p.enc] [] (λk=>k∈[]) (iBool true) []:=by
 refine SC.vc tb { pb:=[101] } [] Tryz.func56 rfl rfl ?_;unfold rPg at hr;simp only[A0]at hr;have hl:=zl8 p.funcs;have h1:=sc_hasAr 98 [] rfl (λx=>!(z0l x.name&&decide (1<=x.size)&&decide (x.size<=1000))) p.arrays oM0 (λx _=>yh4 x);rw[zq2 λx hm=>Be.1 hr.1 x hm]at h1;have h2:=sc_hasFu 101 [] rfl (λx=>!rFu x) p.funcs oM0 (λx hm=>by
  have g:=Be.1 hr.2 x hm;have g2:=zw0 hm;refine SC.vc tb { pb:=[101] } [] Tryz.func101 rfl rfl ?_;exact⟨[],y6w x oM0 g,sR,Gb,rfl,sE (by rw[g]),Gb⟩)
 rw[zq2 λx hm=>Be.1 hr.2 x hm]at h2;exact⟨[],h1,SubA.same sFn,Gb,rfl,[],h2,SubA.same sFn,Gb,rfl,sI,Gb⟩
abbrev Sc:Type:=List (ByteArray×Int×Int)
def scV:Sc->PV
 |[]=>.val (.pointer none)
 |(n,t,d)::r=>.ept [vStr n,vInt t,scV r,vInt d] 0
def za7(name:ByteArray):Sc->Sc
 |[]=>[]
 |(n,t,d)::r=>if !(n.toList==name.toList)then za7 name r else(n,t,d)::r
def z3n(p:Pg)(name:ByteArray):Int:=idxP (λf:Fu=>f.name.toList==name.toList) p.funcs 0
def j5g(p:Pg)(name:ByteArray):Int:=idxP (λa:Ar=>a.name.toList==name.toList) p.arrays 0
def fu0:Fu:=⟨⟨#[]⟩,0,[],[]⟩
def fuAt(p:Pg)(i:Int):Fu:=p.funcs.getD i.toNat fu0
def zy3(ok:Bool)(e:Int):Int:=if ok then 0 else e
def zx7(op t:Int):Int×Bool :=
 if op=18∨op=19∨op=22 then(2,t==2)else if op=16∨op=17 then(2,true)else if op=12∨op=13∨op=14∨op=15 then(2,t==1)else(1,t==1)
def z8c(p:Pg)(s:Sc)(k:Int)(name:ByteArray)(len:Nat):Int :=
 if k=3 then zy3 (!(za7 name s).isEmpty) 50 else if k=6 then zy3 (decide (j5g p name≥0)) 50
 else if k=7 then(if z3n p name<0 then 50 else zy3 ((fuAt p (z3n p name)).params.length==len) 51)else 0
def yEq:List Int->List Pm->Bool
 |[],[]=>true
 |t::r,p::q=>t==p.ty&&yEq r q
 |_,_=>false
def scTy:Sc->Int
 |[]=>0
 |(_,t,_)::_=>t
def j00(p:Pg)(s:Sc)(k op:Int)(name:ByteArray)(l:List Int):Int×Bool :=
 if k=2 then(2,true)else if k=3 then(scTy (za7 name s),true)else if k=6 then(1,l.getD 0 0==1)else if k=4 then zx7 op (l.getD 0 0)
 else if k=5 then((zx7 op (l.getD 0 0)).1,(zx7 op (l.getD 0 0)).2&&l.getD 0 0==l.getD 1 0)
 else if k=7 then((fuAt p (z3n p name)).ty,yEq l (fuAt p (z3n p name)).params)else(1,true)
mutual
def z5a(p:Pg)(s:Sc):Ex->Int×Int
 |.mk k op _ name args=>if z8c p s k name args.length=0 then
  if (z70 p s args).2=0 then(if (j00 p s k op name (z70 p s args).1).2 then((j00 p s k op name (z70 p s args).1).1,0)else(0,51))else(0,(z70 p s args).2)
  else(0,z8c p s k name args.length)
def z70(p:Pg)(s:Sc):List Ex->List Int×Int
 |[]=>([],0)
 |e::r=>if (z5a p s e).2=0 then(if (z70 p s r).2=0 then((z5a p s e).1::(z70 p s r).1,0)else([],(z70 p s r).2))else([],(z5a p s e).2)
end
def ex0:Ex:=.mk 0 0 0 ⟨#[]⟩ []
def zd7(p:Pg)(s:Sc)(e:Ex)(t:Int):Int:=if (z5a p s e).2=0 then zy3 ((z5a p s e).1==t) 51 else(z5a p s e).2
def scDeep:Sc->Int
 |[]=>0
 |(_,_,d)::_=>d
def ya8(p:Pg)(s:Sc)(k ty:Int)(name:ByteArray)(args:List Ex)(depth:Int):Int :=
 if k=1 then(if zd7 p s (args.getD 0 ex0) ty=0 then zy3 ((za7 name s).isEmpty||decide (scDeep (za7 name s)<depth)) 50 else zd7 p s (args.getD 0 ex0) ty)
 else if k=2 then(if (za7 name s).isEmpty then 50 else zd7 p s (args.getD 0 ex0) (scTy (za7 name s)))
 else if j5g p name<0 then 50
 else if zd7 p s (args.getD 0 ex0) 1=0 then zd7 p s (args.getD 1 ex0) 1 else zd7 p s (args.getD 0 ex0) 1
def zy4(p:Pg)(res:Int)(s:Sc)(k ty:Int)(name:ByteArray)(args:List Ex)(depth:Int)(loop:Bool):Int :=
 if k=4∨k=5 then zd7 p s (args.getD 0 ex0) 2 else if k=8 then zd7 p s (args.getD 0 ex0) res else if k=9 then zd7 p s (args.getD 0 ex0) 1
 else if k=10 then(z5a p s (args.getD 0 ex0)).2 else if k=6∨k=7 then zy3 loop 53 else ya8 p s k ty name args depth
def z6p(s:Sc)(k ty:Int)(name:ByteArray)(depth:Int):Sc:=if k=1 then(name,ty,depth)::s else s
mutual
def z2h(p:Pg)(res:Int):List St->Sc->Int->Bool->Nat->Int×Nat
 |[],_,_,_,n=>(0,n)
 |x::r,s,depth,loop,n=>if (yOne p res x s depth loop n).1=0 then z2h p res r (z6p s x.kind x.ty x.name depth) depth loop (yOne p res x s depth loop n).2 else yOne p res x s depth loop n
def yOne(p:Pg)(res:Int):St->Sc->Int->Bool->Nat->Int×Nat
 |.mk k ty name args thn els,s,depth,loop,n=>if zy4 p res s k ty name args depth loop=0 then
  if (z2h p res thn (z6p s k ty name depth) (depth+1) (loop||k==5) (n+1)).1=0 then
   z2h p res els (z6p s k ty name depth) (depth+1) loop (z2h p res thn (z6p s k ty name depth) (depth+1) (loop||k==5) (n+1)).2
  else z2h p res thn (z6p s k ty name depth) (depth+1) (loop||k==5) (n+1)
  else(zy4 p res s k ty name args depth loop,n)
end
mutual
def lvs:List St->Bool
 |[]=>false
 |x::r=>lvS x||lvs r
def lvS:St->Bool
 |.mk k _ _ _ thn els=>k==6||(k==4&&(lvs thn||lvs els))
end
mutual
def ens:List St->Bool
 |[]=>false
 |x::r=>enS x||ens r
def enS:St->Bool
 |.mk k _ _ args thn els=>if k=8 then true else if k=4 then ens thn&&ens els else if k=5 then((args.getD 0 ex0).kind==2&&((args.getD 0 ex0).n==1 && !lvs thn))else false
end
def ySc(l:List Pm):Sc:=l.foldl (λs x=>(x.name,x.ty,0)::s) []
theorem zf3(p:Pg)(name:ByteArray)(hl:p.funcs.length<=1073741824):SC Tryz.prog 103 [.pv p.enc,.pv (.val (.string name))] [] (λk=>k∈[]) (iInt (z3n p name)) []:=by
 refine SC.vc tb { pb:=[102,103] } [] Tryz.func103 rfl rfl ?_;refine⟨[],yo9 152 [.pv (.ept [vStr name] 0)] rfl (λf=>f.name.toList==name.toList) p.funcs oM0 (λx _=>?_),sR,Gb,rfl,sI,Gb⟩;refine SC.vc tb { pb:=[102] } [] Tryz.func152 rfl rfl ?_;exact⟨sI,Gb⟩
theorem y4y(p:Pg)(name:ByteArray)(hl:p.arrays.length<=1073741824):SC Tryz.prog 193 [.pv p.enc,.pv (.val (.string name))] [] (λk=>k∈[]) (iInt (j5g p name)) []:=by
 refine SC.vc tb { pb:=[102,103] } [] Tryz.func193 rfl rfl ?_;refine⟨[],yo8 218 [.pv (.ept [vStr name] 0)] rfl (λf=>f.name.toList==name.toList) p.arrays oM0 (λx _=>?_),sR,Gb,rfl,sI,Gb⟩;refine SC.vc tb { pb:=[102] } [] Tryz.func218 rfl rfl ?_;exact⟨sI,Gb⟩
theorem z5s(ok:Bool)(e:Int):SC Tryz.prog 155 [iBool ok,.pv (.val (.int .i64 e))] [] (λk=>k∈[]) (iInt (zy3 ok e)) []:=by
 refine SC.vc tb {} [] Tryz.func155 rfl rfl ?_;exact z00 (λh=>⟨sE (by rw[h];rfl),Gb⟩) λh=>⟨sE (by rw[h];rfl),Gb⟩
theorem y4z(op t:Int):SC Tryz.prog 215 [.pv (.val (.int .i64 op)),.pv (.val (.int .i64 t))] [] (λk=>k∈[]) (.tup [iInt (zx7 op t).1,iBool (zx7 op t).2]) []:=by
 refine SC.vc tb {} [] Tryz.func215 rfl rfl ?_
 by_cases h:op=18∨op=19∨op=22∨op=16∨op=17∨op=12∨op=13∨op=14∨op=15
 ·rcases h with rfl|rfl|rfl|rfl|rfl|rfl|rfl|rfl|rfl<;>exact⟨sI,Gb⟩
 ·have hT:zx7 op t=(1,t==1):=by
   unfold zx7;rw[if_neg oM0,if_neg oM0,if_neg oM0]
  rw[hT]
  repeat' (first|exact⟨sI,Gb⟩|refine z00 (λg=>absurd (eq_of_beq g) oM0) λ_=>?_)
theorem y9m(s:Sc)(n:ByteArray)(t d:Int):SC Tryz.prog 105 [.pv (scV s),.pv (.agg [vStr n,vInt t]),.pv (.val (.int .i64 d))] [] (λk=>k∈[]) (.pv (scV ((n,t,d)::s))) []:=by
 refine SC.vc tb { pb:=[104,111] } [] Tryz.func105 rfl rfl ?_
 cases s with
 |nil=>exact⟨sI,Gb⟩
 |cons a r=>exact⟨sI,Gb⟩
theorem y28(name:ByteArray)(s:Sc):SC Tryz.prog 192 [.pv (scV s),.pv (.val (.string name))] [] (λk=>k∈[]) (.pv (scV (za7 name s))) []:=by
 refine SC.vc tb {} [] Tryz.func192 rfl rfl ?_;refine⟨Sc,λq=>[(0,.pv (scV q))],λ_=>[],λq=>q.length,λq=>za7 name s=za7 name q,[],s,rfl,Gc,Gb,?_⟩;intro q hq
 cases q with
 |nil=>exact⟨sE (by rw[hq];rfl),Gb⟩
 |cons a r =>
  obtain⟨n,t,d⟩:=a;refine z00 (λh=>?_) λh=>?_
  ·exact⟨r,Aa _,by rw[hq,za7,h];rfl,Gc,Gb,rfl,rfl,rfl,rfl⟩
  ·exact⟨sE (by rw[hq,za7,h];rfl),Gb⟩
theorem yh6(l:List Pm)(hl:l.length<=1073741824):SC Tryz.prog 60 [.pv (pms l)] [] (λk=>k∈[]) (.pv (scV (ySc l))) []:=by
 refine SC.vc tb {} [] Tryz.func60 rfl rfl ?_;refine⟨Nat,λi=>[(7,iInt ((i:Nat):Int)),(2,.pv (scV (ySc (l.take i))))],λ_=>[],λi=>l.length-i,λi=>i<=l.length,[],0,Ad _,Gd,Gb,?_⟩;intro i hi;refine z00 (λhc=>?_) λhc=>?_
 ·have hlt:i<l.length:=z0z (f:=Pm.enc) rfl hc;obtain⟨x,x1,x2,x3,x4⟩:=z0p hlt;have hs:ySc (l.take (i+1))=(x.name,x.ty,0)::ySc (l.take i):=by unfold ySc;rw[x2,Ds];rfl
  exact⟨zv9 x1,rfl,[],y9m (ySc (l.take i)) x.name x.ty 0,sR,Gb,rfl,z01 rfl oM0,i+1,z03 hlt,hlt,⟨rfl,by rw[hs];rfl,Gb⟩,Gb,rfl,rfl,rfl,rfl⟩
 ·have hge:l.length<=i:=z10 (f:=Pm.enc) rfl hc;exact⟨sE (by rw[Av hge]),Gb⟩
theorem yx5(t:Int)(x:Pm):SC Tryz.prog 217 [iInt t,.pv (.agg x.enc)] [] (λk=>k∈[]) (iBool (t==x.ty)) []:=by
 refine SC.vc tb { pb:=[103] } [] Tryz.func217 rfl rfl ?_;exact⟨sI,Gb⟩
theorem j5h:∀(l:List Int)(q:List Pm),l.length≠q.length->yEq l q=false
 |[],[],h=>absurd rfl h
 |[],_::_,_=>rfl
 |_::_,[],_=>rfl
 |a::l,b::q,h=>by
  rw[yEq,j5h l q (by simp at h;omega),Cv]
theorem sc_tyEq(l:List Int)(q:List Pm)(hl:l.length<=1073741824):SC Tryz.prog 216 [.pv (ints l),.pv (pms q),.fn (.func 217) [] []] [] (λk=>k∈[]) (iBool (yEq l q)) []:=by
 refine SC.vc tb {} [] Tryz.func216 rfl rfl ?_;refine z00 (λh=>?_) λh=>?_
 ·exact⟨sE (by rw[j5h l q (λe=>by simp[e]at h)]),Gb⟩
 ·have hlen:l.length=q.length:=by
   have h2:=eq_of_beq (show((l.map eInt).length:Int)==((q.map Pm.enc).length:Int) by simpa[bne]using h);simp only[Ac]at h2;omega
  refine⟨Nat,λi=>[(17,iInt ((i:Nat):Int))],λ_=>[],λi=>l.length-i,λi=>i<=l.length/\yEq l q=yEq (l.drop i) (q.drop i),[],0,⟨Ad _,rfl⟩,Gc,Gb,?_⟩;rintro i ⟨i1,i2⟩;refine z00 (λhc=>?_) λhc=>?_
  ·have hlt:i<l.length:=z0z (f:=eInt) rfl hc;obtain⟨x,x1,x2,x3,x4⟩:=z0p hlt;obtain⟨y,y1,y2,y3,y4⟩:=z0p (show i<q.length by omega);rw[x3,y3,yEq]at i2;refine⟨z02 (f:=eInt) x1,rfl,zv9 y1,rfl,yx5 x y,sR,Gb,(λk hk=>hk),rfl,rfl,z00 (λc=>?_) λc=>?_⟩
   ·exact⟨sE (Af iBool (by rw[i2,show(x==y.ty)=false by simpa using c];rfl)),Gb⟩
   ·rw[show(x==y.ty)=true by simpa using c,B0]at i2;exact⟨z01 rfl oM0,i+1,z03 hlt,⟨hlt,i2⟩,Gc,Gb,rfl,rfl,rfl,rfl⟩
  ·have hge:l.length<=i:=z10 (f:=eInt) rfl hc;exact⟨sE (by rw[i2,Ab hge,Ab oM0];rfl),Gb⟩
theorem j10{α:Type}(p:α -> Bool):∀(l:List α)(j:Int),0<=j->0<=idxP p l j->∃(i:Nat)(x:α),idxP p l j=j+i/\l[i]?=some x/\p x=true
 |[],_,_,h=>absurd h (by simp[idxP])
 |x::r,j,hj,h=>by
  rw[idxP]at h⊢
  by_cases hx:p x=true
  ·exact⟨0,x,by rw[if_pos hx];simp,rfl,hx⟩
  ·rw[if_neg hx]at h⊢;obtain⟨i,y,h1,h2,h3⟩:=j10 p r (j+1) oM0 h;exact⟨i+1,y,by rw[h1];simp;omega,by simpa using h2,h3⟩
theorem zy9{p:Pg}{name:ByteArray}(h:0<=z3n p name):∃i:Nat,z3n p name=i/\p.funcs[i]?=some (fuAt p (z3n p name)):=by
 obtain⟨i,x,h1,h2,_⟩:=j10 _ p.funcs 0 dC0 h;refine⟨i,by unfold z3n;omega,?_⟩;unfold fuAt z3n;rw[h1];simp[h2]
theorem yx6(p:Pg)(s:Sc)(k o n:Int)(nm:ByteArray)(args:List Ex)(hf:p.funcs.length<=1073741824)(ha:p.arrays.length<=1073741824) :
 SC Tryz.prog 189 [.pv p.enc,.pv (scV s),.pv (.agg [vInt k,vInt o,vInt n,vStr nm,exs args])] [] (λk=>k∈[]) (iInt (z8c p s k nm args.length)) []:=by
 refine SC.vc tb { pb:=[103,105] } [] Tryz.func189 rfl rfl ?_;have hF:=y28 nm s;have hP:=zf3 p nm hf;have hA:=y4y p nm ha;have hg:=@zy9 p nm;unfold z8c;generalize za7 nm s=q at hF;refine z00 (λc=>?_) λc=>z00 (λc2=>?_) λc2=>z00 (λc3=>?_) λc3=>?_
 ·rw[if_pos (eq_of_beq c)]
  cases q with
  |nil=>exact⟨[],hF,sR,Gb,rfl,[],z5s false 50,sR,Gb,rfl,sI,Gb⟩
  |cons a r=>exact⟨[],hF,sR,Gb,rfl,[],z5s true 50,sR,Gb,rfl,sI,Gb⟩
 ·rw[if_neg (A9.1 c),if_pos (eq_of_beq c2)];exact⟨[],hA,sR,Gb,rfl,[],z5s _ 50,sR,Gb,rfl,sI,Gb⟩
 ·rw[if_neg (A9.1 c),if_neg (A9.1 c2),if_pos (eq_of_beq c3)];refine⟨[],hP,sR,Gb,rfl,z00 (λc4=>?_) λc4=>?_⟩
  ·rw[if_pos (An c4)];exact⟨sI,Gb⟩
  ·have c4:=Al c4;rw[if_neg c4];obtain⟨i,h1,h2⟩:=hg oM0;exact⟨z9z h2,h1,[],z5s _ 51,sR,Gb,rfl,sE (Af iInt (Af (λb=>zy3 b 51) (by rw[Cl];simp;omega))),Gb⟩
 ·rw[if_neg (A9.1 c),if_neg (A9.1 c2),if_neg (A9.1 c3)];exact⟨sI,Gb⟩
theorem z3p{l:List Int}{i:Nat}(h:i<l.length):l[i]?=some (l.getD i 0):=by
 rw[Ax,A8 h];rfl
theorem j3l(p:Pg)(s:Sc)(k o n:Int)(nm:ByteArray)(args:List Ex)(l:List Int)(hl:l.length<=1073741824)(hf:p.funcs.length<=1073741824)(h3:k=3->za7 nm s≠[])(h7:k=7->0<=z3n p nm)(h1:k=4∨k=6->1<=l.length)(h5:k=5->2<=l.length) :
 SC Tryz.prog 191 [.pv p.enc,.pv (scV s),.pv (.agg [vInt k,vInt o,vInt n,vStr nm,exs args]),.pv (ints l)] [] (λk=>k∈[]) (.tup [iInt (j00 p s k o nm l).1,iBool (j00 p s k o nm l).2]) []:=by
 refine SC.vc tb { pb:=[104,106,112] } [] Tryz.func191 rfl rfl ?_;have hF:=y28 nm s;unfold j00;refine z00 (λc=>?_) λc=>z00 (λc2=>?_) λc2=>z00 (λc3=>?_) λc3=>z00 (λc4=>?_) λc4=>z00 (λc5=>?_) λc5=>z00 (λc6=>?_) λc6=>?_
 all_goals try replace c:=A9.1 c
 all_goals try replace c2:=A9.1 c2
 all_goals try replace c3:=A9.1 c3
 all_goals try replace c4:=A9.1 c4
 all_goals try replace c5:=A9.1 c5
 all_goals try replace c6:=A9.1 c6
 ·rw[if_pos (eq_of_beq c)];exact⟨sI,Gb⟩
 ·rw[if_neg c,if_pos (eq_of_beq c2)];have:=h3 (eq_of_beq c2);generalize za7 nm s=q at hF this
  cases q with
  |nil=>exact absurd rfl this
  |cons a r=>exact⟨[],hF,sR,Gb,rfl,sI,Gb⟩
 ·rw[if_neg c,if_neg c2,if_pos (eq_of_beq c3)];exact⟨z02 (f:=eInt) (z3p (i:=0) (h1 (.inr (eq_of_beq c3)))),rfl,sI,Gb⟩
 ·rw[if_neg c,if_neg c2,if_neg c3,if_pos (eq_of_beq c4)];exact⟨z02 (f:=eInt) (z3p (i:=0) (h1 (.inl (eq_of_beq c4)))),rfl,[],y4z _ _,sR,Gb,rfl,sI,Gb⟩
 ·rw[if_neg c,if_neg c2,if_neg c3,if_neg c4,if_pos (eq_of_beq c5)];have h:=h5 (eq_of_beq c5);have hT:=y4z o (l.getD 0 0);generalize zx7 o (l.getD 0 0)=t at hT;obtain⟨t1,t2⟩:=t;refine⟨z02 (f:=eInt) (z3p (i:=0) oM0),rfl,[],hT,sR,Gb,rfl,?_⟩
  cases t2 with
  |true=>exact⟨z02 (f:=eInt) (z3p (i:=0) oM0),rfl,z02 (f:=eInt) (z3p (i:=1) oM0),rfl,sI,Gb⟩
  |false=>exact⟨sI,Gb⟩
 ·rw[if_neg c,if_neg c2,if_neg c3,if_neg c4,if_neg c5,if_pos (eq_of_beq c6)];obtain⟨i,g1,g2⟩:=zy9 (h7 (eq_of_beq c6));exact⟨[],zf3 p nm hf,sR,Gb,rfl,z9z g2,g1,[],sc_tyEq l _ hl,SubA.same (SubA.same sFn),Gb,rfl,sI,Gb⟩
 ·rw[if_neg c,if_neg c2,if_neg c3,if_neg c4,if_neg c5,if_neg c6];exact⟨sI,Gb⟩
theorem yk0{p:Pg}{s:Sc}{nm:ByteArray}{len:Nat}(h:z8c p s 3 nm len=0):za7 nm s≠[]:=λe=>by
 unfold z8c at h;rw[if_pos rfl,e]at h;exact absurd h dC0
theorem yb0{p:Pg}{s:Sc}{nm:ByteArray}{len:Nat}(h:z8c p s 7 nm len=0):0<=z3n p nm/\(fuAt p (z3n p nm)).params.length=len:=by
 unfold z8c at h;rw[if_neg dC0,if_neg dC0,if_pos rfl]at h;split at h
 ·exact absurd h dC0
 ·rename_i g;refine⟨by omega,?_⟩;unfold zy3 at h;split at h
  ·rename_i g2;exact eq_of_beq g2
  ·exact absurd h dC0
theorem ya7(p:Pg)(s:Sc):∀l,(z70 p s l).2=0->(z70 p s l).1.length=l.length
 |[],_=>rfl
 |e::r,h=>by
  rw[z70]at h⊢;split at h
  ·rename_i g;rw[if_pos g];split at h
   ·rename_i g2;rw[if_pos g2];simp[ya7 p s r g2]
   ·rename_i g2;exact absurd h g2
  ·rename_i g;exact absurd h g
theorem y59{p:Pg}{s:Sc}:∀{l:List Ex}{i:Nat}{e:Ex},(∀x∈l.take i,(z5a p s x).2=0)->l.drop i=e::l.drop (i+1)->(z5a p s e).2≠0->z70 p s l=([],(z5a p s e).2)
 |[],i,e,_,h,_=>by simp at h
 |x::r,0,e,_,h,he=>by
  simp only[List.drop_zero,List.cons.injEq]at h
  rw[z70,h.1,if_neg he]
 |x::r,i+1,e,hq,h,he=>by
  have:=y59 (l:=r) (i:=i) (λy hy=>hq y (by simp[hy])) (by simpa using h) he;rw[z70,if_pos (hq x sI0),this,if_neg he]
theorem ya6{p:Pg}{s:Sc}:∀{l:List Ex},(∀x∈l,(z5a p s x).2=0)->z70 p s l=(l.map λx=>(z5a p s x).1,0)
 |[],_=>rfl
 |x::r,hq=>by
  have:=ya6 (l:=r) (λy hy=>hq y (by simp[hy]));rw[z70,if_pos (hq x sI0),this];rfl
def fYE(p:Pg)(s:Sc)(e:Ex):Prop:=SC Tryz.prog 154 [.pv p.enc,.pv (scV s),.pv (exv e)] [] (λk=>k∈[]) (.tup [iInt (z5a p s e).1,iInt (z5a p s e).2]) []
theorem j3k(p:Pg)(s:Sc)(k o n:Int)(nm:ByteArray)(args:List Ex)(hl:args.length<=1073741824)(ih:∀x∈args,fYE p s x) :
 SC Tryz.prog 190 [.pv p.enc,.pv (scV s),.pv (.agg [vInt k,vInt o,vInt n,vStr nm,exs args])] [] (λk=>k∈[]) (.tup [.pv (ints (z70 p s args).1),iInt (z70 p s args).2]) []:=by
 refine SC.vc tb { pb:=[103,105,109],gh:=[(1,[.grow 6 1001 3 1]),(9,[.fz 6 1001])] } [] Tryz.func190 rfl rfl ?_;refine⟨Nat,λi=>[(15,iInt ((i:Nat):Int)),(6,.sl 1001 (((args.take i).map λx=>(z5a p s x).1).map eInt).length)],λi=>[(1001,.row ⟨3,1⟩ (((args.take i).map λx=>(z5a p s x).1).map eInt))],λi=>args.length-i,λi=>i<=args.length/\∀x∈args.take i,(z5a p s x).2=0,[],0,⟨Ad _,λx hx=>by simp at hx⟩,Gd,Gc,?_⟩;rintro i ⟨i1,i2⟩;refine z00 (λhc=>?_) λhc=>?_
 ·have hlt:i<args.length:=z0z (f:=Ex.enc) rfl hc;obtain⟨x,x1,x2,x3,x4⟩:=z0p hlt;refine⟨z1c x1,rfl,[],ih x x4,sR,Gb,rfl,z00 (λc=>?_) λc=>?_⟩
  ·have c:(z5a p s x).2≠0:=by simpa using c
   rw[y59 i2 x3 c];exact⟨sT2 sN,Gb⟩
  ·have c:(z5a p s x).2=0:=by simpa using c
   exact⟨rfl,z3i rfl,by simp;omega,z01 rfl oM0,i+1,z03 hlt,⟨hlt,λy hy=>by rw[x2]at hy;rcases B4.1 hy with g|g;exact i2 y g;rw[Ak.1 g];exact c⟩,⟨rfl,slq (by simp;omega),Gb⟩,⟨rwq (by rw[x2];simp[eInt]),Gb⟩,rfl,rfl,rfl,rfl⟩
 ·have hge:args.length<=i:=z10 (f:=Ex.enc) rfl hc;rw[Av hge]at i2⊢;rw[ya6 i2];exact⟨rfl,sI,Gb⟩
def szP(p:Pg):Prop:=p.funcs.length<=1073741824/\p.arrays.length<=1073741824
theorem y9l(p:Pg)(hp:szP p)(s:Sc):∀(N:Nat)(e:Ex),SizeOf.sizeOf e<N->xz e<=1073741824->∀most,rx e most=true->fYE p s e
 |0,_,h,_,_,_=>absurd h (Aj _)
 |N+1,.mk k o n nm args,hN,hx,most,hr=>by
  have hl:=zb5 args;simp only[xz]at hx;rw[rx,A0]at hr;have hA:=j3k p s k o n nm args oM0 (λx hm=>y9l p hp s N x (by have:=Bm hm;simp at hN;omega) (by have:=zh4 hm;omega) (most-1) (y6j hr.1 hm).2);have hlen:=ya7 p s args;refine SC.vc tb { pb:=[103,105] } [] Tryz.func154 rfl rfl ?_;unfold z5a;refine⟨[],yx6 p s k o n nm args hp.1 hp.2,sR,Gb,rfl,z00 (λc=>?_) λc=>?_⟩
  ·have c:¬z8c p s k nm args.length=0:=by simpa using c
   rw[if_neg c];exact⟨sI,Gb⟩
  ·have c:z8c p s k nm args.length=0:=by simpa using c
   rw[if_pos c];generalize z70 p s args=A at hA hlen;obtain⟨a1,a2⟩:=A;dsimp only at hlen⊢;refine⟨[],hA,sR,Gb,rfl,z00 (λc2=>?_) λc2=>?_⟩
   ·have c2:¬a2=0:=by simpa using c2
    rw[if_neg c2];exact⟨sI,Gb⟩
   ·have c2:a2=0:=by simpa using c2
    rw[if_pos c2];have h:=hlen c2;have hcs:=y4c hr.2;have hM:=j3l p s k o n nm args a1 oM0 hp.1 (λe=>by subst e;exact yk0 c) (λe=>by subst e;exact(yb0 c).1) (λe=>by omega) (λe=>by omega);generalize j00 p s k o nm a1=M at hM;obtain⟨m1,m2⟩:=M;refine⟨[],hM,sR,Gb,rfl,z00 (λc3=>?_) λc3=>?_⟩
    ·have c3:m2=false:=by simpa using c3
     subst c3;exact⟨sI,Gb⟩
    ·have c3:m2=true:=by simpa using c3
     subst c3;exact⟨sI,Gb⟩
def fnO(p:Pg)(res:Int)(n:Nat):List (Nat×HO):=[(1,.box [.pv (arrs p.arrays),.pv (fus p.funcs),iInt res,iInt (n:Nat)])]
def fYW(p:Pg)(s:Sc)(e:Ex):Prop:=∀(res:Int)(n:Nat)(t:Int),SC Tryz.prog 153 [.ptr 1 0,.pv (scV s),.pv (exv e),.pv (.val (.int .i64 t))] (fnO p res n) (λk=>k∈[]) (iInt (zd7 p s e t)) (fnO p res n)
theorem j3n(p:Pg)(s:Sc)(e:Ex)(h:fYE p s e):fYW p s e:=by
 intro res n t;refine SC.vc tb { pb:=[106] } [] Tryz.func153 rfl rfl ?_;unfold zd7;unfold fYE at h;generalize z5a p s e=E at h;obtain⟨e1,e2⟩:=E;refine⟨[],h,sR,Gb,rfl,z00 (λc=>?_) λc=>?_⟩
 ·have c:¬e2=0:=by simpa using c
  rw[if_neg c];exact⟨sI,rfl,Gb⟩
 ·have c:e2=0:=by simpa using c
  rw[if_pos c];exact⟨[],z5s _ 51,sR,Gb,rfl,sI,rfl,Gb⟩
theorem yx3(p:Pg)(hp:szP p)(s:Sc)(k ty:Int)(nm:ByteArray)(args:List Ex)(thn els:List St)(depth:Int)(hk:(k=1/\∃e,args=[e])∨(k=2/\∃e,args=[e])∨(k=3/\∃e e2,args=[e,e2]))(hw:∀e∈args,fYW p s e)(res:Int)(n:Nat) :
 SC Tryz.prog 156 [.ptr 1 0,.pv (.agg [vInt k,vInt ty,vStr nm,exs args,sts thn,sts els]),.pv (scV s),.pv (.val (.int .i64 depth))] (fnO p res n) (λk=>k∈[]) (iInt (ya8 p s k ty nm args depth)) (fnO p res n):=by
 refine SC.vc tb { pb:=[105] } [] Tryz.func156 rfl rfl ?_;have hF:=y28 nm s;unfold ya8;generalize za7 nm s=q at hF;rcases hk with⟨rfl,e,rfl⟩|⟨rfl,e,rfl⟩|⟨rfl,e,e2,rfl⟩
 ·rw[if_pos rfl];have W:=hw e sI0 res n ty;have hg:([e].getD 0 ex0)=e:=rfl;rw[hg];refine⟨[],hF,sR,Gb,rfl,z1c (i:=0) rfl,rfl,[],W,sR,Gc,rfl,z00 (λc=>?_) λc=>?_⟩
  ·have c:¬zd7 p s e ty=0:=by simpa using c
   rw[if_neg c];exact⟨sI,rfl,Gb⟩
  ·have c:zd7 p s e ty=0:=by simpa using c
   rw[if_pos c]
   cases q with
   |nil=>exact⟨[],z5s true 50,sR,Gb,rfl,sI,rfl,Gb⟩
   |cons a r=>exact⟨[],z5s _ 50,sR,Gb,rfl,sI,rfl,Gb⟩
 ·rw[if_neg dC0,if_pos rfl]
  cases q with
  |nil=>exact⟨[],hF,sR,Gb,rfl,sI,rfl,Gb⟩
  |cons a r =>
   obtain⟨a1,a2,a3⟩:=a;have W:=hw e sI0 res n a2;exact⟨[],hF,sR,Gb,rfl,z1c (i:=0) rfl,rfl,[],W,sR,Gc,rfl,sI,rfl,Gb⟩
 ·rw[if_neg dC0,if_neg dC0];have W:=hw e sI0 res n 1;have W2:=hw e2 sI0 res n 1;have hg:([e,e2].getD 0 ex0)=e:=rfl;have hg2:([e,e2].getD 1 ex0)=e2:=rfl;rw[hg,hg2];refine⟨[],hF,sR,Gb,rfl,[],y4y p nm hp.2,sR,Gb,rfl,z00 (λc=>?_) λc=>?_⟩
  ·rw[if_pos (An c)];exact⟨sI,rfl,Gb⟩
  ·rw[if_neg (Al c)];refine⟨z1c (i:=0) rfl,rfl,[],W,sR,Gc,rfl,z00 (λc2=>?_) λc2=>?_⟩
   ·have c2:¬zd7 p s e 1=0:=by simpa using c2
    rw[if_neg c2];exact⟨sI,rfl,Gb⟩
   ·have c2:zd7 p s e 1=0:=by simpa using c2
    rw[if_pos c2];exact⟨z1c (i:=1) rfl,rfl,[],W2,sR,Gc,rfl,sI,rfl,Gb⟩
theorem j3m(p:Pg)(hp:szP p)(s:Sc)(x:St)(depth:Int)(loop:Bool)(most:Int)(hr:rst x most=true)(hw:∀e∈x.args,fYE p s e)(res:Int)(n:Nat) :
 SC Tryz.prog 104 [.ptr 1 0,.pv (stv x),.pv (scV s),.pv (.val (.int .i64 depth)),iBool loop] (fnO p res n) (λk=>k∈[]) (iInt (zy4 p res s x.kind x.ty x.name x.args depth loop)) (fnO p res n):=by
 refine SC.vc tb { pb:=[106] } [] Tryz.func104 rfl rfl ?_;rw[y4j]at hr;simp only[A0,Bc]at hr;obtain⟨h1,hc⟩:=zn2 hr.1.1.1.1 hr.1.1.2;have hW:∀e∈x.args,fYW p s e:=λe he=>j3n p s e (hw e he);clear hr;obtain⟨k,ty,nm,args,thn,els⟩:=x;simp only[St.kind,St.ty,St.name,St.args,St.thn,St.els]at *
 have hB:=λhk=>yx3 p hp s k ty nm args thn els depth hk hW res n;unfold zy4;rcases hc with⟨rfl,t,nn,⟨e,rfl⟩,rfl,rfl⟩|⟨rfl,rfl,nn,⟨e,rfl⟩,rfl,rfl⟩|⟨rfl,rfl,nn,⟨e,e2,rfl⟩,rfl,rfl⟩|⟨rfl,rfl,nn,⟨e,rfl⟩⟩|⟨rfl,rfl,nn,⟨e,rfl⟩,rfl⟩|⟨rfl,rfl,nn,rfl,rfl,rfl⟩|⟨rfl,rfl,nn,rfl,rfl,rfl⟩|⟨rfl,rfl,nn,⟨e,rfl⟩,rfl,rfl⟩|⟨rfl,rfl,nn,⟨e,rfl⟩,rfl,rfl⟩|⟨rfl,rfl,nn,⟨e,rfl,e7⟩,rfl,rfl⟩
 ·exact⟨[],hB (.inl ⟨rfl,e,rfl⟩),sR,Gc,rfl,sI,rfl,Gb⟩
 ·exact⟨[],hB (.inr (.inl ⟨rfl,e,rfl⟩)),sR,Gc,rfl,sI,rfl,Gb⟩
 ·exact⟨[],hB (.inr (.inr ⟨rfl,e,e2,rfl⟩)),sR,Gc,rfl,sI,rfl,Gb⟩
 ·exact⟨z1c (i:=0) rfl,rfl,[],hW e sI0 res n 2,sR,Gc,rfl,sI,rfl,Gb⟩
 ·exact⟨z1c (i:=0) rfl,rfl,[],hW e sI0 res n 2,sR,Gc,rfl,sI,rfl,Gb⟩
 ·exact⟨[],z5s loop 53,sR,Gb,rfl,sI,rfl,Gb⟩
 ·exact⟨[],z5s loop 53,sR,Gb,rfl,sI,rfl,Gb⟩
 ·exact⟨z1c (i:=0) rfl,rfl,[],hW e sI0 res n res,sR,Gc,rfl,sI,rfl,Gb⟩
 ·exact⟨z1c (i:=0) rfl,rfl,[],hW e sI0 res n 1,sR,Gc,rfl,sI,rfl,Gb⟩
 ·have hE:=hw e sI0;exact⟨z1c (i:=0) rfl,rfl,[],hE,sR,Gb,rfl,sI,rfl,Gb⟩
theorem j5j(p:Pg)(res:Int)(x:St)(s:Sc)(depth:Int)(loop:Bool)(n:Nat):yOne p res x s depth loop n=if zy4 p res s x.kind x.ty x.name x.args depth loop=0 then
 if (z2h p res x.thn (z6p s x.kind x.ty x.name depth) (depth+1) (loop||x.kind==5) (n+1)).1=0 then
  z2h p res x.els (z6p s x.kind x.ty x.name depth) (depth+1) loop (z2h p res x.thn (z6p s x.kind x.ty x.name depth) (depth+1) (loop||x.kind==5) (n+1)).2
 else z2h p res x.thn (z6p s x.kind x.ty x.name depth) (depth+1) (loop||x.kind==5) (n+1)
 else(zy4 p res s x.kind x.ty x.name x.args depth loop,n):=by
 cases x;rw[yOne];rfl
theorem zq0(p:Pg)(res:Int):∀(N:Nat)(l:List St),SizeOf.sizeOf l<N->∀(s:Sc)(depth:Int)(loop:Bool)(n:Nat),(z2h p res l s depth loop n).2<=n+szL l
 |0,_,h,_,_,_,_=>absurd h (Aj _)
 |N+1,[],_,s,depth,loop,n=>by rw[z2h];simp[szL]
 |N+1,x::r,hN,s,depth,loop,n=>by
  have hx:=zt6 x;simp at hN;have h1:(yOne p res x s depth loop n).2<=n+sz x:=by
   rw[j5j,y3e];have a1:=zq0 p res N x.thn oM0 (z6p s x.kind x.ty x.name depth) (depth+1) (loop||x.kind==5) (n+1);have a2:=λm=>zq0 p res N x.els oM0 (z6p s x.kind x.ty x.name depth) (depth+1) loop m;split
   ·split
    ·have:=a2 (z2h p res x.thn (z6p s x.kind x.ty x.name depth) (depth+1) (loop||x.kind==5) (n+1)).2;omega
    ·omega
   ·dsimp only;omega
  have h2:=zq0 p res N r oM0 (z6p s x.kind x.ty x.name depth) depth loop (yOne p res x s depth loop n).2;rw[z2h,szL];split
  ·omega
  ·omega
theorem zt2(p:Pg)(hp:szP p)(res:Int):∀(N:Nat)(l:List St),SizeOf.sizeOf l<N->szL l<=1073741824->∀most,rsL l most=true->∀(s:Sc)(depth:Int)(loop:Bool)(n:Nat),0<=depth->depth+most<=1073741824->0<=most->n+szL l<=1073741824 ->
 SC Tryz.prog 59 [.ptr 1 0,.pv (sts l),.pv (scV s),.pv (.val (.int .i64 depth)),iBool loop] (fnO p res n) (λk=>k∈[]) (iInt (z2h p res l s depth loop n).1) (fnO p res (z2h p res l s depth loop n).2)
 |0,_,h,_,_,_,_,_,_,_,_,_,_,_=>absurd h (Aj _)
 |N+1,l,hN,hx,most,hr,s,depth,loop,n,hd,hd2,hm0,hn=>by
  generalize hR:z2h p res l s depth loop n=R;refine SC.vc tb { pb:=[112],jn:=[10] } [] Tryz.func59 rfl rfl ?_;have hll:=z8j l;refine⟨Nat×Sc×Nat,λa=>[(18,iInt ((a.1:Nat):Int)),(2,.pv (scV a.2.1))],λa=>fnO p res a.2.2,λa=>l.length-a.1,λa=>a.1<=l.length/\R=z2h p res (l.drop a.1) a.2.1 depth loop a.2.2/\a.2.2+szL (l.drop a.1)<=1073741824,[],(0,s,n),⟨Ad _,hR.symm,hn⟩,Gd,Gc,?_⟩;rintro⟨i,q,m⟩ ⟨i1,i2,i3⟩;dsimp only at i1 i2 i3;refine z00 (λhc=>?_) λhc=>?_
  ·have hlt:i<l.length:=z0z (f:=St.enc) rfl hc;obtain⟨x,x1,x2,x3,x4⟩:=z0p hlt;rw[x3,z2h,j5j]at i2;rw[x3,szL]at i3;have hxr:=y1s hr x4;have hxr2:=hxr;rw[y4j]at hxr2;simp only[A0,Bc]at hxr2;have hmost:=(zn2 hxr2.1.1.1.1 hxr2.1.1.2).1;have hsz:=zx5 x4;have hsz2:=y3e x;have hso:=zt6 x;have hmem:=Bm x4;have hE:∀e∈x.args,fYE p q e:=λe he=>y9l p hp q _ e (Aa _) (by have:=zh4 he;omega) 100 (Be.1 hxr2.1.1.1.2 e he);have hS:=j3m p hp q x depth loop most hxr hE res m;refine⟨zj9 x1,rfl,?_⟩;generalize zy4 p res q x.kind x.ty x.name x.args depth loop=e0 at hS i2;refine⟨[],hS,sR,Gc,rfl,z00 (λc=>?_) λc=>?_⟩
   ·have c:¬e0=0:=by simpa using c
    rw[if_neg c,if_neg c]at i2;subst i2;exact⟨sI,rfl,Gb⟩
   ·have c:e0=0:=by simpa using c
    rw[if_pos c]at i2;refine⟨z01 (z:=((m+1:Nat):Int)) oM0 oM0,Unit,λ_=>[(2,.pv (scV (z6p q x.kind x.ty x.name depth)))],λ_=>[],λ_=>True,[],?_,?_⟩
    ·refine z00 (λk1=>?_) λk1=>?_
     ·exact⟨[],y9m q x.name x.ty depth,sR,Gb,rfl,(),Gb,⟨by unfold z6p;rw[if_pos (eq_of_beq k1)];rfl,Gb⟩,Gb,rfl,rfl,rfl,rfl⟩
     ·exact⟨(),Gb,⟨by unfold z6p;rw[if_neg (A9.1 k1)];rfl,Gb⟩,Gb,rfl,rfl,rfl,rfl⟩
    ·rintro _ _;generalize z6p q x.kind x.ty x.name depth=q2 at i2;have b1:=zt2 p hp res N x.thn oM0 oM0 (most-1) hxr2.1.2 q2 (depth+1) (loop||x.kind==5) (m+1) oM0 oM0 oM0 oM0;have n1:=zq0 p res _ x.thn (Aa _) q2 (depth+1) (loop||x.kind==5) (m+1);generalize z2h p res x.thn q2 (depth+1) (loop||x.kind==5) (m+1)=B1 at b1 n1 i2;obtain⟨e1,m1⟩:=B1;dsimp only at b1 n1 i2;have b2:=zt2 p hp res N x.els oM0 oM0 (most-1) hxr2.2 q2 (depth+1) loop m1 oM0 oM0 oM0 oM0;have n2:=zq0 p res _ x.els (Aa _) q2 (depth+1) loop m1;generalize z2h p res x.els q2 (depth+1) loop m1=B2 at b2 n2 i2;obtain⟨e2,m2⟩:=B2;dsimp only at b2 n2 i2;have hdp:z3c .add .i64 depth 1=some (.int .i64 (depth+1)):=z01 rfl oM0;clear hS hE hR;refine⟨hdp,z00 (λk5=>?_) λk5=>?_⟩
     all_goals
      subst k5;refine⟨[],b1,sR,Gc,rfl,z00 (λc1=>?_) λc1=>?_⟩
      ·have c1:¬e1=0:=by simpa using c1
       rw[if_neg c1,if_neg c1]at i2;subst i2;exact⟨sI,rfl,Gb⟩
      ·have c1:e1=0:=by simpa using c1
       rw[if_pos c1]at i2;refine⟨hdp,[],b2,sR,Gc,rfl,z00 (λc2=>?_) λc2=>?_⟩
       ·have c2:¬e2=0:=by simpa using c2
        rw[if_neg c2]at i2;subst i2;exact⟨sI,rfl,Gb⟩
       ·have c2:e2=0:=by simpa using c2
        rw[if_pos c2]at i2;exact⟨z01 rfl oM0,(i+1,q2,m2),z03 hlt,⟨hlt,i2,by dsimp only;omega⟩,Gd,Gc,rfl,rfl,rfl,rfl⟩
  ·have hge:l.length<=i:=z10 (f:=St.enc) rfl hc;rw[Ab hge,z2h]at i2;subst i2;exact⟨sI,rfl,Gb⟩
theorem j1c:∀l:List St,lvs l=l.any lvS
 |[]=>by rw[lvs];rfl
 |x::r=>by rw[lvs,j1c r];rfl
theorem j0k:∀l:List St,ens l=l.any enS
 |[]=>by rw[ens];rfl
 |x::r=>by rw[ens,j0k r];rfl
theorem lvS_eq(x:St):lvS x=(x.kind==6||(x.kind==4&&(lvs x.thn||lvs x.els))):=by cases x;rw[lvS];rfl
theorem enS_eq(x:St):enS x=if x.kind=8 then true else if x.kind=4 then ens x.thn&&ens x.els else if x.kind=5 then((x.args.getD 0 ex0).kind==2&&((x.args.getD 0 ex0).n==1 && !lvs x.thn))else false:=by cases x;rw[enS];rfl
theorem zj5:∀(N:Nat)(l:List St),SizeOf.sizeOf l<N->l.length<=1073741824->szL l<=1073741824->SC Tryz.prog 107 [.pv (sts l)] [] (λk=>k∈[]) (iBool (lvs l)) []
 |0,_,h,_,_=>absurd h (Aj _)
 |N+1,l,hN,hl,hz=>by
  have hc:=y6o 157 [] rfl lvS l oM0 (λx hm=>by
   have hsz:SizeOf.sizeOf x.thn<N/\SizeOf.sizeOf x.els<N:=by have:=Bm hm;have:=zt6 x;omega
   have h1:=zx5 hm;have h2:=y3e x;have h3:=z8j x.thn;have h4:=z8j x.els;have a1:=zj5 N x.thn hsz.1 oM0 oM0;have a2:=zj5 N x.els hsz.2 oM0 oM0;rw[lvS_eq];refine SC.vc tb { pb:=[101] } [] Tryz.func157 rfl rfl ?_;refine z00 (λc=>?_) λc=>z00 (λc2=>?_) λc2=>?_
   ·have c:(x.kind==6)=true:=c;exact⟨sE (by rw[c];rfl),Gb⟩
   ·have c:(x.kind==6)=false:=c;have c2:(x.kind==4)=true:=c2;rw[c,c2];generalize lvs x.thn=q1 at a1;refine⟨[],a1,sR,Gb,rfl,?_⟩
    cases q1 with
    |true=>exact⟨sI,Gb⟩
    |false=>exact⟨[],a2,sR,Gb,rfl,sI,Gb⟩
   ·have c:(x.kind==6)=false:=c;have c2:(x.kind==4)=false:=c2;exact⟨sE (by rw[c,c2];rfl),Gb⟩)
  rw[<- j1c]at hc;refine SC.vc tb {} [] Tryz.func107 rfl rfl ?_;exact⟨[],hc,SubA.same sFn,Gb,rfl,sI,Gb⟩
theorem y27:∀(N:Nat)(l:List St),SizeOf.sizeOf l<N->szL l<=1073741824->∀most,rsL l most=true->SC Tryz.prog 61 [.pv (sts l)] [] (λk=>k∈[]) (iBool (ens l)) []
 |0,_,h,_,_,_=>absurd h (Aj _)
 |N+1,l,hN,hz,most,hr=>by
  have hl:=z8j l;have hc:=y6o 106 [] rfl enS l oM0 (λx hm=>by
   have hsz:SizeOf.sizeOf x.thn<N/\SizeOf.sizeOf x.els<N:=by have:=Bm hm;have:=zt6 x;omega
   have h1:=zx5 hm;have h2:=y3e x;have h3:=z8j x.thn;have hxr:=y1s hr hm;rw[y4j]at hxr;simp only[A0,Bc]at hxr;have a1:=y27 N x.thn hsz.1 oM0 (most-1) hxr.1.2;have a2:=y27 N x.els hsz.2 oM0 (most-1) hxr.2;have a3:=zj5 _ x.thn (Aa _) oM0 oM0;have hcs:=(zn2 hxr.1.1.1.1 hxr.1.1.2).2;rw[enS_eq];refine SC.vc tb { pb:=[101] } [] Tryz.func106 rfl rfl ?_;refine z00 (λc=>?_) λc=>z00 (λc2=>?_) λc2=>z00 (λc3=>?_) λc3=>?_
   ·have c:x.kind=8:=eq_of_beq c;rw[if_pos c];exact⟨sI,Gb⟩
   ·have c:¬x.kind=8:=A9.1 c;have c2:x.kind=4:=eq_of_beq c2;rw[if_neg c,if_pos c2];generalize ens x.thn=q1 at a1;refine⟨[],a1,sR,Gb,rfl,?_⟩
    cases q1 with
    |false=>exact⟨sI,Gb⟩
    |true=>exact⟨[],a2,sR,Gb,rfl,sI,Gb⟩
   ·have c:¬x.kind=8:=A9.1 c;have c2:¬x.kind=4:=A9.1 c2;have c3:x.kind=5:=eq_of_beq c3;obtain⟨e,he⟩:∃e,x.args=[e]:=by
     rw[c3]at hcs;rcases hcs with h|h|h|h|h|h|h|h|h|h
     ·exact absurd h.1 dC0
     ·exact absurd h.1 dC0
     ·exact absurd h.1 dC0
     ·exact absurd h.1 dC0
     ·exact h.2.2.2.1
     ·exact absurd h.1 dC0
     ·exact absurd h.1 dC0
     ·exact absurd h.1 dC0
     ·exact absurd h.1 dC0
     ·exact absurd h.1 dC0
    have hg:(x.args.getD 0 ex0)=e:=by rw[he];rfl
    have hx:x.args[0]?=some e:=by rw[he];rfl
    rw[if_neg c,if_neg c2,if_pos c3,hg];refine⟨z1c hx,rfl,z00 (λk1=>?_) λk1=>?_⟩
    ·refine⟨z1c hx,rfl,z00 (λk2=>?_) λk2=>?_⟩
     ·have k1:(e.kind==2)=true:=k1;have k2:(e.n==1)=true:=k2;rw[k1,k2];exact⟨[],a3,sR,Gb,rfl,sI,Gb⟩
     ·have k1:(e.kind==2)=true:=k1;have k2:(e.n==1)=false:=k2;rw[k1,k2];exact⟨sI,Gb⟩
    ·have k1:(e.kind==2)=false:=k1;rw[k1];exact⟨sI,Gb⟩
   ·have c:¬x.kind=8:=A9.1 c;have c2:¬x.kind=4:=A9.1 c2;have c3:¬x.kind=5:=A9.1 c3;rw[if_neg c,if_neg c2,if_neg c3];exact⟨sI,Gb⟩)
  rw[<- j0k]at hc;refine SC.vc tb {} [] Tryz.func61 rfl rfl ?_;exact⟨[],hc,SubA.same sFn,Gb,rfl,sI,Gb⟩
def yf3:ByteArray:=⟨#[109,97,105,110]⟩
def z8e(es:List (Value×PV))(l:List ByteArray):List (Value×PV):=l.foldl (λe s=>bump s e) es
theorem zk3:∀(l:List ByteArray) {es:List (Value×PV)},Cnt es->Cnt (z8e es l)
 |[],_,h=>h
 |s::r,_,h=>zk3 r (h.bump s)
theorem zq4(es:List (Value×PV))(l:List ByteArray)(s:ByteArray):z8e es (l++[s])=bump s (z8e es l):=by unfold z8e;rw[Ds];rfl
theorem zu0{α:Type}(f:α -> ByteArray){l:List α}{i:Nat}{x:α}(h:l.take (i+1)=l.take i++[x]):(l.map f).take (i+1)=(l.map f).take i++[f x]:=by
 rw[<- Ea,h,Cg,Ea];rfl
def y5a(p:Pg):Bool :=
 ((z8e (z8e [] (p.arrays.map Ar.name)) (p.funcs.map Fu.name)).length:Int)==p.arrays.length+p.funcs.length&&(decide (z3n p yf3≥0)&&((fuAt p (z3n p yf3)).ty==1&&(fuAt p (z3n p yf3)).params.length==0))
theorem yx7(p:Pg)(hp:szP p):SC Tryz.prog 57 [.pv p.enc] [] (λk=>k∈[]) (iBool (y5a p)) []:=by
 refine SC.vc tb { pb:=[101] } [] Tryz.func57 rfl rfl ?_;obtain⟨hf,ha⟩:=hp;refine⟨Nat,λi=>[(13,iInt ((i:Nat):Int))],λi=>[(109,.map (z8e [] ((p.arrays.map Ar.name).take i)))],λi=>p.arrays.length-i,λi=>i<=p.arrays.length,[],0,Ad _,Gc,Gc,?_⟩;intro i hi;have hc0:=zk3 ((p.arrays.map Ar.name).take i) (es:=[]) Cnt.nil;refine z00 (λhc=>?_) λhc=>?_
 ·have hlt:i<p.arrays.length:=z0z (f:=Ar.enc) rfl hc;obtain⟨x,x1,x2,x3,x4⟩:=z0p hlt;have hs:=zu0 Ar.name x2;have hs2:z8e [] ((p.arrays.map Ar.name).take (i+1))=bump x.name (z8e [] ((p.arrays.map Ar.name).take i)):=by rw[hs,zq4]
  obtain⟨n,hn⟩:=hc0.find (.string x.name);refine⟨y3h x1,rfl,VAsk.mk (p:=vInt n) (b:=(z1m (.string x.name) (z8e [] ((p.arrays.map Ar.name).take i))).isSome) rfl hc0.1 (E5 hn rfl) ⟨rfl,rfl,hc0.1,z01 rfl oM0,i+1,z03 hlt,hlt,Gc,⟨mpq (by rw[hs2];exact(zh5 hn).symm),Gb⟩,rfl,rfl,rfl,rfl⟩⟩
 ·have hge:p.arrays.length<=i:=z10 (f:=Ar.enc) rfl hc;rw[Av (by simpa using hge)]at hc0⊢;have hP:=zf3 p yf3 hf;have hfu:=@zy9 p yf3;unfold y5a;generalize z8e [] (p.arrays.map Ar.name)=e1 at hc0⊢;refine⟨Nat,λi=>[(26,iInt ((i:Nat):Int))],λi=>[(109,.map (z8e e1 ((p.funcs.map Fu.name).take i)))],λi=>p.funcs.length-i,λi=>i<=p.funcs.length,[],0,Ad _,Gc,Gc,?_⟩;intro i hi;have hc1:=zk3 ((p.funcs.map Fu.name).take i) hc0;refine z00 (λhc=>?_) λhc=>?_
  ·have hlt:i<p.funcs.length:=z0z (f:=Fu.enc) rfl hc;obtain⟨x,x1,x2,x3,x4⟩:=z0p hlt;have hs:=zu0 Fu.name x2;have hs2:z8e e1 ((p.funcs.map Fu.name).take (i+1))=bump x.name (z8e e1 ((p.funcs.map Fu.name).take i)):=by rw[hs,zq4]
   obtain⟨n,hn⟩:=hc1.find (.string x.name);refine⟨z9z x1,rfl,VAsk.mk (p:=vInt n) (b:=(z1m (.string x.name) (z8e e1 ((p.funcs.map Fu.name).take i))).isSome) rfl hc1.1 (E5 hn rfl) ⟨rfl,rfl,hc1.1,z01 rfl oM0,i+1,z03 hlt,hlt,Gc,⟨mpq (by rw[hs2];exact(zh5 hn).symm),Gb⟩,rfl,rfl,rfl,rfl⟩⟩
  ·have hge:p.funcs.length<=i:=z10 (f:=Fu.enc) rfl hc;rw[Av (by simpa using hge)];generalize z8e e1 (p.funcs.map Fu.name)=e2;have hadd:z3c .add .i64 ((p.arrays.map Ar.enc).length:Int) ((p.funcs.map Fu.enc).length:Int)=some (.int .i64 ((p.arrays.length:Int)+p.funcs.length)):=z01 sI0 oM0;refine⟨[],hP,sR,Gb,rfl,hadd,z00 (λc1=>?_) λc1=>?_⟩
   ·rw[c1,B0];refine z00 (λc2=>?_) λc2=>?_
    ·obtain⟨j,g1,g2⟩:=hfu (An c2);rw[c2,B0];refine⟨z9z g2,g1,z00 (λc3=>?_) λc3=>?_⟩
     ·have c3:((fuAt p (z3n p yf3)).ty==1)=true:=c3;rw[c3,B0];exact⟨z9z g2,g1,sE (Af iBool (by rw[Cl];simp)),Gb⟩
     ·have c3:((fuAt p (z3n p yf3)).ty==1)=false:=c3;rw[c3];exact⟨sI,Gb⟩
    ·rw[c2];exact⟨sI,Gb⟩
   ·rw[c1];exact⟨sI,Gb⟩
def j5l(l:List Pm):Bool:=decide (((z8e [] (l.map Pm.name)).length:Int)<l.length)
theorem yx8(l:List Pm)(hl:l.length<=1073741824):SC Tryz.prog 58 [.pv (pms l)] [] (λk=>k∈[]) (iBool (j5l l)) []:=by
 refine SC.vc tb {} [] Tryz.func58 rfl rfl ?_;refine⟨Nat,λi=>[(9,iInt ((i:Nat):Int))],λi=>[(106,.map (z8e [] ((l.map Pm.name).take i)))],λi=>l.length-i,λi=>i<=l.length,[],0,Ad _,Gc,Gc,?_⟩;intro i hi;have hc0:=zk3 ((l.map Pm.name).take i) (es:=[]) Cnt.nil;refine z00 (λhc=>?_) λhc=>?_
 ·have hlt:i<l.length:=z0z (f:=Pm.enc) rfl hc;obtain⟨x,x1,x2,x3,x4⟩:=z0p hlt;have hs:=zu0 Pm.name x2;have hs2:z8e [] ((l.map Pm.name).take (i+1))=bump x.name (z8e [] ((l.map Pm.name).take i)):=by rw[hs,zq4]
  obtain⟨n,hn⟩:=hc0.find (.string x.name);refine⟨zv9 x1,rfl,VAsk.mk (p:=vInt n) (b:=(z1m (.string x.name) (z8e [] ((l.map Pm.name).take i))).isSome) rfl hc0.1 (E5 hn rfl) ⟨rfl,rfl,hc0.1,z01 rfl oM0,i+1,z03 hlt,hlt,Gc,⟨mpq (by rw[hs2];exact(zh5 hn).symm),Gb⟩,rfl,rfl,rfl,rfl⟩⟩
 ·have hge:l.length<=i:=z10 (f:=Pm.enc) rfl hc;rw[Av (by simpa using hge)];exact⟨sE (Af iBool (by unfold j5l;rw[Ac])),Gb⟩
def yFun(p:Pg)(f:Fu):Int×Nat :=
 (if (z2h p f.ty f.body (ySc f.params) 1 false 0).1=0/\ens f.body=false then 52 else(z2h p f.ty f.body (ySc f.params) 1 false 0).1,(z2h p f.ty f.body (ySc f.params) 1 false 0).2)
def ya9(p:Pg):List Fu->Nat->Int×Int×Int
 |[],_=>(0,0,0)
 |f::r,i=>if j5l f.params then(50,i,0)else if (yFun p f).1=0 then ya9 p r (i+1)else((yFun p f).1,i,(yFun p f).2)
def z95(p:Pg):Int×Int×Int:=if y5a p then ya9 p p.funcs 0 else(50,0,0)
attribute [local irreducible] y5a z2h
theorem yx4(p:Pg)(hb:pz p.funcs<=1000000)(ha:p.arrays.length<=1000000)(hr:rPg p=true):SC Tryz.prog 34 [.pv p.enc] [] (λk=>k∈[]) (.tup [iInt (z95 p).1,.pv (.agg [vInt (z95 p).2.1,vInt (z95 p).2.2])]) []:=by
 refine SC.vc tb { pb:=[101,105],ids:=[(36,1)] } [] Tryz.func34 rfl rfl ?_;have hlp:=zl8 p.funcs;have hP:szP p:=⟨by omega,by omega⟩;have hN:=yx7 p hP;have hR:=yx2 p oM0 oM0 hr;unfold rPg at hr;simp only[A0]at hr;unfold z95;refine⟨[],hR,sR,Gb,rfl,[],hN,sR,Gb,rfl,z00 (λc=>?_) λc=>?_⟩
 ·rw[show y5a p=false by simpa using c];exact⟨sI,Gb⟩
 ·rw[show y5a p=true by simpa using c,if_pos rfl];generalize hR:ya9 p p.funcs 0=R;refine⟨Nat,λi=>[(21,iInt ((i:Nat):Int))],λ_=>[],λi=>p.funcs.length-i,λi=>i<=p.funcs.length/\R=ya9 p (p.funcs.drop i) i,[],0,⟨Ad _,hR.symm⟩,Gc,Gb,?_⟩;rintro i ⟨i1,i2⟩;refine z00 (λhc=>?_) λhc=>?_
  ·have hlt:i<p.funcs.length:=z0z (f:=Fu.enc) rfl hc;obtain⟨x,x1,x2,x3,x4⟩:=z0p hlt;have hpz:=zw0 x4;have hrx:=Be.1 hr.2 x x4;unfold rFu at hrx;simp only[A0]at hrx;rw[x3,ya9]at i2;refine⟨z9z x1,rfl,[],yx8 x.params oM0,sR,Gb,rfl,z00 (λc1=>?_) λc1=>?_⟩
   ·rw[if_pos c1]at i2;subst i2;exact⟨sI,Gb⟩
   ·rw[if_neg (by rw[c1];decide)]at i2;have hB:=zt2 p hP x.ty _ x.body (Aa _) oM0 100 hrx.1.2 (ySc x.params) 1 false 0 dC0 dC0 dC0 oM0;have hE:=y27 _ x.body (Aa _) oM0 100 hrx.1.2;unfold yFun at i2;generalize z2h p x.ty x.body (ySc x.params) 1 false 0=B at hB i2;obtain⟨b1,b2⟩:=B;dsimp only at hB i2;refine⟨[],yh6 x.params oM0,sR,Gb,rfl,[],hB,sR,Gc,rfl,z00 (λc2=>?_) λc2=>?_⟩
    ·have c2:b1=0:=by simpa using c2
     subst c2;refine⟨[],hE,sR,Gb,rfl,z00 (λc3=>?_) λc3=>?_⟩
     ·rw[show(if (0:Int)=0/\ens x.body=false then(52:Int)else 0)=52 from if_pos ⟨rfl,by simpa using c3⟩,if_neg dC0]at i2;subst i2;exact⟨sI,Gb⟩
     ·have c3:ens x.body=true:=by simpa using c3
      rw[show(if (0:Int)=0/\ens x.body=false then(52:Int)else 0)=0 from if_neg (λh=>by rw[c3]at h;cases h.2),if_pos rfl]at i2;exact⟨z01 rfl oM0,i+1,z03 hlt,⟨hlt,i2⟩,Gc,Gb,rfl,rfl,rfl,rfl⟩
    ·have c2:¬b1=0:=by simpa using c2
     rw[show(if b1=0/\ens x.body=false then(52:Int)else b1)=b1 from if_neg (λh=>c2 h.1),if_neg c2]at i2;subst i2;exact z00 (λ_=>⟨sI,Gb⟩) λh=>absurd h (by simp[c2])
  ·have hge:p.funcs.length<=i:=z10 (f:=Fu.enc) rfl hc;rw[Ab hge,ya9]at i2;subst i2;exact⟨sI,Gb⟩
theorem SC.nilArg{P:Program}{f:FuncId}{xs:List IV}{pre post:List (Nat×HO)}{R:Nat->Prop}{r:IV}(h:∀a cap,cap<=maxLen->SC P f (.pv (.val (.slice a 0 cap))::xs) pre R r post):SC P f (.pv (.seq [])::xs) pre R r post:=by
 intro F ρ w vs hk hr hargs;obtain⟨v,hv,h1⟩:=hargs.2 0 _ rfl
 cases h1 with
 |pv _ _ h1 =>
  cases h1 with
  |seq _ a cap b off u ha hb hl hm hc hr1 =>
   refine h a cap hm F ρ w vs hk hr ⟨hargs.1,λt x hx=>?_⟩
   cases t with
   |zero=>cases hx;exact⟨_,hv,z3k _⟩
   |succ t=>exact hargs.2 (t+1) x hx
theorem yf7:SC Tryz.prog 35 [.pv (.seq [])] [] (λk=>k∈[]) (.pv (.seq [])) []:=by
 refine SC.nilArg λa cap hc=>?_
 cases a with
 |none =>
  refine SC.vc tb { } [] Tryz.func35 rfl rfl ?_
  exact⟨sN,Gb⟩
 |some a =>
  refine SC.give (k:=7) (n:=0) (s:=⟨80,2⟩) (els:=[]) ?_ rfl rfl;refine SC.vc tb { ids:=[(5,7)],ob:=[7],gh:=[(3,[.un 0])] } [] Tryz.func35 rfl rfl ?_;exact⟨hc,rfl,(λel h=>absurd h (Bz)),by decide,sI,rfl,Gb⟩
theorem yv9(l:List Ar)(hne:l≠[])(hl:l.length<=1073741824):SC Tryz.prog 35 [.pv (arrs l)] [] (λk=>k∈[]) (.sl 7 (l.map Ar.enc).length) [(7,.row ⟨80,2⟩ (l.map Ar.enc))]:=by
 obtain⟨x,r,rfl⟩:=C6 hne;refine SC.vc tb { ids:=[(5,7)],ob:=[7] } [] Tryz.func35 rfl rfl ?_;exact⟨rfl,zk6 λy _=>⟨rfl,Be.1 (show y.enc.all PV.one=true from rfl)⟩,by simp at hl⊢;omega,sE (by rw[Bt];rfl),rfl,Gb⟩
theorem yf9:SC Tryz.prog 63 [.pv (.seq [])] [] (λk=>k∈[]) (.pv (.seq [])) []:=by
 refine SC.nilArg λa cap hc=>?_
 cases a with
 |none =>
  refine SC.vc tb { } [] Tryz.func63 rfl rfl ?_
  exact⟨sN,Gb⟩
 |some a =>
  refine SC.give (k:=7) (n:=0) (s:=⟨98,2⟩) (els:=[]) ?_ rfl rfl;refine SC.vc tb { ids:=[(5,7)],ob:=[7],gh:=[(3,[.un 0])] } [] Tryz.func63 rfl rfl ?_;exact⟨hc,rfl,(λel h=>absurd h (Bz)),by decide,sI,rfl,Gb⟩
theorem yw1(l:List Pm)(hne:l≠[])(hl:l.length<=1073741824):SC Tryz.prog 63 [.pv (pms l)] [] (λk=>k∈[]) (.sl 7 (l.map Pm.enc).length) [(7,.row ⟨98,2⟩ (l.map Pm.enc))]:=by
 obtain⟨x,r,rfl⟩:=C6 hne;refine SC.vc tb { ids:=[(5,7)],ob:=[7] } [] Tryz.func63 rfl rfl ?_;exact⟨rfl,zk6 λy _=>⟨rfl,Be.1 (show y.enc.all PV.one=true from rfl)⟩,by simp at hl⊢;omega,sE (by rw[Bt];rfl),rfl,Gb⟩
theorem yg0:SC Tryz.prog 111 [.pv (.seq [])] [] (λk=>k∈[]) (.pv (.seq [])) []:=by
 refine SC.nilArg λa cap hc=>?_
 cases a with
 |none =>
  refine SC.vc tb { } [] Tryz.func111 rfl rfl ?_
  exact⟨sN,Gb⟩
 |some a =>
  refine SC.give (k:=7) (n:=0) (s:=⟨152,6⟩) (els:=[]) ?_ rfl rfl;refine SC.vc tb { ids:=[(5,7)],ob:=[7],gh:=[(3,[.un 0])] } [] Tryz.func111 rfl rfl ?_;exact⟨hc,rfl,(λel h=>absurd h (Bz)),by decide,sI,rfl,Gb⟩
theorem yw2(l:List St)(hne:l≠[])(hl:l.length<=1073741824):SC Tryz.prog 111 [.pv (sts l)] [] (λk=>k∈[]) (.sl 7 (l.map St.enc).length) [(7,.row ⟨152,6⟩ (l.map St.enc))]:=by
 obtain⟨x,r,rfl⟩:=C6 hne;refine SC.vc tb { ids:=[(5,7)],ob:=[7] } [] Tryz.func111 rfl rfl ?_;exact⟨rfl,zk6 λy _=>⟨by rw[St.enc_eq];rfl,Be.1 (show y.enc.all PV.one=true by rw[St.enc_eq];rfl)⟩,by simp at hl⊢;omega,sE (by rw[Bt];rfl),rfl,Gb⟩
theorem yf8:SC Tryz.prog 160 [.pv (.seq [])] [] (λk=>k∈[]) (.pv (.seq [])) []:=by
 refine SC.nilArg λa cap hc=>?_
 cases a with
 |none =>
  refine SC.vc tb { } [] Tryz.func160 rfl rfl ?_
  exact⟨sN,Gb⟩
 |some a =>
  refine SC.give (k:=7) (n:=0) (s:=⟨185,5⟩) (els:=[]) ?_ rfl rfl;refine SC.vc tb { ids:=[(5,7)],ob:=[7],gh:=[(3,[.un 0])] } [] Tryz.func160 rfl rfl ?_;exact⟨hc,rfl,(λel h=>absurd h (Bz)),by decide,sI,rfl,Gb⟩
theorem yw0(l:List Ex)(hne:l≠[])(hl:l.length<=1073741824):SC Tryz.prog 160 [.pv (exs l)] [] (λk=>k∈[]) (.sl 7 (l.map Ex.enc).length) [(7,.row ⟨185,5⟩ (l.map Ex.enc))]:=by
 obtain⟨x,r,rfl⟩:=C6 hne;refine SC.vc tb { ids:=[(5,7)],ob:=[7] } [] Tryz.func160 rfl rfl ?_;exact⟨rfl,zk6 λy _=>⟨by rw[Ex.enc_eq];rfl,Be.1 (show y.enc.all PV.one=true by rw[Ex.enc_eq];rfl)⟩,by simp at hl⊢;omega,sE (by rw[Bt];rfl),rfl,Gb⟩
set_option maxRecDepth 100000 in
set_option maxHeartbeats 4000000 in
theorem y7l(b:Nat)(r:Array MapEntry)(ck:Nat)(w:World)(hb:w.heap[b]?=some (.map r ck)) :
 Calls Tryz.prog 110 #[.map (some b)] w λe w'=>e=.returned (.map (some w.heap.size))/\w'=w.alloc (.map r ck):=by
 have hq:=λw=>run_eql_map_nil_sl (P:=Tryz.prog) w 144 _ _ (some b) Tryz.underlying144
 go_enter Tryz.func110,Tryz.ntmps110
 go_wp2
 rw[run_callFunc_extern Tryz.func159 kR0 kR0 kR0 (e:=Extern.MapsClone.clone) kR0,run_maps_clone_sl w 144 hb];simp only[Result.andThen];rw[D4]
 go_wp2
 rw[run_typeAssert_map_sl _ 144 20 _ _ _ Tryz.underlying144];simp only[Result.andThen];rw[D4]
 go_wp2
 go_ret
 exact⟨rfl,rfl⟩
set_option maxRecDepth 100000 in
set_option maxHeartbeats 4000000 in
theorem y7m(b:Nat)(r:Array MapEntry)(ck:Nat)(w:World)(hb:w.heap[b]?=some (.map r ck)) :
 Calls Tryz.prog 198 #[.map (some b)] w λe w'=>e=.returned (.map (some w.heap.size))/\w'=w.alloc (.map r ck):=by
 have hq:=λw=>run_eql_map_nil_sl (P:=Tryz.prog) w 94 _ _ (some b) Tryz.underlying94
 go_enter Tryz.func198,Tryz.ntmps198
 go_wp2
 rw[run_callFunc_extern Tryz.func159 kR0 kR0 kR0 (e:=Extern.MapsClone.clone) kR0,run_maps_clone_sl w 94 hb];simp only[Result.andThen];rw[D4]
 go_wp2
 rw[run_typeAssert_map_sl _ 94 20 _ _ _ Tryz.underlying94];simp only[Result.andThen];rw[D4]
 go_wp2
 go_ret
 exact⟨rfl,rfl⟩
theorem SC.clone{P:Program}{f:FuncId}{es:List (Value×PV)}(hcl:∀(b:Nat)(r:Array MapEntry)(ck:Nat)(w:World),w.heap[b]?=some (.map r ck)->Calls P f #[.map (some b)] w λe w'=>e=.returned (.map (some w.heap.size))/\w'=w.alloc (.map r ck)) :
 SC P f [.mp 1] [(1,.map es)] (λk=>k∈[1]) (.mp 8) [(8,.map es),(1,.map es)]:=by
 intro F ρ w vs hkept hrel hargs;have ha:All ⟨F,λk=>k∈[1],ρ,look (up [(1,.map es)]),w,vs.length⟩ ρ (look (up [(1,.map es)])) w [(0,.mp 1)] { tmps:=vs.toArray,defers:=[] }:=by
  refine⟨hrel,λt x hx=>?_,.refl _ _ _ _ _,rfl,by simp,hkept⟩
  match t,hx with
  |0,hx=>cases hx;obtain⟨v,h1,h2⟩:=hargs.2 0 _ rfl;exact⟨v,by simpa using h1,h2⟩
  |t+1,hx=>cases hx
 obtain⟨b,cc,r,ck,u,hv,hρ,h3,h4,h5,h6⟩:=ha.mapAt (x:=.tmp 0) rfl rfl;have hst:=ha.stamped hρ rfl h3;have hvs:vs.toArray = #[.map (some b)]:=by
  match vs,hargs.1,hv with
  |[v],_,hv=>simp[Act.eval]at hv;rw[hv]
 rw[hvs];refine(hcl b r ck w h3).mono ?_;rintro e w' ⟨rfl,rfl⟩;have hn:=ha.alloc (k:=8) (o:=.map es) rfl rfl rfl rfl 1 (.map r ck) λ_ keepP=>.map es r ck u (z2y w _) h4 h5 λi k p hi=>keepP _ _ (h6 i k p hi);exact⟨_,_,rfl,.mp _ _ λes' _=>⟨w.heap.size,1,z0a,rfl⟩,hn.rel,hn.tr⟩
theorem y95(es:List (Value×PV)):SC Tryz.prog 110 [.mp 1] [(1,.map es)] (λk=>k∈[1]) (.mp 8) [(8,.map es),(1,.map es)]:=SC.clone y7l
theorem j2u(es:List (Value×PV)):SC Tryz.prog 198 [.mp 1] [(1,.map es)] (λk=>k∈[1]) (.mp 8) [(8,.map es),(1,.map es)]:=SC.clone y7m
def y85:Go.Shelf.Ren:=⟨λ|246=>194|283=>219|284=>220|285=>221|286=>222|129=>242|317=>241|318=>243|319=>244|320=>245|337=>253|338=>254|n=>n,λ|2=>2|3=>3|9=>9|4=>4|171=>277|0=>0|53=>241|37=>22|5=>5|173=>280|212=>290|51=>291|20=>20|213=>292|46=>293|232=>311|233=>312|n=>n,λ|17=>0|18=>1|19=>2|n=>n⟩
theorem yl4:Go.Proofs.LaysM.n246 Tryz.prog y85 where
 mixed:=by kernel_rfl
 f129:=Tryz.func242.trans (Af some kR0)
 f246:=Tryz.func194.trans (Af some kR0)
 f283:=Tryz.func219.trans (Af some kR0)
 f284:=Tryz.func220.trans (Af some kR0)
 f285:=Tryz.func221.trans (Af some kR0)
 f286:=Tryz.func222.trans (Af some kR0)
 f317:=Tryz.func241.trans (Af some kR0)
 f318:=Tryz.func243.trans (Af some kR0)
 f319:=Tryz.func244.trans (Af some kR0)
 f320:=Tryz.func245.trans (Af some kR0)
 f337:=Tryz.func253.trans (Af some kR0)
 f338:=Tryz.func254.trans (Af some kR0)
 t0:=Tryz.underlying0
 a0:=Tryz.isAgg0
 z0:=Tryz.sizeOf0
 v0:=Tryz.zeroValue0
 t2:=Tryz.underlying2
 a2:=Tryz.isAgg2
 z2:=Tryz.sizeOf2
 v2:=Tryz.zeroValue2
 t3:=Tryz.underlying3
 a3:=Tryz.isAgg3
 z3:=Tryz.sizeOf3
 v3:=Tryz.zeroValue3
 t4:=Tryz.underlying4
 a4:=Tryz.isAgg4
 z4:=Tryz.sizeOf4
 v4:=Tryz.zeroValue4
 t5:=Tryz.underlying5
 a5:=Tryz.isAgg5
 z5:=Tryz.sizeOf5
 v5:=Tryz.zeroValue5
 t9:=Tryz.underlying9
 a9:=Tryz.isAgg9
 z9:=Tryz.sizeOf9
 v9:=Tryz.zeroValue9
 t20:=Tryz.underlying20
 a20:=Tryz.isAgg20
 z20:=Tryz.sizeOf20
 v20:=Tryz.zeroValue20
 t37:=Tryz.underlying22
 a37:=Tryz.isAgg22
 z37:=Tryz.sizeOf22
 v37:=Tryz.zeroValue22
 t46:=Tryz.underlying293
 a46:=Tryz.isAgg293
 z46:=Tryz.sizeOf293
 v46:=Tryz.zeroValue293
 t51:=Tryz.underlying291
 a51:=Tryz.isAgg291
 z51:=Tryz.sizeOf291
 v51:=Tryz.zeroValue291
 t53:=Tryz.underlying241
 a53:=Tryz.isAgg241
 z53:=Tryz.sizeOf241
 v53:=Tryz.zeroValue241
 t171:=Tryz.underlying277
 a171:=Tryz.isAgg277
 z171:=Tryz.sizeOf277
 v171:=Tryz.zeroValue277
 t173:=Tryz.underlying280
 a173:=Tryz.isAgg280
 z173:=Tryz.sizeOf280
 v173:=Tryz.zeroValue280
 t212:=Tryz.underlying290
 a212:=Tryz.isAgg290
 z212:=Tryz.sizeOf290
 v212:=Tryz.zeroValue290
 t213:=Tryz.underlying292
 a213:=Tryz.isAgg292
 z213:=Tryz.sizeOf292
 t232:=Tryz.underlying311
 a232:=Tryz.isAgg311
 z232:=Tryz.sizeOf311
 v232:=Tryz.zeroValue311
 t233:=Tryz.underlying312
 a233:=Tryz.isAgg312
 z233:=Tryz.sizeOf312
 v233:=Tryz.zeroValue312
 g17:=by kernel_rfl
 g18:=by kernel_rfl
 g19:=by kernel_rfl
 i0:=by kernel_rfl
 i2:=by kernel_rfl
 i3:=by kernel_rfl
 i4:=by kernel_rfl
 i5:=by kernel_rfl
 i9:=by kernel_rfl
 i20:=by kernel_rfl
 i37:=by kernel_rfl
 i46:=by kernel_rfl
 i51:=by kernel_rfl
 i53:=by kernel_rfl
 i171:=by kernel_rfl
 i173:=by kernel_rfl
 i212:=by kernel_rfl
 i232:=by kernel_rfl
 i233:=by kernel_rfl
 m17:=by kernel_rfl
 m18:=by kernel_rfl
 m19:=by kernel_rfl
theorem loc_none{F:Nat->Prop}{ρ:Loc}{w:World}(h:RelH F ρ (look (up [])) w)(k:Nat):ρ k=none:=by
 cases hk:ρ k with
 |none=>rfl
 |some l =>
  obtain⟨o,ho,_⟩:=h.obj k l.1 l.2 hk
  cases ho
theorem grown{F:Nat->Prop}{ρ:Loc}{w:World}(h:RelH F ρ (look (up [])) w)(R:Nat->Prop)(k:Nat)(os:Array Obj) :
 RelH F ρ (look (up [])) (Go.Sort.grow (w.drewN k) os)/\Trans F R ρ (look (up [])) w ρ (look (up [])) (Go.Sort.grow (w.drewN k) os):=by
 have hn:=loc_none h;have hs:w.heap.size<=(Go.Sort.grow (w.drewN k) os).heap.size:=by simp[Go.Sort.grow,World.drewN]
 have hb:∀b,b<w.heap.size->(Go.Sort.grow (w.drewN k) os).heap[b]?=w.heap[b]?:=λb hb=>Go.Sort.heap_grow_old (w.drewN k) os hb;refine⟨⟨λi _ _ _ _ hi=>?_,λi _ _ hi=>?_,λb hF=>B8 (h.old b hF) hs,λi _ _ hi=>?_,λi o ho=>?_⟩,
  ⟨rfl,rfl,rfl,hs,λb hlt _=>hb b hlt,λi _ _ hi _=>.inl hi,λi cs _ hi=>?_,λi cs _ hi=>?_,λi _ _ _ _ hi=>?_,λi _ _ _ _ hi=>?_,λi _ hi=>?_,λi _ hi=>?_,λi _ _ hi=>?_⟩⟩
 all_goals first
 |(rw[hn i]at hi;cases hi)
 |cases ho
 |cases hi
theorem y93(n:Int)(h0:-9223372036854775808<=n)(h1:n<=9223372036854775807) :
 SC Tryz.prog 194 [.pv (.val (.int .i64 n)),.pv (.val (.int .i64 10))] [] (λk=>k∈[]) (.pv (.val (.string ⟨(Lib.itoa n).toArray⟩))) []:=by
 intro F ρ w vs hk hrel hargs;obtain⟨v0,e0,r0⟩:=hargs.2 0 _ rfl;obtain⟨v1,e1,r1⟩:=hargs.2 1 _ rfl;have hv:vs=[.int .i64 n,.int .i64 10]:=by
  have hl:=hargs.1;have d0:=r0.val;have d1:=r1.val;subst d0 d1
  match vs,hl,e0,e1 with
  |[a,b],_,e0,e1=>cases e0;cases e1;rfl
 subst hv;refine(Any.internal_strconv_FormatInt_10 yl4 n h0 h1 w ?_).mono ?_
 ·obtain⟨⟨T,f,h1⟩,_⟩:=hk _ (Df);unfold Lib.TabIs World.var?;rw[yl4.m17]
  show(match w.heap[0]? with
   |some (.cells cs _ _)=>some cs
   |_=>none)=_
  rw[h1]
 rintro e w' ⟨rfl,k,os,rfl⟩;obtain⟨g1,g2⟩:=grown hrel (λk=>k∈[]) k os;exact⟨ρ,_,rfl,.pv _ _ (.val _),g1,g2⟩
def tNum(n:Int):ByteArray:=⟨(Lib.itoa n).toArray⟩
def tVal(n:Int):ByteArray:=⟨#[118]⟩++tNum n
def SMap(es:List (Value×PV)):Prop:=(∀e∈es,z1w .string e.1=true)/\∀e∈es,∃s,e.2=vStr s
def z8m(es:List (Value×PV))(name:ByteArray):ByteArray:=match z1m (.string name) es with
 |some (.val (.string s))=>s
 |_=>⟨#[]⟩
def z9m(es:List (Value×PV))(a b:ByteArray):List (Value×PV):=mput (.string a) (vStr b) es
theorem SMap.nil:SMap []:=⟨λ_ h=>by simp at h,λ_ h=>by simp at h⟩
theorem SMap.put{es:List (Value×PV)}(h:SMap es)(a b:ByteArray):SMap (z9m es a b):=by
 unfold z9m;refine⟨λe he=>?_,λe he=>?_⟩
 ·rcases z45 he with rfl|he
  ·rfl
  ·exact h.1 e he
 ·rcases z45 he with rfl|he
  ·exact⟨_,rfl⟩
  ·exact h.2 e he
theorem SMap.get{es:List (Value×PV)}(h:SMap es)(name:ByteArray):(z1m (.string name) es).getD (.val (.string ⟨#[]⟩))=vStr (z8m es name):=by
 unfold z8m
 cases hf:z1m (.string name) es with
 |none=>rfl
 |some p=>obtain⟨a,ha⟩:=z7n hf;obtain⟨s,hs⟩:=h.2 _ ha;dsimp only at hs;subst hs;rfl
mutual
def rnX(es:List (Value×PV)):Ex->Ex
 |.mk k o n nm args=>.mk k o n (if k=3 then z8m es nm else nm) (rnXL es args)
def rnXL(es:List (Value×PV)):List Ex->List Ex
 |[]=>[]
 |x::r=>rnX es x::rnXL es r
end
theorem y1r(es:List (Value×PV)):∀l,rnXL es l=l.map (rnX es)
 |[]=>rfl
 |x::r=>by simp[rnXL,y1r es r]
theorem rnX_eq(es:List (Value×PV))(x:Ex):rnX es x=.mk x.kind x.op x.n (if x.kind=3 then z8m es x.name else x.name) (x.args.map (rnX es)):=by
 cases x;rw[rnX,y1r];rfl
def z1s(es:List (Value×PV))(k:Int)(nm:ByteArray)(n:Nat):ByteArray×List (Value×PV)×Nat :=
 if k=1 then(z8m (z9m es nm (tVal n)) nm,z9m es nm (tVal n),n+1)else if k=2 then(z8m es nm,es,n)else(nm,es,n)
mutual
def rnB:List St->List (Value×PV)->Nat->List St×Nat
 |[],_,n=>([],n)
 |x::r,es,n=>((rnS x es n).1::(rnB r (z1s es x.kind x.name n).2.1 (rnS x es n).2).1,(rnB r (z1s es x.kind x.name n).2.1 (rnS x es n).2).2)
def rnS:St->List (Value×PV)->Nat->St×Nat
 |.mk k ty nm args thn els,es,n=>(.mk k ty (z1s es k nm n).1 (args.map (rnX es)) (rnB thn (z1s es k nm n).2.1 (z1s es k nm n).2.2).1 (rnB els (z1s es k nm n).2.1 (rnB thn (z1s es k nm n).2.1 (z1s es k nm n).2.2).2).1,
  (rnB els (z1s es k nm n).2.1 (rnB thn (z1s es k nm n).2.1 (z1s es k nm n).2.2).2).2)
end
def rnPm(l:List Pm)(es:List (Value×PV))(n:Nat):List Pm×List (Value×PV)×Nat:=match l with
 |[]=>([],es,n)
 |x::r=>(⟨z8m (z9m es x.name (tVal n)) x.name,x.ty⟩::(rnPm r (z9m es x.name (tVal n)) (n+1)).1,(rnPm r (z9m es x.name (tVal n)) (n+1)).2)
def rnF(f:Fu):Fu:=⟨f.name,f.ty,(rnPm f.params [] 0).1,(rnB f.body (rnPm f.params [] 0).2.1 (rnPm f.params [] 0).2.2).1⟩
def rnP(p:Pg):Pg:=⟨p.arrays,p.funcs.map rnF⟩
def N64(n:Int):Prop:=-9223372036854775808<=n/\n<=9223372036854775807
theorem tNum_le{n:Int}(h:N64 n):(tNum n).size<=21:=Lib.itoa_length_le n h.1 h.2
theorem sc_ItoaI(n:Int)(h:N64 n):SC Tryz.prog 158 [.pv (.val (.int .i64 n))] [] (λk=>k∈[]) (.pv (.val (.string (tNum n)))) []:=by
 refine SC.vc tb {} [] Tryz.func158 rfl rfl ?_;exact⟨[],y93 n h.1 h.2,sR,Gb,rfl,sI,Gb⟩
theorem sc_Itoa(n:Int)(h:N64 n):SC Tryz.prog 109 [.pv (.val (.int .i64 n))] [] (λk=>k∈[]) (.pv (.val (.string (tNum n)))) []:=by
 refine SC.vc tb {} [] Tryz.func109 rfl rfl ?_;exact⟨[],sc_ItoaI n h,sR,Gb,rfl,sI,Gb⟩
def pg0:Pg:=⟨[],[]⟩
def z2b(s:ByteArray):Pg×Int×Int :=
 if (z1u s).2.1=0 then
  if (z9c (z1u s).1).2.deep then(pg0,2,(tkAt (z1u s).1 (z9c (z1u s).1).2).line)
  else if (z9c (z1u s).1).2.bad then(pg0,20,(tkAt (z1u s).1 (z9c (z1u s).1).2).line)
  else if rPg (z9c (z1u s).1).1 then((z9c (z1u s).1).1,0,0)else(pg0,2,0)
 else(pg0,(z1u s).2)
theorem y7z(s:ByteArray):pz (z2b s).1.funcs+(z2b s).1.arrays.length<=300003:=by
 unfold z2b;split
 ·rename_i h0;obtain⟨hT,hl⟩:=y2l h0;split
  ·exact Ad _
  ·rename_i h1;split
   ·exact Ad _
   ·rename_i h2;split
    ·have ho:(z9c (z1u s).1).2.over=false:=by unfold Ps.over;rw[Er.2 h1,Er.2 h2];rfl
     have hp:0<(z1u s).1.length:=by obtain⟨i,e,h,_⟩:=hT;rw[h];simp
     have h3:=y6a hT (big (z1u s).1) ⟨[],[]⟩ ⟨0,false,false⟩ ho;have h4:=(z9a hT (big (z1u s).1) ⟨[],[]⟩ ⟨0,false,false⟩).lt hp;unfold z9c;simp only[pz,A6]at h3;dsimp only at h3 h4⊢;omega
    ·exact Ad _
 ·exact Ad _
theorem zv0(s:ByteArray):rPg (z2b s).1=true:=by
 unfold z2b;split
 ·split
  ·rfl
  ·split
   ·rfl
   ·split
    ·rename_i h;exact h
    ·rfl
 ·rfl
attribute [local irreducible] z9c z1u
theorem sc_Parse(s:ByteArray)(hs:s.size<=1073741824):SC Tryz.prog 23 [.pv (.val (.string s))] [] (λk=>k∈[]) (.tup [.pv (z2b s).1.enc,iInt (z2b s).2.1,iInt (z2b s).2.2]) []:=by
 refine SC.vc tb { ids:=[(23,1)] } [] Tryz.func23 rfl rfl ?_;have h0:=j2r s hs;have hok:=@y2l s;have hsz:=j4e s;unfold z2b;generalize z1u s=t at h0 hok hsz;obtain⟨T,e,line⟩:=t;dsimp only at h0 hok hsz⊢;refine⟨[],h0,sR,Gb,rfl,z00 (λc1=>?_) λc1=>?_⟩
 ·have c1:¬e=0:=by simpa using c1
  rw[if_neg c1];exact⟨sT3 (sP (z0c _)),Gb⟩
 ·have c1:e=0:=by simpa using c1
  obtain⟨hT,hl⟩:=hok c1;rw[if_pos c1];have hp:0<T.length:=by obtain⟨i,e,h,_⟩:=hT;rw[h];simp
  have hS:TkSz T:=λx hx=>B9 (hsz x hx) hs;have h1:=sc_prog T hT hS oM0 hp;have h2:=(z9a hT (big T) ⟨[],[]⟩ ⟨0,false,false⟩).lt hp;have h3:=y6a hT (big T) ⟨[],[]⟩ ⟨0,false,false⟩;rw[show z43 T (big T) ⟨[],[]⟩ ⟨0,false,false⟩=z9c T from by unfold z9c;rfl]at h2 h3;generalize z9c T=r at h1 h2 h3;obtain⟨p,a,b,d⟩:=r;dsimp only at h1 h2 h3⊢;simp only[pz,A6]at h3;refine⟨[],h1,sR,Gc,rfl,?_⟩
  cases d with
  |true=>exact⟨yi4 (s:=⟨a,b,true⟩) h2,rfl,sT3 (sP (z0c _)),Gb⟩
  |false =>
   cases b with
   |true=>exact⟨yi4 (s:=⟨a,true,false⟩) h2,rfl,sT3 (sP (z0c _)),Gb⟩
   |false =>
    have h4:=h3 rfl;refine⟨[],sc_Right p oM0 oM0,sR,Gb,rfl,z00 (λc2=>?_) λc2=>?_⟩
    ·rw[show rPg p=false by simpa using c2];exact⟨sT3 (sP (z0c _)),Gb⟩
    ·rw[show rPg p=true by simpa using c2];exact⟨sI,Gb⟩
def eTx(s:ByteArray):List PV:=[.val (.string s)]
section
structure Gn where
 pos:Nat
 types:List Int
 left:Nat
structure Plc where
 If:Bool
 Loop:Bool
 Yield:List Int
 Next:List Int
 Left:List Int
section
variable (l:List UInt8)
end
end
def eB(x:UInt8):List PV:=[.val (.int .u8 (x.toNat:Int))]
def bts(l:List UInt8):PV:=.seq (l.map eB)
def z2g(l:List UInt8)(at_:Nat)(n:Nat):Nat:=if at_+1 > l.length∨at_+1 > 120 then 0 else(l.getD at_ 0).toNat%n
def mkO(l:List UInt8)(at_:Nat):List (Nat×HO):=[(1,.box [.pv (bts l),iInt (at_:Nat)])]
theorem r64{m n z:Int}(hn:n≠0)(h:m.tmod n=z):z3c .rem .i64 m n=some (.int .i64 z):=by
 subst h;simp only[z3c];rw[if_neg hn]
theorem sc_pick(l:List UInt8)(at_:Nat)(ha:at_<=1000000000)(n:Nat)(hn:0<n)(hl:l.length<=9223372036854775807) :
 SC Tryz.prog 41 [.ptr 1 0,.pv (.val (.int .i64 (n:Int)))] (mkO l at_) (λk=>k∈[]) (iInt (z2g l at_ n:Nat)) (mkO l (at_+1)):=by
 refine SC.vc tb {} [] Tryz.func41 rfl rfl ?_;refine⟨z01 (z:=((at_+1:Nat):Int)) rfl oM0,z00 (λc1=>?_) λc1=>z00 (λc2=>?_) λc2=>?_⟩
 ·have c1:=An c1;simp only[Ac]at c1;exact⟨sE (by unfold z2g;rw[if_pos (.inl oM0)];rfl),rfl,Gb⟩
 ·have c2:=An c2;exact⟨sE (by unfold z2g;rw[if_pos (.inr oM0)];rfl),rfl,Gb⟩
 ·have c1:=Al c1;have c2:=Al c2;simp only[Ac]at c1;have hlt:at_<l.length:=by omega
  obtain⟨b,b1,_,_,_⟩:=z0p hlt;have hb:=b.toNat_lt;have hw:IntKind.i64.wrap (b.toNat:Int)=(b.toNat:Int):=Cw _ oM0;refine⟨z3b (z:=((at_:Nat):Int)) oM0 oM0,z02 (f:=eB) b1,rfl,r64 (z:=((b.toNat%n:Nat):Int)) oM0 (by rw[hw,Int.tmod_eq_emod_of_nonneg oM0];omega),sE ?_,rfl,Gb⟩;unfold z2g;rw[if_neg oM0,Ax,b1];rfl
theorem z09{a b:ByteArray}(h:a.size+b.size<=9223372036854775807):y54 .add a b=some (.string (a++b)):=by
 show(if ((a.size+b.size:Nat):Int) > IntKind.i64.max then none else some (Value.string (a++b)))=_;rw[if_neg];have:IntKind.i64.max=9223372036854775807:=rfl;rw[this];omega
def cnB(c:Nat):HO:=.box [iInt ((c:Int)-1)]
theorem y4u(c:Nat)(hc:c<=4294967296):SC Tryz.prog 108 [.ptr 2 0] [(2,cnB c)] (λk=>k∈[1]) (iStr (tVal c)) [(2,cnB (c+1))]:=by
 refine SC.vc tb {} [1] Tryz.func108 rfl rfl ?_;have h:N64 (c:Int):=⟨by omega,by omega⟩;have e:(⟨#[118]⟩:ByteArray).size=1:=rfl;have:=tNum_le h;exact⟨z01 (z:=(c:Int)) oM0 oM0,[],sc_Itoa c h,sR,Gb,rfl,z09 oM0,sI,boq sI0,Gb⟩
theorem zx0:SC Tryz.prog 62 [] [] (λk=>k∈[]) (.fn (.func 108) [] [.ptr 2 0]) [(2,cnB 0)]:=by
 refine SC.vc tb { ids:=[(1,2)] } [] Tryz.func62 rfl rfl ?_;exact⟨sI,rfl,Gb⟩
def rnAt(es:List (Value×PV))(l:List Ex)(i:Nat):List Ex:=(l.take i).map (rnX es)++l.drop i
theorem rnAt_len(es:List (Value×PV))(l:List Ex)(i:Nat):(rnAt es l i).length=l.length:=by unfold rnAt;simp;omega
theorem rnAt_get{es:List (Value×PV)}{l:List Ex}{i:Nat}{x:Ex}(h:l[i]?=some x):(rnAt es l i)[i]?=some x:=by
 have hi:=(A7.1 h).1;unfold rnAt;rw[Ay (by simp;omega)];simp;rw[show i-min i l.length=0 by omega];simpa using h
theorem rnAt_set{es:List (Value×PV)}{l:List Ex}{i:Nat}{x:Ex}(h:l[i]?=some x):(rnAt es l i).set i (rnX es x)=rnAt es l (i+1):=by
 have hi:=(A7.1 h).1;obtain⟨y,y1,y2,y3,y4⟩:=z0p hi;rw[h]at y1;cases y1
 unfold rnAt;rw[y2,y3,D9 _ _ (by simp;omega)];simp;rw[show i-min i l.length=0 by omega];rfl
theorem set_same{α:Type}{l:List α}{i:Nat}{x:α}(h:l[i]?=some x):l.set i x=l:=by
 obtain⟨hi,rfl⟩:=A7.1 h;exact List.set_getElem_self hi
theorem sc_rnX(es:List (Value×PV))(hes:SMap es):∀(N:Nat)(l:List Ex),SizeOf.sizeOf l<N->xzL l<=1073741824->SC Tryz.prog 112 [.mp 1,.pv (exs l)] [(1,.map es)] (λk=>k∈[1]) (.pv (exs (l.map (rnX es)))) [(1,.map es)]
 |0,_,h,_=>absurd h (Aj _)
 |N+1,[],hN,hx=>by
  refine SC.vc tb {} [1] Tryz.func112 rfl rfl ?_;refine⟨[],yf8,sR,Gb,rfl,Unit,λ_=>[(10,iInt 0)],λ_=>[],λ_=>0,λ_=>True,[],(),Gb,Gc,Gb,?_⟩;rintro _ _
  exact⟨sI,rfl,Gb⟩
 |N+1,y::r,hN,hx=>by
  have hne:y::r≠[]:=by simp
  generalize hL:y::r=l at hN hx hne;clear hL;have hl:=zb5 l;refine SC.vc tb { jn:=[7],gh:=[(9,[.fz 1 7])] } [1] Tryz.func112 rfl rfl ?_;refine⟨[],yw0 l hne oM0,sR,Gb,rfl,by simp,?_⟩;refine⟨Nat,λi=>[(10,iInt ((i:Nat):Int))],λi=>[(7,.row exRt ((rnAt es l i).map Ex.enc))],λi=>l.length-i,λi=>i<=l.length,[],0,Ad _,Gc,Gc,?_⟩;intro i hi;have hlen:((rnAt es l i).map Ex.enc).length=(l.map Ex.enc).length:=by simp[rnAt_len]
  refine z00 (λhc=>?_) λhc=>?_
  ·have hlt:i<l.length:=z0z (f:=Ex.enc) rfl hc;obtain⟨x,x1,x2,x3,x4⟩:=z0p hlt;have hget:((rnAt es l i).map Ex.enc)[i]?=some [vInt x.kind,vInt x.op,vInt x.n,vStr x.name,exs x.args]:=z1c (rnAt_get x1);have hsz:SizeOf.sizeOf x.args<N:=by
    have:=Bm x4;have h2:SizeOf.sizeOf x.args<SizeOf.sizeOf x:=by cases x;simp[Ex.args];omega
    omega
   have hxx:=zh4 x4;have hax:xzL x.args<=1073741824:=by
    have:xz x=1+xzL x.args:=by cases x;simp[xz,Ex.args]
    omega
   refine⟨Unit,λ_=>[],λ_=>[(7,.row exRt (((rnAt es l i).map Ex.enc).set i [vInt x.kind,vInt x.op,vInt x.n,vStr (if x.kind=3 then z8m es x.name else x.name),exs x.args]))],λ_=>True,[7],⟨hlen,by rw[Ac];exact hlt,rfl,hlen,VRow.mk (i:=i) (j:=0) hlen rfl hget rfl ?_⟩,?_⟩
   ·refine z00 (λc=>?_) λc=>?_
    ·have c:x.kind=3:=eq_of_beq c;refine⟨hlen,by rw[Ac];exact hlt,rfl,hlen,VRow.mk (i:=i) (j:=3) hlen rfl hget rfl (VAsk.mk (p:=vStr (z8m es x.name)) (b:=(z1m (.string x.name) es).isSome) rfl hes.1 (E5 (hes.get x.name) rfl) ?_)⟩;exact⟨hlen,by rw[Ac];exact hlt,rfl,hlen,i,3,_,hlen,rfl,hget,by simp,(),Gb,Gb,⟨by rw[if_pos c];rfl,Gb⟩,rfl,rfl,rfl,rfl⟩
    ·have c:¬x.kind=3:=A9.1 c;exact⟨(),Gb,Gb,⟨rwq (by rw[if_neg c];exact(set_same hget).symm),Gb⟩,rfl,rfl,rfl,rfl⟩
   ·rintro _ _;have hlen2:(((rnAt es l i).map Ex.enc).set i [vInt x.kind,vInt x.op,vInt x.n,vStr (if x.kind=3 then z8m es x.name else x.name),exs x.args]).length=(l.map Ex.enc).length:=by rw[Du];exact hlen
    have hget2:(((rnAt es l i).map Ex.enc).set i [vInt x.kind,vInt x.op,vInt x.n,vStr (if x.kind=3 then z8m es x.name else x.name),exs x.args])[i]?=some [vInt x.kind,vInt x.op,vInt x.n,vStr (if x.kind=3 then z8m es x.name else x.name),exs x.args]:=Bl (by rw[hlen,Ac];exact hlt);refine⟨hlen2,by rw[Ac];exact hlt,rfl,hlen2,VRow.mk (i:=i) (j:=4) hlen2 rfl hget2 rfl ⟨[1],sc_rnX es hes N x.args hsz hax,sR,⟨rfl,rfl,Df,Gb⟩,rfl,?_⟩⟩;exact⟨hlen2,by rw[Ac];exact hlt,rfl,hlen2,i,4,_,hlen2,rfl,hget2,by simp,z01 rfl oM0,i+1,z03 hlt,hlt,Gc,⟨rwq (by rw[Fe,<- rnAt_set x1,Bs,rnX_eq,Ex.enc_eq];rfl),Gb⟩,rfl,rfl,rfl,rfl⟩
  ·have hge:l.length<=i:=z10 (f:=Ex.enc) rfl hc;exact⟨hlen,sE (by unfold rnAt;rw[Av hge,Ab hge,D3];rfl),rfl,Gb⟩
theorem rnS_eq(x:St)(es:List (Value×PV))(n:Nat):rnS x es n=(.mk x.kind x.ty (z1s es x.kind x.name n).1 (x.args.map (rnX es)) (rnB x.thn (z1s es x.kind x.name n).2.1 (z1s es x.kind x.name n).2.2).1 (rnB x.els (z1s es x.kind x.name n).2.1 (rnB x.thn (z1s es x.kind x.name n).2.1 (z1s es x.kind x.name n).2.2).2).1,
 (rnB x.els (z1s es x.kind x.name n).2.1 (rnB x.thn (z1s es x.kind x.name n).2.1 (z1s es x.kind x.name n).2.2).2).2):=by cases x;rw[rnS];rfl
def rnG:List St->List (Value×PV)->Nat->List St×List (Value×PV)×Nat
 |[],es,n=>([],es,n)
 |x::r,es,n=>((rnS x es n).1::(rnG r (z1s es x.kind x.name n).2.1 (rnS x es n).2).1,(rnG r (z1s es x.kind x.name n).2.1 (rnS x es n).2).2)
theorem rnB_G:∀(l:List St) (es:List (Value×PV)) (n:Nat),rnB l es n=((rnG l es n).1,(rnG l es n).2.2)
 |[],_,_=>by rw[rnB];rfl
 |x::r,es,n=>by rw[rnB,rnB_G r];rfl
theorem y6g:∀(l:List St) (x:St) (es:List (Value×PV)) (n:Nat),rnG (l++[x]) es n=((rnG l es n).1++[(rnS x (rnG l es n).2.1 (rnG l es n).2.2).1],(z1s (rnG l es n).2.1 x.kind x.name (rnG l es n).2.2).2.1,(rnS x (rnG l es n).2.1 (rnG l es n).2.2).2)
 |[],x,es,n=>rfl
 |y::r,x,es,n=>by
  have:=y6g r x (z1s es y.kind y.name n).2.1 (rnS y es n).2;simp only[Bb,rnG,this]
theorem zj1:∀(l:List St) (es:List (Value×PV)) (n:Nat),(rnG l es n).1.length=l.length
 |[],_,_=>rfl
 |x::r,es,n=>by simp[rnG,zj1 r]
theorem y8x{es:List (Value×PV)}(h:SMap es)(k:Int)(nm:ByteArray)(n:Nat):SMap (z1s es k nm n).2.1:=by
 unfold z1s;split
 ·exact h.put _ _
 ·split
  ·exact h
  ·exact h
theorem j2i(es:List (Value×PV))(k:Int)(nm:ByteArray)(n:Nat):(z1s es k nm n).2.2<=n+1:=by
 unfold z1s;split
 ·exact Ae _
 ·split
  ·exact F9 _
  ·exact F9 _
theorem j2h:∀(l:List St) (es:List (Value×PV)) (n:Nat),SMap es->SMap (rnG l es n).2.1
 |[],_,_,h=>h
 |x::r,es,n,h=>j2h r _ _ (y8x h _ _ _)
theorem j2g:∀(N:Nat)(l:List St),SizeOf.sizeOf l<N->∀(es:List (Value×PV)) (n:Nat),(rnB l es n).2<=n+szL l
 |0,_,h,_,_=>absurd h (Aj _)
 |N+1,[],_,es,n=>by rw[rnB];simp[szL]
 |N+1,x::r,hN,es,n=>by
  have hx:=zt6 x;simp at hN;have h1:(rnS x es n).2<=n+sz x:=by
   rw[rnS_eq,y3e];have a0:=j2i es x.kind x.name n;have a1:=j2g N x.thn oM0 (z1s es x.kind x.name n).2.1 (z1s es x.kind x.name n).2.2;have a2:=j2g N x.els oM0 (z1s es x.kind x.name n).2.1 (rnB x.thn (z1s es x.kind x.name n).2.1 (z1s es x.kind x.name n).2.2).2;dsimp only;omega
  have h2:=j2g N r oM0 (z1s es x.kind x.name n).2.1 (rnS x es n).2;rw[rnB,szL];dsimp only;omega
theorem rnG_n(l:List St)(es:List (Value×PV))(n:Nat):(rnG l es n).2.2<=n+szL l:=by
 have:=j2g _ l (Aa _) es n;rw[rnB_G]at this;exact this
theorem yq5:∀(l:List St)(i:Nat),szL (l.take i)+szL (l.drop i)=szL l
 |[],i=>by simp[szL]
 |_::_,0=>by simp[szL]
 |x::r,i+1=>by have:=yq5 r i;simp only[F8,F7,szL];omega
def zj0(es:List (Value×PV))(c:Nat)(l:List St)(i:Nat):List St:=(rnG (l.take i) es c).1++l.drop i
theorem j2e(es:List (Value×PV))(c:Nat)(l:List St)(i:Nat):(zj0 es c l i).length=l.length:=by unfold zj0;simp[zj1];omega
theorem j2d{es:List (Value×PV)}{c:Nat}{l:List St}{i:Nat}{x:St}(h:l[i]?=some x):(zj0 es c l i)[i]?=some x:=by
 have hi:=(A7.1 h).1;unfold zj0;rw[Ay (by simp[zj1];omega)];simp[zj1];rw[show i-min i l.length=0 by omega];simpa using h
theorem j2f{es:List (Value×PV)}{c:Nat}{l:List St}{i:Nat}{x:St}(h:l[i]?=some x):(zj0 es c l i).set i (rnS x (rnG (l.take i) es c).2.1 (rnG (l.take i) es c).2.2).1=zj0 es c l (i+1):=by
 have hi:=(A7.1 h).1;obtain⟨y,y1,y2,y3,y4⟩:=z0p hi;rw[h]at y1;cases y1
 unfold zj0;rw[y2,y6g,y3,D9 _ _ (by simp[zj1];omega)];simp[zj1];rw[show i-min i l.length=0 by omega];rfl
def fRN(N:Nat):Prop:=∀(l:List St),SizeOf.sizeOf l<N->szL l<=1073741824->∀(es:List (Value×PV)),SMap es->∀c:Nat,c+szL l<=1073741824 ->
 SC Tryz.prog 64 [.mp 1,.pv (sts l),.fn (.func 108) [] [.ptr 2 0]] [(1,.map es),(2,cnB c)] (λk=>k∈[1]) (.pv (sts (rnB l es c).1)) [(1,.map es),(2,cnB (rnB l es c).2)]
theorem sc_rnB0(es:List (Value×PV))(c:Nat):SC Tryz.prog 64 [.mp 1,.pv (sts []),.fn (.func 108) [] [.ptr 2 0]] [(1,.map es),(2,cnB c)] (λk=>k∈[1]) (.pv (sts [])) [(1,.map es),(2,cnB c)]:=by
 refine SC.vc tb {} [1] Tryz.func64 rfl rfl ?_;refine⟨[1],y95 es,sR,⟨rfl,rfl,Df,Gb⟩,rfl,[],yg0,sR,Gb,rfl,Unit,λ_=>[(15,iInt 0)],λ_=>[],λ_=>0,λ_=>True,[],(),Gb,Gc,Gb,?_⟩;rintro _ _;exact⟨sI,rfl,rfl,Gb⟩
theorem St.enc_mk(k t:Int)(n:ByteArray)(a:List Ex)(th e:List St):(St.mk k t n a th e).enc=[vInt k,vInt t,vStr n,exs a,sts th,sts e]:=by rw[St.enc_eq];rfl
theorem yh0(N:Nat)(ih:fRN N):fRN (N+1):=by
 intro l hN hx es hes c hc;rcases l with _|⟨y,r⟩
 ·have:=sc_rnB0 es c;rw[show(rnB [] es c)=([],c) by rw[rnB]];exact this
 have hne:y::r≠[]:=by simp
 generalize y::r=l at hN hx hc hne;have hl:=z8j l;rw[rnB_G];refine SC.vc tb { jn:=[13],gh:=[(15,[.fz 1 7])] } [1] Tryz.func64 rfl rfl ?_;refine⟨[1],y95 es,sR,⟨rfl,rfl,Df,Gb⟩,rfl,[],yw2 l hne oM0,sR,Gb,rfl,rfl,?_⟩;refine⟨Nat,λi=>[(15,iInt ((i:Nat):Int))],λi=>[(7,.row stRt ((zj0 es c l i).map St.enc)),(8,.map (rnG (l.take i) es c).2.1),(2,cnB (rnG (l.take i) es c).2.2)],λi=>l.length-i,λi=>i<=l.length,[],0,Ad _,Gc,Ge,?_⟩;intro i hi;refine z00 (λhcc=>?_) λhcc=>?_
 ·have hlt:i<l.length:=z0z (f:=St.enc) rfl hcc;obtain⟨x,x1,x2,x3,x4⟩:=z0p hlt;have hin:i<(l.map St.enc).length:=by rw[Ac];exact hlt
  have hlen:((zj0 es c l i).map St.enc).length=(l.map St.enc).length:=by simp[j2e]
  have hget:((zj0 es c l i).map St.enc)[i]?=some [vInt x.kind,vInt x.ty,vStr x.name,exs x.args,sts x.thn,sts x.els]:=zj9 (j2d x1);have hfin:((zj0 es c l (i+1)).map St.enc)=((zj0 es c l i).map St.enc).set i (rnS x (rnG (l.take i) es c).2.1 (rnG (l.take i) es c).2.2).1.enc:=by rw[<- j2f x1,Bs]
  have hsn:=y6g (l.take i) x es c;rw[<- x2]at hsn;have hg:=j2h (l.take i) es c hes;have hgn:=rnG_n (l.take i) es c;have hszs:=yq5 l i;rw[x3]at hszs;simp only[szL]at hszs;generalize rnG (l.take i) es c=G at hg hgn hfin hsn⊢;obtain⟨G1,g,q⟩:=G;dsimp only at hg hgn hfin hsn;generalize(zj0 es c l i).map St.enc=M at hlen hget hfin⊢;rw[rnS_eq]at hfin hsn;dsimp only at hfin hsn;rw[St.enc_mk]at hfin;have hso:=zt6 x;have hmem:=Bm x4;have hsz:=y3e x;have hX:SC Tryz.prog 112 [.mp 8,.pv (exs x.args)] [(8,.map g)] _ (.pv (exs (x.args.map (rnX g)))) [(8,.map g)]:=(sc_rnX g hg _ x.args (Aa _) oM0).sw 1 8;have hF:=y4u q oM0;have hOm:=y8x hg x.kind x.name q;have hOn:=j2i g x.kind x.name q;have hO1:x.kind=1->z1s g x.kind x.name q=(z8m (z9m g x.name (tVal q)) x.name,z9m g x.name (tVal q),q+1):=λh=>by unfold z1s;rw[if_pos h]
  have hO2:x.kind=2->z1s g x.kind x.name q=(z8m g x.name,g,q):=λh=>by unfold z1s;rw[if_neg oM0,if_pos h]
  have hO3:x.kind≠1->x.kind≠2->z1s g x.kind x.name q=(x.name,g,q):=λh h2=>by unfold z1s;rw[if_neg h,if_neg h2]
  generalize z1s g x.kind x.name q=O at hfin hsn hOm hOn hO1 hO2 hO3;have ht:=ih x.thn oM0 oM0 O.2.1 hOm O.2.2 oM0;have hn1:=j2g _ x.thn (Aa _) O.2.1 O.2.2;generalize rnB x.thn O.2.1 O.2.2=t' at ht hn1 hfin hsn;have he:=ih x.els oM0 oM0 O.2.1 hOm t'.2 oM0;generalize rnB x.els O.2.1 t'.2=e' at he hfin hsn;have hT:SC Tryz.prog 64 [.mp 8,.pv (sts x.thn),.fn (.func 108) [] [.ptr 2 0]] [(8,.map O.2.1),(2,cnB O.2.2)] _ (.pv (sts t'.1)) [(8,.map O.2.1),(2,cnB t'.2)]:=ht.sw 1 8;have hE:SC Tryz.prog 64 [.mp 8,.pv (sts x.els),.fn (.func 108) [] [.ptr 2 0]] [(8,.map O.2.1),(2,cnB t'.2)] _ (.pv (sts e'.1)) [(8,.map O.2.1),(2,cnB e'.2)]:=he.sw 1 8;clear ht he;have hl1:∀e,(M.set i e).length=(l.map St.enc).length:=λe=>by rw[Du];exact hlen
  have hg1:∀e,(M.set i e)[i]?=some e:=λe=>Bl (by rw[hlen];exact hin);refine⟨hlen,hin,rfl,hlen,hlen,VRow.mk (i:=i) (j:=3) hlen rfl hget rfl ⟨[8],hX,sR,Gd,rfl,hlen,hlen,i,3,_,hlen,rfl,hget,by simp,?_⟩⟩;have hl2:∀e e2,((M.set i e).set i e2).length=(l.map St.enc).length:=λe e2=>by rw[Du];exact hl1 e
  have hg2:∀e e2,((M.set i e).set i e2)[i]?=some e2:=λe e2=>Bl (by rw[hl1];exact hin);refine⟨Unit,λ_=>[],λ_=>[(7,.row stRt (M.set i [vInt x.kind,vInt x.ty,vStr O.1,exs (x.args.map (rnX g)),sts x.thn,sts x.els])),(8,.map O.2.1),(2,cnB O.2.2)],λ_=>True,[7,8,2],⟨hl1 _,hl1 _,VRow.mk (i:=i) (j:=0) (hl1 _) rfl (hg1 [vInt x.kind,vInt x.ty,vStr x.name,exs (x.args.map (rnX g)),sts x.thn,sts x.els]) rfl ?_⟩,?_⟩
  ·refine z00 (λk1=>?_) λk1=>z00 (λk2=>?_) λk2=>?_
   ·obtain rfl:=hO1 (eq_of_beq k1);have hp:=hg.put x.name (tVal q);exact⟨hl1 _,hl1 _,VRow.mk (i:=i) (j:=2) (hl1 _) rfl (hg1 [vInt x.kind,vInt x.ty,vStr x.name,exs (x.args.map (rnX g)),sts x.thn,sts x.els]) rfl ⟨hF,sR,Gc,λk hk=>hk,rfl,rfl,rfl,hg.1,hl1 _,hl1 _,VRow.mk (i:=i) (j:=2) (hl1 _) rfl (hg1 [vInt x.kind,vInt x.ty,vStr x.name,exs (x.args.map (rnX g)),sts x.thn,sts x.els]) rfl
     (VAsk.mk (p:=vStr (z8m (z9m g x.name (tVal q)) x.name)) (b:=(z1m (.string x.name) (z9m g x.name (tVal q))).isSome) rfl hp.1 (E5 (hp.get x.name) rfl) ⟨hl1 _,hl1 _,i,2,_,hl1 _,rfl,hg1 [vInt x.kind,vInt x.ty,vStr x.name,exs (x.args.map (rnX g)),sts x.thn,sts x.els],by simp,(),Gb,Gb,⟨rwq (by rw[Fe];rfl),rfl,rfl,Gb⟩,rfl,rfl,rfl,rfl⟩)⟩⟩
   ·obtain rfl:=hO2 (eq_of_beq k2);exact⟨hl1 _,hl1 _,VRow.mk (i:=i) (j:=2) (hl1 _) rfl (hg1 [vInt x.kind,vInt x.ty,vStr x.name,exs (x.args.map (rnX g)),sts x.thn,sts x.els]) rfl
     (VAsk.mk (p:=vStr (z8m g x.name)) (b:=(z1m (.string x.name) g).isSome) rfl hg.1 (E5 (hg.get x.name) rfl) ⟨hl1 _,hl1 _,i,2,_,hl1 _,rfl,hg1 [vInt x.kind,vInt x.ty,vStr x.name,exs (x.args.map (rnX g)),sts x.thn,sts x.els],by simp,(),Gb,Gb,⟨rwq (by rw[Fe];rfl),rfl,rfl,Gb⟩,rfl,rfl,rfl,rfl⟩)⟩
   ·obtain rfl:=hO3 (A9.1 k1) (A9.1 k2);exact⟨(),Gb,Gb,Ge,rfl,rfl,rfl,rfl⟩
  ·rintro _ _;refine⟨hl1 _,hl1 _,VRow.mk (i:=i) (j:=4) (hl1 _) rfl (hg1 [vInt x.kind,vInt x.ty,vStr O.1,exs (x.args.map (rnX g)),sts x.thn,sts x.els]) rfl ⟨[8],hT,sR,Ge,rfl,hl1 _,hl1 _,VRow.mk (i:=i) (j:=5) (hl1 _) rfl (hg1 [vInt x.kind,vInt x.ty,vStr O.1,exs (x.args.map (rnX g)),sts x.thn,sts x.els]) rfl ⟨[8],hE,sR,Ge,rfl,hl1 _,hl1 _,i,4,_,hl1 _,rfl,hg1 [vInt x.kind,vInt x.ty,vStr O.1,exs (x.args.map (rnX g)),sts x.thn,sts x.els],by simp,hl2 _ _,hl2 _ _,i,5,_,hl2 _ _,rfl,hg2 _ [vInt x.kind,vInt x.ty,vStr O.1,exs (x.args.map (rnX g)),sts t'.1,sts x.els],by simp,?_⟩⟩⟩;exact⟨z01 rfl oM0,i+1,z03 hlt,hlt,Gc,⟨rwq (by rw[Fe,Fe,hfin];rfl),mpq (by rw[hsn]),by rw[hsn];rfl,Gb⟩,rfl,rfl,rfl,rfl⟩
 ·have hge:l.length<=i:=z10 (f:=St.enc) rfl hcc;have h1:zj0 es c l i=(rnG l es c).1:=by unfold zj0;rw[Av hge,Ab hge,D3]
  rw[h1,Av hge];exact⟨by simp[zj1],sI,rfl,rfl,Gb⟩
theorem j0q:∀N,fRN N
 |0=>λ_ h=>absurd h (Aj _)
 |N+1=>yh0 N (j0q N)
theorem y1q:∀(l:List Pm) (x:Pm) (es:List (Value×PV)) (n:Nat),rnPm (l++[x]) es n=((rnPm l es n).1++[⟨z8m (z9m (rnPm l es n).2.1 x.name (tVal (rnPm l es n).2.2)) x.name,x.ty⟩],z9m (rnPm l es n).2.1 x.name (tVal (rnPm l es n).2.2),(rnPm l es n).2.2+1)
 |[],x,es,n=>rfl
 |y::r,x,es,n=>by
  have:=y1q r x (z9m es y.name (tVal n)) (n+1);simp only[Bb,rnPm,this]
theorem z9l:∀(l:List Pm) (es:List (Value×PV)) (n:Nat),(rnPm l es n).1.length=l.length
 |[],_,_=>rfl
 |x::r,es,n=>by simp[rnPm,z9l r]
theorem yo0:∀(l:List Pm) (es:List (Value×PV)) (n:Nat),SMap es->SMap (rnPm l es n).2.1
 |[],_,_,h=>h
 |x::r,es,n,h=>yo0 r _ _ (h.put _ _)
theorem rnPm_n:∀(l:List Pm) (es:List (Value×PV)) (n:Nat),(rnPm l es n).2.2=n+l.length
 |[],_,_=>rfl
 |x::r,es,n=>by simp only[rnPm,rnPm_n r,A1];omega
def zy0(l:List Pm)(i:Nat):List Pm:=(rnPm (l.take i) [] 0).1++l.drop i
theorem j2b(l:List Pm)(i:Nat):(zy0 l i).length=l.length:=by unfold zy0;simp[z9l];omega
theorem j2a{l:List Pm}{i:Nat}{x:Pm}(h:l[i]?=some x):(zy0 l i)[i]?=some x:=by
 have hi:=(A7.1 h).1;unfold zy0;rw[Ay (by simp[z9l];omega)];simp[z9l];rw[show i-min i l.length=0 by omega];simpa using h
theorem j2c{l:List Pm}{i:Nat}{x:Pm}(h:l[i]?=some x):(zy0 l i).set i ⟨z8m (z9m (rnPm (l.take i) [] 0).2.1 x.name (tVal (rnPm (l.take i) [] 0).2.2)) x.name,x.ty⟩=zy0 l (i+1):=by
 have hi:=(A7.1 h).1;obtain⟨y,y1,y2,y3,y4⟩:=z0p hi;rw[h]at y1;cases y1
 unfold zy0;rw[y2,y1q,y3,D9 _ _ (by simp[z9l];omega)];simp[z9l];rw[show i-min i l.length=0 by omega];rfl
theorem sc_rnF0(nm:ByteArray)(ty:Int)(body:List St)(hb:szL body<=1000000):SC Tryz.prog 36 [.pv (.agg [vStr nm,vInt ty,pms [],sts body])] [] (λk=>k∈[]) (.pv (.agg (rnF ⟨nm,ty,[],body⟩).enc)) []:=by
 refine SC.vc tb { ids:=[(7,1)] } [] Tryz.func36 rfl rfl ?_;have h:=j0q _ body (Aa _) oM0 [] SMap.nil 0 oM0;refine⟨[],zx0,sR,Gb,rfl,[],yf9,sR,Gb,rfl,Unit,λ_=>[(16,iInt 0)],λ_=>[],λ_=>0,λ_=>True,[],(),Gb,Gc,Gb,?_⟩;rintro _ _;exact⟨[],h,sR,Gd,rfl,sI,Gb⟩
theorem sc_rnF1(nm:ByteArray)(ty:Int)(l:List Pm)(body:List St)(hne:l≠[])(hl:l.length<=1000000)(hb:szL body<=1000000):SC Tryz.prog 36 [.pv (.agg [vStr nm,vInt ty,pms l,sts body])] [] (λk=>k∈[]) (.pv (.agg (rnF ⟨nm,ty,l,body⟩).enc)) []:=by
 refine SC.vc tb { ids:=[(7,1)],gh:=[(10,[.fzC 101 2 7])] } [] Tryz.func36 rfl rfl ?_;refine⟨[],zx0,sR,Gb,rfl,[],yw1 l hne oM0,sR,Gb,rfl,rfl,rfl,?_⟩;refine⟨Nat,λi=>[(16,iInt ((i:Nat):Int))],λi=>[(7,.row pmRt ((zy0 l i).map Pm.enc)),(1,.map (rnPm (l.take i) [] 0).2.1),(2,cnB (rnPm (l.take i) [] 0).2.2)],λi=>l.length-i,λi=>i<=l.length,[],0,Ad _,Gc,Ge,?_⟩;intro i hi;have hmap:=yo0 (l.take i) [] 0 SMap.nil;have hcnt:=rnPm_n (l.take i) [] 0;have hlen:((zy0 l i).map Pm.enc).length=(l.map Pm.enc).length:=by simp[j2b]
 refine z00 (λhc=>?_) λhc=>?_
 ·have hlt:i<l.length:=z0z (f:=Pm.enc) rfl hc;obtain⟨x,x1,x2,x3,x4⟩:=z0p hlt;have hin:i<(l.map Pm.enc).length:=by rw[Ac];exact hlt
  have hget:((zy0 l i).map Pm.enc)[i]?=some [vStr x.name,vInt x.ty]:=zv9 (j2a x1);have hset:=j2c x1;have hsn:=y1q (l.take i) x [] 0;rw[<- x2]at hsn;have hF:=y4u (rnPm (l.take i) [] 0).2.2 (by rw[hcnt];simp;omega);have hp:=hmap.put x.name (tVal (rnPm (l.take i) [] 0).2.2);refine⟨hlen,hin,rfl,VRowS.mk (i:=i) hlen rfl hget ⟨hF,sR,Gc,(λk hk=>absurd hk Bz),rfl,rfl,rfl,hmap.1,VAsk.mk (p:=vStr (z8m (z9m (rnPm (l.take i) [] 0).2.1 x.name (tVal (rnPm (l.take i) [] 0).2.2)) x.name)) (b:=(z1m (.string x.name) (z9m (rnPm (l.take i) [] 0).2.1 x.name (tVal (rnPm (l.take i) [] 0).2.2))).isSome) rfl hp.1 (E5 (hp.get x.name) rfl) ⟨hlen,hin,rfl,hlen,i,0,_,hlen,rfl,hget,by simp,?_⟩⟩⟩;exact⟨z01 rfl oM0,i+1,z03 hlt,hlt,Gc,⟨rwq (by rw[<- hset,Bs];rfl),mpq (by rw[hsn];rfl),by rw[hsn];rfl,Gb⟩,rfl,rfl,rfl,rfl⟩
 ·have hge:l.length<=i:=z10 (f:=Pm.enc) rfl hc;have h1:zy0 l i=(rnPm l [] 0).1:=by unfold zy0;rw[Av hge,Ab hge,D3]
  rw[Av hge]at hmap hcnt⊢;rw[h1]at hlen⊢;have h:=j0q _ body (Aa _) oM0 (rnPm l [] 0).2.1 hmap (rnPm l [] 0).2.2 oM0;exact⟨[],h,sR,Gd,rfl,hlen,sI,Gb⟩
theorem sc_rnF(f:Fu)(hl:1+f.params.length+szL f.body<=1000000):SC Tryz.prog 36 [.pv (.agg f.enc)] [] (λk=>k∈[]) (.pv (.agg (rnF f).enc)) []:=by
 obtain⟨nm,ty,l,body⟩:=f;dsimp only at hl
 cases l with
 |nil=>exact sc_rnF0 nm ty body oM0
 |cons a r=>exact sc_rnF1 nm ty (a::r) body sI0 oM0 oM0
def rnOf(p:Pg):Pg×Int:=if (z95 p).1=0 then(rnP p,0)else(pg0,1)
theorem yv5(p:Pg)(h0:p.arrays=[])(hb:pz p.funcs<=1000000){c2 c3:Int}(hC:SC Tryz.prog 34 [.pv p.enc] [] (λk=>k∈[]) (.tup [iInt 0,.pv (.agg [vInt c2,vInt c3])]) []):SC Tryz.prog 17 [.pv p.enc] [] (λk=>k∈[]) (.tup [.pv (rnP p).enc,iInt 0]) []:=by
 have hlp:=zl8 p.funcs;obtain⟨ars,fs⟩:=p;dsimp only at h0 hb hlp;subst h0;refine SC.vc tb { gh:=[(5,[.growC 102 1 1002 57 4]),(10,[.fzC 102 1 1002])] } [] Tryz.func17 rfl rfl ?_;refine⟨[],hC,sR,Gb,rfl,[],yf7,sR,Gb,rfl,?_⟩;refine⟨Nat,λi=>[(23,iInt ((i:Nat):Int))],λi=>[(1002,.row fuRt (((fs.take i).map rnF).map Fu.enc)),(102,.box [.pv (.seq []),.sl 1002 (((fs.take i).map rnF).map Fu.enc).length])],λi=>fs.length-i,λi=>i<=fs.length,[],0,Ad _,Gc,Gd,?_⟩;intro i hi;refine z00 (λhcc=>?_) λhcc=>?_
 ·have hlt:i<fs.length:=z0z (f:=Fu.enc) rfl hcc;obtain⟨x,x1,x2,x3,x4⟩:=z0p hlt;have hpz:=zw0 x4;exact⟨z9z x1,rfl,[],sc_rnF x oM0,sR,Gb,rfl,rfl,z3i rfl,by simp;omega,by simp,z01 rfl oM0,i+1,z03 hlt,hlt,Gc,⟨rwq (by rw[x2];simp[Fu.enc]),boq (by simp;omega),Gb⟩,rfl,rfl,rfl,rfl⟩
 ·have hge:fs.length<=i:=z10 (f:=Fu.enc) rfl hcc;rw[Av hge];exact⟨rfl,sI,Gb⟩
theorem yv6(p:Pg)(hne:p.arrays≠[])(ha:p.arrays.length<=1000000)(hb:pz p.funcs<=1000000){c2 c3:Int}(hC:SC Tryz.prog 34 [.pv p.enc] [] (λk=>k∈[]) (.tup [iInt 0,.pv (.agg [vInt c2,vInt c3])]) []):SC Tryz.prog 17 [.pv p.enc] [] (λk=>k∈[]) (.tup [.pv (rnP p).enc,iInt 0]) []:=by
 have hlp:=zl8 p.funcs;refine SC.vc tb { gh:=[(5,[.growC 102 1 1002 57 4]),(10,[.fzC 102 1 1002,.fzC 102 0 7])] } [] Tryz.func17 rfl rfl ?_;refine⟨[],hC,sR,Gb,rfl,[],yv9 p.arrays hne oM0,sR,Gb,rfl,rfl,?_⟩;refine⟨Nat,λi=>[(23,iInt ((i:Nat):Int))],λi=>[(1002,.row fuRt (((p.funcs.take i).map rnF).map Fu.enc)),(102,.box [.sl 7 (p.arrays.map Ar.enc).length,.sl 1002 (((p.funcs.take i).map rnF).map Fu.enc).length])],λi=>p.funcs.length-i,λi=>i<=p.funcs.length,[],0,Ad _,Gc,Gd,?_⟩;intro i hi;refine z00 (λhcc=>?_) λhcc=>?_
 ·have hlt:i<p.funcs.length:=z0z (f:=Fu.enc) rfl hcc;obtain⟨x,x1,x2,x3,x4⟩:=z0p hlt;have hpz:=zw0 x4;exact⟨z9z x1,rfl,[],sc_rnF x oM0,sR,Gb,rfl,rfl,z3i rfl,by simp;omega,by simp,z01 rfl oM0,i+1,z03 hlt,hlt,Gc,⟨rwq (by rw[x2];simp[Fu.enc]),boq (by simp;omega),Gb⟩,rfl,rfl,rfl,rfl⟩
 ·have hge:p.funcs.length<=i:=z10 (f:=Fu.enc) rfl hcc;rw[Av hge];exact⟨rfl,rfl,sI,Gb⟩
theorem j2q(p:Pg)(hb:pz p.funcs<=1000000)(ha:p.arrays.length<=1000000)(hr:rPg p=true):SC Tryz.prog 17 [.pv p.enc] [] (λk=>k∈[]) (.tup [.pv (rnOf p).1.enc,iInt (rnOf p).2]) []:=by
 have hC:=yx4 p hb ha hr;unfold rnOf;generalize z95 p=C at hC;obtain⟨c1,c2,c3⟩:=C;dsimp only at hC⊢
 by_cases hc:c1=0
 ·rw[if_pos hc];subst hc
  by_cases hne:p.arrays=[]
  ·exact yv5 p hne hb hC
  ·exact yv6 p hne ha hb hC
 ·rw[if_neg hc];refine SC.vc tb {} [] Tryz.func17 rfl rfl ?_;exact⟨[],hC,sR,Gb,rfl,z00 (λ_=>⟨sT2 (sP (z0c _)),Gb⟩) λh=>absurd h (by simp[hc])⟩
structure RiS where
 ts:List Int
 ns:List Nd
def y3b(vs:List (Value×PV))(name:ByteArray):Int:=match z1m (.string name) vs with
 |some (.val (.int .i64 n))=>n
 |_=>0
def riSt(vs:List (Value×PV))(name:ByteArray)(v:Int):List (Value×PV):=mput (.string name) (vInt v) vs
def z6n(t k o n:Int)(nm:ByteArray)(args:List Int)(kids:List (List Nd))(s:RiS):Int×RiS:=(s.ts.length,⟨s.ts++[t],s.ns++[.mk k o n nm args [(s.ts.length:Int)] [] kids]⟩)
def z6u(k:Int)(nm:ByteArray)(args:List Int)(ns:List Nd):List Nd:=ns++[.mk k 0 0 nm args [] [] []]
def y1m(op:Int):Int:=if op=22∨(12<=op/\op<=17)then 2 else 1
def zs5(p:Pg)(k o n:Int)(nm:ByteArray)(l:List Int)(s:RiS):Int×RiS :=
 if k=1 then z6n 1 1 0 n ⟨#[]⟩ [] [] s else if k=2 then z6n 2 2 0 n ⟨#[]⟩ [] [] s else if k=4 then z6n (y1m o) 3 o 0 ⟨#[]⟩ l [] s else if k=5 then z6n (y1m o) 4 o 0 ⟨#[]⟩ l [] s
 else if k=6 then z6n 1 5 0 0 nm l [] s else if k=8 then z6n 1 8 0 0 ⟨#[]⟩ [] [] s else z6n (fuAt p (z3n p nm)).ty 7 0 0 nm l [] s
def z6v(o a:Int)(ns:List Nd)(r:Int×RiS):Int×RiS :=
 if o=19 then z6n 2 10 0 0 ⟨#[]⟩ [a] [z6u 12 ⟨#[]⟩ [(r.2.ts.length:Int)] [.mk 2 0 1 ⟨#[]⟩ [] [(r.2.ts.length:Int)] [] []],z6u 12 ⟨#[]⟩ [r.1] r.2.ns] ⟨r.2.ts++[2],ns⟩
 else z6n 2 10 0 0 ⟨#[]⟩ [a] [z6u 12 ⟨#[]⟩ [r.1] r.2.ns,z6u 12 ⟨#[]⟩ [(r.2.ts.length:Int)] [.mk 2 0 0 ⟨#[]⟩ [] [(r.2.ts.length:Int)] [] []]] ⟨r.2.ts++[2],ns⟩
mutual
def riX(p:Pg)(vs:List (Value×PV)):Ex->RiS->Int×RiS
 |.mk k o n nm args,s=>if k=3 then(y3b vs nm,s)else if k=5/\(o=18∨o=19)then riSh p vs o args s else zs5 p k o n nm (riXL p vs args s).1 (riXL p vs args s).2
def riXL(p:Pg)(vs:List (Value×PV)):List Ex->RiS->List Int×RiS
 |[],s=>([],s)
 |e::r,s=>((riX p vs e s).1::(riXL p vs r (riX p vs e s).2).1,(riXL p vs r (riX p vs e s).2).2)
def riSh(p:Pg)(vs:List (Value×PV))(o:Int):List Ex->RiS->Int×RiS
 |[],s=>(0,s)
 |e::r,s=>zn1 p vs o (riX p vs e s).1 (riX p vs e s).2 r
def zn1(p:Pg)(vs:List (Value×PV))(o a:Int)(s:RiS):List Ex->Int×RiS
 |[]=>(0,s)
 |e::_=>z6v o a s.ns (riX p vs e ⟨s.ts,[]⟩)
end
mutual
def z4o(vs:List (Value×PV)):List St->List (Value×PV)->List (Value×PV)
 |[],out=>out
 |x::r,out=>z4o vs r (yn5 vs x out)
def yn5(vs:List (Value×PV)):St->List (Value×PV)->List (Value×PV)
 |.mk k _ nm _ thn els,out=>z4o vs els (z4o vs thn (if (z1m (.string nm) vs).isSome&&k==2 then mput (.string nm) (.agg []) out else out))
end
def z73:Value->ByteArray
 |.string s=>s
 |_=>⟨#[]⟩
def zo6(l:List ByteArray):List ByteArray:=((l.map λs=>s.data.toList).mergeSort λx y=>decide (x<=y)).map λb=>⟨b.toArray⟩
def z8l(vs:List (Value×PV))(ls:List (List St)):List (Value×PV):=ls.foldl (λo l=>z4o vs l o) []
def z0d(vs:List (Value×PV))(ls:List (List St)):List ByteArray:=zo6 ((z8l vs ls).map λe=>z73 e.1)
def riOf(vs:List (Value×PV))(z04:List ByteArray):List Int:=z04.map (y3b vs)
def zn0(vs:List (Value×PV)):List ByteArray->List Int->List (Value×PV)
 |n::r,v::q=>zn0 (riSt vs n v) r q
 |_,_=>vs
def z13(ts:List Int):List Int->List Int×List Int
 |[]=>([],ts)
 |v::r=>((ts.length:Int)::(z13 (ts++[ts.getD v.toNat 0]) r).1,(z13 (ts++[ts.getD v.toNat 0]) r).2)
structure Lo where
 ls:List (List ByteArray)
 jk:List (List ByteArray)
structure RiT where
 vs:List (Value×PV)
 ts:List Int
 ns:List Nd
 jk:List (List ByteArray)
def z5o(k:Int)(z04:List ByteArray)(a:Bool×RiT):List Nd:=if a.1 then a.2.ns else z6u k ⟨#[]⟩ (riOf a.2.vs z04) a.2.ns
def z6m(vs:List (Value×PV))(z04:List ByteArray)(ts:List Int)(ns:List Nd)(jk:List (List ByteArray))(k:Int)(args params:List Int)(kids:List (List Nd)):Bool×RiT :=
 if z08 (.mk k 0 0 ⟨#[]⟩ args [] params kids)then(true,⟨vs,ts,ns++[.mk k 0 0 ⟨#[]⟩ args [] params kids],jk⟩)
 else(false,⟨zn0 vs z04 (z13 ts (riOf vs z04)).1,(z13 ts (riOf vs z04)).2,ns++[.mk k 0 0 ⟨#[]⟩ args (z13 ts (riOf vs z04)).1 params kids],jk⟩)
def ze9(p:Pg)(k:Int)(nm:ByteArray)(args:List Ex)(s:RiT):RiT :=
 if k=1∨k=2 then⟨riSt s.vs nm (riX p s.vs (args.getD 0 ex0) ⟨s.ts,s.ns⟩).1,(riX p s.vs (args.getD 0 ex0) ⟨s.ts,s.ns⟩).2.ts,(riX p s.vs (args.getD 0 ex0) ⟨s.ts,s.ns⟩).2.ns,s.jk⟩
 else if k=3 then⟨s.vs,(riX p s.vs (args.getD 1 ex0) (riX p s.vs (args.getD 0 ex0) ⟨s.ts,s.ns⟩).2).2.ts,z6u 6 nm [(riX p s.vs (args.getD 0 ex0) ⟨s.ts,s.ns⟩).1,(riX p s.vs (args.getD 1 ex0) (riX p s.vs (args.getD 0 ex0) ⟨s.ts,s.ns⟩).2).1] (riX p s.vs (args.getD 1 ex0) (riX p s.vs (args.getD 0 ex0) ⟨s.ts,s.ns⟩).2).2.ns,s.jk⟩
 else if k=9 then⟨s.vs,(riX p s.vs (args.getD 0 ex0) ⟨s.ts,s.ns⟩).2.ts,z6u 9 ⟨#[]⟩ [(riX p s.vs (args.getD 0 ex0) ⟨s.ts,s.ns⟩).1] (riX p s.vs (args.getD 0 ex0) ⟨s.ts,s.ns⟩).2.ns,s.jk⟩
 else⟨s.vs,(riX p s.vs (args.getD 0 ex0) ⟨s.ts,s.ns⟩).2.ts,(riX p s.vs (args.getD 0 ex0) ⟨s.ts,s.ns⟩).2.ns,s.jk⟩
def zd1(e:Ex):Bool:=e.kind==2&&e.n==1
def z9k(z04:List ByteArray)(kvs:List (Value×PV))(c:Int×RiS)(a:Bool×RiT):List Nd:=c.2.ns++[.mk 10 0 0 ⟨#[]⟩ [c.1] [] [] [z5o 13 z04 a,z6u 14 ⟨#[]⟩ (riOf kvs z04) []]]
def ze8(s:RiT)(z04:List ByteArray)(c:Int×RiS)(a b:Bool×RiT):Bool×RiT:=z6m s.vs z04 b.2.ts c.2.ns b.2.jk 10 [c.1] [] [z5o 12 z04 a,z5o 12 z04 b]
def z2c(s:RiT)(z04:List ByteArray):RiT:=⟨zn0 s.vs z04 (z13 s.ts (riOf s.vs z04)).1,(z13 s.ts (riOf s.vs z04)).2,[],s.jk.tail⟩
def y6e(s:RiT)(z04:List ByteArray)(a:Bool×RiT):Bool×RiT:=z6m s.vs z04 a.2.ts s.ns (z04::a.2.jk) 11 (riOf s.vs z04) (z13 s.ts (riOf s.vs z04)).1 [z5o 13 z04 a]
def y6f(s:RiT)(z04:List ByteArray)(c:Int×RiS)(a:Bool×RiT):Bool×RiT:=z6m s.vs z04 a.2.ts s.ns (z04::a.2.jk) 11 (riOf s.vs z04) (z13 s.ts (riOf s.vs z04)).1 [z9k z04 (z2c s z04).vs c a]
mutual
def riB(p:Pg):List St->List (List ByteArray)->RiT->Bool×RiT
 |[],_,s=>(false,s)
 |x::r,lo,s=>if (riS p x lo s).1 then(true,(riS p x lo s).2)else riB p r lo (riS p x lo s).2
def riS(p:Pg):St->List (List ByteArray)->RiT->Bool×RiT
 |.mk k _ nm args thn els,lo,s =>
  if k=4 then ze8 s (z0d s.vs [thn,els]) (riX p s.vs (args.getD 0 ex0) ⟨s.ts,s.ns⟩) (riB p thn lo ⟨s.vs,(riX p s.vs (args.getD 0 ex0) ⟨s.ts,s.ns⟩).2.ts,[],s.jk⟩)
   (riB p els lo ⟨s.vs,(riB p thn lo ⟨s.vs,(riX p s.vs (args.getD 0 ex0) ⟨s.ts,s.ns⟩).2.ts,[],s.jk⟩).2.ts,[],(riB p thn lo ⟨s.vs,(riX p s.vs (args.getD 0 ex0) ⟨s.ts,s.ns⟩).2.ts,[],s.jk⟩).2.jk⟩)
  else if k=5 then
   if zd1 (args.getD 0 ex0)then y6e s (z0d s.vs [thn]) (riB p thn (lo++[z0d s.vs [thn]]) (z2c s (z0d s.vs [thn])))
   else y6f s (z0d s.vs [thn]) (riX p (z2c s (z0d s.vs [thn])).vs (args.getD 0 ex0) ⟨(z2c s (z0d s.vs [thn])).ts,[]⟩)
    (riB p thn (lo++[z0d s.vs [thn]]) ⟨(z2c s (z0d s.vs [thn])).vs,(riX p (z2c s (z0d s.vs [thn])).vs (args.getD 0 ex0) ⟨(z2c s (z0d s.vs [thn])).ts,[]⟩).2.ts,[],s.jk.tail⟩)
  else if k=6 then(true,⟨s.vs,s.ts,z6u 14 ⟨#[]⟩ (riOf s.vs (lo.getLastD [])) s.ns,s.jk⟩)
  else if k=7 then(true,⟨s.vs,s.ts,z6u 13 ⟨#[]⟩ (riOf s.vs (lo.getLastD [])) s.ns,s.jk⟩)
  else if k=8 then(true,⟨s.vs,(riX p s.vs (args.getD 0 ex0) ⟨s.ts,s.ns⟩).2.ts,z6u 15 ⟨#[]⟩ [(riX p s.vs (args.getD 0 ex0) ⟨s.ts,s.ns⟩).1] (riX p s.vs (args.getD 0 ex0) ⟨s.ts,s.ns⟩).2.ns,s.jk⟩)
  else(false,ze9 p k nm args s)
end
def eTxs(l:List ByteArray):List PV:=[.seq (l.map eTx)]
def inRt:RT:=⟨3,1⟩
def loRt:RT:=⟨73,1⟩
def ndRt:RT:=⟨47,8⟩
def riBx(p:Pg)(ts:List Int)(lo:Lo):List (Nat×HO) :=
 [(1,.box [.pv (arrs p.arrays),.pv (fus p.funcs),.sl 2 (ts.map eInt).length,.sp 3 (lo.ls.map eTxs).length ((lo.ls++lo.jk).map eTxs).length]),(2,.row inRt (ts.map eInt)),(3,.row loRt ((lo.ls++lo.jk).map eTxs))]
def riLx(vs:List (Value×PV))(ns:List Nd):List (Nat×HO) :=
 [(4,.box [.ptr 1 0,.mp 5,.sl 6 (ns.map Nd.enc).length]),(5,.map vs),(6,.row ndRt (ns.map Nd.enc))]
theorem zs9(p:Pg)(ts:List Int)(lo:Lo)(t:Int)(hb:ts.length<=34359738368):SC Tryz.prog 37 [.ptr 1 0,.pv (.val (.int .i64 t))] (riBx p ts lo) (λk=>k∈[]) (iInt (ts.length:Int)) (riBx p (ts++[t]) lo):=by
 refine SC.vc tb {} [] Tryz.func37 rfl rfl ?_;exact⟨rfl,z3i rfl,by simp;omega,by simp,by simp,z3b (z:=(ts.length:Int)) sI0 oM0,sI,boq sI0,rwq (by simp[eInt]),rfl,Gb⟩
theorem y9d(op:Int):SC Tryz.prog 169 [.pv (.val (.int .i64 op))] [] (λk=>k∈[]) (iInt (y1m op)) []:=by
 refine SC.vc tb {} [] Tryz.func169 rfl rfl ?_
 by_cases h:op=22∨op=12∨op=13∨op=14∨op=15∨op=16∨op=17
 ·rcases h with rfl|rfl|rfl|rfl|rfl|rfl|rfl<;>exact⟨sI,Gb⟩
 ·have hT:y1m op=1:=by unfold y1m;rw[if_neg oM0]
  rw[hT]
  repeat' (first|exact⟨sI,Gb⟩|refine z00 (λg=>absurd (eq_of_beq g) oM0) λ_=>?_)
theorem z49(p:Pg)(ts:List Int)(lo:Lo)(vs:List (Value×PV))(ns:List Nd)(x:Nd)(hb:ns.length<=34359738368):SC Tryz.prog 116 [.ptr 4 0,.pv (.agg [vInt x.kind,vInt x.op,vInt x.n,vStr x.name,ints x.args,ints x.outs,ints x.params,kids x.kids])] (riBx p ts lo++riLx vs ns) (λk=>k∈[]) (.tup []) (riBx p ts lo++riLx vs (ns++[x])):=by
 refine SC.vc tb {} [] Tryz.func116 rfl rfl ?_;exact⟨rfl,z3i rfl,by simp;omega,by simp,sI,rfl,rfl,rfl,boq sI0,rfl,rwq (by rw[Cg,B3,Cs,Nd.enc_eq,Nd.cells_eta]),Gb⟩
theorem z6e(p:Pg)(ts:List Int)(lo:Lo)(vs:List (Value×PV))(ns:List Nd)(t k o n:Int)(nm:ByteArray)(args:List Int)(ks:List (List Nd))(ht:ts.length<=34359738368)(hb:ns.length<=34359738368) :
 SC Tryz.prog 168 [.ptr 4 0,.pv (.val (.int .i64 t)),.pv (.agg [vInt k,vInt o,vInt n,vStr nm,ints args,ints [],ints [],kids ks])] (riBx p ts lo++riLx vs ns) (λk=>k∈[]) (iInt (z6n t k o n nm args ks ⟨ts,ns⟩).1) (riBx p (z6n t k o n nm args ks ⟨ts,ns⟩).2.ts lo++riLx vs (z6n t k o n nm args ks ⟨ts,ns⟩).2.ns):=by
 refine SC.vc tb {} [] Tryz.func168 rfl rfl ?_;exact⟨[],zs9 p ts lo t ht,sR,Ge,rfl,[],z49 p (ts++[t]) lo vs ns (.mk k o n nm args [(ts.length:Int)] [] ks) hb,sR,Gi,rfl,sI,rfl,rfl,rfl,rfl,rfl,rfl,Gb⟩
theorem Cnt.getI{es:List (Value×PV)}(h:Cnt es)(name:ByteArray):(z1m (.string name) es).getD (.val (.int .i64 0))=vInt (y3b es name):=by
 unfold y3b
 cases hf:z1m (.string name) es with
 |none=>rfl
 |some p=>obtain⟨a,ha⟩:=z7n hf;obtain⟨s,hs⟩:=h.2 _ ha;dsimp only at hs;subst hs;rfl
theorem Cnt.putI{es:List (Value×PV)}(h:Cnt es)(a:ByteArray)(v:Int):Cnt (riSt es a v):=by
 unfold riSt;refine⟨λe he=>?_,λe he=>?_⟩
 ·rcases z45 he with rfl|he
  ·rfl
  ·exact h.1 e he
 ·rcases z45 he with rfl|he
  ·exact⟨_,rfl⟩
  ·exact h.2 e he
def txs(l:List ByteArray):PV:=.seq (l.map eTx)
theorem zj3(vs:List (Value×PV))(hv:Cnt vs)(l:List ByteArray)(hl:l.length<=34359738368):SC Tryz.prog 117 [.mp 5,.pv (txs l)] [(5,.map vs)] (λk=>k∈[5]) (.pv (ints (riOf vs l))) [(5,.map vs)]:=by
 refine SC.vc tb { gh:=[(1,[.grow 4 1001 3 1]),(6,[.fz 4 1001])] } [5] Tryz.func117 rfl rfl ?_;refine⟨Nat,λi=>[(9,iInt ((i:Nat):Int)),(4,.sl 1001 ((riOf vs (l.take i)).map eInt).length)],λi=>[(1001,.row inRt ((riOf vs (l.take i)).map eInt))],λi=>l.length-i,λi=>i<=l.length,[],0,Ad _,Gd,Gc,?_⟩;intro i hi;refine z00 (λhc=>?_) λhc=>?_
 ·have hlt:i<l.length:=z0z (f:=eTx) rfl hc;obtain⟨x,x1,x2,x3,x4⟩:=z0p hlt;exact⟨z02 (f:=eTx) x1,rfl,VAsk.mk (p:=vInt (y3b vs x)) (b:=(z1m (.string x) vs).isSome) rfl hv.1 (E5 (hv.getI x) rfl) ⟨rfl,z3i rfl,by simp[riOf];omega,z01 rfl oM0,i+1,z03 hlt,hlt,⟨rfl,slq (by simp[riOf];omega),Gb⟩,⟨rwq (by rw[x2];simp[riOf,eInt]),Gb⟩,rfl,rfl,rfl,rfl⟩⟩
 ·have hge:l.length<=i:=z10 (f:=eTx) rfl hc;rw[Av hge];exact⟨rfl,sI,rfl,Gb⟩
theorem y4h:∀(a:List ByteArray) (b:List Int) (vs:List (Value×PV)) (n:ByteArray) (v:Int),a.length=b.length->zn0 vs (a++[n]) (b++[v])=riSt (zn0 vs a b) n v
 |[],[],_,_,_,_=>rfl
 |x::a,y::b,vs,n,v,h=>by
  simp only[Bb,zn0];exact y4h a b _ n v (by simpa using h)
theorem y8v:∀(a:List ByteArray) (b:List Int) {vs:List (Value×PV)},Cnt vs->Cnt (zn0 vs a b)
 |[],[],_,h=>h
 |[],_::_,_,h=>h
 |_::_,[],_,h=>h
 |x::a,y::b,_,h=>y8v a b (h.putI x y)
theorem y6s(vs:List (Value×PV))(hv:Cnt vs)(l:List ByteArray)(q:List Int)(hq:l.length=q.length)(hl:l.length<=34359738368):SC Tryz.prog 164 [.mp 5,.pv (txs l),.pv (ints q)] [(5,.map vs)] (λk=>k∈[]) (.tup []) [(5,.map (zn0 vs l q))]:=by
 refine SC.vc tb {} [] Tryz.func164 rfl rfl ?_;refine⟨Nat,λi=>[(10,iInt ((i:Nat):Int))],λi=>[(5,.map (zn0 vs (l.take i) (q.take i)))],λi=>l.length-i,λi=>i<=l.length,[],0,Ad _,Gc,⟨by simp[zn0];rfl,Gb⟩,?_⟩;intro i hi;have hc0:=y8v (l.take i) (q.take i) hv;refine z00 (λhc=>?_) λhc=>?_
 ·have hlt:i<l.length:=z0z (f:=eTx) rfl hc;obtain⟨x,x1,x2,x3,x4⟩:=z0p hlt;obtain⟨y,y1,y2,y3,y4⟩:=z0p (show i<q.length by omega);exact⟨z02 (f:=eTx) x1,rfl,z02 (f:=eInt) y1,rfl,rfl,hc0.1,z01 rfl oM0,i+1,z03 hlt,hlt,Gc,⟨mpq (by rw[x2,y2,y4h _ _ _ _ _ (by simp;omega)];rfl),Gb⟩,rfl,rfl,rfl,rfl⟩
 ·have hge:l.length<=i:=z10 (f:=eTx) rfl hc;rw[Av hge,Av oM0];exact⟨sI,rfl,Gb⟩
theorem z3g:∀(l ts:List Int),(z13 ts l).1.length=l.length/\(z13 ts l).2.length=ts.length+l.length
 |[],ts=>⟨rfl,rfl⟩
 |v::r,ts=>by
  have:=z3g r (ts++[ts.getD v.toNat 0]);simp only[z13,A1,B5,A6]at this⊢;omega
theorem y1l:∀(l ts:List Int)(v:Int),z13 ts (l++[v])=((z13 ts l).1++[((z13 ts l).2.length:Int)],(z13 ts l).2++[(z13 ts l).2.getD v.toNat 0])
 |[],ts,v=>rfl
 |w::r,ts,v=>by
  have:=y1l r (ts++[ts.getD w.toNat 0]) v;simp only[Bb,z13,this]
theorem y23(p:Pg)(ts:List Int)(lo:Lo)(l:List Int)(hv:∀v∈l,0<=v/\v<ts.length)(hb:ts.length+l.length<=34359738368):SC Tryz.prog 163 [.ptr 1 0,.pv (ints l)] (riBx p ts lo) (λk=>k∈[]) (.pv (ints (z13 ts l).1)) (riBx p (z13 ts l).2 lo):=by
 refine SC.vc tb { gh:=[(1,[.grow 4 1001 3 1]),(6,[.fz 4 1001])] } [] Tryz.func163 rfl rfl ?_;refine⟨Nat,λi=>[(9,iInt ((i:Nat):Int)),(4,.sl 1001 ((z13 ts (l.take i)).1.map eInt).length)],λi=>(1001,.row inRt ((z13 ts (l.take i)).1.map eInt))::riBx p (z13 ts (l.take i)).2 lo,λi=>l.length-i,λi=>i<=l.length,[],0,Ad _,Gd,Gf,?_⟩;intro i hi;obtain⟨g1,g2⟩:=z3g (l.take i) ts;have g3:(l.take i).length=i:=by simp;omega
 refine z00 (λhc=>?_) λhc=>?_
 ·have hlt:i<l.length:=z0z (f:=eInt) rfl hc;obtain⟨x,x1,x2,x3,x4⟩:=z0p hlt;have hs:=y1l (l.take i) ts x;rw[<- x2]at hs;have hx:=hv x x4;have hix:x.toNat<(z13 ts (l.take i)).2.length:=by omega
  have hF:=zs9 p (z13 ts (l.take i)).2 lo ((z13 ts (l.take i)).2.getD x.toNat 0) oM0;refine⟨z02 (f:=eInt) x1,rfl,by simp,by rw[Ac];exact hix,by omega,VRow.mk (i:=x.toNat) (j:=0) sI0 (by simp[inRt]) (z02 (f:=eInt) (z3p hix)) rfl ⟨[],hF,sR,Ge,rfl,rfl,z3i rfl,by simp;omega,?_⟩⟩;exact⟨z01 rfl oM0,i+1,z03 hlt,hlt,⟨rfl,slq (by rw[hs];simp),Gb⟩,⟨rwq (by rw[hs];simp[eInt]),by rw[hs];rfl,by rw[hs];rfl,rfl,Gb⟩,rfl,rfl,rfl,rfl⟩
 ·have hge:l.length<=i:=z10 (f:=eInt) rfl hc;rw[Av hge];exact⟨by simp,sI,rfl,rfl,rfl,Gb⟩
theorem zf1(p:Pg)(ts:List Int)(lo:Lo)(vs:List (Value×PV))(ns:List Nd):SC Tryz.prog 165 [.ptr 4 0] (riBx p ts lo++riLx vs ns) (λk=>k∈[1,2,3,4,5,6]) (.ptr 14 0) ([(14,.box [.ptr 1 0,.mp 15,.pv (.val (.slice none 0 0))]),(15,.map vs)]++(riBx p ts lo++riLx vs ns)):=by
 refine SC.vc tb { ids:=[(13,14)] } [1,2,3,4,5,6] Tryz.func165 rfl rfl ?_;have hC:SC Tryz.prog 198 [.mp 5] [(5,.map vs)] (λk=>k∈[5]) (.mp 15) [(15,.map vs),(5,.map vs)]:=SC.sameR (((j2u vs).sw 1 5).sw 8 15) λk _ hk=>by rw[Ak.1 hk];exact Df
 exact⟨[5],hC,sR,⟨rfl,rfl,by simp,Gb⟩,rfl,sI,rfl,rfl,rfl,rfl,rfl,rfl,rfl,rfl,Gb⟩
theorem zc9(vs:List (Value×PV))(x:St)(out:List (Value×PV)):yn5 vs x out=z4o vs x.els (z4o vs x.thn (if (z1m (.string x.name) vs).isSome&&x.kind==2 then mput (.string x.name) (.agg []) out else out)):=by cases x;rw[yn5];rfl
theorem y4d(vs:List (Value×PV)):∀(l:List St) (x:St) (out:List (Value×PV)),z4o vs (l++[x]) out=yn5 vs x (z4o vs l out)
 |[],x,out=>by simp[z4o]
 |y::r,x,out=>by simp only[Bb,z4o];exact y4d vs r x _
def StrK(es:List (Value×PV)):Prop:=∀e∈es,z1w .string e.1=true
theorem StrK.put{es:List (Value×PV)}(h:StrK es)(a:ByteArray)(v:PV):StrK (mput (.string a) v es):=λe he=>by
 rcases z45 he with rfl|he
 ·rfl
 ·exact h e he
theorem z8z(vs:List (Value×PV)):∀(N:Nat)(l:List St),SizeOf.sizeOf l<N->∀out,StrK out->StrK (z4o vs l out)
 |0,_,h,_,_=>absurd h (Aj _)
 |N+1,[],_,out,h=>by rw[z4o];exact h
 |N+1,x::r,hN,out,h=>by
  have hx:=zt6 x;simp at hN;rw[z4o,zc9];refine z8z vs N r oM0 _ (z8z vs N x.els oM0 _ (z8z vs N x.thn oM0 _ ?_));split
  ·exact h.put _ _
  ·exact h
theorem yn0{o:Oper}{fr:Fr}{hp:Hp}{Rl:List Nat}(ho:o.op=.build 210 #[]):OkF Tryz.prog Rl o fr hp ⟨.pv (.agg []),[],[],[]⟩ :=
 .pure λc R1 fr2 hp2 _ _ _=>bPu (pl:=#[]) (out:=[]) ho (xs:=[]) rfl (z:=.agg #[]) kR0 ⟨#[],Tryz.underlying210,y1e (T:=tb) (a:=#[]) (l:=[]) rfl⟩ rfl (λp hp=>by cases hp) rfl
theorem y6r(vs:List (Value×PV))(hv:Cnt vs):∀(N:Nat)(l:List St),SizeOf.sizeOf l<N->szL l<=1073741824->∀out,StrK out ->
 SC Tryz.prog 195 [.mp 5,.pv (sts l),.mp 9] [(5,.map vs),(9,.map out)] (λk=>k∈[5]) (.tup []) [(5,.map vs),(9,.map (z4o vs l out))]
 |0,_,h,_,_,_=>absurd h (Aj _)
 |N+1,l,hN,hx,out,ho=>by
  refine SC.vc tb { jn:=[6],an:=[5003] } [5] Tryz.func195 rfl rfl ?_;have hl:=z8j l;refine⟨Nat,λi=>[(12,iInt ((i:Nat):Int))],λi=>[(9,.map (z4o vs (l.take i) out))],λi=>l.length-i,λi=>i<=l.length,[],0,Ad _,Gc,⟨by simp[z4o];rfl,Gb⟩,?_⟩;intro i hi;have hk:=z8z vs _ (l.take i) (Aa _) out ho;refine z00 (λhc=>?_) λhc=>?_
  ·have hlt:i<l.length:=z0z (f:=St.enc) rfl hc;obtain⟨x,x1,x2,x3,x4⟩:=z0p hlt;have hso:=zt6 x;have hmem:=Bm x4;have hsz:=y3e x;have hszm:=zx5 x4;have hs:=y4d vs (l.take i) x out;rw[<- x2,zc9]at hs;generalize z4o vs (l.take i) out=o1 at hk hs⊢;generalize hO:(if (z1m (.string x.name) vs).isSome&&x.kind==2 then mput (.string x.name) (.agg []) o1 else o1)=o2 at hs;have hk2:StrK o2:=by
    rw[<- hO];split
    ·exact hk.put _ _
    ·exact hk
   have hT:=y6r vs hv N x.thn oM0 oM0 o2 hk2;have hk3:=z8z vs _ x.thn (Aa _) o2 hk2;have hE:=y6r vs hv N x.els oM0 oM0 _ hk3;refine⟨zj9 x1,rfl,Unit,λ_=>[],λ_=>[(9,.map o2)],λ_=>True,[9],VAsk.mk (p:=vInt (y3b vs x.name)) (b:=(z1m (.string x.name) vs).isSome) rfl hv.1 (E5 (hv.getI x.name) rfl) ?_,?_⟩
   ·refine z00 (λc=>?_) λc=>?_
    ·rw[c,B0]at hO;refine z00 (λc2=>?_) λc2=>?_
     ·have c2:(x.kind==2)=true:=c2;rw[c2,if_pos rfl]at hO;exact⟨yn0 rfl,rfl,hk,(),Gb,Gb,⟨mpq hO,Gb⟩,rfl,rfl,rfl,rfl⟩
     ·have c2:(x.kind==2)=false:=c2;rw[c2,if_neg dC0]at hO;exact⟨(),Gb,Gb,⟨mpq hO,Gb⟩,rfl,rfl,rfl,rfl⟩
    ·rw[c,Cn,if_neg dC0]at hO;exact⟨(),Gb,Gb,⟨mpq hO,Gb⟩,rfl,rfl,rfl,rfl⟩
   ·rintro _ _;exact⟨[5],hT,sR,⟨rfl,rfl,by simp,rfl,Gb⟩,rfl,[5],hE,sR,⟨rfl,rfl,by simp,rfl,Gb⟩,rfl,z01 rfl oM0,i+1,z03 hlt,hlt,Gc,⟨mpq (by rw[hs]),Gb⟩,rfl,rfl,rfl,rfl⟩
  ·have hge:l.length<=i:=z10 (f:=St.enc) rfl hc;rw[Av hge];exact⟨sI,rfl,rfl,Gb⟩
section
open Go Go.Proofs Go.RowKit Go.Maps Go.Sort Go.Shelf
def y0u:Go.Shelf.Ren:=⟨λ|7=>197|10=>225|n=>n,λ|23=>251|26=>9|3=>210|28=>255|0=>0|27=>254|33=>111|4=>4|n=>n,λ|n=>n⟩
theorem j16:Go.Proofs.SlLaysZ.n7 Tryz.prog y0u where
 mixed:=by kernel_rfl
 f7:=⟨"maps.Keys[map[string]struct{},string,struct{}]", by decide,Tryz.func197.trans (Af some kR0)⟩
 f10:=⟨"maps.Keys[map[string]struct{},string,struct{}]$1", by decide,Tryz.func225.trans (Af some kR0)⟩
 t0:=Tryz.underlying0
 a0:=Tryz.isAgg0
 z0:=Tryz.sizeOf0
 v0:=Tryz.zeroValue0
 t4:=Tryz.underlying4
 a4:=Tryz.isAgg4
 z4:=Tryz.sizeOf4
 v4:=Tryz.zeroValue4
 t23:=Tryz.underlying251
 a23:=Tryz.isAgg251
 z23:=Tryz.sizeOf251
 v23:=Tryz.zeroValue251
 t26:=Tryz.underlying9
 a26:=Tryz.isAgg9
 z26:=Tryz.sizeOf9
 v26:=Tryz.zeroValue9
 t27:=Tryz.underlying254
 a27:=Tryz.isAgg254
 z27:=Tryz.sizeOf254
 v27:=Tryz.zeroValue254
 t28:=Tryz.underlying255
 a28:=Tryz.isAgg255
 z28:=Tryz.sizeOf255
 v28:=Tryz.zeroValue255
 t33:=Tryz.underlying111
 a33:=Tryz.isAgg111
 z33:=Tryz.sizeOf111
 v33:=Tryz.zeroValue111
def zo7:Go.Shelf.Ren:=⟨λ|6=>196|8=>223|9=>224|11=>246|13=>248|12=>247|23=>264|24=>242|14=>255|15=>256|16=>257|17=>258|18=>259|19=>260|20=>261|21=>262|22=>263|25=>266|26=>267|27=>268|28=>269|29=>270|30=>271|31=>272|n=>n,λ|26=>9|28=>255|24=>73|0=>0|3=>3|37=>293|48=>291|50=>241|4=>4|40=>303|39=>302|45=>213|5=>5|9=>9|51=>313|55=>317|57=>319|58=>238|33=>111|n=>n,λ|n=>n⟩
theorem j42:Go.Proofs.SlLaysZ.n6 Tryz.prog zo7 where
 mixed:=by kernel_rfl
 f6:=⟨"slices.Sorted[string]", by decide,Tryz.func196.trans (Af some kR0)⟩
 f8:=⟨"slices.Collect[string]", by decide,Tryz.func223.trans (Af some kR0)⟩
 f11:=⟨"slices.AppendSeq[[]string,string]", by decide,Tryz.func246.trans (Af some kR0)⟩
 t0:=Tryz.underlying0
 a0:=Tryz.isAgg0
 z0:=Tryz.sizeOf0
 v0:=Tryz.zeroValue0
 t24:=Tryz.underlying73
 a24:=Tryz.isAgg73
 z24:=Tryz.sizeOf73
 v24:=Tryz.zeroValue73
 t26:=Tryz.underlying9
 a26:=Tryz.isAgg9
 z26:=Tryz.sizeOf9
 v26:=Tryz.zeroValue9
 t28:=Tryz.underlying255
 a28:=Tryz.isAgg255
 z28:=Tryz.sizeOf255
 v28:=Tryz.zeroValue255
 i26:=by kernel_rfl
def yi0:Go.Shelf.Ren:=⟨λ|6=>224|8=>248|9=>247|19=>264|20=>242|21=>255|22=>256|23=>257|24=>258|25=>259|26=>260|27=>261|28=>262|29=>263|36=>266|31=>267|32=>268|37=>269|38=>270|39=>271|41=>272|n=>n,λ|27=>73|29=>9|3=>3|32=>293|26=>73|0=>0|44=>291|46=>241|4=>4|36=>303|35=>302|41=>213|5=>5|9=>9|53=>313|57=>317|63=>319|64=>238|n=>n,λ|n=>n⟩
theorem j41:Go.Proofs.SlLaysM.n6 Tryz.prog yi0 where
 mixed:=by kernel_rfl
 f6:=⟨"slices.Sort[[]string,string]", by decide,Tryz.func224.trans (Af some kR0)⟩
 f8:=Tryz.func248.trans (Af some kR0)
 f9:=⟨"slices.pdqsortOrdered[string]", by decide,Tryz.func247.trans (Af some kR0)⟩
 f19:=Tryz.func264.trans (Af some kR0)
 f20:=Tryz.func242.trans (Af some kR0)
 f21:=⟨"slices.insertionSortOrdered[string]", by decide,Tryz.func255.trans (Af some kR0)⟩
 f22:=⟨"slices.heapSortOrdered[string]", by decide,Tryz.func256.trans (Af some kR0)⟩
 f23:=⟨"slices.breakPatternsOrdered[string]", by decide,Tryz.func257.trans (Af some kR0)⟩
 f24:=⟨"slices.choosePivotOrdered[string]", by decide,Tryz.func258.trans (Af some kR0)⟩
 f25:=⟨"slices.reverseRangeOrdered[string]", by decide,Tryz.func259.trans (Af some kR0)⟩
 f26:=⟨"slices.partialInsertionSortOrdered[string]", by decide,Tryz.func260.trans (Af some kR0)⟩
 f27:=⟨"cmp.Less[string]", by decide,Tryz.func261.trans (Af some kR0)⟩
 f28:=⟨"slices.partitionEqualOrdered[string]", by decide,Tryz.func262.trans (Af some kR0)⟩
 f29:=⟨"slices.partitionOrdered[string]", by decide,Tryz.func263.trans (Af some kR0)⟩
 f31:=Tryz.func267.trans (Af some kR0)
 f32:=Tryz.func268.trans (Af some kR0)
 f36:=⟨"slices.siftDownOrdered[string]", by decide,Tryz.func266.trans (Af some kR0)⟩
 f37:=⟨"slices.medianAdjacentOrdered[string]", by decide,Tryz.func269.trans (Af some kR0)⟩
 f38:=⟨"slices.medianOrdered[string]", by decide,Tryz.func270.trans (Af some kR0)⟩
 f39:=⟨"cmp.isNaN[string]", by decide,Tryz.func271.trans (Af some kR0)⟩
 f41:=⟨"slices.order2Ordered[string]", by decide,Tryz.func272.trans (Af some kR0)⟩
 t0:=Tryz.underlying0
 a0:=Tryz.isAgg0
 z0:=Tryz.sizeOf0
 v0:=Tryz.zeroValue0
 t3:=Tryz.underlying3
 a3:=Tryz.isAgg3
 z3:=Tryz.sizeOf3
 v3:=Tryz.zeroValue3
 t4:=Tryz.underlying4
 a4:=Tryz.isAgg4
 z4:=Tryz.sizeOf4
 v4:=Tryz.zeroValue4
 t5:=Tryz.underlying5
 a5:=Tryz.isAgg5
 z5:=Tryz.sizeOf5
 v5:=Tryz.zeroValue5
 t9:=Tryz.underlying9
 a9:=Tryz.isAgg9
 z9:=Tryz.sizeOf9
 v9:=Tryz.zeroValue9
 t26:=Tryz.underlying73
 a26:=Tryz.isAgg73
 z26:=Tryz.sizeOf73
 v26:=Tryz.zeroValue73
 t27:=Tryz.underlying73
 a27:=Tryz.isAgg73
 z27:=Tryz.sizeOf73
 v27:=Tryz.zeroValue73
 t29:=Tryz.underlying9
 a29:=Tryz.isAgg9
 z29:=Tryz.sizeOf9
 v29:=Tryz.zeroValue9
 t32:=Tryz.underlying293
 a32:=Tryz.isAgg293
 z32:=Tryz.sizeOf293
 v32:=Tryz.zeroValue293
 t35:=Tryz.underlying302
 a35:=Tryz.isAgg302
 z35:=Tryz.sizeOf302
 v35:=Tryz.zeroValue302
 t36:=Tryz.underlying303
 a36:=Tryz.isAgg303
 z36:=Tryz.sizeOf303
 v36:=Tryz.zeroValue303
 t41:=Tryz.underlying213
 a41:=Tryz.isAgg213
 z41:=Tryz.sizeOf213
 v41:=Tryz.zeroValue213
 t44:=Tryz.underlying291
 a44:=Tryz.isAgg291
 z44:=Tryz.sizeOf291
 v44:=Tryz.zeroValue291
 t46:=Tryz.underlying241
 a46:=Tryz.isAgg241
 z46:=Tryz.sizeOf241
 v46:=Tryz.zeroValue241
 t53:=Tryz.underlying313
 a53:=Tryz.isAgg313
 z53:=Tryz.sizeOf313
 v53:=Tryz.zeroValue313
 t57:=Tryz.underlying317
 a57:=Tryz.isAgg317
 z57:=Tryz.sizeOf317
 v57:=Tryz.zeroValue317
 t63:=Tryz.underlying319
 a63:=Tryz.isAgg319
 z63:=Tryz.sizeOf319
 v63:=Tryz.zeroValue319
 t64:=Tryz.underlying238
 a64:=Tryz.isAgg238
 z64:=Tryz.sizeOf238
 v64:=Tryz.zeroValue238
theorem sorts194(m:Nat):AnyZ.SortsIn Tryz.prog zo7 Fence.wide m :=
 ⟨λblk off cap ss W hH hblk hsz=>Fx.2 (AnyM.slices_Sort_string j41 blk off cap ss W hH hblk hsz),
  λp cap W=>Fx.2 (AnyM.slices_Sort_string_none j41 p cap W)⟩
theorem yr9{F:Nat->Prop}{ρ:Loc}{σ:Heap'}{w w':World}(h:RelH F ρ σ w)(hb:Go.RowKit.Below w.heap.size w w')(R:Nat->Prop):RelH F ρ σ w'/\Trans F R ρ σ w ρ σ w':=by
 have t:Trans F R ρ σ w ρ σ w':=⟨hb.os,hb.tape,hb.output,hb.size,λb hlt _=>hb.block b hlt,λ_ _ _ hi _=>.inl hi,λ_ _ _ _ _=>rfl,λ_ _ _ _ _=>rfl,λ_ _ _ _ _ _ _ _=>rfl,
  λk s s' els els' h1 h2=>by rw[h1]at h2;cases h2;exact Ae _,λk cs h1=>.inr ⟨cs,h1⟩,λk es h1=>.inr ⟨es,h1⟩,λk s els h1=>.inr ⟨els,h1⟩⟩
 refine⟨⟨h.inj,h.apart,λb hF=>B8 (h.old b hF) hb.size,λk b c hk=>?_,h.real⟩,t⟩;obtain⟨o,h1,h2⟩:=h.obj k b c hk;refine⟨o,h1,h2.keep t (hb.block b (h.lt hk)) λx _ hn=>?_⟩;obtain⟨k,hk⟩:=hn.some;exact hk.2 hk.1
theorem sc_keys(es:List (Value×PV)):SC Tryz.prog 197 [.mp 9] [(9,.map es)] (λk=>k∈[9]) (.fn (.func 225) [] [.ptr 77 0]) [(77,.box [.mp 9]),(9,.map es)]:=by
 intro F ρ w vs hkept hrel hargs;have ha:All ⟨F,λk=>k∈[9],ρ,look (up [(9,.map es)]),w,vs.length⟩ ρ (look (up [(9,.map es)])) w [(0,.mp 9)] { tmps:=vs.toArray,defers:=[] }:=by
  refine⟨hrel,λt x hx=>?_,.refl _ _ _ _ _,rfl,by simp,hkept⟩
  match t,hx with
  |0,hx=>cases hx;obtain⟨v,h1,h2⟩:=hargs.2 0 _ rfl;exact⟨v,by simpa using h1,h2⟩
  |t+1,hx=>cases hx
 obtain⟨b,cc,r,ck,u,hv,hρ,h3,h4,h5,h6⟩:=ha.mapAt (x:=.tmp 0) rfl rfl;have hvs:vs.toArray = #[.map (some b)]:=by
  match vs,hargs.1,hv with
  |[v],_,hv=>simp[Act.eval]at hv;rw[hv]
 rw[hvs];refine(Fx.1 (AnyZ.keys_in j16 Fence.wide 5 trivial rfl (some b) w)).mono ?_;rintro e w' ⟨rfl,rfl⟩;have hn:=ha.alloc (k:=77) (o:=.box [.mp 9]) rfl rfl rfl rfl 1 (.cells #[.map (some b)] 251) λkeepI _=>.box [.mp 9] 251 #[.map (some b)] (λ_=>.map (some b)) (z2y w _) sI0 (λj x hj=>by
  match j,hj with
  |0,_=>rfl) (λj x hj=>by
  match j,hj with
  |0,hj=>cases hj;exact keepI _ _ (.mp _ _ λes' _=>⟨b,cc,hρ,rfl⟩) rfl)
 refine⟨_,_,rfl,.fn _ _ _ _ _ (λ_=>.pointer none) (λ_=>.pointer (some ⟨w.heap.size,0,none⟩)) rfl (λj c hj=>by cases hj) (λj c hj=>by cases hj) rfl (λj c hj=>?_) (λj c hj=>?_),hn.rel,hn.tr⟩
 ·match j,hj with
  |0,_=>rfl
 ·match j,hj with
  |0,hj=>cases hj;exact .ptr _ _ _ λcs _=>⟨w.heap.size,1,z0a,rfl⟩
theorem keys_map{r:Array MapEntry}{es:List (Value×PV)}{u:Nat->Value}(h4:r.size=es.length)(h5:∀i k p,es[i]?=some (k,p)->∃m:MapEntry,r[i]?=some m/\m.key=k/\m.val=u i):r.toList.map (·.key)=es.map (·.1):=by
 refine List.ext_getElem? λi=>?_;rw[Ba,Ba,Bg]
 cases he:es[i]? with
 |none =>
  have:=List.getElem?_eq_none_iff.1 he
  rw[Eo oM0];rfl
 |some e =>
  obtain⟨m,h1,h2,_⟩:=h5 i e.1 e.2 he;rw[h1];simp[h2]
abbrev rd0:Value->Option (DataW Unit×List MemPlace):=λ_=>some (.nil,[])
theorem keyOf_tx{k:Value}(h1:z1w .string k=true)(h2:(z73 k).size<=maxLen):keyOf Tryz.prog 9 k=some (.string (z73 k).data.toList):=by
 cases k<;>simp[z1w]at h1
 rename_i s;simp only[z73]at h2;simp[keyOf,mapKey,Tryz.underlying9,h2,z73]
theorem j3h(es:List (Value×PV))(hk:StrK es)(hsz:∀e∈es,(z73 e.1).size<=maxLen)(hl:es.length<=1073741824):SC Tryz.prog 196 [.fn (.func 225) [] [.ptr 77 0]] [(77,.box [.mp 9]),(9,.map es)] (λk=>k∈[77,9]) (.pv (txs (zo6 (es.map λe=>z73 e.1)))) [(77,.box [.mp 9]),(9,.map es)]:=by
 intro F ρ w vs hkept hrel hargs;obtain⟨v0,e0,r0⟩:=hargs.2 0 _ rfl;have hv1:∃b c,ρ 77=some (b,c)/\v0=.func (.func 225) #[] #[.pointer (some ⟨b,0,none⟩)]:=by
  cases r0 with
  |fn _ _ _ vs ws u t hl hv hr hl' hv' hr' =>
   have q:=hr' 0 _ rfl;have q2:=hv' 0 _ rfl
   cases q with
   |ptr _ _ _ h =>
    obtain⟨b,c,h1,h2⟩:=h _ rfl;refine⟨b,c,h1,?_⟩;have e1:vs = #[]:=Array.eq_empty_of_size_eq_zero hl;subst e1;have e2:ws = #[.pointer (some ⟨b,0,none⟩)]:=by
     apply Array.ext
     ·simpa using hl'
     ·intro i h1' h2';have:i=0:=by simp at h2';omega
      subst this;rw[Array.getElem?_eq_getElem h1']at q2;exact(Bx q2).trans h2
    rw[e2]
 obtain⟨B,cB,hB,rfl⟩:=hv1;obtain⟨o1,q1,q2⟩:=hrel.obj 77 B cB hB;have q1:look (up [(77,HO.box [.mp 9]),(9,.map es)]) 77=some o1:=q1
 cases q1
 obtain⟨eB,a,uB,g1,g2,g3,g4⟩:=q2.inv_box;have g5:=g4 0 _ rfl;have g6:=g3 0 _ rfl;have hmp:∃b c,ρ 9=some (b,c)/\uB 0=.map (some b):=by
  generalize uB 0=x at g5
  cases g5 with
  |mp _ _ h=>exact h _ rfl
 obtain⟨b,cc,hρ,hu⟩:=hmp;obtain⟨o2,q3,q4⟩:=hrel.obj 9 b cc hρ;have q3:look (up [(77,HO.box [.mp 9]),(9,.map es)]) 9=some o2:=q3
 cases q3
 obtain⟨r,ck,u,h3,h4,h5,h6⟩:=q4.inv_map;have hst:=q4.stamped h3;have hkm:=keys_map h4 h5;have hrd:∀x∈r.toList,Go.WideElems.rg Tryz.prog 9 rd0 x=(.string (z73 x.key).data.toList,.nil)/\∃y,Go.WideElems.rd Tryz.prog 9 rd0 x=some y:=by
  intro x hx;have hm:x.key∈es.map (·.1):=hkm▸D7 hx;obtain⟨e,he,hxe⟩:=Cb.1 hm;have hko:=keyOf_tx (k:=x.key) (hxe▸hk e he) (hxe▸hsz e he);have:Go.WideElems.rd Tryz.prog 9 rd0 x=some (.string (z73 x.key).data.toList,.nil):=by simp[Go.WideElems.rd,hko]
  exact⟨Go.WideElems.rg_of this,_,this⟩
 have hown:w.ownsMap Tryz.prog 9 rd0 b r.size (.map ((r.toList.map (Go.WideElems.rg Tryz.prog 9 rd0)).foldr DataW.insert [])):=⟨r,ck,h3,⟨by rw[h4];exact B9 hl dC0,hst,λx hx=>(hrd x hx).2⟩,Ae _,rfl⟩;have hperm:(strKeys (.map ((r.toList.map (Go.WideElems.rg Tryz.prog 9 rd0)).foldr DataW.insert []))).Perm (es.map λe=>(z73 e.1).data.toList):=by
  refine((Go.WideShapes.sorted_perm _).map _).trans ?_;rw[El];have:r.toList.map ((λp=>strOf p.1) ∘ Go.WideElems.rg Tryz.prog 9 rd0)=(r.toList.map (·.key)).map λk=>(z73 k).data.toList:=by
   rw[El];exact List.map_congr_left λx hx=>by simp only[Function.comp,(hrd x hx).1,strOf]
  rw[this,hkm,El];exact List.Perm.refl _
 have hBlt:=hrel.lt hB;have hsize:Maps.size (.map ((r.toList.map (Go.WideElems.rg Tryz.prog 9 rd0)).foldr DataW.insert []))=es.length:=by
  simp only[Maps.size,length_sorted,Ac,Bq,h4]
 have hseq:SeqGives Fence.wide 2 Tryz.prog 225 #[.pointer (some ⟨B,0,none⟩)] encStr (λss=>ss.Perm (strKeys (.map ((r.toList.map (Go.WideElems.rg Tryz.prog 9 rd0)).foldr DataW.insert [])))) (Maps.size (.map ((r.toList.map (Go.WideElems.rg Tryz.prog 9 rd0)).foldr DataW.insert []))) w :=
  AnyZ.keys_gives (ρ:=y0u) { j16 with } Fence.wide _ trivial rfl oM0 B b r.size _ w hBlt (by
   simp only[World.cell?,g1];simpa[hu]using g6) hown
 have hvs:vs=[.func (.func 225) #[] #[.pointer (some ⟨B,0,none⟩)]]:=by
  match vs,hargs.1,e0 with
  |[x],_,e0=>cases e0;rfl
 subst hvs;refine(Fx.1 (AnyZ.sorted_in j42 Fence.wide 5 trivial trivial trivial trivial rfl oM0 (sorts194 _) (enters_of Tryz.func224 kR0 rfl) 225 #[.pointer (some ⟨B,0,none⟩)] trivial (enters_of Tryz.func225 kR0 rfl) _ _ (by rw[hsize];exact B9 hl dC0) (by rw[hsize];omega) _ hseq)).mono ?_;rintro e w' ⟨v,ss,rfl,hS,hrow,hnil,hb⟩;obtain⟨k1,k2⟩:=yr9 hrel hb (λk=>k∈[77,9]);refine⟨ρ,v,rfl,.pv _ _ ?_,k1,k2⟩;have hso:zo6 (es.map λe=>z73 e.1)=(ss.mergeSort (λx y=>decide (x<=y))).map λb=>⟨b.toArray⟩:=by
  unfold zo6;rw[El];exact Af _ (mergeSort_of_perm (hS.trans hperm)).symm
 have hlen:ss.length=((zo6 (es.map λe=>z73 e.1)).map eTx).length:=by simp[hso]
 show RepP _ _ (.seq ((zo6 (es.map λe=>z73 e.1)).map eTx)) v;rcases hrow.2 with⟨rfl,hz⟩|⟨g,cap,cur,rfl,t1,t2,t3,t4,t5,t6⟩
 ·have he:(zo6 (es.map λe=>z73 e.1)).map eTx=[]:=At (hlen▸hz);rw[he];exact .seq [] none 0 0 0 (λ_ _=>.bool false) (λh=>absurd rfl h) (λh=>absurd rfl h) (Ae _) (Ad _) (λi el h=>by cases h) (λi el h=>by cases h)
 ·rw[hlen];have hat:∀(i:Nat)(el:List PV),((zo6 (es.map λe=>z73 e.1)).map eTx)[i]?=some el->∃s:ByteArray,el=[PV.val (.string s)]/\cur[i]?=some (Value.string s):=by
   intro i el hi;rw[hso,El,Ba]at hi
   cases hm:(ss.mergeSort (λx y=>decide (x<=y)))[i]? with
   |none=>rw[hm]at hi;cases hi
   |some x =>
    rw[hm]at hi;cases hi
    refine⟨⟨x.toArray⟩,rfl,?_⟩;have:(cur.toList.take (ss.length*1))[i]?=some (encStr x):=by rw[t6,Ba,hm,D5]
    rw[C5]at this;split at this
    ·rw[Bg]at this;exact this
    ·cases this
  refine .seq _ _ cap g 0 (λi _=>cur.getD i (.bool false)) (λ_=>rfl) (λ_=>⟨λho=>?_,?_⟩) (hlen▸t3) t4 (λi el hi j c hj=>?_) λi el hi j c hj=>?_
  ·have:=hrel.own_lt ho;omega
  ·rcases Dj g w'.heap.size with h|h
   ·exact h
   ·rw[Eo h]at t2;cases t2
  ·obtain⟨s,rfl,hs⟩:=hat i el hi
   match j,hj with
   |0,hj=>simp only[World.cell?,t2];simp[hs]
  ·obtain⟨s,rfl,hs⟩:=hat i el hi
   match j,hj with
   |0,hj=>cases hj;simp[hs];exact .val _
theorem yu7(vs:List (Value×PV))(l:List (List St))(x:List St):z8l vs (l++[x])=z4o vs x (z8l vs l):=by simp[z8l]
theorem y1n(vs:List (Value×PV))(ls:List (List St)):StrK (z8l vs ls):=by
 suffices ∀(ls:List (List St)) (o:List (Value×PV)),StrK o->StrK (ls.foldl (λo l=>z4o vs l o) o)from this ls [] λe he=>by cases he
 intro ls
 induction ls with
 |nil=>exact λo h=>h
 |cons l r ih=>exact λo h=>ih _ (z8z vs _ l (Aa _) o h)
theorem zw9(vs:List (Value×PV))(hv:Cnt vs)(ls:List (List St))(hls:ls.length<=1000)(hsz:∀l∈ls,szL l<=1073741824)(hn:∀e∈z8l vs ls,(z73 e.1).size<=maxLen)(hl:(z8l vs ls).length<=1073741824) :
 SC Tryz.prog 161 [.mp 5,.pv (.seq (ls.map λl=>[sts l]))] [(5,.map vs)] (λk=>k∈[5]) (.pv (txs (z0d vs ls))) [(5,.map vs)]:=by
 refine SC.vc tb { ids:=[(8,9),(21,77)] } [5] Tryz.func161 rfl rfl ?_;refine⟨Nat,λi=>[(11,iInt ((i:Nat):Int))],λi=>[(9,.map (z8l vs (ls.take i)))],λi=>ls.length-i,λi=>i<=ls.length,[],0,Ad _,Gc,⟨by simp[z8l];rfl,Gb⟩,?_⟩;intro i hi;refine z00 (λhc=>?_) λhc=>?_
 ·have hlt:i<ls.length:=z0z (f:=λl=>[sts l]) rfl hc;obtain⟨x,x1,x2,x3,x4⟩:=z0p hlt;have hA:=y6r vs hv _ x (Aa _) (hsz x x4) _ (y1n vs (ls.take i));exact⟨z02 (f:=λl=>[sts l]) x1,rfl,[5],hA,sR,⟨rfl,rfl,by simp,rfl,Gb⟩,rfl,z01 rfl oM0,i+1,z03 hlt,hlt,Gc,⟨mpq (by rw[x2,yu7]),Gb⟩,rfl,rfl,rfl,rfl⟩
 ·have hge:ls.length<=i:=z10 (f:=λl=>[sts l]) rfl hc;rw[Av hge];have hK:=sc_keys (z8l vs ls);have hS:=j3h (z8l vs ls) (y1n vs ls) hn hl;exact⟨[9],hK,sR,Gd,rfl,[77,9],hS,sR,Gf,rfl,sI,rfl,Gb⟩
end
theorem sc_idxNd(fq:FuncId)(ws:List IV)(hent:tb.fn fq=true)(p:(Nd)->Bool)(l:List (Nd))(h:∀x∈l,SC Tryz.prog fq (.pv (ndv x)::ws) [] (λk=>k∈[]) (iBool (p x)) []):SC Tryz.prog 233 [.pv (z1n l),.fn (.func fq) [] ws] [] (λk=>k∈[]) (iInt (idxP p l 0)) []:=by
 refine SC.vc tb { gh:=[(0,[.len 0])] } [] Tryz.func233 rfl rfl ?_;intro hl;simp only[Ac]at hl;have hl:l.length<=9223372036854775807:=hl;refine⟨Nat,λi=>[(8,iInt ((i:Nat):Int))],λ_=>[],λi=>l.length-i,λi=>i<=l.length/\∀x∈l.take i,p x=false,[],0,⟨Ad _,λx hx=>by simp at hx⟩,Gc,Gb,?_⟩;rintro i ⟨i1,i2⟩;refine z00 (λhc=>?_) λhc=>?_
 ·have hlt:i<l.length:=z0z (f:=Nd.enc) rfl hc;obtain⟨x,x1,x2,x3,x4⟩:=z0p hlt;refine⟨z07 x1,rfl,z55 (b:=tb.fn fq) hent ⟨h x x4,sR,Gb,λk hk=>hk,rfl,rfl,z00 (λc=>?_) λc=>?_⟩⟩
  ·exact⟨sE (by rw[z1d p l 0 i2,x3,idxP,if_pos c,Dq]),Gb⟩
  ·exact⟨z01 rfl oM0,i+1,z03 hlt,⟨hlt,λy hy=>by rw[x2]at hy;rcases B4.1 hy with g|g;exact i2 y g;rw[Ak.1 g];exact c⟩,Gc,Gb,rfl,rfl,rfl,rfl⟩
 ·have hge:l.length<=i:=z10 (f:=Nd.enc) rfl hc;exact⟨sE (by rw[z1d p l 0 i2,Ab hge];rfl),Gb⟩
theorem sc_hasNd(fq:FuncId)(ws:List IV)(hent:tb.fn fq=true)(p:(Nd)->Bool)(l:List (Nd))(h:∀x∈l,SC Tryz.prog fq (.pv (ndv x)::ws) [] (λk=>k∈[]) (iBool (p x)) []):SC Tryz.prog 205 [.pv (z1n l),.fn (.func fq) [] ws] [] (λk=>k∈[]) (iBool (l.any p)) []:=by
 refine SC.vc tb {} [] Tryz.func205 rfl rfl ?_;exact⟨[],sc_idxNd fq ws hent p l h,sR,Gb,rfl,sE (Af iBool (z6c p l 0 dC0)),Gb⟩
theorem sc_idxKd(fq:FuncId)(ws:List IV)(hent:tb.fn fq=true)(p:(List Nd)->Bool)(l:List (List Nd))(h:∀x∈l,SC Tryz.prog fq (.pv (z1n x)::ws) [] (λk=>k∈[]) (iBool (p x)) []):SC Tryz.prog 234 [.pv (kids l),.fn (.func fq) [] ws] [] (λk=>k∈[]) (iInt (idxP p l 0)) []:=by
 refine SC.vc tb { gh:=[(0,[.len 0])] } [] Tryz.func234 rfl rfl ?_;intro hl;simp only[Ac]at hl;have hl:l.length<=9223372036854775807:=hl;refine⟨Nat,λi=>[(8,iInt ((i:Nat):Int))],λ_=>[],λi=>l.length-i,λi=>i<=l.length/\∀x∈l.take i,p x=false,[],0,⟨Ad _,λx hx=>by simp at hx⟩,Gc,Gb,?_⟩;rintro i ⟨i1,i2⟩;refine z00 (λhc=>?_) λhc=>?_
 ·have hlt:i<l.length:=z0z (f:=eKid) rfl hc;obtain⟨x,x1,x2,x3,x4⟩:=z0p hlt;refine⟨z02 (f:=eKid) x1,rfl,z55 (b:=tb.fn fq) hent ⟨h x x4,sR,Gb,λk hk=>hk,rfl,rfl,z00 (λc=>?_) λc=>?_⟩⟩
  ·exact⟨sE (by rw[z1d p l 0 i2,x3,idxP,if_pos c,Dq]),Gb⟩
  ·exact⟨z01 rfl oM0,i+1,z03 hlt,⟨hlt,λy hy=>by rw[x2]at hy;rcases B4.1 hy with g|g;exact i2 y g;rw[Ak.1 g];exact c⟩,Gc,Gb,rfl,rfl,rfl,rfl⟩
 ·have hge:l.length<=i:=z10 (f:=eKid) rfl hc;exact⟨sE (by rw[z1d p l 0 i2,Ab hge];rfl),Gb⟩
theorem sc_hasKd(fq:FuncId)(ws:List IV)(hent:tb.fn fq=true)(p:(List Nd)->Bool)(l:List (List Nd))(h:∀x∈l,SC Tryz.prog fq (.pv (z1n x)::ws) [] (λk=>k∈[]) (iBool (p x)) []):SC Tryz.prog 207 [.pv (kids l),.fn (.func fq) [] ws] [] (λk=>k∈[]) (iBool (l.any p)) []:=by
 refine SC.vc tb {} [] Tryz.func207 rfl rfl ?_;exact⟨[],sc_idxKd fq ws hent p l h,sR,Gb,rfl,sE (Af iBool (z6c p l 0 dC0)),Gb⟩
theorem sc_idxFl(fq:FuncId)(ws:List IV)(hent:tb.fn fq=true)(p:(Fl)->Bool)(l:List (Fl))(h:∀x∈l,SC Tryz.prog fq (.pv (.agg x.enc)::ws) [] (λk=>k∈[]) (iBool (p x)) []):SC Tryz.prog 123 [.pv (flws l),.fn (.func fq) [] ws] [] (λk=>k∈[]) (iInt (idxP p l 0)) []:=by
 refine SC.vc tb { gh:=[(0,[.len 0])] } [] Tryz.func123 rfl rfl ?_;intro hl;simp only[Ac]at hl;have hl:l.length<=9223372036854775807:=hl;refine⟨Nat,λi=>[(8,iInt ((i:Nat):Int))],λ_=>[],λi=>l.length-i,λi=>i<=l.length/\∀x∈l.take i,p x=false,[],0,⟨Ad _,λx hx=>by simp at hx⟩,Gc,Gb,?_⟩;rintro i ⟨i1,i2⟩;refine z00 (λhc=>?_) λhc=>?_
 ·have hlt:i<l.length:=z0z (f:=Fl.enc) rfl hc;obtain⟨x,x1,x2,x3,x4⟩:=z0p hlt;refine⟨z02 (f:=Fl.enc) x1,rfl,z55 (b:=tb.fn fq) hent ⟨h x x4,sR,Gb,λk hk=>hk,rfl,rfl,z00 (λc=>?_) λc=>?_⟩⟩
  ·exact⟨sE (by rw[z1d p l 0 i2,x3,idxP,if_pos c,Dq]),Gb⟩
  ·exact⟨z01 rfl oM0,i+1,z03 hlt,⟨hlt,λy hy=>by rw[x2]at hy;rcases B4.1 hy with g|g;exact i2 y g;rw[Ak.1 g];exact c⟩,Gc,Gb,rfl,rfl,rfl,rfl⟩
 ·have hge:l.length<=i:=z10 (f:=Fl.enc) rfl hc;exact⟨sE (by rw[z1d p l 0 i2,Ab hge];rfl),Gb⟩
theorem sc_idxIn(fq:FuncId)(ws:List IV)(hent:tb.fn fq=true)(p:(Int)->Bool)(l:List (Int))(h:∀x∈l,SC Tryz.prog fq (iInt x::ws) [] (λk=>k∈[]) (iBool (p x)) []):SC Tryz.prog 125 [.pv (ints l),.fn (.func fq) [] ws] [] (λk=>k∈[]) (iInt (idxP p l 0)) []:=by
 refine SC.vc tb { gh:=[(0,[.len 0])] } [] Tryz.func125 rfl rfl ?_;intro hl;simp only[Ac]at hl;have hl:l.length<=9223372036854775807:=hl;refine⟨Nat,λi=>[(8,iInt ((i:Nat):Int))],λ_=>[],λi=>l.length-i,λi=>i<=l.length/\∀x∈l.take i,p x=false,[],0,⟨Ad _,λx hx=>by simp at hx⟩,Gc,Gb,?_⟩;rintro i ⟨i1,i2⟩;refine z00 (λhc=>?_) λhc=>?_
 ·have hlt:i<l.length:=z0z (f:=eInt) rfl hc;obtain⟨x,x1,x2,x3,x4⟩:=z0p hlt;refine⟨z02 (f:=eInt) x1,rfl,z55 (b:=tb.fn fq) hent ⟨h x x4,sR,Gb,λk hk=>hk,rfl,rfl,z00 (λc=>?_) λc=>?_⟩⟩
  ·exact⟨sE (by rw[z1d p l 0 i2,x3,idxP,if_pos c,Dq]),Gb⟩
  ·exact⟨z01 rfl oM0,i+1,z03 hlt,⟨hlt,λy hy=>by rw[x2]at hy;rcases B4.1 hy with g|g;exact i2 y g;rw[Ak.1 g];exact c⟩,Gc,Gb,rfl,rfl,rfl,rfl⟩
 ·have hge:l.length<=i:=z10 (f:=eInt) rfl hc;exact⟨sE (by rw[z1d p l 0 i2,Ab hge];rfl),Gb⟩
theorem sc_hasIn(fq:FuncId)(ws:List IV)(hent:tb.fn fq=true)(p:(Int)->Bool)(l:List (Int))(h:∀x∈l,SC Tryz.prog fq (iInt x::ws) [] (λk=>k∈[]) (iBool (p x)) []):SC Tryz.prog 70 [.pv (ints l),.fn (.func fq) [] ws] [] (λk=>k∈[]) (iBool (l.any p)) []:=by
 refine SC.vc tb {} [] Tryz.func70 rfl rfl ?_;exact⟨[],sc_idxIn fq ws hent p l h,sR,Gb,rfl,sE (Af iBool (z6c p l 0 dC0)),Gb⟩
theorem j2w(fq:FuncId)(ws:List IV)(hent:tb.fn fq=true)(p:(Ar)->Bool)(l:List (Ar))(h:∀x∈l,SC Tryz.prog fq (.pv (.agg x.enc)::ws) [] (λk=>k∈[]) (iBool (p x)) []):SC Tryz.prog 146 [.pv (arrs l),.fn (.func fq) [] ws] [] (λk=>k∈[]) (iInt (idxP p l 0)) []:=by
 refine SC.vc tb { gh:=[(0,[.len 0])] } [] Tryz.func146 rfl rfl ?_;intro hl;simp only[Ac]at hl;have hl:l.length<=9223372036854775807:=hl;refine⟨Nat,λi=>[(8,iInt ((i:Nat):Int))],λ_=>[],λi=>l.length-i,λi=>i<=l.length/\∀x∈l.take i,p x=false,[],0,⟨Ad _,λx hx=>by simp at hx⟩,Gc,Gb,?_⟩;rintro i ⟨i1,i2⟩;refine z00 (λhc=>?_) λhc=>?_
 ·have hlt:i<l.length:=z0z (f:=Ar.enc) rfl hc;obtain⟨x,x1,x2,x3,x4⟩:=z0p hlt;refine⟨y3h x1,rfl,z55 (b:=tb.fn fq) hent ⟨h x x4,sR,Gb,λk hk=>hk,rfl,rfl,z00 (λc=>?_) λc=>?_⟩⟩
  ·exact⟨sE (by rw[z1d p l 0 i2,x3,idxP,if_pos c,Dq]),Gb⟩
  ·exact⟨z01 rfl oM0,i+1,z03 hlt,⟨hlt,λy hy=>by rw[x2]at hy;rcases B4.1 hy with g|g;exact i2 y g;rw[Ak.1 g];exact c⟩,Gc,Gb,rfl,rfl,rfl,rfl⟩
 ·have hge:l.length<=i:=z10 (f:=Ar.enc) rfl hc;exact⟨sE (by rw[z1d p l 0 i2,Ab hge];rfl),Gb⟩
theorem j2v(fq:FuncId)(ws:List IV)(hent:tb.fn fq=true)(p:(Ar)->Bool)(l:List (Ar))(h:∀x∈l,SC Tryz.prog fq (.pv (.agg x.enc)::ws) [] (λk=>k∈[]) (iBool (p x)) []):SC Tryz.prog 99 [.pv (arrs l),.fn (.func fq) [] ws] [] (λk=>k∈[]) (iBool (l.any p)) []:=by
 refine SC.vc tb {} [] Tryz.func99 rfl rfl ?_;exact⟨[],j2w fq ws hent p l h,sR,Gb,rfl,sE (Af iBool (z6c p l 0 dC0)),Gb⟩
theorem z9n(x:Nd):SC Tryz.prog 174 [.pv (ndv x)] [] (λk=>k∈[]) (iBool (z0v x.kind)) []:=by
 refine SC.vc tb {} [] Tryz.func174 rfl rfl ?_;refine z00 (λh=>⟨sE ?_,Gb⟩) λh=>⟨sE ?_,Gb⟩
 ·unfold z0v;rw[show decide (x.kind≥12)=true from h];rfl
 ·unfold z0v;rw[show decide (x.kind≥12)=false from h];rfl
theorem y4l(l:List Nd):SC Tryz.prog 177 [.pv (z1n l)] [] (λk=>k∈[]) (iBool (z8b l)) []:=by
 refine SC.vc tb { gh:=[(0,[.len 0])] } [] Tryz.func177 rfl rfl ?_;intro hl;simp only[Ac]at hl;have hl:l.length<=9223372036854775807:=hl;refine z00 (λh=>?_) λh=>?_
 ·have hpos:0<l.length:=by simpa using h
  obtain⟨x,hx⟩:∃x,l[((l.length:Int)-1).toNat]?=some x:=⟨_,A8 oM0⟩;have hT:z8b l=(x.kind==12):=by
   unfold z8b;rw[Ef,show l.length-1=((l.length:Int)-1).toNat by omega,hx]
  have ll:(l.map Nd.enc).length=l.length:=Ac _;have hi:(l.map Nd.enc)[(((l.map Nd.enc).length:Int)-1).toNat]?=some [vInt x.kind,vInt x.op,vInt x.n,vStr x.name,ints x.args,ints x.outs,ints x.params,kids x.kids]:=by
   rw[ll];exact z07 hx
  exact⟨z3b rfl (by rw[ll];omega),hi,(by rw[ll];omega),sE (Af iBool hT.symm),Gb⟩
 ·have e:l=[]:=by
   cases l with
   |nil=>rfl
   |cons a b=>simp at h
  subst e;exact⟨sI,Gb⟩
theorem yf6(x:Nd)(ih:∀q∈x.kids,SC Tryz.prog 178 [.pv (z1n q)] [] (λk=>k∈[]) (iBool (z0i q)) []):SC Tryz.prog 206 [.pv (ndv x)] [] (λk=>k∈[]) (iBool (z3f x)) []:=by
 refine SC.vc tb {} [] Tryz.func206 rfl rfl ?_;rw[z4d,zm7];refine z00 (λh=>⟨sE ?_,Gb⟩) λh=>z00 (λh2=>?_) λh2=>⟨sE ?_,Gb⟩
 ·rw[show(x.kind==14)=true from h];rfl
 ·exact⟨[],sc_hasKd 178 [] rfl z0i x.kids ih,SubA.same sFn,Gb,rfl,sE (by rw[show(x.kind==14)=false from h,show(x.kind==10)=true from h2];rfl),Gb⟩
 ·rw[show(x.kind==14)=false from h,show(x.kind==10)=false from h2];rfl
theorem y3d(N:Nat):∀(l:List Nd),SizeOf.sizeOf l<N->SC Tryz.prog 178 [.pv (z1n l)] [] (λk=>k∈[]) (iBool (z0i l)) []:=by
 induction N with
 |zero=>intro l hN;exact absurd hN (Aj _)
 |succ N ih =>
  intro l hN;refine SC.vc tb {} [] Tryz.func178 rfl rfl ?_;have h1:=sc_hasNd 206 [] rfl z3f l λx hx=>yf6 x λq hq=>ih q (by
   have h1:=Bm hx;have h2:=Bm hq;obtain⟨k,o,n,nm,a,b,c,ks⟩:=x;simp[Nd.kids]at h1 h2;omega)
  exact⟨[],h1,SubA.same sFn,Gb,rfl,sE (by rw[zw1]),Gb⟩
theorem yv8(l:List Nd):SC Tryz.prog 178 [.pv (z1n l)] [] (λk=>k∈[]) (iBool (z0i l)) []:=y3d _ l (Aa _)
theorem zs7(x:Nd):SC Tryz.prog 127 [.pv (ndv x)] [] (λk=>k∈[]) (iBool (z08 x)) []:=by
 refine SC.vc tb {} [] Tryz.func127 rfl rfl ?_;obtain⟨kind,op,n,name,args,outs,params,kids⟩:=x;rcases(show kind=10∨kind=11∨(kind≠11/\kind≠10) by omega)with rfl|rfl|⟨k8,k9⟩
 ·match kids with
  |[]=>exact⟨[],z9n _,sR,Gb,rfl,sI,Gb⟩
  |[a]=>exact⟨[],z9n _,sR,Gb,rfl,sI,Gb⟩
  |[a,b] =>
   have hT:z08 (.mk 10 op n name args outs params [a,b])=(!z8b a && !z8b b):=by
    rw[<- y2f,<- y2f];rfl
   rw[hT];have ha:=y4l a;generalize z8b a=ya at ha⊢
   cases ya
   ·exact⟨at0 (a:=[z1n a]),rfl,[],ha,sR,Gb,rfl,at1 (b:=[z1n b]),rfl,[],y4l b,sR,Gb,rfl,sI,Gb⟩
   ·exact⟨at0 (a:=[z1n a]),rfl,[],ha,sR,Gb,rfl,sI,Gb⟩
  |a::b::c::r=>exact⟨[],z9n _,sR,Gb,rfl,sI,Gb⟩
 ·match kids with
  |[]=>exact⟨[],z9n _,sR,Gb,rfl,sI,Gb⟩
  |[a]=>exact⟨at0 (a:=[z1n a]),rfl,[],yv8 a,sR,Gb,rfl,sI,Gb⟩
  |a::b::r=>exact⟨[],z9n _,sR,Gb,rfl,sI,Gb⟩
 ·have no:∀{i:Int},kind≠i->(kind==i)=true->False:=λh e=>h (eq_of_beq e);exact z00 (λh=>(no k9 h).elim) λ_=>z00 (λh=>(no k8 h).elim) λ_=>⟨[],z9n _,sR,Gb,rfl,sE (by simp[z08,Nd.kind,Nd.kids,k8,k9]),Gb⟩
theorem j2x(t:Int):SC Tryz.prog 68 [iInt t] [] (λ_=>False) (iBool (isTy t)) []:=by
 refine SC.anyR (SC.vc tb {} [] Tryz.func68 rfl rfl ?_);unfold isTy;refine z00 (λh=>⟨sE ?_,Gb⟩) λh=>⟨sE ?_,Gb⟩
 ·rw[show(t==1)=true from h];rfl
 ·rw[show(t==1)=false from h];rfl
theorem sc_flow1(t:Int):SC Tryz.prog 71 [iInt t] [] (λ_=>False) (iBool (!isTy t)) []:=by
 refine SC.anyR (SC.vc tb {} [] Tryz.func71 rfl rfl ?_);exact⟨[],j2x t,sR,Gb,rfl,sI,Gb⟩
theorem j37(x:Nd):SC Tryz.prog 174 [.pv (ndv x)] [] (λ_=>False) (iBool (z0v x.kind)) []:=SC.anyR (z9n x)
theorem zj4(x:Nd):SC Tryz.prog 127 [.pv (ndv x)] [] (λ_=>False) (iBool (z08 x)) []:=SC.anyR (zs7 x)
theorem y9i(op:Int):SC Tryz.prog 230 [iInt op] [] (λ_=>False) (.tup [iInt (z38 op).1,iInt (z38 op).2]) []:=by
 refine SC.anyR (SC.vc tb {} [] Tryz.func230 rfl rfl ?_)
 by_cases h:op=22∨op=12∨op=13∨op=14∨op=15∨op=16∨op=17
 ·rcases h with rfl|rfl|rfl|rfl|rfl|rfl|rfl<;>exact⟨sI,Gb⟩
 ·have hT:z38 op=(1,1):=by
   unfold z38;rw[if_neg (by simp;omega),if_neg (by simp;omega),if_neg (by simp;omega)]
  rw[hT]
  repeat' (first|exact⟨sI,Gb⟩|refine z00 (λg=>absurd (eq_of_beq g) oM0) λ_=>?_)
theorem yh2(x:Fl)(s:ByteArray):SC Tryz.prog 124 [.pv (.agg x.enc),.pv (.ept [vStr s] 0)] [] (λk=>k∈[]) (iBool (x.name.toList==s.toList)) []:=by
 refine SC.vc tb {} [] Tryz.func124 rfl rfl ?_;exact⟨sI,Gb⟩
theorem zf2(u:Un)(s:ByteArray):SC Tryz.prog 69 [.pv u.enc,iStr s] [] (λ_=>False) (iInt (z05 s u.flows 0)) []:=by
 refine SC.anyR (SC.vc tb { pb:=[102,103] } [] Tryz.func69 rfl rfl ?_);have h:=sc_idxFl 124 [.pv (.ept [vStr s] 0)] rfl (λf:Fl=>f.name.toList==s.toList) u.flows λx _=>yh2 x s;rw[y3v]at h;exact⟨[],h,sR,Gb,rfl,sI,Gb⟩
theorem j39(x:Ar)(s:ByteArray):SC Tryz.prog 232 [.pv (.agg x.enc),.pv (.ept [vStr s] 0)] [] (λk=>k∈[]) (iBool (x.name.toList==s.toList)) []:=by
 refine SC.vc tb {} [] Tryz.func232 rfl rfl ?_;exact⟨sI,Gb⟩
theorem yp5(u:Un)(s:ByteArray):SC Tryz.prog 204 [.pv u.enc,iStr s] [] (λ_=>False) (iBool (decide (z0h s u.arrays 0≥0))) []:=by
 refine SC.anyR (SC.vc tb { pb:=[102,103],gh:=[(1,[])] } [] Tryz.func204 rfl rfl ?_);rw[y1f s u.arrays 0 dC0];exact⟨[],j2v 232 [.pv (.ept [vStr s] 0)] rfl (λa:Ar=>a.name.toList==s.toList) u.arrays λx _=>j39 x s,sR,Gb,rfl,sI,Gb⟩
theorem j09{u:Un}{f:Fl}{it:TypeId}{st:List Int}{k:Nat}(h:look (up (ckS u f it st)) k≠none):k∈[3,4]:=by
 by_cases h3:k=3
 ·subst h3;decide
 ·by_cases h4:k=4
  ·subst h4;decide
  ·exfalso;apply h;simp only[ckS,up,B3,Cs,look,z4a (C3 h3),z4a (C3 h4)];rfl
theorem y6v(u:Un)(f:Fl)(st:List Int)(v t:Int):SC Tryz.prog 226 [.ptr 3 0,iInt v,iInt t] (ckS u f 3 st) (λ_=>True) (iBool (z93 f.types v t)) (ckS u f 3 st):=by
 refine SC.sameR (SC.vc tb {} [3,4] Tryz.func226 rfl rfl ?_) λk h _=>j09 h;unfold z93;refine z00 (λh1=>z00 (λh2=>z00 (λh3=>?_) λh3=>?_) λh2=>?_) λh1=>?_
 ·have h1:decide (v≥0)=true:=h1;have h2:decide (v<(f.types.map eInt).length)=true:=h2;rw[Ac]at h2;exact⟨sE (Af iBool (by rw[show decide (0<=v)=true from h1,h2,show(t==0)=true from h3];rfl)),rfl,rfl,Gb⟩
 ·have h1:decide (v≥0)=true:=h1;have h2:decide (v<(f.types.map eInt).length)=true:=h2;rw[Ac]at h2;have g1:=An h1;have g2:=An h2;exact⟨z02 (f:=eInt) (z3p (show v.toNat<f.types.length by omega)),by omega,sE (Af iBool (by rw[show decide (0<=v)=true from h1,h2,show(t==0)=false from h3];rfl)),rfl,rfl,Gb⟩
 ·have h1:decide (v≥0)=true:=h1;have h2:decide (v<(f.types.map eInt).length)=false:=h2;rw[Ac]at h2;exact⟨sE (Af iBool (by rw[show decide (0<=v)=true from h1,h2];rfl)),rfl,rfl,Gb⟩
 ·have h1:decide (v≥0)=false:=h1;exact⟨sE (Af iBool (by rw[show decide (0<=v)=false from h1];rfl)),rfl,rfl,Gb⟩
theorem y75{tys:List Int}{v t:Int}(h:z93 tys v t=true):0<=v/\v.toNat<tys.length/\v=(v.toNat:Int):=by
 simp only[z93,A0,Bj]at h;omega
theorem j3f(u:Un)(f:Fl)(st:List Int)(hs:st.length=f.types.length)(v t:Int):SC Tryz.prog 228 [iInt v,iInt t,.ptr 5 0] (ckSp u f 3 5 st) (λk=>k∈[3,4,5]) (iBool (zt5 f.types st v t).1) (ckSp u f 3 5 st):=by
 refine SC.vc tb {} [3,4,5] Tryz.func228 rfl rfl ?_;have hV:=y6v u f st v t;unfold zt5
 cases hv:z93 f.types v t
 ·rw[hv]at hV;exact⟨[],hV,sR,⟨rfl,Gb,rfl,Gb,Gb⟩,rfl,sI,rfl,rfl,rfl,Gb⟩
 ·rw[hv]at hV;obtain⟨h1,h2,h3⟩:=y75 hv;exact⟨[],hV,sR,⟨rfl,Gb,rfl,Gb,Gb⟩,rfl,rfl,VIdR.mk (i:=v.toNat) (by rw[Ac];omega) h3 (VRow.mk (i:=v.toNat) (j:=0) rfl rfl (z02 (f:=eInt) (z3p oM0)) rfl ⟨sI,rfl,rfl,rfl,Gb⟩)⟩
theorem j3e(u:Un)(f:Fl)(st:List Int)(hs:st.length=f.types.length)(v t:Int):SC Tryz.prog 229 [iInt v,iInt t,.ptr 5 0] (ckSp u f 3 5 st) (λk=>k∈[3,5]) (iBool (z5t f.types st v t).1) (ckSp u f 3 5 (z5t f.types st v t).2):=by
 refine SC.vc tb {} [3,5] Tryz.func229 rfl rfl ?_;have hV:=y6v u f st v t;unfold z5t
 cases hv:z93 f.types v t
 ·rw[hv]at hV;exact⟨[],hV,sR,⟨rfl,Gb,rfl,Gb⟩,rfl,sI,rfl,rfl,rfl,Gb⟩
 ·rw[hv]at hV;obtain⟨h1,h2,h3⟩:=y75 hv;refine⟨[],hV,sR,⟨rfl,Gb,rfl,Gb⟩,rfl,rfl,VIdR.mk (i:=v.toNat) (by rw[Ac];omega) h3 (VRow.mk (i:=v.toNat) (j:=0) rfl rfl (z02 (f:=eInt) (z3p oM0)) rfl (z00 (λh=>?_) λh=>?_))⟩
  ·have h:(st.getD v.toNat 0 != 0)=true:=h;have hz:(st.getD v.toNat 0==0)=false:=by simpa using h
   rw[hz];exact⟨sI,rfl,rfl,rfl,Gb⟩
  ·have h:(st.getD v.toNat 0 != 0)=false:=h;have hz:(st.getD v.toNat 0==0)=true:=by simpa using h
   rw[hz];exact⟨rfl,VIdR.mk (i:=v.toNat) (by rw[Ac];omega) h3 ⟨v.toNat,0,_,rfl,rfl,z02 (f:=eInt) (z3p oM0),by simp[eInt],sI,rfl,boq (by simp[y5f]),rwq (by simp[eInt,Bs]),Gb⟩⟩
theorem sc_eqW(u:Un)(f:Fl)(fq:FuncId)(hent:tb.fn fq=true)(step:List Int->Int->Int->Bool×List Int)(hlen:∀st v t,(step st v t).2.length=st.length)(h:∀st v t,st.length=f.types.length->SC Tryz.prog fq [iInt v,iInt t,.ptr 5 0] (ckSp u f 3 5 st) (λk=>k∈[3,5]) (iBool (step st v t).1) (ckSp u f 3 5 (step st v t).2))
 (st0:List Int) (hs:st0.length=f.types.length) (a b:List Int):SC Tryz.prog 227 [.pv (ints a),.pv (ints b),.fn (.func fq) [] [.ptr 5 0]] (ckSp u f 3 5 st0) (λk=>k∈[3,5]) (iBool (eqf step st0 a b).1) (ckSp u f 3 5 (eqf step st0 a b).2):=by
 refine SC.vc tb { gh:=[(0,[.len 0])] } [3,5] Tryz.func227 rfl rfl ?_;intro hl;simp only[Ac]at hl;have hl:a.length<=9223372036854775807:=hl;unfold eqf;refine z00 (λhc=>?_) λhc=>?_
 ·have hc:¬(a.length:Int)=b.length:=by simpa using hc
  rw[if_neg hc];exact⟨sI,rfl,rfl,rfl,Gb⟩
 have hc:(a.length:Int)=b.length:=by simpa using hc
 rw[if_pos hc];refine⟨Nat×List Int,λq=>[(17,iInt ((q.1:Nat):Int))],λq=>ckSp u f 3 5 q.2,λq=>a.length-q.1,λq=>q.1<=a.length/\q.2.length=f.types.length/\eqGo step st0 a b=eqGo step q.2 (a.drop q.1) (b.drop q.1),[],(0,st0),⟨Ad _,hs,rfl⟩,Gc,Ge,?_⟩;rintro⟨i,st⟩ ⟨i1,i2,i3⟩;dsimp only at i1 i2 i3;refine z00 (λhc2=>?_) λhc2=>?_
 ·have hlt:i<a.length:=z0z (f:=eInt) rfl hc2;obtain⟨x,x1,x2,x3,x4⟩:=z0p hlt;obtain⟨y,y1,y2,y3,y4⟩:=z0p (show i<b.length by omega);have hS:=h st x y i2;have hL:=hlen st x y;rw[x3,y3,eqGo]at i3;generalize step st x y=w at hS hL i3;obtain⟨w1,w2⟩:=w;dsimp only at hS hL i3
  cases w1
  ·simp only[Ap,By]at i3;rw[i3];exact⟨z02 (f:=eInt) x1,rfl,z02 (f:=eInt) y1,rfl,z55 (b:=tb.fn fq) hent ⟨hS,sR,⟨rfl,by simp,rfl,by simp,rfl,Gb⟩,λk hk=>hk,rfl,rfl,sI,rfl,rfl,rfl,Gb⟩⟩
  ·simp only[C8]at i3;exact⟨z02 (f:=eInt) x1,rfl,z02 (f:=eInt) y1,rfl,z55 (b:=tb.fn fq) hent ⟨hS,sR,⟨rfl,by simp,rfl,by simp,rfl,Gb⟩,λk hk=>hk,rfl,rfl,z01 rfl oM0,(i+1,w2),z03 hlt,⟨hlt,hL.trans i2,i3⟩,Gc,Ge,rfl,rfl,rfl,rfl⟩⟩
 ·have hge:a.length<=i:=z10 (f:=eInt) rfl hc2;rw[i3,Ab hge,eqGo]
  ·exact⟨sI,rfl,rfl,rfl,Gb⟩
  ·intro x r y q hx;cases hx
theorem sc_eqU(u:Un)(f:Fl)(st:List Int)(hs:st.length=f.types.length)(a b:List Int):SC Tryz.prog 227 [.pv (ints a),.pv (ints b),.fn (.func 228) [] [.ptr 5 0]] (ckSp u f 3 5 st) (λk=>k∈[3,4,5]) (iBool (z0w f.types st a b)) (ckSp u f 3 5 st):=by
 refine SC.vc tb { gh:=[(0,[.len 0])] } [3,4,5] Tryz.func227 rfl rfl ?_;intro hl;simp only[Ac]at hl;have hl:a.length<=9223372036854775807:=hl;unfold z0w eqf;refine z00 (λhc=>?_) λhc=>?_
 ·have hc:¬(a.length:Int)=b.length:=by simpa using hc
  rw[if_neg hc];exact⟨sI,rfl,rfl,rfl,Gb⟩
 have hc:(a.length:Int)=b.length:=by simpa using hc
 rw[if_pos hc];refine⟨Nat,λi=>[(17,iInt ((i:Nat):Int))],λ_=>ckSp u f 3 5 st,λi=>a.length-i,λi=>i<=a.length/\eqGo (zt5 f.types) st a b=eqGo (zt5 f.types) st (a.drop i) (b.drop i),[],0,⟨Ad _,rfl⟩,Gc,Ge,?_⟩;rintro i ⟨i1,i3⟩;refine z00 (λhc2=>?_) λhc2=>?_
 ·have hlt:i<a.length:=z0z (f:=eInt) rfl hc2;obtain⟨x,x1,x2,x3,x4⟩:=z0p hlt;obtain⟨y,y1,y2,y3,y4⟩:=z0p (show i<b.length by omega);have hS:=j3f u f st hs x y;have hL:(zt5 f.types st x y).2=st:=rfl;rw[x3,y3,eqGo,hL]at i3;generalize(zt5 f.types st x y).1=w at hS i3
  cases w
  ·simp only[Ap,By]at i3;rw[i3];exact⟨z02 (f:=eInt) x1,rfl,z02 (f:=eInt) y1,rfl,hS,sR,⟨rfl,by simp,rfl,by simp,rfl,by simp,Gb⟩,λk hk=>hk,rfl,rfl,sI,rfl,rfl,rfl,Gb⟩
  ·simp only[C8]at i3;exact⟨z02 (f:=eInt) x1,rfl,z02 (f:=eInt) y1,rfl,hS,sR,⟨rfl,by simp,rfl,by simp,rfl,by simp,Gb⟩,λk hk=>hk,rfl,rfl,z01 rfl oM0,i+1,z03 hlt,⟨hlt,i3⟩,Gc,Ge,rfl,rfl,rfl,rfl⟩
 ·have hge:a.length<=i:=z10 (f:=eInt) rfl hc2;rw[i3,Ab hge,eqGo]
  ·exact⟨sI,rfl,rfl,rfl,Gb⟩
  ·intro x r y q hx;cases hx
theorem z2u(u:Un)(f:Fl)(st:List Int)(hs:st.length=f.types.length)(l want:List Int):SC Tryz.prog 200 [.ptr 3 0,.pv (ints l),.pv (ints want)] (ckS u f 3 st) (λ_=>True) (iBool (z0w f.types st l want)) (ckS u f 3 st):=by
 refine SC.sameR (SC.vc tb { ids:=[(3,5)] } [3,4] Tryz.func200 rfl rfl ?_) λk h _=>j09 h;exact⟨[3,4,5],sc_eqU u f st hs l want,sR,⟨rfl,rfl,rfl,rfl,by simp,rfl,rfl,by simp,Gb⟩,rfl,sI,rfl,rfl,Gb⟩
theorem z50(u:Un)(f:Fl)(st:List Int)(hs:st.length=f.types.length)(l want:List Int):SC Tryz.prog 202 [.ptr 3 0,.pv (ints l),.pv (ints want)] (ckS u f 3 st) (λk=>k=3) (iBool (z1r f.types st l want).1) (ckS u f 3 (z1r f.types st l want).2):=by
 refine SC.sameR (SC.vc tb { ids:=[(3,5)] } [3] Tryz.func202 rfl rfl ?_) λk _ h=>Ak.2 h;exact⟨[3,5],sc_eqW u f 229 rfl (z5t f.types) (z9t f.types) (λst v t h=>j3e u f st h v t) st hs l want,sR,⟨rfl,rfl,rfl,boq (by rw[Ac,Ac,show(eqf (z5t f.types) st l want).2.length=st.length from z2d f.types st l want]),by simp,rfl,Gb⟩,rfl,sI,boq (by simp[z2d]),rfl,Gb⟩
theorem y6t(u:Un)(f:Fl)(st:List Int)(hs:st.length=f.types.length)(l:List Int)(hb:l.length<=34359738368):SC Tryz.prog 201 [.ptr 3 0,.pv (ints l)] (ckS u f 3 st) (λk=>k=3) (iBool (z1r f.types st l (List.replicate l.length 0)).1) (ckS u f 3 (z1r f.types st l (List.replicate l.length 0)).2):=by
 refine SC.sameR (SC.vc tb { pb:=[109] } [3] Tryz.func201 rfl rfl ?_) λk _ h=>Ak.2 h;have h:=z50 u f st hs l (List.replicate l.length 0);refine⟨rfl,VNum.mk (n:=l.length) (by rw[Ac]) oM0 ?_⟩;exact⟨[3],h,SubA.same (SubA.same (SubA.cons (sE (by simp[ints,eInt];exact .inr rfl)) SubA.nil)),⟨rfl,boq (by simp[z2d]),rfl,rfl,Gb⟩,rfl,sI,boq (by simp[z2d]),rfl,Gb⟩
theorem yh7(st l:List Int)(x:Int):z3l st (l++[x])=(z3l st l).set x.toNat 2:=by simp[z3l]
theorem y9h(u:Un)(f:Fl)(st:List Int)(hs:st.length=f.types.length)(l:List Int)(hin:∀v∈l,0<=v/\v<f.types.length):SC Tryz.prog 128 [.ptr 3 0,.pv (ints l)] (ckS u f 3 st) (λk=>k=3) (.tup []) (ckS u f 3 (z3l st l)):=by
 refine SC.sameR (SC.vc tb { gh:=[(0,[.len 1])] } [3] Tryz.func128 rfl rfl ?_) λk _ h=>Ak.2 h;intro hl;simp only[Ac]at hl;have hl:l.length<=9223372036854775807:=hl;refine⟨Nat,λi=>[(8,iInt ((i:Nat):Int))],λi=>[(4,.row ⟨3,1⟩ ((z3l st (l.take i)).map eInt))],λi=>l.length-i,λi=>i<=l.length,[],0,Ad _,Gc,Gc,?_⟩;intro i hi;have hn:=z4r (l.take i) st;refine z00 (λhc=>?_) λhc=>?_
 ·have hlt:i<l.length:=z0z (f:=eInt) rfl hc;obtain⟨x,x1,x2,x3,x4⟩:=z0p hlt;obtain⟨g1,g2⟩:=hin x x4;exact⟨z02 (f:=eInt) x1,rfl,by simp[hn],VIdR.mk (i:=x.toNat) (by rw[Ac];omega) oM0 ⟨x.toNat,0,_,by simp[hn],rfl,z02 (f:=eInt) (z3p oM0),by simp[eInt],z01 rfl oM0,i+1,z03 hlt,hlt,Gc,⟨rwq (by rw[x2,yh7];simp[eInt,Bs]),Gb⟩,rfl,rfl,rfl,rfl⟩⟩
 ·have hge:l.length<=i:=z10 (f:=eInt) rfl hc;rw[Av hge];exact⟨sI,boq (by simp[z4r]),rfl,Gb⟩
theorem zt0(u:Un)(f:Fl)(st:List Int)(hs:st.length=f.types.length)(l:List Int)(hb:l.length<=34359738368):SC Tryz.prog 199 [.ptr 3 0,.pv (ints l)] (ckS u f 3 st) (λk=>k<100) (.pv (ints (r8of f.types l))) (ckS u f 3 st):=by
 refine SC.sameR (SC.vc tb { gh:=[(1,[.grow 4 1001 3 1]),(8,[.fz 4 1001])] } [3,4] Tryz.func199 rfl rfl ?_) λk h _=>j09 h;have hr:∀x,z93 f.types x 0=zi4 f.types x:=λx=>by simp[z93,zi4]
 refine⟨Nat,λi=>[(9,iInt ((i:Nat):Int)),(4,.sl 1001 (((l.take i).map λv=>f.types.getD v.toNat 0).map eInt).length)],λi=>[(1001,.row ⟨3,1⟩ (((l.take i).map λv=>f.types.getD v.toNat 0).map eInt))],λi=>l.length-i,λi=>i<=l.length/\(l.take i).all (zi4 f.types)=true,[],0,⟨Ad _,by simp⟩,Gd,Gc,?_⟩;rintro i ⟨hi,ha⟩;refine z00 (λhc=>?_) λhc=>?_
 ·have hlt:i<l.length:=z0z (f:=eInt) rfl hc;obtain⟨x,x1,x2,x3,x4⟩:=z0p hlt;have hV:=y6v u f st x 0;rw[hr]at hV
  cases hv:zi4 f.types x
  ·rw[hv]at hV;have hT:r8of f.types l=[]:=by
    unfold r8of;rw[if_neg];intro h;rw[Be]at h;have:=h x x4;rw[hv]at this;cases this
   rw[hT];exact⟨z02 (f:=eInt) x1,rfl,[3,4],hV,sR,⟨rfl,rfl,Gb,rfl,rfl,Gb,Gb⟩,rfl,sN,rfl,rfl,Gb⟩
  ·rw[hv]at hV;obtain⟨h1,h2,h3⟩:=y75 ((hr x).trans hv);refine⟨z02 (f:=eInt) x1,rfl,[3,4],hV,sR,⟨rfl,rfl,Gb,rfl,rfl,Gb,Gb⟩,rfl,z02 (f:=eInt) (z3p h2),h3,rfl,z3i rfl,by simp;omega,z01 rfl oM0,i+1,z03 hlt,⟨hlt,by rw[x2];simp[ha,hv]⟩,⟨rfl,slq (by rw[x2];simp),Gb⟩,⟨rwq (by rw[x2];simp[eInt]),Gb⟩,rfl,rfl,rfl,rfl⟩
 ·have hge:l.length<=i:=z10 (f:=eInt) rfl hc;rw[Av hge]at ha⊢;have hT:r8of f.types l=l.map λv=>f.types.getD v.toNat 0:=by unfold r8of;rw[if_pos ha]
  rw[hT];exact⟨rfl,sI,rfl,rfl,Gb⟩
theorem ky{d:TypeDesc}{es:List (Value×PV)}(h:(es.all λe=>z1w d e.1)=true):∀e∈es,z1w d e.1=true:=Be.1 h
attribute [local simp] z1j r8op r8num yn2 r8kn Nd.kind Nd.op Nd.n Nd.name Nd.kids Nd.params z2f in
theorem j36(x:Nd):SC Tryz.prog 171 [.pv (ndv x)] [] (λ_=>False) (iBool (z1j x)) []:=by
 refine SC.anyR (SC.vc tb {} [] Tryz.func171 rfl rfl ?_);obtain⟨kind,op,n,name,args,outs,params,kids⟩:=x;rcases(show kind=3∨kind=4∨kind=1∨kind=2∨kind=5∨kind=6∨kind=7∨kind=11∨kind=10∨(kind≠1/\kind≠2/\kind≠3/\kind≠4/\kind≠5/\kind≠6/\kind≠7/\kind≠11/\kind≠10) by omega)with rfl|rfl|rfl|rfl|rfl|rfl|rfl|rfl|rfl|h
 ·exact⟨rfl,ky rfl,rfl,ky rfl,rfl,ky rfl,rfl,z00 (λh3=>z00 (λh2=>z00 (λh1=>⟨sE (Af iBool (by simp_all)),Gb⟩) λh1=>⟨sE (Af iBool (by simp_all)),Gb⟩) λh2=>⟨sE (Af iBool (by simp_all)),Gb⟩) λh3=>⟨sE (Af iBool (by simp_all)),Gb⟩⟩
 ·exact⟨rfl,ky rfl,rfl,ky rfl,rfl,ky rfl,rfl,z00 (λh3=>z00 (λh2=>z00 (λh1=>⟨sE (Af iBool (by simp_all)),Gb⟩) λh1=>⟨sE (Af iBool (by simp_all)),Gb⟩) λh2=>⟨sE (Af iBool (by simp_all)),Gb⟩) λh3=>⟨sE (Af iBool (by simp_all)),Gb⟩⟩
 ·exact⟨rfl,ky rfl,rfl,ky rfl,rfl,ky rfl,rfl,z00 (λh3=>z00 (λh2=>z00 (λh1=>⟨sE (Af iBool (by simp_all)),Gb⟩) λh1=>⟨sE (Af iBool (by simp_all)),Gb⟩) λh2=>⟨sE (Af iBool (by simp_all)),Gb⟩) λh3=>⟨sE (Af iBool (by simp_all)),Gb⟩⟩
 ·exact⟨rfl,ky rfl,rfl,ky rfl,rfl,ky rfl,rfl,z00 (λh3=>z00 (λh2=>z00 (λh1=>⟨sE (Af iBool (by simp_all)),Gb⟩) λh1=>⟨sE (Af iBool (by simp_all)),Gb⟩) λh2=>⟨sE (Af iBool (by simp_all)),Gb⟩) λh3=>⟨sE (Af iBool (by simp_all)),Gb⟩⟩
 ·exact⟨rfl,ky rfl,rfl,ky rfl,rfl,ky rfl,rfl,z00 (λh4=>z00 (λh3=>z00 (λh2=>z00 (λh1=>⟨sE (Af iBool (by simp_all)),Gb⟩) λh1=>⟨sE (Af iBool (by simp_all)),Gb⟩) λh2=>⟨sE (Af iBool (by simp_all)),Gb⟩) λh3=>⟨sE (Af iBool (by simp_all)),Gb⟩) λh4=>⟨sE (Af iBool (by simp_all)),Gb⟩⟩
 ·exact⟨rfl,ky rfl,rfl,ky rfl,rfl,ky rfl,rfl,z00 (λh4=>z00 (λh3=>z00 (λh2=>z00 (λh1=>⟨sE (Af iBool (by simp_all)),Gb⟩) λh1=>⟨sE (Af iBool (by simp_all)),Gb⟩) λh2=>⟨sE (Af iBool (by simp_all)),Gb⟩) λh3=>⟨sE (Af iBool (by simp_all)),Gb⟩) λh4=>⟨sE (Af iBool (by simp_all)),Gb⟩⟩
 ·exact⟨rfl,ky rfl,rfl,ky rfl,rfl,ky rfl,rfl,z00 (λh4=>z00 (λh3=>z00 (λh2=>z00 (λh1=>⟨sE (Af iBool (by simp_all)),Gb⟩) λh1=>⟨sE (Af iBool (by simp_all)),Gb⟩) λh2=>⟨sE (Af iBool (by simp_all)),Gb⟩) λh3=>⟨sE (Af iBool (by simp_all)),Gb⟩) λh4=>⟨sE (Af iBool (by simp_all)),Gb⟩⟩
 ·exact⟨rfl,ky rfl,rfl,ky rfl,rfl,ky rfl,rfl,z00 (λh3=>z00 (λh2=>z00 (λh1=>⟨sE (Af iBool (by simp_all)),Gb⟩) λh1=>⟨sE (Af iBool (by simp_all)),Gb⟩) λh2=>⟨sE (Af iBool (by simp_all)),Gb⟩) λh3=>⟨sE (Af iBool (by simp_all)),Gb⟩⟩
 ·exact⟨rfl,ky rfl,rfl,ky rfl,rfl,ky rfl,rfl,z00 (λh4=>z00 (λh3=>z00 (λh2=>z00 (λh1=>⟨sE (Af iBool (by simp_all)),Gb⟩) λh1=>⟨sE (Af iBool (by simp_all)),Gb⟩) λh2=>⟨sE (Af iBool (by simp_all)),Gb⟩) λh3=>⟨sE (Af iBool (by simp_all)),Gb⟩) λh4=>⟨sE (Af iBool (by simp_all)),Gb⟩⟩
 ·obtain⟨k1,k2,k3,k4,k5,k6,k7,k8,k9⟩:=h;have no:∀{i:Int},kind≠i->(kind==i)=true->False:=λh e=>h (eq_of_beq e);exact⟨rfl,ky rfl,rfl,ky rfl,VAsk.mk (p:=vInt 0) (b:=false) rfl (ky rfl) (by simp[Nd.kind,k8,k9,mput,keyB,z1m]<;>rfl) (z00 (λh=>(no k3 h).elim) λ_=>z00 (λh=>(no k4 h).elim) λ_=>z00 (λh=>(no k1 h).elim) λ_=>z00 (λh=>(no k2 h).elim) λ_=>z00 (λh=>(no k5 h).elim) λ_=>z00 (λh=>(no k6 h).elim) λ_=>z00 (λh=>(no k7 h).elim) λ_=>z00 (λh=>(no k8 h).elim) λ_=>z00 (λh4=>z00 (λh3=>z00 (λh2=>z00 (λh1=>⟨sE (Af iBool (by simp_all)),Gb⟩) λh1=>⟨sE (Af iBool (by simp_all)),Gb⟩) λh2=>⟨sE (Af iBool (by simp_all)),Gb⟩) λh3=>⟨sE (Af iBool (by simp_all)),Gb⟩) λh4=>⟨sE (Af iBool (by simp_all)),Gb⟩)⟩
theorem yp6(u:Un)(f:Fl)(st:List Int)(hs:st.length=f.types.length)(x:Nd):SC Tryz.prog 203 [.ptr 3 0,.pv (ndv x)] (ckS u f 3 st) (λk=>k=3) (iBool (y9t f st x).1) (ckS u f 3 (y9t f st x).2):=by
 refine SC.sameR (SC.vc tb { pb:=[103] } [3] Tryz.func203 rfl rfl ?_) λk _ h=>Ak.2 h;unfold y9t;have hO:=y9i x.op;generalize z38 x.op=q at hO⊢;obtain⟨a,b⟩:=q;dsimp only at hO⊢;have hS:=z50 u f st hs x.outs [b];refine⟨[],hO,sR,Gb,rfl,z00 (λh=>?_) λh=>?_⟩
 ·rw[if_pos h];have hU:=z2u u f st hs x.args [a];refine z00 (λh1=>z00 (λh2=>?_) λh2=>?_) λh1=>?_
  ·rw[show z2w x.op=true by unfold z2w;rw[show decide (x.op≥20)=true from h1,show decide (x.op<=28)=true from h2];rfl,B0];generalize z0w f.types st x.args [a]=c at hU⊢
   cases c
   ·exact⟨[],hU,sR,⟨rfl,Gb,rfl,Gb⟩,rfl,sI,rfl,rfl,Gb⟩
   ·exact⟨[],hU,sR,⟨rfl,Gb,rfl,Gb⟩,rfl,[],hS,sR,Ge,rfl,sI,rfl,rfl,Gb⟩
  ·rw[show z2w x.op=false by unfold z2w;rw[show decide (x.op≥20)=true from h1,show decide (x.op<=28)=false from h2];rfl,Cn];exact⟨sI,rfl,rfl,Gb⟩
  ·rw[show z2w x.op=false by unfold z2w;rw[show decide (x.op≥20)=false from h1];rfl,Cn];exact⟨sI,rfl,rfl,Gb⟩
 ·rw[if_neg (by rw[show(x.kind==3)=false from h];decide)];have hU:=z2u u f st hs x.args [a,a];have hL:=y9n x.op;refine⟨[],hL,sR,Gb,rfl,z00 (λh1=>z00 (λh2=>?_) λh2=>?_) λh1=>?_⟩
  ·rw[show decide (z4j x.op > 0)=true from h1,show decide (x.op<=17)=true from h2,B0,B0]
   cases hc:z0w f.types st x.args [a,a]
   ·rw[hc]at hU;exact⟨[],hU,sR,⟨rfl,Gb,rfl,Gb⟩,rfl,sI,rfl,rfl,Gb⟩
   ·rw[hc]at hU;obtain⟨v,w,e0,e1,e2,e3,e4⟩:=yy1 hc;have hi0:(x.args.map eInt)[0]?=some [vInt v]:=by rw[e0];rfl
    have hi1:(x.args.map eInt)[1]?=some [vInt w]:=by rw[e0];rfl
    rw[show x.args.getD 0 0=v by rw[e0];rfl,show x.args.getD 1 0=w by rw[e0];rfl,B0];refine⟨[],hU,sR,⟨rfl,Gb,rfl,Gb⟩,rfl,hi0,rfl,z02 (f:=eInt) (z3p e2),e1,hi1,rfl,z02 (f:=eInt) (z3p e4),e3,z00 (λh3=>?_) λh3=>?_⟩
    ·rw[show(f.types.getD v.toNat 0==f.types.getD w.toNat 0)=true from h3];exact⟨[],hS,sR,Ge,rfl,sI,rfl,rfl,Gb⟩
    ·rw[show(f.types.getD v.toNat 0==f.types.getD w.toNat 0)=false from h3];exact⟨sI,rfl,rfl,Gb⟩
  ·rw[show decide (z4j x.op > 0)=true from h1,show decide (x.op<=17)=false from h2];exact⟨sI,rfl,rfl,Gb⟩
  ·rw[show decide (z4j x.op > 0)=false from h1];exact⟨sI,rfl,rfl,Gb⟩
theorem sc_shEnd(u:Un)(f:Fl)(st:List Int)(hs:st.length=f.types.length)(x:Nd)(wh:Wh):SC Tryz.prog 175 [.ptr 3 0,.pv (ndv x),.pv (whv wh)] (ckS u f 3 st) (λk=>k=3) (iBool (y9q f st x wh)) (ckS u f 3 st):=by
 refine SC.sameR (SC.vc tb { pb:=[104,105] } [3] Tryz.func175 rfl rfl ?_) λk _ h=>Ak.2 h;unfold y9q;have hl:(x.outs.map eInt).length=x.outs.length:=Ac _;generalize hZ:((x.outs.length:Int)==0)=z;have hZ':(((x.outs.map eInt).length:Int)==0)=z:=by rw[hl];exact hZ
 rw[<- hZ'];have hY:=z2u u f st hs x.args wh.Yield;have hN:=z2u u f st hs x.args wh.Next;have hL:=z2u u f st hs x.args wh.Left;have hT:=z2u u f st hs x.args [f.ty];refine z00 (λh12=>?_) λh12=>z00 (λh13=>?_) λh13=>z00 (λh14=>?_) λh14=>?_
 ·rw[if_pos h12];refine z00 (λh1=>?_) λh1=>?_
  ·rw[show(((x.outs.map eInt).length:Int)==0)=true from h1,B0];refine z00 (λh2=>?_) λh2=>?_
   ·rw[show wh.If=true from h2,B0];exact⟨[],hY,sR,⟨rfl,Gb,rfl,Gb⟩,rfl,sI,rfl,rfl,Gb⟩
   ·rw[show wh.If=false from h2];exact⟨sI,rfl,rfl,Gb⟩
  ·rw[show(((x.outs.map eInt).length:Int)==0)=false from h1];exact⟨sI,rfl,rfl,Gb⟩
 ·rw[if_neg (by rw[show(x.kind==12)=false from h12];decide),if_pos h13];refine z00 (λh1=>?_) λh1=>?_
  ·rw[show(((x.outs.map eInt).length:Int)==0)=true from h1,B0];refine z00 (λh2=>?_) λh2=>?_
   ·rw[show wh.Loop=true from h2,B0];exact⟨[],hN,sR,⟨rfl,Gb,rfl,Gb⟩,rfl,sI,rfl,rfl,Gb⟩
   ·rw[show wh.Loop=false from h2];exact⟨sI,rfl,rfl,Gb⟩
  ·rw[show(((x.outs.map eInt).length:Int)==0)=false from h1];exact⟨sI,rfl,rfl,Gb⟩
 ·rw[if_neg (by rw[show(x.kind==12)=false from h12];decide),if_neg (by rw[show(x.kind==13)=false from h13];decide),if_pos h14];refine z00 (λh1=>?_) λh1=>?_
  ·rw[show(((x.outs.map eInt).length:Int)==0)=true from h1,B0];refine z00 (λh2=>?_) λh2=>?_
   ·rw[show wh.Loop=true from h2,B0];exact⟨[],hL,sR,⟨rfl,Gb,rfl,Gb⟩,rfl,sI,rfl,rfl,Gb⟩
   ·rw[show wh.Loop=false from h2];exact⟨sI,rfl,rfl,Gb⟩
  ·rw[show(((x.outs.map eInt).length:Int)==0)=false from h1];exact⟨sI,rfl,rfl,Gb⟩
 ·rw[if_neg (by rw[show(x.kind==12)=false from h12];decide),if_neg (by rw[show(x.kind==13)=false from h13];decide),if_neg (by rw[show(x.kind==14)=false from h14];decide)];refine z00 (λh1=>?_) λh1=>?_
  ·rw[show(((x.outs.map eInt).length:Int)==0)=true from h1,B0];exact⟨[],hT,sR,⟨rfl,Gb,rfl,Gb⟩,rfl,sI,rfl,rfl,Gb⟩
  ·rw[show(((x.outs.map eInt).length:Int)==0)=false from h1];exact⟨sI,rfl,rfl,Gb⟩
theorem yh3(u:Un)(f:Fl)(st:List Int)(hs:st.length=f.types.length)(hg:∀g∈u.flows,0<=g.params/\g.params<=g.types.length)(x:Nd):SC Tryz.prog 176 [.ptr 3 0,.pv (ndv x)] (ckS u f 3 st) (λk=>k=3) (iBool (z2l u f st x).1) (ckS u f 3 (z2l u f st x).2):=by
 refine SC.sameR (SC.vc tb {} [3] Tryz.func176 rfl rfl ?_) λk _ h=>Ak.2 h;obtain⟨kind,op,n,name,args,outs,params,kids⟩:=x;rcases(show kind=1∨kind=2∨kind=3∨kind=4∨kind=5∨kind=6∨kind=8∨kind=9∨kind=7∨(kind≠1/\kind≠2/\kind≠3/\kind≠4/\kind≠5/\kind≠6/\kind≠8/\kind≠9/\kind≠7) by omega)with rfl|rfl|rfl|rfl|rfl|rfl|rfl|rfl|rfl|h
 ·have e:z2l u f st (.mk 1 op n name args outs params kids)=andP (z0w f.types st args []) st (z1r f.types st outs [1]):=rfl;rw[e];have h1:=z2u u f st hs args [];generalize z0w f.types st args []=b at h1⊢
  cases b
  ·exact⟨[],h1,SubA.same (SubA.same (SubA.cons sN SubA.nil)),⟨rfl,Gb,rfl,Gb⟩,rfl,sI,rfl,rfl,Gb⟩
  ·exact⟨[],h1,SubA.same (SubA.same (SubA.cons sN SubA.nil)),⟨rfl,Gb,rfl,Gb⟩,rfl,[],z50 u f st hs outs [1],sR,Ge,rfl,sI,rfl,rfl,Gb⟩
 ·have e:z2l u f st (.mk 2 op n name args outs params kids)=andP ((n==0||n==1)&&z0w f.types st args []) st (z1r f.types st outs [2]):=rfl;rw[e];have h1:=z2u u f st hs args [];generalize z0w f.types st args []=b at h1⊢;rcases(show n=0∨n=1∨((n==0)=false/\(n==1)=false) by simp;omega)with rfl|rfl|⟨h2,h3⟩
  ·cases b
   ·exact⟨[],h1,SubA.same (SubA.same (SubA.cons sN SubA.nil)),⟨rfl,Gb,rfl,Gb⟩,rfl,sI,rfl,rfl,Gb⟩
   ·exact⟨[],h1,SubA.same (SubA.same (SubA.cons sN SubA.nil)),⟨rfl,Gb,rfl,Gb⟩,rfl,[],z50 u f st hs outs [2],sR,Ge,rfl,sI,rfl,rfl,Gb⟩
  ·cases b
   ·exact⟨[],h1,SubA.same (SubA.same (SubA.cons sN SubA.nil)),⟨rfl,Gb,rfl,Gb⟩,rfl,sI,rfl,rfl,Gb⟩
   ·exact⟨[],h1,SubA.same (SubA.same (SubA.cons sN SubA.nil)),⟨rfl,Gb,rfl,Gb⟩,rfl,[],z50 u f st hs outs [2],sR,Ge,rfl,sI,rfl,rfl,Gb⟩
  ·rw[show((n==0||n==1)&&b)=false by rw[h2,h3];rfl];refine z00 (λh=>absurd (h.symm.trans h2) dC0) λ_=>z00 (λh=>absurd (h.symm.trans h3) dC0) λ_=>?_;exact⟨sI,rfl,rfl,Gb⟩
 ·exact⟨[],yp6 u f st hs (.mk 3 op n name args outs params kids),sR,Ge,rfl,sI,rfl,rfl,Gb⟩
 ·exact⟨[],yp6 u f st hs (.mk 4 op n name args outs params kids),sR,Ge,rfl,sI,rfl,rfl,Gb⟩
 ·have e:z2l u f st (.mk 5 op n name args outs params kids)=andP (decide (z0h name u.arrays 0≥0)&&z0w f.types st args [1]) st (z1r f.types st outs [1]):=rfl;rw[e];have h0:=yp5 u name;have h1:=z2u u f st hs args [1];generalize z0w f.types st args [1]=b at h1⊢;generalize decide (z0h name u.arrays 0≥0)=c at h0⊢
  cases c
  ·exact⟨[],h0,sR,Gb,rfl,sI,rfl,rfl,Gb⟩
  ·cases b
   ·exact⟨[],h0,sR,Gb,rfl,[],h1,sR,⟨rfl,Gb,rfl,Gb⟩,rfl,sI,rfl,rfl,Gb⟩
   ·exact⟨[],h0,sR,Gb,rfl,[],h1,sR,⟨rfl,Gb,rfl,Gb⟩,rfl,[],z50 u f st hs outs [1],sR,Ge,rfl,sI,rfl,rfl,Gb⟩
 ·have e:z2l u f st (.mk 6 op n name args outs params kids)=andP (decide (z0h name u.arrays 0≥0)&&z0w f.types st args [1,1]) st (z1r f.types st outs []):=rfl;rw[e];have h0:=yp5 u name;have h1:=z2u u f st hs args [1,1];generalize z0w f.types st args [1,1]=b at h1⊢;generalize decide (z0h name u.arrays 0≥0)=c at h0⊢
  cases c
  ·exact⟨[],h0,sR,Gb,rfl,sI,rfl,rfl,Gb⟩
  ·cases b
   ·exact⟨[],h0,sR,Gb,rfl,[],h1,sR,⟨rfl,Gb,rfl,Gb⟩,rfl,sI,rfl,rfl,Gb⟩
   ·exact⟨[],h0,sR,Gb,rfl,[],h1,sR,⟨rfl,Gb,rfl,Gb⟩,rfl,[],z50 u f st hs outs [],SubA.same (SubA.same (SubA.cons sN SubA.nil)),Ge,rfl,sI,rfl,rfl,Gb⟩
 ·have e:z2l u f st (.mk 8 op n name args outs params kids)=andP (z0w f.types st args []) st (z1r f.types st outs [1]):=rfl;rw[e];have h1:=z2u u f st hs args [];generalize z0w f.types st args []=b at h1⊢
  cases b
  ·exact⟨[],h1,SubA.same (SubA.same (SubA.cons sN SubA.nil)),⟨rfl,Gb,rfl,Gb⟩,rfl,sI,rfl,rfl,Gb⟩
  ·exact⟨[],h1,SubA.same (SubA.same (SubA.cons sN SubA.nil)),⟨rfl,Gb,rfl,Gb⟩,rfl,[],z50 u f st hs outs [1],sR,Ge,rfl,sI,rfl,rfl,Gb⟩
 ·have e:z2l u f st (.mk 9 op n name args outs params kids)=andP (z0w f.types st args [1]) st (z1r f.types st outs []):=rfl;rw[e];have h1:=z2u u f st hs args [1];generalize z0w f.types st args [1]=b at h1⊢
  cases b
  ·exact⟨[],h1,sR,⟨rfl,Gb,rfl,Gb⟩,rfl,sI,rfl,rfl,Gb⟩
  ·exact⟨[],h1,sR,⟨rfl,Gb,rfl,Gb⟩,rfl,[],z50 u f st hs outs [],SubA.same (SubA.same (SubA.cons sN SubA.nil)),Ge,rfl,sI,rfl,rfl,Gb⟩
 ·have e:z2l u f st (.mk 7 op n name args outs params kids)=zx4 u f st (.mk 7 op n name args outs params kids):=rfl;rw[e];refine⟨[],zf2 u name,sR,Gb,rfl,z00 (λhc=>?_) λhc=>?_⟩
  ·rw[show zx4 u f st (.mk 7 op n name args outs params kids)=(false,st)from if_pos (An hc)];exact⟨sI,rfl,rfl,Gb⟩
  ·have hl:¬z05 name u.flows 0<0:=Al hc;have hk0:z05 name u.flows 0≥0:=by omega
   obtain⟨g,hgk,_⟩:=ze6 hk0;obtain⟨hgp0,hgpl⟩:=hg g (Ag hgk);have e2:zx4 u f st (.mk 7 op n name args outs params kids)=andP (z0w f.types st args (g.types.take g.params.toNat)) st (z1r f.types st outs [g.ty]):=by
    show(if z05 name u.flows 0<0 then _ else match u.flows[(z05 name u.flows 0).toNat]? with|some g=>_|none=>_)=_;rw[if_neg hl,hgk];rfl
   rw[e2];have h1:=z2u u f st hs args (g.types.take g.params.toNat);generalize z0w f.types st args (g.types.take g.params.toNat)=b at h1⊢;have hi:=z02 (f:=Fl.enc) hgk;have hkn:(((z05 name u.flows 0).toNat:Nat):Int)=z05 name u.flows 0:=by omega
   have hpn:((g.params.toNat:Nat):Int)=g.params:=by omega
   have hle:0<=g.params.toNat:=Ad _;have hge:g.params.toNat<=(g.types.map eInt).length:=by simp;omega
   cases b
   ·exact⟨hi,hkn.symm,_,hpn.symm,hle,hge,zl2,[],h1,SubA.same (SubA.same (SubA.cons (sP (by simp only[ints,Ea];exact PSub.refl _)) SubA.nil)),⟨rfl,Gb,rfl,Gb⟩,rfl,sI,rfl,rfl,Gb⟩
   ·exact⟨hi,hkn.symm,_,hpn.symm,hle,hge,zl2,[],h1,SubA.same (SubA.same (SubA.cons (sP (by simp only[ints,Ea];exact PSub.refl _)) SubA.nil)),⟨rfl,Gb,rfl,Gb⟩,rfl,[],z50 u f st hs outs [g.ty],sR,Ge,rfl,sI,rfl,rfl,Gb⟩
 ·obtain⟨h1,h2,h3,h4,h5,h6,h8,h9,h7⟩:=h;rw[show z2l u f st (.mk kind op n name args outs params kids)=(false,st) by unfold z2l;simp[Nd.kind,h1,h2,h3,h4,h5,h6,h7,h8,h9]];have no:∀{i:Int},kind≠i->(kind==i)=true->False:=λh e=>h (eq_of_beq e);exact z00 (λh=>(no h1 h).elim) λ_=>z00 (λh=>(no h2 h).elim) λ_=>z00 (λh=>(no h3 h).elim) λ_=>z00 (λh=>(no h4 h).elim) λ_=>z00 (λh=>(no h5 h).elim) λ_=>z00 (λh=>(no h6 h).elim) λ_=>z00 (λh=>(no h8 h).elim) λ_=>z00 (λh=>(no h9 h).elim) λ_=>z00 (λh=>(no h7 h).elim) λ_=>⟨sI,rfl,rfl,Gb⟩
theorem y00(f:Fl){x:Nd}(st:List Int){c:Bool}(h:((x.outs.length:Int)==0 || !z08 x)=c):z4g f x st=andP c st (z1r f.types st x.outs (List.replicate x.outs.length 0)):=by rw[z4g,h]
theorem yh1(u:Un)(f:Fl)(st:List Int)(hs:st.length=f.types.length)(x:Nd)(ka kb:List Nd)(hkids:x.kids=[ka,kb])(wh:Wh)(deep:Int)(hbo:x.outs.length<=34359738368)(ih:∀q∈x.kids,∀(w:Wh)(st:List Int),st.length=f.types.length->SC Tryz.prog 72 [.ptr 3 0,.pv (z1n q),.pv (whv w),iInt deep] (ckS u f 3 st) (λk=>k=3) (iBool (z25 u f deep w st q).1) (ckS u f 3 (z25 u f deep w st q).2)):SC Tryz.prog 172 [.ptr 3 0,.pv (ndv x),.pv (whv wh),iInt deep] (ckS u f 3 st) (λk=>k=3) (iBool (if z0w f.types st x.args [2]then andQ (z25 u f deep ⟨true,wh.Loop,r8of f.types x.outs,wh.Next,wh.Left⟩ st ka) (λs1=>andQ (z25 u f deep ⟨true,wh.Loop,r8of f.types x.outs,wh.Next,wh.Left⟩ s1 kb) λs2=>z4g f x s2)else(false,st)).1) (ckS u f 3 (if z0w f.types st x.args [2]then andQ (z25 u f deep ⟨true,wh.Loop,r8of f.types x.outs,wh.Next,wh.Left⟩ st ka) (λs1=>andQ (z25 u f deep ⟨true,wh.Loop,r8of f.types x.outs,wh.Next,wh.Left⟩ s1 kb) λs2=>z4g f x s2)else(false,st)).2):=by
 refine SC.sameR (SC.vc tb {} [3] Tryz.func172 rfl rfl ?_) λk _ h=>Ak.2 h;have hi0:(x.kids.map eKid)[0]?=some [z1n ka]:=by rw[hkids];rfl
 have hi1:(x.kids.map eKid)[1]?=some [z1n kb]:=by rw[hkids];rfl
 have hm0:ka∈x.kids:=by rw[hkids];exact .head _
 have hm1:kb∈x.kids:=by rw[hkids];exact .tail _ (.head _)
 have hT:=zt0 u f st hs x.outs hbo;have h1:=z2u u f st hs x.args [2];have h2:=ih ka hm0 ⟨true,wh.Loop,r8of f.types x.outs,wh.Next,wh.Left⟩ st hs;have l2:=(z9r u f deep ⟨true,wh.Loop,r8of f.types x.outs,wh.Next,wh.Left⟩ st ka).trans hs;have hC:=zj4 x;generalize z0w f.types st x.args [2]=b1 at h1⊢;generalize z25 u f deep ⟨true,wh.Loop,r8of f.types x.outs,wh.Next,wh.Left⟩ st ka=R2 at h2 l2⊢;obtain⟨b2,st2⟩:=R2;have h3:=ih kb hm1 ⟨true,wh.Loop,r8of f.types x.outs,wh.Next,wh.Left⟩ st2 l2;have l3:=(z9r u f deep ⟨true,wh.Loop,r8of f.types x.outs,wh.Next,wh.Left⟩ st2 kb).trans l2
 cases b1
 ·exact⟨[],hT,sR,⟨rfl,by decide,rfl,Gb⟩,rfl,[],h1,sR,⟨rfl,Gb,rfl,Gb⟩,rfl,sI,rfl,rfl,Gb⟩
 cases b2
 ·exact⟨[],hT,sR,⟨rfl,by decide,rfl,Gb⟩,rfl,[],h1,sR,⟨rfl,Gb,rfl,Gb⟩,rfl,hi0,rfl,[],h2,sR,Ge,rfl,sI,rfl,rfl,Gb⟩
 rw[show andQ (true,st2) (λs1=>andQ (z25 u f deep ⟨true,wh.Loop,r8of f.types x.outs,wh.Next,wh.Left⟩ s1 kb) λs2=>z4g f x s2)=andQ (z25 u f deep ⟨true,wh.Loop,r8of f.types x.outs,wh.Next,wh.Left⟩ st2 kb) (λs2=>z4g f x s2)from rfl];generalize z25 u f deep ⟨true,wh.Loop,r8of f.types x.outs,wh.Next,wh.Left⟩ st2 kb=R3 at h3 l3⊢;obtain⟨b3,st3⟩:=R3
 cases b3
 ·exact⟨[],hT,sR,⟨rfl,by decide,rfl,Gb⟩,rfl,[],h1,sR,⟨rfl,Gb,rfl,Gb⟩,rfl,hi0,rfl,[],h2,sR,Ge,rfl,hi1,rfl,[],h3,sR,Ge,rfl,sI,rfl,rfl,Gb⟩
 rw[show andQ (true,st3) (λs2=>z4g f x s2)=z4g f x st3 from rfl];have hA:=y6t u f st3 l3 x.outs hbo;refine⟨[],hT,sR,⟨rfl,by decide,rfl,Gb⟩,rfl,[],h1,sR,⟨rfl,Gb,rfl,Gb⟩,rfl,hi0,rfl,[],h2,sR,Ge,rfl,hi1,rfl,[],h3,sR,Ge,rfl,z00 (λh=>?_) λh=>?_⟩
 ·rw[y00 f st3 (c:=true) (by rw[Ac]at h;rw[h,B7])];exact⟨[],hA,sR,Ge,rfl,sI,rfl,rfl,Gb⟩
 ·rw[Ac]at h;have hq:((x.outs.length:Int)==0 || !z08 x) = !z08 x:=by rw[h,Bv]
  rw[y00 f st3 hq];generalize z08 x=c at hC⊢
  cases c
  ·exact⟨[],hC,sR,Gb,rfl,[],hA,sR,Ge,rfl,sI,rfl,rfl,Gb⟩
  ·exact⟨[],hC,sR,Gb,rfl,sI,rfl,rfl,Gb⟩
theorem j3c(u:Un)(f:Fl)(st:List Int)(hs:st.length=f.types.length)(x:Nd)(ka:List Nd)(hkids:x.kids=[ka])(deep:Int)(hbo:x.outs.length<=34359738368)(hbp:x.params.length<=34359738368)(ih:∀q∈x.kids,∀(w:Wh)(st:List Int),st.length=f.types.length->SC Tryz.prog 72 [.ptr 3 0,.pv (z1n q),.pv (whv w),iInt deep] (ckS u f 3 st) (λk=>k=3) (iBool (z25 u f deep w st q).1) (ckS u f 3 (z25 u f deep w st q).2)):SC Tryz.prog 173 [.ptr 3 0,.pv (ndv x),iInt deep] (ckS u f 3 st) (λk=>k=3) (iBool (if z0w f.types st x.args (r8of f.types x.params)then andQ (z1r f.types st x.params (List.replicate x.params.length 0)) (λs1=>andQ (z25 u f deep ⟨false,true,[],r8of f.types x.params,r8of f.types x.outs⟩ s1 ka) λs2=>z4g f x (z3l s2 x.params))else(false,st)).1) (ckS u f 3 (if z0w f.types st x.args (r8of f.types x.params)then andQ (z1r f.types st x.params (List.replicate x.params.length 0)) (λs1=>andQ (z25 u f deep ⟨false,true,[],r8of f.types x.params,r8of f.types x.outs⟩ s1 ka) λs2=>z4g f x (z3l s2 x.params))else(false,st)).2):=by
 refine SC.sameR (SC.vc tb {} [3] Tryz.func173 rfl rfl ?_) λk _ h=>Ak.2 h;have hi0:(x.kids.map eKid)[0]?=some [z1n ka]:=by rw[hkids];rfl
 have hm0:ka∈x.kids:=by rw[hkids];exact .head _
 have hT:=zt0 u f st hs x.params hbp;have hT2:=zt0 u f st hs x.outs hbo;have h1:=z2u u f st hs x.args (r8of f.types x.params);have hA1:=y6t u f st hs x.params hbp;have l1:=(z2d f.types st x.params (List.replicate x.params.length 0)).trans hs;have hC:=zj4 x;generalize z0w f.types st x.args (r8of f.types x.params)=b1 at h1⊢
 cases b1
 ·exact⟨[],hT,sR,⟨rfl,by decide,rfl,Gb⟩,rfl,[],hT2,sR,⟨rfl,by decide,rfl,Gb⟩,rfl,[],h1,sR,⟨rfl,Gb,rfl,Gb⟩,rfl,sI,rfl,rfl,Gb⟩
 have hpin:(z1r f.types st x.params (List.replicate x.params.length 0)).1=true->∀v∈x.params,0<=v/\v<f.types.length:=λh=>y2c h;generalize z1r f.types st x.params (List.replicate x.params.length 0)=R2 at hA1 l1 hpin⊢;obtain⟨b2,st1⟩:=R2
 cases b2
 ·exact⟨[],hT,sR,⟨rfl,by decide,rfl,Gb⟩,rfl,[],hT2,sR,⟨rfl,by decide,rfl,Gb⟩,rfl,[],h1,sR,⟨rfl,Gb,rfl,Gb⟩,rfl,[],hA1,sR,Ge,rfl,sI,rfl,rfl,Gb⟩
 have hpin:=hpin rfl;have h2:=ih ka hm0 ⟨false,true,[],r8of f.types x.params,r8of f.types x.outs⟩ st1 l1;have l2:=(z9r u f deep ⟨false,true,[],r8of f.types x.params,r8of f.types x.outs⟩ st1 ka).trans l1;rw[show andQ (true,st1) (λs1=>andQ (z25 u f deep ⟨false,true,[],r8of f.types x.params,r8of f.types x.outs⟩ s1 ka) λs2=>z4g f x (z3l s2 x.params))=andQ (z25 u f deep ⟨false,true,[],r8of f.types x.params,r8of f.types x.outs⟩ st1 ka) (λs2=>z4g f x (z3l s2 x.params))from rfl];generalize z25 u f deep ⟨false,true,[],r8of f.types x.params,r8of f.types x.outs⟩ st1 ka=R3 at h2 l2⊢;obtain⟨b3,st2⟩:=R3
 cases b3
 ·exact⟨[],hT,sR,⟨rfl,by decide,rfl,Gb⟩,rfl,[],hT2,sR,⟨rfl,by decide,rfl,Gb⟩,rfl,[],h1,sR,⟨rfl,Gb,rfl,Gb⟩,rfl,[],hA1,sR,Ge,rfl,hi0,rfl,[],h2,SubA.same (SubA.same (SubA.cons (sP (z0c _)) sR)),Ge,rfl,sI,rfl,rfl,Gb⟩
 have hH:=y9h u f st2 l2 x.params hpin;have l3:=(z4r x.params st2).trans l2;rw[show andQ (true,st2) (λs2=>z4g f x (z3l s2 x.params))=z4g f x (z3l st2 x.params)from rfl];generalize z3l st2 x.params=st3 at hH l3⊢;have hA:=y6t u f st3 l3 x.outs hbo;refine⟨[],hT,sR,⟨rfl,by decide,rfl,Gb⟩,rfl,[],hT2,sR,⟨rfl,by decide,rfl,Gb⟩,rfl,[],h1,sR,⟨rfl,Gb,rfl,Gb⟩,rfl,[],hA1,sR,Ge,rfl,hi0,rfl,[],h2,SubA.same (SubA.same (SubA.cons (sP (z0c _)) sR)),Ge,rfl,[],hH,sR,Ge,rfl,z00 (λh=>?_) λh=>?_⟩
 ·rw[y00 f st3 (c:=true) (by rw[Ac]at h;rw[h,B7])];exact⟨[],hA,sR,Ge,rfl,sI,rfl,rfl,Gb⟩
 ·rw[Ac]at h;have hq:((x.outs.length:Int)==0 || !z08 x) = !z08 x:=by rw[h,Bv]
  rw[y00 f st3 hq];generalize z08 x=c at hC⊢
  cases c
  ·exact⟨[],hC,sR,Gb,rfl,[],hA,sR,Ge,rfl,sI,rfl,rfl,Gb⟩
  ·exact⟨[],hC,sR,Gb,rfl,sI,rfl,rfl,Gb⟩
theorem j3d(u:Un)(f:Fl)(hg:∀g∈u.flows,0<=g.params/\g.params<=g.types.length)(x:Nd)(deep:Int)(hd:0<=deep/\deep<=100)(wh:Wh)(st:List Int)(hs:st.length=f.types.length)(hbo:x.outs.length<=34359738368)(hbp:x.params.length<=34359738368)(ih:∀q∈x.kids,∀(w:Wh)(st:List Int),st.length=f.types.length->SC Tryz.prog 72 [.ptr 3 0,.pv (z1n q),.pv (whv w),iInt (deep+1)] (ckS u f 3 st) (λk=>k=3) (iBool (z25 u f (deep+1) w st q).1) (ckS u f 3 (z25 u f (deep+1) w st q).2)) :
 SC Tryz.prog 126 [.ptr 3 0,.pv (ndv x),.pv (whv wh),iInt deep] (ckS u f 3 st) (λk=>k=3) (iBool (z5y u f deep wh st x).1) (ckS u f 3 (z5y u f deep wh st x).2):=by
 refine SC.sameR (SC.vc tb { pb:=[105,106] } [3] Tryz.func126 rfl rfl ?_) λk _ h=>Ak.2 h;have hB:=j36 x
 cases hb:z1j x
 ·rw[hb]at hB;rw[zj7 u f deep wh st hb];exact⟨[],hB,sR,Gb,rfl,sI,rfl,rfl,Gb⟩
 rw[hb]at hB;refine⟨[],hB,sR,Gb,rfl,z00 (λh10=>?_) λh10=>?_⟩
 ·have hk:x.kind=10:=eq_of_beq h10;obtain⟨a,b,hkids⟩:=z3u hb hk;rw[y2b u f deep wh st hb hk hkids];have hC:=yh1 u f st hs x a b hkids wh (deep+1) hbo ih;generalize(if z0w f.types st x.args [2]then andQ (z25 u f (deep+1) ⟨true,wh.Loop,r8of f.types x.outs,wh.Next,wh.Left⟩ st a) (λs1=>andQ (z25 u f (deep+1) ⟨true,wh.Loop,r8of f.types x.outs,wh.Next,wh.Left⟩ s1 b) λs2=>z4g f x s2)else(false,st))=r at hC⊢;exact⟨z01 rfl oM0,[],hC,sR,Ge,rfl,sI,rfl,rfl,Gb⟩
 refine z00 (λh11=>?_) λh11=>?_
 ·have hk:x.kind=11:=eq_of_beq h11;obtain⟨a,hkids⟩:=z2a hb hk;rw[zj8 u f deep wh st hb hk hkids];have hC:=j3c u f st hs x a hkids (deep+1) hbo hbp ih;generalize(if z0w f.types st x.args (r8of f.types x.params)then andQ (z1r f.types st x.params (List.replicate x.params.length 0)) (λs1=>andQ (z25 u f (deep+1) ⟨false,true,[],r8of f.types x.params,r8of f.types x.outs⟩ s1 a) λs2=>z4g f x (z3l s2 x.params))else(false,st))=r at hC⊢;exact⟨z01 rfl oM0,[],hC,sR,Ge,rfl,sI,rfl,rfl,Gb⟩
 have hE:=j37 x
 cases he:z0v x.kind
 ·rw[he]at hE;rw[z9s u f deep wh st hb h10 h11 he];have hC:=yh3 u f st hs hg x;generalize z2l u f st x=r at hC⊢;exact⟨[],hE,sR,Gb,rfl,[],hC,sR,Ge,rfl,sI,rfl,rfl,Gb⟩
 ·rw[he]at hE;rw[zt4 u f deep wh st hb h10 h11 he];exact⟨[],hE,sR,Gb,rfl,[],sc_shEnd u f st hs x wh,sR,Ge,rfl,sI,rfl,rfl,Gb⟩
theorem zh1(st:List Int)(l:List Nd)(x:Nd):z4f st (l++[x])=z3l (z4f st l) x.outs:=by simp[z4f]
theorem y6u(N:Nat):∀(u:Un)(f:Fl)(hg:∀g∈u.flows,0<=g.params/\g.params<=g.types.length)(l:List Nd)(deep:Int)(hd:0<=deep/\deep<=101)(wh:Wh)(st:List Int)(hs:st.length=f.types.length)(hb:lsW l<=34359738368),SizeOf.sizeOf l<N->SC Tryz.prog 72 [.ptr 3 0,.pv (z1n l),.pv (whv wh),iInt deep] (ckS u f 3 st) (λk=>k=3) (iBool (z25 u f deep wh st l).1) (ckS u f 3 (z25 u f deep wh st l).2):=by
 induction N with
 |zero=>intro u f hg l deep hd wh st hs hb hN;exact absurd hN (Aj _)
 |succ N ih =>
  intro u f hg l deep hd wh st hs hb hN;refine SC.sameR (SC.vc tb { pb:=[106,110,112],gh:=[(0,[.len 1])] } [3] Tryz.func72 rfl rfl ?_) λk _ h=>Ak.2 h;intro hl;simp only[Ac]at hl;have hl:l.length<=9223372036854775807:=hl;have ll:(l.map Nd.enc).length=l.length:=Ac _;unfold z25;refine⟨Nat×List Int,λq=>[(15,iInt ((q.1:Nat):Int))],λq=>ckS u f 3 q.2,λq=>l.length-q.1,λq=>q.1<=l.length/\q.2.length=f.types.length/\shGo u f deep wh st l=shGo u f deep wh q.2 (l.drop q.1),[],(0,st),⟨Ad _,hs,rfl⟩,Gc,Gd,?_⟩;rintro⟨i,s⟩ ⟨i1,i2,i3⟩;dsimp only at i1 i2 i3;refine z00 (λhc=>?_) λhc=>?_
  ·have hlt:i<l.length:=z0z (f:=Nd.enc) rfl hc;obtain⟨x,x1,x2,x3,x4⟩:=z0p hlt;have hw:=y11 x4;rw[z7o]at hw;rw[x3,shGo]at i3;refine⟨z07 x1,rfl,z00 (λh1=>?_) λh1=>?_⟩
   ·have h1:deep > 100:=An h1;rw[if_pos h1]at i3;rw[i3];exact⟨sI,rfl,rfl,Gb⟩
   have h1:¬deep > 100:=Al h1;rw[if_neg h1]at i3;have hX:=j3d u f hg x deep ⟨hd.1,by omega⟩ wh s i2 oM0 oM0 λq hq w st hs=>ih u f hg q (deep+1) ⟨by omega,by omega⟩ w st hs (by have:=z6s hq;omega) (B8 (z8o x4 rfl hq) (Bp hN));have hXl:=(zo4 u f x deep wh s).trans i2;generalize z5y u f deep wh s x=r at hX hXl i3;obtain⟨b,s2⟩:=r;dsimp only at hX hXl
   cases b
   ·rw[show andQ (false,s2) (λs1=>if (z08 x != (l.drop (i+1)).isEmpty)=true then(false,s1)else shGo u f deep wh s1 (l.drop (i+1)))=(false,s2)from rfl]at i3;rw[i3];exact⟨[],hX,sR,Ge,rfl,sI,rfl,rfl,Gb⟩
   rw[show andQ (true,s2) (λs1=>if (z08 x != (l.drop (i+1)).isEmpty)=true then(false,s1)else shGo u f deep wh s1 (l.drop (i+1)))=(if (z08 x != (l.drop (i+1)).isEmpty)=true then(false,s2)else shGo u f deep wh s2 (l.drop (i+1)))from rfl]at i3;have hem:(l.drop (i+1)).isEmpty=((i:Int)==((l.map Nd.enc).length:Int)-1):=by
    rw[Cl,Fq,List.drop_eq_nil_iff,Au,ll];omega
   rw[hem]at i3;refine⟨[],hX,sR,Ge,rfl,[],zj4 x,sR,Gb,rfl,z3b rfl (by rw[ll];omega),z00 (λh2=>?_) λh2=>?_⟩
   ·have h2:(z08 x != ((i:Int)==((l.map Nd.enc).length:Int)-1))=true:=h2;rw[if_pos h2]at i3;rw[i3];exact⟨sI,rfl,rfl,Gb⟩
   ·rw[if_neg (by rw[show(z08 x != ((i:Int)==((l.map Nd.enc).length:Int)-1))=false from h2];decide)]at i3;exact⟨z01 rfl oM0,(i+1,s2),z03 hlt,⟨hlt,hXl,i3⟩,Gc,Gd,rfl,rfl,rfl,rfl⟩
  ·have hge:l.length<=i:=z10 (f:=Nd.enc) rfl hc;have hgo:shGo u f deep wh st l=(true,s):=by rw[i3,Ab hge,shGo]
   have ho:=y9s (u:=u) (f:=f) (deep:=deep) (w:=wh) (l:=l) (st:=st) (by rw[hgo]);rw[hgo,show andQ (true,s) (y9r l)=(decide ((l.length:Int) > 0),z4f s l)from rfl];refine⟨Nat,λj=>[(43,iInt ((j:Nat):Int))],λj=>ckS u f 3 (z4f s (l.take j)),λj=>l.length-j,λj=>j<=l.length,[],0,Ad _,Gc,Gd,?_⟩;intro j hj;refine z00 (λhc=>?_) λhc=>?_
   ·have hlt:j<l.length:=z0z (f:=Nd.enc) rfl hc;obtain⟨x,x1,x2,x3,x4⟩:=z0p hlt;have hH:=y9h u f (z4f s (l.take j)) ((z6y (l.take j) s).trans i2) x.outs (ho x x4);exact⟨z07 x1,rfl,[],hH,sR,Ge,rfl,z01 rfl oM0,j+1,z03 hlt,hlt,Gc,⟨boq (by rw[x2,zh1]),rwq (by rw[x2,zh1]),Gb⟩,rfl,rfl,rfl,rfl⟩
   ·have hge:l.length<=j:=z10 (f:=Nd.enc) rfl hc;rw[Av hge];exact⟨sE (by rw[ll]),rfl,rfl,Gb⟩
theorem j3b(u:Un)(f:Fl)(hg:∀g∈u.flows,0<=g.params/\g.params<=g.types.length)(l:List Nd)(deep:Int)(hd:0<=deep/\deep<=101)(wh:Wh)(st:List Int)(hs:st.length=f.types.length)(hb:lsW l<=34359738368):SC Tryz.prog 72 [.ptr 3 0,.pv (z1n l),.pv (whv wh),iInt deep] (ckS u f 3 st) (λk=>k=3) (iBool (z25 u f deep wh st l).1) (ckS u f 3 (z25 u f deep wh st l).2):=y6u _ u f hg l deep hd wh st hs hb (Aa _)
theorem j38(u:Un)(f:Fl)(hg:∀g∈u.flows,0<=g.params/\g.params<=g.types.length)(hp:0<=f.params/\f.params<=f.types.length)(hb:lsW f.body<=34359738368):SC Tryz.prog 40 [.pv u.enc,.pv (.agg f.enc)] [] (λ_=>False) (iBool (y2a u f)) []:=by
 refine SC.anyR (SC.vc tb { pb:=[102,103],ids:=[(26,4),(28,3)] } [] Tryz.func40 rfl rfl ?_);unfold y2a;have hl:((f.types.map eInt).length:Int)=f.types.length:=by rw[Ac]
 refine z00 (λh1=>?_) λh1=>?_
 ·rw[show decide (f.params > 8)=true from h1];exact⟨sI,Gb⟩
 rw[show decide (f.params > 8)=false from h1,Bv];refine z00 (λh2=>?_) λh2=>?_
 ·have h2:decide (((f.types.map eInt).length:Int) > 20000)=true:=h2;rw[hl]at h2;rw[h2];exact⟨sI,Gb⟩
 have h2:decide (((f.types.map eInt).length:Int) > 20000)=false:=h2;rw[hl]at h2;rw[h2,Bv];have hT:=sc_hasIn 71 [] rfl (λt=>!isTy t) f.types λx _=>SC.anyR (sc_flow1 x);generalize(f.types.any λt=>!isTy t)=c at hT⊢
 cases c
 ·have h2':=Al h2;refine⟨[],hT,SubA.same sFn,Gb,rfl,rfl,VNum.mk (n:=f.types.length) hl oM0 ?_⟩;refine⟨by simp,Nat,λi=>[(31,iInt ((i:Nat):Int))],λi=>ckS u f 3 (zo2 i f.types.length),λi=>f.params.toNat-i,λi=>(i:Int)<=f.params,[],0,by show((0:Nat):Int)<=_;omega,Gc,⟨boq (by simp[y5f,zo2];rfl),rwq (by simp[zo2,eInt];exact .inr rfl),Gb⟩,?_⟩;intro i hi;have hsl:=zx3 (k:=i) (n:=f.types.length) oM0;refine z00 (λhc=>?_) λhc=>?_
  ·have hlt:(i:Int)<f.params:=An hc;have hss:=j3p (k:=i) (n:=f.types.length) oM0;exact⟨rfl,VIdR.mk (i:=i) (by rw[Ac];omega) rfl ⟨i,0,_,rfl,rfl,z02 (f:=eInt) (z3p (show i<(zo2 i f.types.length).length by omega)),by simp[eInt],z01 rfl oM0,i+1,(by show f.params.toNat-(i+1)<f.params.toNat-i;omega),(by show((i+1:Nat):Int)<=f.params;omega),Gc,⟨boq (by rw[<- hss];simp[y5f]),rwq (by rw[<- hss];simp[eInt,Bs]),Gb⟩,rfl,rfl,rfl,rfl⟩⟩
  ·have hge:¬(i:Int)<f.params:=Al hc;have hi2:i=f.params.toNat:=by omega
   subst hi2;have hL:=j3b u f hg f.body 1 ⟨by decide,by decide⟩ z47 (zo2 f.params.toNat f.types.length) oM0 hb;exact⟨[],hL,SubA.same (SubA.same (SubA.cons (sP (z0c _)) (SubA.same SubA.nil))),Gd,rfl,sI,Gb⟩
 ·exact⟨[],hT,SubA.same sFn,Gb,rfl,sI,Gb⟩
theorem j3a(u:Un)(hW:z0g u<=34359738368):SC Tryz.prog 39 [.pv u.enc] [] (λ_=>False) (iBool (z92 u)) []:=by
 refine SC.anyR (SC.vc tb {} [] Tryz.func39 rfl rfl ?_);have hw1:u.arrays.length<=z0g u:=by unfold z0g;omega
 have hw2:u.flows.length<=z0g u:=by unfold z0g;omega
 refine⟨Nat×List (Value×PV),λ(k,_)=>[(13,iInt k)],λ(_,es)=>[(109,.map es)],λ(k,_)=>u.arrays.length-k,λ(k,es)=>k<=u.arrays.length/\u.arrays.all zy2=(u.arrays.drop k).all zy2/\y0c [] u.arrays=y0c es (u.arrays.drop k)/\Cnt es,[],(0,[]),⟨Ad _,rfl,rfl,Cnt.nil⟩,Gc,Gc,?_⟩;rintro⟨k,es⟩ ⟨hk,hA,hC,hes⟩;refine z00 (λhc=>?_) λhc=>?_
 ·have hlt:=z0z (f:=Ar.enc) rfl hc;obtain⟨a,ha,_,hd,_⟩:=z0p hlt;rw[hd]at hA hC;rw[D2]at hA;obtain⟨n,hn⟩:=hes.find (.string a.name);have bad:zy2 a=false->SubI (iBool false) (iBool (z92 u)):=λh=>sE (by unfold z92;rw[hA,h];rfl);have hNm:=z7y a.name
  cases hN:z0l a.name with
  |false =>
   rw[hN]at hNm
   exact⟨z02 (f:=Ar.enc) ha,rfl,VAsk.mk (p:=vInt n) (b:=(z1m (.string a.name) es).isSome) rfl hes.1 (E5 hn rfl) ⟨rfl,rfl,hes.1,[],hNm,sR,Gb,rfl,bad (by unfold zy2;rw[hN];rfl),Gb⟩⟩
  |true =>
   rw[hN]at hNm;refine⟨z02 (f:=Ar.enc) ha,rfl,VAsk.mk (p:=vInt n) (b:=(z1m (.string a.name) es).isSome) rfl hes.1 (E5 hn rfl) ⟨rfl,rfl,hes.1,[],hNm,sR,Gb,rfl,z00 (λh1=>⟨bad (by unfold zy2;rw[hN,show decide (a.size<1)=true from h1];rfl),Gb⟩) λh1=>z00 (λh2=>⟨bad (by unfold zy2;rw[hN,show decide (a.size<1)=false from h1,show decide (a.size > 1000)=true from h2];rfl),Gb⟩) λh2=>?_⟩⟩;have good:zy2 a=true:=by unfold zy2;rw[hN,show decide (a.size<1)=false from h1,show decide (a.size > 1000)=false from h2];rfl
   exact⟨z01 rfl oM0,(k+1,bump a.name es),z03 hlt,⟨hlt,by rw[hA,good];rfl,hC,hes.bump _⟩,Gc,⟨mpq (zh5 hn).symm,Gb⟩,rfl,rfl,rfl,rfl⟩
 ·have hge:=z10 (f:=Ar.enc) rfl hc;rw[Ab hge]at hA hC;refine⟨Nat×List (Value×PV),λ(k,_)=>[(40,iInt k)],λ(_,es)=>[(109,.map es)],λ(k,_)=>u.flows.length-k,λ(k,es)=>k<=u.flows.length/\u.flows.all zo3=(u.flows.drop k).all zo3/\y3m (y0c [] u.arrays) u.flows=y3m es (u.flows.drop k)/\Cnt es,[],(0,es),⟨Ad _,rfl,by rw[hC];rfl,hes⟩,Gc,Gc,?_⟩;rintro⟨k,es⟩ ⟨hk,hF,hC,hes⟩;refine z00 (λhc=>?_) λhc=>?_
  ·have hlt:=z0z (f:=Fl.enc) rfl hc;obtain⟨f,hf,_,hd,hm⟩:=z0p hlt;rw[hd]at hF hC;rw[D2]at hF;obtain⟨n,hn⟩:=hes.find (.string f.name);have bad:zo3 f=false->SubI (iBool false) (iBool (z92 u)):=λh=>sE (by unfold z92;rw[hA,hF,h];rfl);have hNm:=z7y f.name
   cases hN:z0l f.name with
   |false =>
    rw[hN]at hNm
    exact⟨z02 (f:=Fl.enc) hf,rfl,VAsk.mk (p:=vInt n) (b:=(z1m (.string f.name) es).isSome) rfl hes.1 (E5 hn rfl) ⟨rfl,rfl,hes.1,[],hNm,sR,Gb,rfl,bad (by unfold zo3;rw[hN];rfl),Gb⟩⟩
   |true =>
    rw[hN]at hNm;have hT:=j2x f.ty
    cases hty:isTy f.ty with
    |false =>
     rw[hty]at hT
     exact⟨z02 (f:=Fl.enc) hf,rfl,VAsk.mk (p:=vInt n) (b:=(z1m (.string f.name) es).isSome) rfl hes.1 (E5 hn rfl) ⟨rfl,rfl,hes.1,[],hNm,sR,Gb,rfl,[],hT,sR,Gb,rfl,bad (by unfold zo3;rw[hN,hty];rfl),Gb⟩⟩
    |true =>
     rw[hty]at hT;refine⟨z02 (f:=Fl.enc) hf,rfl,VAsk.mk (p:=vInt n) (b:=(z1m (.string f.name) es).isSome) rfl hes.1 (E5 hn rfl) ⟨rfl,rfl,hes.1,[],hNm,sR,Gb,rfl,[],hT,sR,Gb,rfl,z00 (λh1=>⟨bad (by unfold zo3;rw[hN,hty,show decide (f.params<0)=true from h1];rfl),Gb⟩) λh1=>z00 (λh2=>⟨bad (by unfold zo3;rw[hN,hty,show decide (f.params<0)=false from h1,show decide (f.params > f.types.length)=true by simpa using h2];rfl),Gb⟩) λh2=>?_⟩⟩;have good:zo3 f=true:=by unfold zo3;rw[hN,hty,show decide (f.params<0)=false from h1,show decide (f.params > f.types.length)=false by simpa using h2];rfl
     exact⟨z01 rfl oM0,(k+1,bump f.name es),z03 hlt,⟨hlt,by rw[hF,good];rfl,hC,hes.bump _⟩,Gc,⟨mpq (zh5 hn).symm,Gb⟩,rfl,rfl,rfl,rfl⟩
  ·have hge:=z10 (f:=Fl.enc) rfl hc;rw[Ab hge]at hF hC;have hG:z92 u=((es.length:Int)==u.arrays.length+u.flows.length&&za3 u):=by unfold z92;rw[hA,hF,hC];rfl
   rw[hG];have N:∀{P:Prop}{b:Bool},b=true->b=false->P:=λh g=>by rw[h]at g;cases g
   cases hb:((es.length:Int)==u.arrays.length+u.flows.length)with
   |false=>exact⟨[],zf2 u z0s,sR,Gb,rfl,z01 rfl (by simp;omega),z00 (λh=>N (show((es.length:Int)==u.arrays.length+u.flows.length)=true by simpa using h) hb) λ_=>⟨sI,Gb⟩⟩
   |true =>
    cases hp:decide (z05 z0s u.flows 0≥0)with
    |false=>exact⟨[],zf2 u z0s,sR,Gb,rfl,z01 rfl (by simp;omega),z00 (λ_=>z00 (λh=>N h hp) λ_=>⟨sE (by unfold za3;rw[hp];rfl),Gb⟩) λh=>N hb (by simpa using h)⟩
    |true =>
     have h0:z05 z0s u.flows 0≥0:=by simpa using hp
     obtain⟨g,hg,_⟩:=ze6 h0;have hD:u.flows.getD (z05 z0s u.flows 0).toNat y7t=g:=by rw[Ax,hg];rfl
     have hi:=z02 (f:=Fl.enc) hg;refine⟨[],zf2 u z0s,sR,Gb,rfl,z01 rfl (by simp;omega),z00 (λ_=>z00 (λ_=>⟨hi,by omega,z00 (λh1=>⟨hi,by omega,sE ?_,Gb⟩) λh1=>⟨sE ?_,Gb⟩⟩) λh=>N hp h) λh=>N hb (by simpa using h)⟩
     ·unfold za3;rw[hp,hD,show(g.ty==1)=true from h1];rfl
     ·unfold za3;rw[hp,hD,show(g.ty==1)=false from h1];rfl
theorem flow_leW{u:Un}{f:Fl}(hf:f∈u.flows):lsW f.body<=z0g u:=by
 have h1:=yj5 hf;have h2:=y89 f.body;unfold z0g z0x at *
 omega
theorem y9v(u:Un)(l:List Fl)(i:Nat){f:Fl}(h:l.drop i=f::l.drop (i+1)):z9u u (l.drop i) i=if y2a u f then z9u u (l.drop (i+1)) ((i+1:Nat):Int)else(80,(i:Int)):=by
 rw[h,z9u];rfl
theorem y4w(u:Un)(hW:z0g u<=34359738368):SC Tryz.prog 19 [.pv u.enc] [] (λ_=>False) (.tup [iInt (z59 u).1,iInt (z59 u).2]) []:=by
 refine SC.anyR (SC.vc tb { pb:=[101,105] } [] Tryz.func19 rfl rfl ?_);have hH:=j3a u hW;have hw2:u.flows.length<=z0g u:=by unfold z0g;omega
 unfold z59
 cases hh:z92 u
 ·rw[hh]at hH;exact⟨[],hH,sR,Gb,rfl,sI,Gb⟩
 rw[hh]at hH;have hg:=y73 hh;rw[if_pos rfl];refine⟨[],hH,sR,Gb,rfl,Nat,λi=>[(12,iInt ((i:Nat):Int))],λ_=>[],λi=>u.flows.length-i,λi=>i<=u.flows.length/\z9u u u.flows 0=z9u u (u.flows.drop i) i,[],0,⟨Ad _,rfl⟩,Gc,Gb,?_⟩;rintro i ⟨i1,i2⟩;refine z00 (λhc=>?_) λhc=>?_
 ·have hlt:i<u.flows.length:=z0z (f:=Fl.enc) rfl hc;obtain⟨x,x1,x2,x3,x4⟩:=z0p hlt;have hF:=j38 u x hg (hg x x4) (B9 (flow_leW x4) hW);rw[y9v u u.flows i x3]at i2;generalize y2a u x=b at hF i2
  cases b
  ·rw[if_neg dC0]at i2;rw[i2];exact⟨z02 (f:=Fl.enc) x1,rfl,[],hF,sR,Gb,rfl,sI,Gb⟩
  ·rw[if_pos rfl]at i2;exact⟨z02 (f:=Fl.enc) x1,rfl,[],hF,sR,Gb,rfl,z01 rfl oM0,i+1,z03 hlt,⟨hlt,i2⟩,Gc,Gb,rfl,rfl,rfl,rfl⟩
 ·have hge:u.flows.length<=i:=z10 (f:=Fl.enc) rfl hc;rw[i2,Ab hge];exact⟨sI,Gb⟩
def wM(s:List Int):List (Nat×HO):=[(3002,.map (vsOf s))]
def wH(s:List Int)(g:Bool):List (Nat×HO):=[(3001,.box [.mp 3002,iBool g]),(3002,.map (vsOf s))]
def gr(s s':List Int)(g:Bool):Bool:=g||s.length != s'.length
theorem y0o(s:List Int)(g:Bool):gr s s g=g:=by simp[gr]
theorem gr_put{s st:List Int}(h:Pre s st)(v:Int)(g:Bool):gr s (st++[v]) g=true:=by
 have:=h.len;simp[gr];right;omega
theorem zl1{a b c:List Int}(h:Pre a b)(h':Pre b c)(g:Bool):gr b c (gr a b g)=gr a c g:=by
 have h1:=h.len;have h2:=h'.len;unfold gr
 cases g with
 |true=>simp
 |false =>
  simp only[Bv]
  by_cases e:a.length=b.length
  ·have e1:(a.length != b.length)=false:=by simp[e]
   rw[e1,Bv,e]
  ·have e3:¬a.length=c.length:=by omega
   have e1:(a.length != b.length)=true:=by simpa using e
   have e2:(a.length != c.length)=true:=by simpa using e3
   rw[e1,e2,B7]
theorem gr_false{s s':List Int}(h:Pre s s'):gr s s' false=false↔s'=s:=by
 constructor
 ·intro hg;simp[gr]at hg;exact h.eq oM0
 ·rintro rfl;simp[gr]
theorem wAdd_has{st:List Int}{x:Int}{r:List Int}(h:st.contains x=true):wAdd st (x::r)=wAdd st r:=by simp only[wAdd,h,C8]
theorem wAdd_not{st:List Int}{x:Int}{r:List Int}(h:st.contains x=false):wAdd st (x::r)=wAdd (st++[x]) r:=by simp only[wAdd,h,Ap,By]
theorem cont_ne{y v:Int}{r:List Int}(h:(y==v)=false):(y::r).contains v=r.contains v:=by
 have:(v==y)=false:=by rw[A9]at *;exact λe=>h e.symm
 rw[Dd,this,Bv]
theorem cont_eq{y v:Int}{r:List Int}(h:(y==v)=true):(y::r).contains v=true:=by
 have:(v==y)=true:=by rw[Au]at *;exact h.symm
 rw[Dd,this,B7]
theorem zr7{o:Oper}{fr:Fr}{hp:Hp}{Rl:List Nat}(k:Nat)(ho:o.op=.alloc 210):OkF Tryz.prog Rl o fr hp ⟨.ptr k 0,[(k,some (.box []))],[k],[k]⟩:=λc fr2 hp2 _ hc _ _ hf=>by
 obtain⟨f1,f2,f3⟩:=z3x (hf k (.head _));exact aLc (c:=c) ho tZ210 f3 (hc k (.head _)) f1 f2
theorem ye1{o:Oper}{fr:Fr}{hp:Hp}{Rl:List Nat}{x y:Operand}{k:Nat}{s:List Int}{v:Int}{b:Bool}(hb:s.contains v=b)(ho:o.op=.lookup 121 x y true)(hx:fr.ev x=some (.mp k))(hy:fr.ev y=some (iInt v))(hk:look hp k=some (.map (vsOf s))):OkF Tryz.prog Rl o fr hp ⟨.tup [.pv (.agg []),iBool b],[],[k],[]⟩:=by
 have hops:o.op.operands.toList=[x,y]:=by rw[ho];rfl
 refine .pure λc R1 fr2 hp2 hg hh hR=>?_;have h:=y47 (c:=c) (R1:=R1) (kv:=vKey v) ho (hg.ev hx (by rw[hops];simp)) (hg.ev hy (by rw[hops];simp)) (hh.at hk (.head _)) Tryz.underlying121 Tryz.underlying3 rfl (VSet.of s).1 tZ210 (hR _ (.head _));rw[vsOf_has,hb]at h;intro ρ w a ha;obtain⟨u,h1,h2⟩:=h ρ w a ha;exact⟨u,h1,yq7 (λ_ q=>unit_sub (VSet.of s) q) h2⟩
theorem zw7(x:Nd):SC Tryz.prog 91 [.pv (ndv x)] [] (λk=>k∈[]) (iBool (z16 x)) []:=by
 refine SC.vc tb { pb:=[101] } [] Tryz.func91 rfl rfl ?_;obtain⟨kind,op,n,name,args,outs,params,kids⟩:=x;rcases(show kind=1∨kind=2∨kind=3∨kind=4∨(kind≠1/\kind≠2/\kind≠3/\kind≠4) by omega)with rfl|rfl|rfl|rfl|⟨k1,k2,k3,k4⟩
 ·exact⟨sI,Gb⟩
 ·exact⟨sI,Gb⟩
 ·exact⟨sI,Gb⟩
 ·refine z00 (λh=>?_) λh=>?_
  ·have h:(op != 4)=true:=h;exact⟨sE (Af iBool (show(op != 5)=((op != 4)&&(op != 5)) by rw[h];rfl)),Gb⟩
  ·have h:(op != 4)=false:=h;exact⟨sE (Af iBool (show false=((op != 4)&&(op != 5)) by rw[h];rfl)),Gb⟩
 ·have no:∀{i:Int},kind≠i->(kind==i)=true->False:=λh e=>h (eq_of_beq e);exact z00 (λh=>(no k1 h).elim) λ_=>z00 (λh=>(no k2 h).elim) λ_=>z00 (λh=>(no k3 h).elim) λ_=>z00 (λh=>(no k4 h).elim) λ_=>⟨sE (Af iBool (by simp[z16,Nd.kind,k1,k2,k3,k4])),Gb⟩
theorem y6z(s:List Int)(x:Int):SC Tryz.prog 92 [.mp 3002,iInt x] (wM s) (λk=>k∈[3002]) (iBool (s.contains x)) (wM s):=by
 refine SC.vc tb { an:=[1002,1006] } [3002] Tryz.func92 rfl rfl ?_;exact⟨ye1 rfl rfl rfl rfl rfl,zr7 105 rfl,sI,rfl,Gb⟩
theorem y6y(l:List Int)(s:List Int)(g:Bool):SC Tryz.prog 142 [.ptr 3001 0,.pv (ints l)] (wH s g) (λk=>k∈[]) (.tup []) (wH (wAdd s l) (gr s (wAdd s l) g)):=by
 refine SC.vc tb { an:=[3005,3009,5005],gh:=[(0,[.len 1])] } [] Tryz.func142 rfl rfl ?_;intro hl;simp only[Ac]at hl;have hl:l.length<=9223372036854775807:=hl;refine⟨Nat×List Int,λq=>[(10,iInt ((q.1:Nat):Int))],λq=>wH q.2 (gr s q.2 g),λq=>l.length-q.1,λq=>q.1<=l.length/\wAdd s l=wAdd q.2 (l.drop q.1)/\Pre s q.2,[],(0,s),⟨Ad _,rfl,.refl s⟩,Gc,⟨by rw[y0o];rfl,rfl,Gb⟩,?_⟩;rintro⟨k,st⟩ ⟨k1,k2,k3⟩;dsimp only at k1 k2 k3;refine z00 (λhc=>?_) λhc=>?_
 ·have hlt:k<l.length:=z0z (f:=eInt) rfl hc;obtain⟨x,x1,x2,x3,x4⟩:=z0p hlt;rw[x3]at k2
  cases hb:st.contains x
  ·exact⟨z02 (f:=eInt) x1,rfl,ye1 hb rfl rfl rfl rfl,zr7 106 rfl,yn0 rfl,rfl,(VSet.of _).1,z01 rfl oM0,(k+1,st++[x]),z03 hlt,⟨hlt,by rw[k2,wAdd_not hb],k3.trans ⟨_,rfl⟩⟩,Gc,⟨by rw[gr_put k3];rfl,mpq (by rw[<- j54];rfl),Gb⟩,rfl,rfl,rfl,rfl⟩
  ·exact⟨z02 (f:=eInt) x1,rfl,ye1 hb rfl rfl rfl rfl,zr7 106 rfl,z01 rfl oM0,(k+1,st),z03 hlt,⟨hlt,by rw[k2,wAdd_has hb],k3⟩,Gc,Gd,rfl,rfl,rfl,rfl⟩
 ·have hge:l.length<=k:=z10 (f:=eInt) rfl hc;rw[Ab hge]at k2;rw[show wAdd s l=st from k2];exact⟨sI,rfl,rfl,Gb⟩
theorem zf4(l to:List Int)(s:List Int)(g:Bool)(hlt0:to.length<=l.length):SC Tryz.prog 141 [.ptr 3001 0,.pv (ints l),.pv (ints to)] (wH s g) (λk=>k∈[]) (.tup []) (wH (z14 s l to) (gr s (z14 s l to) g)):=by
 refine SC.vc tb { gh:=[(0,[.len 2])] } [] Tryz.func141 rfl rfl ?_;intro hl;simp only[Ac]at hl;have hl:to.length<=9223372036854775807:=hl;refine⟨Nat×List Int,λq=>[(10,iInt ((q.1:Nat):Int))],λq=>wH q.2 (gr s q.2 g),λq=>to.length-q.1,λq=>q.1<=to.length/\z14 s l to=z14 q.2 (l.drop q.1) (to.drop q.1)/\Pre s q.2,[],(0,s),⟨Ad _,rfl,.refl s⟩,Gc,⟨by rw[y0o];rfl,rfl,Gb⟩,?_⟩;rintro⟨k,st⟩ ⟨k1,k2,k3⟩;dsimp only at k1 k2 k3;refine z00 (λhc=>?_) λhc=>?_
 ·have hlt:k<to.length:=z0z (f:=eInt) rfl hc;obtain⟨x,x1,x2,x3,x4⟩:=z0p hlt;obtain⟨y,y1,y2,y3,y4⟩:=z0p (show k<l.length by omega);rw[x3,y3,z14]at k2;have hH:=y6z st x;have hA:=y6y [y] st (gr s st g);have hp:=z4u [y] st;generalize hb:st.contains x=b at hH k2
  cases b
  ·exact⟨z02 (f:=eInt) x1,rfl,[3002],hH,sR,Gd,rfl,z01 rfl oM0,(k+1,st),z03 hlt,⟨hlt,k2,k3⟩,Gc,Gd,rfl,rfl,rfl,rfl⟩
  ·exact⟨z02 (f:=eInt) x1,rfl,[3002],hH,sR,Gd,rfl,z02 (f:=eInt) y1,rfl,[],hA,sR,Gd,rfl,z01 rfl oM0,(k+1,wAdd st [y]),z03 hlt,⟨hlt,k2,k3.trans hp⟩,Gc,⟨by rw[<- zl1 k3 hp];rfl,rfl,Gb⟩,rfl,rfl,rfl,rfl⟩
 ·have hge:to.length<=k:=z10 (f:=eInt) rfl hc;rw[Ab hge]at k2;rw[show z14 s l to=st by rw[k2];cases l.drop k<;>rfl];exact⟨sI,rfl,rfl,Gb⟩
theorem z9q(l to:List Int)(s:List Int)(hlt0:to.length<=l.length)(hb:to.length<=34359738368):SC Tryz.prog 90 [.mp 3002,.pv (ints l),.pv (ints to)] (wM s) (λk=>k∈[3002]) (.pv (ints (z0j s l to))) (wM s):=by
 refine SC.vc tb { gh:=[(1,[.grow 6 106 3 1]),(7,[.fz 6 106])] } [3002] Tryz.func90 rfl rfl ?_;refine⟨Nat×List Int,λq=>[(11,iInt ((q.1:Nat):Int)),(6,.sl 106 (q.2.map eInt).length)],λq=>[(106,.row ⟨3,1⟩ (q.2.map eInt))],λq=>to.length-q.1,λq=>q.1<=to.length/\q.2.length<=q.1/\q.2++z0j s (l.drop q.1) (to.drop q.1)=z0j s l to,[],(0,[]),⟨Ad _,Ae _,rfl⟩,Gd,Gc,?_⟩;rintro⟨k,acc⟩ ⟨k1,k2,k3⟩;dsimp only at k1 k2 k3;refine z00 (λhc=>?_) λhc=>?_
 ·have hlt:k<to.length:=z0z (f:=eInt) rfl hc;obtain⟨x,x1,x2,x3,x4⟩:=z0p hlt;obtain⟨y,y1,y2,y3,y4⟩:=z0p (show k<l.length by omega);rw[x3,y3,z0j]at k3;have hH:=y6z s x;generalize hb:s.contains x=b at hH k3
  cases b
  ·exact⟨z02 (f:=eInt) x1,rfl,[3002],hH,sR,⟨rfl,rfl,by simp,Gb⟩,rfl,z01 rfl oM0,(k+1,acc),z03 hlt,⟨hlt,Nat.le_succ_of_le k2,k3⟩,Gd,Gc,rfl,rfl,rfl,rfl⟩
  ·rw[if_pos rfl]at k3;exact⟨z02 (f:=eInt) x1,rfl,[3002],hH,sR,⟨rfl,rfl,by simp,Gb⟩,rfl,z02 (f:=eInt) y1,rfl,rfl,z3i rfl,by simp;omega,z01 rfl oM0,(k+1,acc++[y]),z03 hlt,⟨hlt,by rw[B5];exact Nat.succ_le_succ k2,by rw[C2];exact k3⟩,⟨rfl,slq sI0,Gb⟩,⟨rwq (by simp[eInt]),Gb⟩,rfl,rfl,rfl,rfl⟩
 ·have hge:to.length<=k:=z10 (f:=eInt) rfl hc;rw[Ab hge]at k3;have he:z0j s l to=acc:=by rw[<- k3];cases l.drop k<;>simp[z0j]
  exact⟨rfl,sE (by rw[he];rfl),rfl,Gb⟩
end Go.Proofs.YtdhllinkobindaaGreatDoor
