/- PART 5 of 9 of a proof: see the last part. -/
import Derived.Test.YtjlaalpfpecikaaGreatDoorSp4
set_option maxRecDepth 20000
set_option maxHeartbeats 8000000
set_option linter.unusedSimpArgs false
set_option linter.unusedVariables false
set_option linter.unusedSectionVars false
namespace Go.Proofs.YtjlaalpfpecikaaGreatDoor
open Go
theorem copyA{a:List Int}{i n:Nat}{x:Int}(hx:a[i]?=some x)(hn:a.length<=n):(a.take i++List.replicate (n-i) 0).set i x=a.take (i+1)++List.replicate (n-(i+1)) 0:=by
 have hi:i<a.length:=(A7.1 hx).1;have hl:(a.take i).length=i:=by rw[Db];omega
 rw[Dh _ _ oM0,hl,Nat.sub_self,show n-i=(n-(i+1))+1 by omega,Fe,Fk,List.take_add_one,hx];simp
theorem sr_call0(u:Un)(hub:∀f∈u.flows,lsW f.body<=34359738368)(D:Nat)(ihL:SRL u D)(hAL:∀d l v s r,z2f u d l v s=some r->r.2.2.ar.length=s.ar.length)(d:Nat)(hd:d<=D)(k:Int)(a:List Int)(s:Rs)(r:Int×Rs)(h:z4j u d k a { s with ar:=[] }=some r):SC Tryz.prog 31 [.ptr 1001 0,iInt k,.pv (ints a)] (rH u { s with ar:=[] }) (λ_=>False) (iInt r.1) (rH u r.2):=by
 refine L0 (K0 tb { pb:=[107,110],ids:=[(22,510)] } [] Tryz.func31 rfl rfl ?_) (λk _ h=>h.elim);obtain⟨d1,f,r1,rfl,hk0,hf,hal0,hfl,hlist,rfl⟩:=z7h h;have hif:=z02 (f:=Fl.enc) hf;have hL:=ihL d1 oM0 _ _ _ _ hlist (hub f (Af hf)) sI0;have hal:=hAL _ _ _ _ _ hlist;obtain⟨⟨ek,el⟩,v3,ins',ar',st',code',out',cost',fuel',spent'⟩:=r1;obtain rfl:ar'=[]:=Ay hal;have hO:=z5c u ⟨ins',[],st',code',out',cost',fuel',spent'⟩;dsimp only at hO⊢;generalize z16 ⟨ins',[],st',code',out',cost',fuel',spent'⟩=ov at hO;refine⟨hif,by omega,rfl,rfl,by simp;omega,Nat,λi=>[(9,iInt i)],λi=>[(510,rowI (a.take i++List.replicate (f.types.length-i) 0))],λi=>a.length-i,λi=>i<=a.length,[],0,Aj _,Gg,⟨rwq (by simp[eInt];exact .inr rfl),Gf⟩,?_⟩;intro i hi;refine z00 (λhc=>?_) λhc=>?_
 ·have hlt:=z12 (f:=eInt) rfl hc;obtain⟨x,hx,_,_,_⟩:=z0u hlt;have hvl:(a.take i++List.replicate (f.types.length-i) 0).length=f.types.length:=by simp;omega
  exact⟨z02 (f:=eInt) hx,rfl,by simp;omega,by simp;omega,rfl,i,0,_,by simp;omega,(Ca _).symm,z02 (f:=eInt) (Ad oM0),Bx,z01 rfl oM0,i+1,z05 hlt,hlt,Gg,⟨rwq (by rw[<- copyA hx oM0];simp[eInt,C8]),Gf⟩,rfl,rfl,rfl,rfl⟩
 ·have hge:a.take i++List.replicate (f.types.length-i) 0=a++List.replicate (f.types.length-a.length) 0:=by
   have:=z13 (f:=eInt) rfl hc;obtain rfl:i=a.length:=by omega
   rw[Er]
  cases ov with
  |true=>exact⟨[],hL,H0 (H0 (I0 (slE (by simp;omega)) sR)),⟨rfl,rfl,rwq (by rw[hge]),Gf⟩,rfl,[],hO,sR,Gi,rfl,sI,rfl,rfl,Gf⟩
  |false =>
   cases el with
   |nil=>exact⟨[],hL,H0 (H0 (I0 (slE (by simp;omega)) sR)),⟨rfl,rfl,rwq (by rw[hge]),Gf⟩,rfl,[],hO,sR,Gi,rfl,sI,rfl,rfl,Gf⟩
   |cons y el=>exact⟨[],hL,H0 (H0 (I0 (slE (by simp;omega)) sR)),⟨rfl,rfl,rwq (by rw[hge]),Gf⟩,rfl,[],hO,sR,Gi,rfl,at0 (a:=eInt y),rfl,sI,rfl,rfl,Gf⟩
theorem sr_call2(u:Un)(hub:∀f∈u.flows,lsW f.body<=34359738368)(D:Nat)(ihL:SRL u D)(hAL:∀d l v s r,z2f u d l v s=some r->r.2.2.ar.length=s.ar.length)(d:Nat)(hd:d<=D)(k:Int)(a:List Int)(s:Rs)(row row':List Int)(r:Int×Rs)(h:z4j u d k a { s with ar:=[row,row'] }=some r):SC Tryz.prog 31 [.ptr 1001 0,iInt k,.pv (ints a)] (rH u { s with ar:=[row,row'] }) (λ_=>False) (iInt r.1) (rH u r.2):=by
 refine L0 (K0 tb { pb:=[107,110],ids:=[(22,510)] } [] Tryz.func31 rfl rfl ?_) (λk _ h=>h.elim);obtain⟨d1,f,r1,rfl,hk0,hf,hal0,hfl,hlist,rfl⟩:=z7h h;have hif:=z02 (f:=Fl.enc) hf;have hL:=ihL d1 oM0 _ _ _ _ hlist (hub f (Af hf)) sI0;have hal:=hAL _ _ _ _ _ hlist;obtain⟨⟨ek,el⟩,v3,ins',ar',st',code',out',cost',fuel',spent'⟩:=r1;obtain⟨q2,q2',rfl⟩:=zr1 hal;have hO:=z5c u ⟨ins',[q2,q2'],st',code',out',cost',fuel',spent'⟩;dsimp only at hO⊢;generalize z16 ⟨ins',[q2,q2'],st',code',out',cost',fuel',spent'⟩=ov at hO;refine⟨hif,by omega,rfl,rfl,by simp;omega,Nat,λi=>[(9,iInt i)],λi=>[(510,rowI (a.take i++List.replicate (f.types.length-i) 0))],λi=>a.length-i,λi=>i<=a.length,[],0,Aj _,Gg,⟨rwq (by simp[eInt];exact .inr rfl),Gf⟩,?_⟩;intro i hi;refine z00 (λhc=>?_) λhc=>?_
 ·have hlt:=z12 (f:=eInt) rfl hc;obtain⟨x,hx,_,_,_⟩:=z0u hlt;have hvl:(a.take i++List.replicate (f.types.length-i) 0).length=f.types.length:=by simp;omega
  exact⟨z02 (f:=eInt) hx,rfl,by simp;omega,by simp;omega,rfl,i,0,_,by simp;omega,(Ca _).symm,z02 (f:=eInt) (Ad oM0),Bx,z01 rfl oM0,i+1,z05 hlt,hlt,Gg,⟨rwq (by rw[<- copyA hx oM0];simp[eInt,C8]),Gf⟩,rfl,rfl,rfl,rfl⟩
 ·have hge:a.take i++List.replicate (f.types.length-i) 0=a++List.replicate (f.types.length-a.length) 0:=by
   have:=z13 (f:=eInt) rfl hc;obtain rfl:i=a.length:=by omega
   rw[Er]
  cases ov with
  |true=>exact⟨[],hL,H0 (H0 (I0 (slE (by simp;omega)) sR)),⟨rfl,rfl,rwq (by rw[hge]),rfl,rfl,rfl,Gf⟩,rfl,[],hO,sR,Gl,rfl,sI,rfl,rfl,rfl,rfl,rfl,Gf⟩
  |false =>
   cases el with
   |nil=>exact⟨[],hL,H0 (H0 (I0 (slE (by simp;omega)) sR)),⟨rfl,rfl,rwq (by rw[hge]),rfl,rfl,rfl,Gf⟩,rfl,[],hO,sR,Gl,rfl,sI,rfl,rfl,rfl,rfl,rfl,Gf⟩
   |cons y el=>exact⟨[],hL,H0 (H0 (I0 (slE (by simp;omega)) sR)),⟨rfl,rfl,rwq (by rw[hge]),rfl,rfl,rfl,Gf⟩,rfl,[],hO,sR,Gl,rfl,at0 (a:=eInt y),rfl,sI,rfl,rfl,rfl,rfl,rfl,Gf⟩
theorem z4y(u:Un)(f:Fl)(set:List Bool)(l want:List Int)(hs:set.length=f.types.length):SC Tryz.prog 137 [.ptr 3 0,.pv (ints l),.pv (ints want)] (ckHp u f 4 set) (λk=>k=3) (iBool (z1w f.types set l want).1) (ckHp u f 4 (z1w f.types set l want).2):=by
 refine L0 (K0 tb { gh:=[(0,[.len 1])] } [3] Tryz.func137 rfl rfl ?_) λk _ h=>Al.2 h;intro hl;simp only[Ab]at hl;refine z00 (λh1=>?_) λh1=>?_
 ·have e:((l.length:Int)==want.length)=false:=by simpa using h1
  rw[show z1w f.types set l want=(false,set) by unfold z1w;rw[e];rfl];exact⟨sI,rfl,rfl,Gf⟩
 ·have e:((l.length:Int)==want.length)=true:=by simpa using h1
  have hlw:l.length=want.length:=by
   have:=Av e;omega
  rw[show z1w f.types set l want=z2i f.types set l want by unfold z1w;rw[e];rfl];refine⟨Nat×List Bool,λ(k,_)=>[(7,iInt k)],λ(_,S)=>[(4,.row ⟨4,1⟩ (S.map zf9))],λ(k,_)=>l.length-k,λ(k,S)=>k<=l.length/\S.length=set.length/\z2i f.types set l want=z2i f.types S (l.drop k) (want.drop k),[],(0,set),⟨Aj _,rfl,rfl⟩,Gg,Gg,?_⟩;rintro⟨k,S⟩ ⟨hk,hS,hI⟩;have ln:(S.map zf9).length=(set.map zf9).length:=by rw[Ab,Ab,hS]
  rw[hI];have bx:∀{n m:Nat},n=m->some (HO.box (y5a u f n))=some (HO.box (y5a u f m)):=λh=>by rw[h]
  refine z00 (λhc=>?_) λhc=>?_
  ·have hlt:=z12 (f:=eInt) rfl hc;obtain⟨v,hv,_,hd,_⟩:=z0u hlt;obtain⟨w,hw,_,hd2,_⟩:=z0u (show k<want.length by omega);have iv:=z02 (f:=eInt) hv;have iw:=z02 (f:=eInt) hw;rw[hd,hd2,show z2i f.types S (v::l.drop (k+1)) (w::want.drop (k+1))=if z9t f.types S v w then(false,S)else z2i f.types (S.set v.toNat true) (l.drop (k+1)) (want.drop (k+1))from rfl];refine⟨iv,rfl,z00 (λh2=>?_) λh2=>⟨iv,rfl,z00 (λh3=>?_) λh3=>?_⟩⟩
   ·rw[A5 (show z9t f.types S v w=true by unfold z9t;rw[show decide (v<0)=true from h2];rfl)];exact⟨sI,bx ln.symm,rfl,Gf⟩
   ·have e3:decide (v≥f.types.length)=true:=by simpa using h3
    rw[A5 (show z9t f.types S v w=true by unfold z9t;rw[e3];simp)];exact⟨sI,bx ln.symm,rfl,Gf⟩
   ·have e2:decide (v<0)=false:=h2;have e3:decide (v≥f.types.length)=false:=by simpa using h3
    have v0:0<=v:=by simpa using h2
    have v1:v.toNat<f.types.length:=by
     have:¬v≥f.types.length:=by simpa using e3
     omega
    have it:(f.types.map eInt)[v.toNat]?=some (eInt (f.types.getD v.toNat 0)):=z02 (f:=eInt) (by rw[Ax,Ad v1];rfl);have iS:(S.map zf9)[v.toNat]?=some (zf9 (S.getD v.toNat false)):=z02 (f:=zf9) (by rw[Ax,Ad oM0];rfl);have vlt:v.toNat<(set.map zf9).length:=by rw[Ab];omega
    have vv:v=(v.toNat:Int):=by omega
    refine⟨iv,rfl,ln,vlt,vv,?_⟩
    cases h4:S.getD v.toNat false with
    |true =>
     rw[A5 (show z9t f.types S v w=true by unfold z9t;rw[h4];simp)];rw[h4]at iS
     exact VRow.mk (i:=v.toNat) (j:=0) ln rfl iS rfl ⟨sI,bx ln.symm,rfl,Gf⟩
    |false =>
     rw[h4]at iS;refine VRow.mk (i:=v.toNat) (j:=0) ln rfl iS rfl ⟨iw,rfl,z00 (λh5=>⟨iv,rfl,it,by omega,iw,rfl,z00 (λh6=>?_) λh6=>?_⟩) λh5=>?_⟩
     ·have e5:(w != 0)=true:=h5;have e6:(f.types.getD v.toNat 0 != w)=true:=h6;rw[A5 (show z9t f.types S v w=true by unfold z9t;rw[e5,e6];simp)];exact⟨sI,bx ln.symm,rfl,Gf⟩
     ·have e6:(f.types.getD v.toNat 0 != w)=false:=h6;have ok:z9t f.types S v w=false:=by unfold z9t;rw[e2,e3,h4,e6,D1];rfl
      rw[A1 (by rw[ok];exact Bool.false_ne_true)];exact⟨iv,rfl,ln,vlt,vv,⟨v.toNat,0,zf9 false,ln,rfl,iS,by decide,z01 rfl oM0,(k+1,S.set v.toNat true),z05 hlt,⟨hlt,by rw[E5,hS],rfl⟩,Gg,⟨by rw[C8];rfl,Gf⟩,rfl,rfl,rfl,rfl⟩⟩
     ·have e5:(w != 0)=false:=h5;have ok:z9t f.types S v w=false:=by unfold z9t;rw[e2,e3,h4,e5,D2];rfl
      rw[A1 (by rw[ok];exact Bool.false_ne_true)];exact⟨iv,rfl,ln,vlt,vv,⟨v.toNat,0,zf9 false,ln,rfl,iS,by decide,z01 rfl oM0,(k+1,S.set v.toNat true),z05 hlt,⟨hlt,by rw[E5,hS],rfl⟩,Gg,⟨by rw[C8];rfl,Gf⟩,rfl,rfl,rfl,rfl⟩⟩
  ·rw[Ae (z13 (f:=eInt) rfl hc)];exact⟨sI,bx ln.symm,rfl,Gf⟩
theorem yy0(op:Int):SC Tryz.prog 181 [iInt op] [] (λ_=>False) (iBool (z2w op)) []:=by
 refine SC.anyR (K0 tb {} [] Tryz.func181 rfl rfl ?_);unfold z2w;refine z00 (λh=>⟨sE ?_,Gf⟩) λh=>⟨sE ?_,Gf⟩
 ·rw[show decide (op≥20)=true from h];rfl
 ·rw[show decide (op≥20)=false from h];rfl
theorem yy1(op:Int):SC Tryz.prog 185 [iInt op] [] (λ_=>False) (iBool (z3o op)) []:=by
 refine SC.anyR (K0 tb {} [] Tryz.func185 rfl rfl ?_);unfold z3o;refine z00 (λh=>⟨sE ?_,Gf⟩) λh=>⟨sE ?_,Gf⟩
 ·rw[show decide (op≥1)=true from h];rfl
 ·rw[show decide (op≥1)=false from h];rfl
theorem zw9(op:Int):SC Tryz.prog 184 [iInt op] [] (λ_=>False) (.tup [iInt (z0h op).1,iInt (z0h op).2]) []:=by
 refine SC.anyR (K0 tb {} [] Tryz.func184 rfl rfl ?_)
 by_cases h:op=22∨op=18∨op=19∨op=16∨op=17∨op=12∨op=13∨op=14∨op=15
 ·rcases h with rfl|rfl|rfl|rfl|rfl|rfl|rfl|rfl|rfl<;>exact⟨sI,Gf⟩
 ·have hT:z0h op=(1,1):=by
   unfold z0h;rw[A1 (by simp;omega),A1 (by simp;omega),A1 (by simp;omega)]
  rw[hT];refine z00 (λg=>A9 (Av g) oM0) λ_=>z00 (λg=>A9 (Av g) oM0) λ_=>z00 (λg=>A9 (Av g) oM0) λ_=>z00 (λg=>A9 (Av g) oM0) λ_=>z00 (λg=>A9 (Av g) oM0) λ_=>z00 (λg1=>z00 (λg2=>?_) λg2=>⟨sI,Gf⟩) λ_=>⟨sI,Gf⟩;have g1:op≥12:=Ap g1;have g2:op<=15:=Ap g2;exact A9 h oM0
theorem getD_at8{l:List Int}{i:Nat}(h:i<l.length):l[i]?=some (l.getD i 0):=by simp[h]
theorem ckHp_in{u:Un}{f:Fl}{bt:TypeId}{set:List Bool}{k:Nat}(h:look (up (ckHp u f bt set)) k≠none):k∈[3,4]:=by
 by_cases h3:k=3
 ·subst h3;decide
 ·by_cases h4:k=4
  ·subst h4;decide
  ·exfalso;apply h;simp only[ckHp,up,B7,Cv,look,z45 (C4 h3),z45 (C4 h4)];rfl
theorem yg5(u:Un)(f:Fl)(set:List Bool)(l:List Int)(hb:l.length<=34359738368):SC Tryz.prog 135 [.ptr 3 0,.pv (ints l)] (ckHp u f 4 set) (λk=>k<100) (.pv (ints (r8of f.types l))) (ckHp u f 4 set):=by
 refine L0 (K0 tb { gh:=[(2,[.grow 5 1001 3 1]),(8,[.fz 5 1001])] } [3,4] Tryz.func135 rfl rfl ?_) λk h _=>ckHp_in h;have lt1:((f.types.map eInt).length:Int)=f.types.length:=by rw[Ab]
 refine⟨Nat,λi=>[(6,iInt ((i:Nat):Int)),(5,.sl 1001 (((l.take i).map λv=>f.types.getD v.toNat 0).map eInt).length)],λi=>[(1001,.row ⟨3,1⟩ (((l.take i).map λv=>f.types.getD v.toNat 0).map eInt))],λi=>l.length-i,λi=>i<=l.length/\(l.take i).all (zs1 f.types)=true,[],0,⟨Aj _,by simp⟩,Gi,Gg,?_⟩;rintro i ⟨hi,ha⟩;refine z00 (λhc=>?_) λhc=>?_
 ·have hlt:i<l.length:=z12 (f:=eInt) rfl hc;obtain⟨x,x1,x2,x3,x4⟩:=z0u hlt;have bad:zs1 f.types x=false->r8of f.types l=[]:=λhv=>by
   unfold r8of;rw[A1];intro h;rw[Bj]at h;have:=h x x4;rw[hv]at this;cases this
  refine⟨z02 (f:=eInt) x1,rfl,z00 (λh1=>?_) λh1=>?_⟩
  ·have h1:x<0:=Ap h1;rw[bad (by unfold zs1;rw[Dk (by omega:¬0<=x)];rfl)];exact⟨sN,rfl,rfl,Gf⟩
  have h1:¬x<0:=Am h1;refine⟨z02 (f:=eInt) x1,rfl,z00 (λh2=>?_) λh2=>?_⟩
  ·have h2:=Ap h2;rw[lt1]at h2;rw[bad (by unfold zs1;rw[Dk (by omega:¬x<f.types.length),D1])];exact⟨sN,rfl,rfl,Gf⟩
  have h2:=Am h2;rw[lt1]at h2;have hv:zs1 f.types x=true:=by unfold zs1;rw[Cb (by omega:0<=x),Cb (by omega:x<f.types.length)];rfl
  exact⟨z02 (f:=eInt) x1,rfl,z02 (f:=eInt) (getD_at8 (show x.toNat<f.types.length by omega)),by omega,rfl,z3u rfl,by simp;omega,z01 rfl oM0,i+1,z05 hlt,⟨hlt,by rw[x2];simp[ha,hv]⟩,⟨rfl,slq (by rw[x2];simp),Gf⟩,⟨rwq (by rw[x2];simp[eInt]),Gf⟩,rfl,rfl,rfl,rfl⟩
 ·have hge:l.length<=i:=z13 (f:=eInt) rfl hc;rw[Az hge]at ha⊢;have hT:r8of f.types l=l.map λv=>f.types.getD v.toNat 0:=by unfold r8of;rw[A5 ha]
  rw[hT];exact⟨rfl,sI,rfl,rfl,Gf⟩
theorem yf2{u:Un}{f:Fl}{set:List Bool}{x:Nd}{seen:List Int}{g:Fl}(h:z06 x.name u.flows 0≥0)(hg:u.flows[(z06 x.name u.flows 0).toNat]?=some g) :
 zd6 u f set x seen=andS (z07 f.types seen x.args (g.types.take g.params.toNat)) set (z1w f.types set x.outs [g.ty]):=by
 unfold zd6;rw[A5 (Cb h),hg]
theorem yf1{u:Un}{f:Fl}{set:List Bool}{x:Nd}{seen:List Int}(h:decide (z06 x.name u.flows 0≥0)=false):zd6 u f set x seen=(false,set):=by
 unfold zd6;rw[h];rfl
theorem yg6(u:Un)(f:Fl)(set:List Bool)(hs:set.length=f.types.length)(hg:∀g∈u.flows,0<=g.params/\g.params<=g.types.length)(x:Nd)(seen:List Int)(wh:Wh):SC Tryz.prog 138 [.ptr 3 0,.pv (ndv x),.pv (ints seen),.pv (whv wh)] (ckHp u f 4 set) (λk=>k=3) (iBool (z1k u f set x seen wh).1) (ckHp u f 4 (z1k u f set x seen wh).2):=by
 refine L0 (K0 tb {} [3] Tryz.func138 rfl rfl ?_) λk _ h=>Al.2 h;obtain⟨kind,op,n,name,args,outs,params,kids⟩:=x;rcases(show kind=1∨kind=2∨kind=3∨kind=4∨kind=5∨kind=6∨kind=7∨kind=9∨kind=8∨kind=12∨kind=13∨kind=14∨kind=15∨(kind≠1/\kind≠2/\kind≠3/\kind≠4/\kind≠5/\kind≠6/\kind≠7/\kind≠8/\kind≠9/\kind≠12/\kind≠13/\kind≠14/\kind≠15) by omega)with rfl|rfl|rfl|rfl|rfl|rfl|rfl|rfl|rfl|rfl|rfl|rfl|rfl|hk
 ·have hT:=z2j u f set args seen [];have hS:=z4y u f set outs [1] hs;rw[show z1k u f set ⟨1,op,n,name,args,outs,params,kids⟩ seen wh=andS (z07 f.types seen args []) set (z1w f.types set outs [1])from rfl];generalize z07 f.types seen args []=b at hT⊢
  cases b with
  |true=>exact⟨[3,4],hT,H0 (H0 (H0 (I0 sN sR))),⟨rfl,rfl,Gf,rfl,rfl,Gf⟩,rfl,[],hS,sR,Gj,rfl,sI,rfl,rfl,Gf⟩
  |false=>exact⟨[3,4],hT,H0 (H0 (H0 (I0 sN sR))),⟨rfl,rfl,Gf,rfl,rfl,Gf⟩,rfl,sI,rfl,rfl,Gf⟩
 ·have hT:=z2j u f set args seen [];have hS:=z4y u f set outs [2] hs;rw[show z1k u f set ⟨2,op,n,name,args,outs,params,kids⟩ seen wh=andS ((n==0||n==1)&&z07 f.types seen args []) set (z1w f.types set outs [2])from rfl];generalize z07 f.types seen args []=b at hT⊢;refine z00 (λh0=>?_) λh0=>?_
  ·rw[show(n==0)=true from h0]
   cases b with
   |true=>exact⟨[3,4],hT,H0 (H0 (H0 (I0 sN sR))),⟨rfl,rfl,Gf,rfl,rfl,Gf⟩,rfl,[],hS,sR,Gj,rfl,sI,rfl,rfl,Gf⟩
   |false=>exact⟨[3,4],hT,H0 (H0 (H0 (I0 sN sR))),⟨rfl,rfl,Gf,rfl,rfl,Gf⟩,rfl,sI,rfl,rfl,Gf⟩
  ·rw[show(n==0)=false from h0];refine z00 (λh1=>?_) λh1=>?_
   ·rw[show(n==1)=true from h1]
    cases b with
    |true=>exact⟨[3,4],hT,H0 (H0 (H0 (I0 sN sR))),⟨rfl,rfl,Gf,rfl,rfl,Gf⟩,rfl,[],hS,sR,Gj,rfl,sI,rfl,rfl,Gf⟩
    |false=>exact⟨[3,4],hT,H0 (H0 (H0 (I0 sN sR))),⟨rfl,rfl,Gf,rfl,rfl,Gf⟩,rfl,sI,rfl,rfl,Gf⟩
   ·rw[show(n==1)=false from h1];exact⟨sI,rfl,rfl,Gf⟩
 ·have hO:=zw9 op;have hT:=z2j u f set args seen [(z0h op).1];have hS:=z4y u f set outs [(z0h op).2] hs;have hI:=yy0 op;rw[show z1k u f set ⟨3,op,n,name,args,outs,params,kids⟩ seen wh=andS (z2w op&&z07 f.types seen args [(z0h op).1]) set (z1w f.types set outs [(z0h op).2])from rfl];generalize z07 f.types seen args [(z0h op).1]=b at hT⊢;generalize z2w op=q at hI⊢
  cases q with
  |true =>
   cases b with
   |true=>exact⟨[],hO,sR,Gf,rfl,[],hI,sR,Gf,rfl,[3,4],hT,sR,⟨rfl,rfl,Gf,rfl,rfl,Gf⟩,rfl,[],hS,sR,Gj,rfl,sI,rfl,rfl,Gf⟩
   |false=>exact⟨[],hO,sR,Gf,rfl,[],hI,sR,Gf,rfl,[3,4],hT,sR,⟨rfl,rfl,Gf,rfl,rfl,Gf⟩,rfl,sI,rfl,rfl,Gf⟩
  |false=>exact⟨[],hO,sR,Gf,rfl,[],hI,sR,Gf,rfl,sI,rfl,rfl,Gf⟩
 ·have hO:=zw9 op;have hT:=z2j u f set args seen [(z0h op).1,(z0h op).1];have hS:=z4y u f set outs [(z0h op).2] hs;have hI:=yy1 op;rw[show z1k u f set ⟨4,op,n,name,args,outs,params,kids⟩ seen wh=andS (z3o op&&z07 f.types seen args [(z0h op).1,(z0h op).1]&&f.types.getD (args.getD 0 0).toNat 0==f.types.getD (args.getD 1 0).toNat 0) set (z1w f.types set outs [(z0h op).2])from rfl]
  cases hb:z07 f.types seen args [(z0h op).1,(z0h op).1]with
  |false =>
   rw[hb]at hT;generalize z3o op=q at hI⊢
   cases q with
   |true=>exact⟨[],hO,sR,Gf,rfl,[],hI,sR,Gf,rfl,[3,4],hT,sR,⟨rfl,rfl,Gf,rfl,rfl,Gf⟩,rfl,sI,rfl,rfl,Gf⟩
   |false=>exact⟨[],hO,sR,Gf,rfl,[],hI,sR,Gf,rfl,sI,rfl,rfl,Gf⟩
  |true =>
   rw[hb]at hT;obtain⟨a,b,rfl,a0,a1,b0,b1⟩:=yf3 hb;have ga:f.types[a.toNat]?=some (f.types.getD a.toNat 0):=by rw[Ax,Ad a1];rfl
   have gb:f.types[b.toNat]?=some (f.types.getD b.toNat 0):=by rw[Ax,Ad b1];rfl
   generalize z3o op=q at hI⊢
   cases q with
   |false=>exact⟨[],hO,sR,Gf,rfl,[],hI,sR,Gf,rfl,sI,rfl,rfl,Gf⟩
   |true =>
    rw[show([a,b].getD 0 0:Int)=a from rfl,show([a,b].getD 1 0:Int)=b from rfl];refine⟨[],hO,sR,Gf,rfl,[],hI,sR,Gf,rfl,[3,4],hT,sR,⟨rfl,rfl,Gf,rfl,rfl,Gf⟩,rfl,at0 (a:=eInt a),rfl,z02 (f:=eInt) ga,by omega,at1 (b:=eInt b),rfl,z02 (f:=eInt) gb,by omega,z00 (λh=>?_) λh=>?_⟩
    ·rw[show(f.types.getD a.toNat 0==f.types.getD b.toNat 0)=true from h];exact⟨[],hS,sR,Gj,rfl,sI,rfl,rfl,Gf⟩
    ·rw[show(f.types.getD a.toNat 0==f.types.getD b.toNat 0)=false from h];exact⟨sI,rfl,rfl,Gf⟩
 ·have hA:=z0d u name;have hT:=z2j u f set args seen [1];have hS:=z4y u f set outs [1] hs;rw[show z1k u f set ⟨5,op,n,name,args,outs,params,kids⟩ seen wh=andS (decide (z0i name u.arrays 0≥0)&&z07 f.types seen args [1]) set (z1w f.types set outs [1])from rfl];generalize z07 f.types seen args [1]=b at hT⊢;refine⟨[],hA,sR,Gf,rfl,z00 (λh=>?_) λh=>?_⟩
  ·rw[show decide (z0i name u.arrays 0≥0)=true from h]
   cases b with
   |true=>exact⟨[3,4],hT,sR,⟨rfl,rfl,Gf,rfl,rfl,Gf⟩,rfl,[],hS,sR,Gj,rfl,sI,rfl,rfl,Gf⟩
   |false=>exact⟨[3,4],hT,sR,⟨rfl,rfl,Gf,rfl,rfl,Gf⟩,rfl,sI,rfl,rfl,Gf⟩
  ·rw[show decide (z0i name u.arrays 0≥0)=false from h];exact⟨sI,rfl,rfl,Gf⟩
 ·have hA:=z0d u name;have hT:=z2j u f set args seen [1,1];rw[show z1k u f set ⟨6,op,n,name,args,outs,params,kids⟩ seen wh=(decide (z0i name u.arrays 0≥0)&&z07 f.types seen args [1,1]&&(outs.length:Int)==0,set)from rfl];generalize z07 f.types seen args [1,1]=b at hT⊢;refine⟨[],hA,sR,Gf,rfl,z00 (λh=>?_) λh=>?_⟩
  ·rw[show decide (z0i name u.arrays 0≥0)=true from h]
   cases b with
   |true=>exact⟨[3,4],hT,sR,⟨rfl,rfl,Gf,rfl,rfl,Gf⟩,rfl,sE (by simp[Nd.outs]),rfl,rfl,Gf⟩
   |false=>exact⟨[3,4],hT,sR,⟨rfl,rfl,Gf,rfl,rfl,Gf⟩,rfl,sI,rfl,rfl,Gf⟩
  ·rw[show decide (z0i name u.arrays 0≥0)=false from h];exact⟨sI,rfl,rfl,Gf⟩
 ·have hP:=z4n u name;rw[show z1k u f set ⟨7,op,n,name,args,outs,params,kids⟩ seen wh=zd6 u f set ⟨7,op,n,name,args,outs,params,kids⟩ seen from rfl]
  cases hp:decide (z06 name u.flows 0≥0)with
  |true =>
   have h0:z06 name u.flows 0≥0:=by simpa using hp
   obtain⟨g,hgk,_⟩:=ze9 h0;rw[show zd6 u f set ⟨7,op,n,name,args,outs,params,kids⟩ seen=andS (z07 f.types seen args (g.types.take g.params.toNat)) set (z1w f.types set outs [g.ty])from yf2 h0 hgk];obtain⟨g0,g1⟩:=hg g (Af hgk);have hT:=z2j u f set args seen (g.types.take g.params.toNat);have hS:=z4y u f set outs [g.ty] hs;have hi:=z02 (f:=Fl.enc) hgk;generalize z07 f.types seen args (g.types.take g.params.toNat)=b at hT⊢
   cases b with
   |true=>exact⟨[],hP,sR,Gf,rfl,z00 (λ_=>⟨hi,by omega,hi,by omega,g.params.toNat,by omega,by omega,by simp;omega,zl7,[3,4],hT,H0 (H0 (H0 (I0 (sE (by simp[ints])) sR))),⟨rfl,rfl,Gf,rfl,rfl,Gf⟩,rfl,hi,by omega,[],hS,sR,Gj,rfl,sI,rfl,rfl,Gf⟩) λh=>A9 (hp.symm.trans h) dC0⟩
   |false=>exact⟨[],hP,sR,Gf,rfl,z00 (λ_=>⟨hi,by omega,hi,by omega,g.params.toNat,by omega,by omega,by simp;omega,zl7,[3,4],hT,H0 (H0 (H0 (I0 (sE (by simp[ints])) sR))),⟨rfl,rfl,Gf,rfl,rfl,Gf⟩,rfl,sI,rfl,rfl,Gf⟩) λh=>A9 (hp.symm.trans h) dC0⟩
  |false =>
   rw[show zd6 u f set ⟨7,op,n,name,args,outs,params,kids⟩ seen=(false,set)from yf1 hp];exact⟨[],hP,sR,Gf,rfl,z00 (λh=>A9 (hp.symm.trans h) dC0) λ_=>⟨sI,rfl,rfl,Gf⟩⟩
 ·have hT:=z2j u f set args seen [1];rw[show z1k u f set ⟨9,op,n,name,args,outs,params,kids⟩ seen wh=(z07 f.types seen args [1]&&(outs.length:Int)==0,set)from rfl];generalize z07 f.types seen args [1]=b at hT⊢
  cases b with
  |true=>exact⟨[3,4],hT,sR,⟨rfl,rfl,Gf,rfl,rfl,Gf⟩,rfl,sE (by simp[Nd.outs]),rfl,rfl,Gf⟩
  |false=>exact⟨[3,4],hT,sR,⟨rfl,rfl,Gf,rfl,rfl,Gf⟩,rfl,sI,rfl,rfl,Gf⟩
 ·have hS:=z4y u f set outs [1] hs;rw[show z1k u f set ⟨8,op,n,name,args,outs,params,kids⟩ seen wh=andS ((args.length:Int)==0) set (z1w f.types set outs [1])from rfl];refine z00 (λh=>?_) λh=>?_
  ·rw[show((args.length:Int)==0)=true by simpa[Nd.args]using h];exact⟨[],hS,sR,Gj,rfl,sI,rfl,rfl,Gf⟩
  ·rw[show((args.length:Int)==0)=false by simpa[Nd.args]using h];exact⟨sI,rfl,rfl,Gf⟩
 ·obtain⟨If,Loop,Yield,Next,Left⟩:=wh;have hT:=z2j u f set args seen Yield;rw[show z1k u f set ⟨12,op,n,name,args,outs,params,kids⟩ seen ⟨If,Loop,Yield,Next,Left⟩=(If&&z07 f.types seen args Yield&&(outs.length:Int)==0,set)from rfl];generalize z07 f.types seen args Yield=b at hT⊢
  cases If with
  |true =>
   cases b with
   |true=>exact⟨[3,4],hT,sR,⟨rfl,rfl,Gf,rfl,rfl,Gf⟩,rfl,sE (by simp[Nd.outs]),rfl,rfl,Gf⟩
   |false=>exact⟨[3,4],hT,sR,⟨rfl,rfl,Gf,rfl,rfl,Gf⟩,rfl,sI,rfl,rfl,Gf⟩
  |false=>exact⟨sI,rfl,rfl,Gf⟩
 ·obtain⟨If,Loop,Yield,Next,Left⟩:=wh;have hT:=z2j u f set args seen Next;rw[show z1k u f set ⟨13,op,n,name,args,outs,params,kids⟩ seen ⟨If,Loop,Yield,Next,Left⟩=(Loop&&z07 f.types seen args Next&&(outs.length:Int)==0,set)from rfl];generalize z07 f.types seen args Next=b at hT⊢
  cases Loop with
  |true =>
   cases b with
   |true=>exact⟨[3,4],hT,sR,⟨rfl,rfl,Gf,rfl,rfl,Gf⟩,rfl,sE (by simp[Nd.outs]),rfl,rfl,Gf⟩
   |false=>exact⟨[3,4],hT,sR,⟨rfl,rfl,Gf,rfl,rfl,Gf⟩,rfl,sI,rfl,rfl,Gf⟩
  |false=>exact⟨sI,rfl,rfl,Gf⟩
 ·obtain⟨If,Loop,Yield,Next,Left⟩:=wh;have hT:=z2j u f set args seen Left;rw[show z1k u f set ⟨14,op,n,name,args,outs,params,kids⟩ seen ⟨If,Loop,Yield,Next,Left⟩=(Loop&&z07 f.types seen args Left&&(outs.length:Int)==0,set)from rfl];generalize z07 f.types seen args Left=b at hT⊢
  cases Loop with
  |true =>
   cases b with
   |true=>exact⟨[3,4],hT,sR,⟨rfl,rfl,Gf,rfl,rfl,Gf⟩,rfl,sE (by simp[Nd.outs]),rfl,rfl,Gf⟩
   |false=>exact⟨[3,4],hT,sR,⟨rfl,rfl,Gf,rfl,rfl,Gf⟩,rfl,sI,rfl,rfl,Gf⟩
  |false=>exact⟨sI,rfl,rfl,Gf⟩
 ·have hT:=z2j u f set args seen [f.ty];rw[show z1k u f set ⟨15,op,n,name,args,outs,params,kids⟩ seen wh=(z07 f.types seen args [f.ty]&&(outs.length:Int)==0,set)from rfl];generalize z07 f.types seen args [f.ty]=b at hT⊢
  cases b with
  |true=>exact⟨[3,4],hT,sR,⟨rfl,rfl,Gf,rfl,rfl,Gf⟩,rfl,sE (by simp[Nd.outs]),rfl,rfl,Gf⟩
  |false=>exact⟨[3,4],hT,sR,⟨rfl,rfl,Gf,rfl,rfl,Gf⟩,rfl,sI,rfl,rfl,Gf⟩
 ·obtain⟨k1,k2,k3,k4,k5,k6,k7,k8,k9,k12,k13,k14,k15⟩:=hk;have no:∀{i:Int},kind≠i->(kind==i)=true->False:=λh e=>h (Av e);have ne:∀{i:Int},kind≠i->(kind==i)=false:=λh=>Aa.2 h;rw[show z1k u f set ⟨kind,op,n,name,args,outs,params,kids⟩ seen wh=(false,set) by unfold z1k;simp only[Nd.kind,ne k1,ne k2,ne k3,ne k4,ne k5,ne k6,ne k7,ne k8,ne k9,ne k12,ne k13,ne k14,ne k15];rfl];exact z00 (λh=>(no k1 h).elim) λ_=>z00 (λh=>(no k2 h).elim) λ_=>z00 (λh=>(no k3 h).elim) λ_=>z00 (λh=>(no k4 h).elim) λ_=>z00 (λh=>(no k5 h).elim) λ_=>z00 (λh=>(no k6 h).elim) λ_=>z00 (λh=>(no k7 h).elim) λ_=>z00 (λh=>(no k8 h).elim) λ_=>z00 (λh=>(no k9 h).elim) λ_=>z00 (λh=>(no k12 h).elim) λ_=>z00 (λh=>(no k13 h).elim) λ_=>z00 (λh=>(no k14 h).elim) λ_=>z00 (λh=>(no k15 h).elim) λ_=>⟨sI,rfl,rfl,Gf⟩
theorem j41(u:Un)(f:Fl)(hg:∀g∈u.flows,0<=g.params/\g.params<=g.types.length)(x:Nd)(deep:Int)(hd:0<=deep/\deep<=100)(wh:Wh)(seen:List Int)(set:List Bool)(hs:set.length=f.types.length)(hb:seen.length+ndW x<=34359738368)(ih:∀q∈x.kids,∀(deep:Int)(w:Wh)(all:List Int)(set:List Bool),0<=deep/\deep<=101->set.length=f.types.length->all.length+lsW q<=34359738368->SC Tryz.prog 48 [.ptr 3 0,.pv (z2h q),.pv (ints all),.pv (whv w),iInt deep] (ckHp u f 4 set) (λk=>k=3) (iBool (z2o u f deep w all set q).1) (ckHp u f 4 (z2o u f deep w all set q).2)):SC Tryz.prog 88 [.ptr 3 0,.pv (ndv x),.pv (ints seen),.pv (whv wh),iInt deep] (ckHp u f 4 set) (λk=>k=3) (iBool (z4x u f deep wh seen set x).1) (ckHp u f 4 (z4x u f deep wh seen set x).2):=by
 refine L0 (K0 tb { pb:=[182,213,252],gh:=[(15,[.fz 14 219])] } [3] Tryz.func88 rfl rfl ?_) λk _ h=>Al.2 h;have hbW:=zb5 x;have hbo:x.outs.length<=34359738368:=by omega
 have hbp:x.params.length<=34359738368:=by omega
 have hml:((x.outs.map eInt).length:Int)=x.outs.length:=by simp
 have hBare:=j3z x
 cases hbr:z1m x with
 |false =>
  rw[hbr]at hBare;rw[zi7 u f deep wh seen set hbr]
  exact⟨[],hBare,sR,Gf,rfl,sI,rfl,rfl,Gf⟩
 |true =>
  rw[hbr]at hBare
  by_cases h10:x.kind=10
  ·obtain⟨a,b,hk⟩:=z3h hbr h10;rw[y1f u f deep wh seen set hbr h10 hk];have k0:(x.kids.map eKid)[0]?=some [z2h a]:=by rw[hk];rfl
   have k1:(x.kids.map eKid)[1]?=some [z2h b]:=by rw[hk];rfl
   have hkw:kdW x.kids=1+lsW a+(1+lsW b+0):=by rw[hk];rfl
   have hO:=yg5 u f set x.outs hbo;have hT:=z2j u f set x.args seen [2];generalize z07 f.types seen x.args [2]=tb at hT⊢
   cases tb with
   |false=>exact⟨[],hBare,sR,Gf,rfl,z00 (λ_=>⟨[3,4],hO,sR,⟨rfl,rfl,by decide,rfl,rfl,Gf⟩,rfl,[3,4],hT,sR,⟨rfl,rfl,Gf,rfl,rfl,Gf⟩,rfl,sI,rfl,rfl,Gf⟩) λh=>A9 (At.2 h10) (by rw[h];decide)⟩
   |true =>
    rw[A5 rfl];have hA:=ih a (by rw[hk];exact .head _) (deep+1) ⟨true,wh.Loop,r8of f.types x.outs,wh.Next,wh.Left⟩ seen set oM0 hs oM0;have hl1:=(z9u u f (deep+1) ⟨true,wh.Loop,r8of f.types x.outs,wh.Next,wh.Left⟩ seen set a).trans hs;generalize z2o u f (deep+1) ⟨true,wh.Loop,r8of f.types x.outs,wh.Next,wh.Left⟩ seen set a=ra at hA hl1⊢;obtain⟨ba,s1⟩:=ra
    cases ba with
    |false=>exact⟨[],hBare,sR,Gf,rfl,z00 (λ_=>⟨[3,4],hO,sR,⟨rfl,rfl,by decide,rfl,rfl,Gf⟩,rfl,[3,4],hT,sR,⟨rfl,rfl,Gf,rfl,rfl,Gf⟩,rfl,k0,rfl,z01 rfl oM0,[],hA,sR,Gj,rfl,sI,rfl,rfl,Gf⟩) λh=>A9 (At.2 h10) (by rw[h];decide)⟩
    |true =>
     unfold andT;rw[A5 rfl];dsimp only at hl1;have hB:=ih b (by rw[hk];exact .tail _ (.head _)) (deep+1) ⟨true,wh.Loop,r8of f.types x.outs,wh.Next,wh.Left⟩ seen s1 oM0 hl1 oM0;have hl2:=(z9u u f (deep+1) ⟨true,wh.Loop,r8of f.types x.outs,wh.Next,wh.Left⟩ seen s1 b).trans hl1;dsimp only;generalize z2o u f (deep+1) ⟨true,wh.Loop,r8of f.types x.outs,wh.Next,wh.Left⟩ seen s1 b=rb at hB hl2⊢;obtain⟨bb,s2⟩:=rb
     cases bb with
     |false=>exact⟨[],hBare,sR,Gf,rfl,z00 (λ_=>⟨[3,4],hO,sR,⟨rfl,rfl,by decide,rfl,rfl,Gf⟩,rfl,[3,4],hT,sR,⟨rfl,rfl,Gf,rfl,rfl,Gf⟩,rfl,k0,rfl,z01 rfl oM0,[],hA,sR,Gj,rfl,k1,rfl,z01 rfl oM0,[],hB,sR,Gj,rfl,sI,rfl,rfl,Gf⟩) λh=>A9 (At.2 h10) (by rw[h];decide)⟩
     |true =>
      rw[A5 rfl];dsimp only at hl2⊢;have hE:=z4y u f s2 x.outs (List.replicate x.outs.length 0) hl2;have hC:=zj7 x;unfold zg6;generalize z04 x=cl at hC⊢
      cases ho:((x.outs.length:Int)==0)with
      |true=>exact⟨[],hBare,sR,Gf,rfl,z00 (λ_=>⟨[3,4],hO,sR,⟨rfl,rfl,by decide,rfl,rfl,Gf⟩,rfl,[3,4],hT,sR,⟨rfl,rfl,Gf,rfl,rfl,Gf⟩,rfl,k0,rfl,z01 rfl oM0,[],hA,sR,Gj,rfl,k1,rfl,z01 rfl oM0,[],hB,sR,Gj,rfl,z00 (λ_=>⟨rfl,rfl,by simp;omega,[],hE,H0 (H0 (I0 (sE (by simp[ints,eInt];exact .inr rfl)) sR)),Gj,rfl,sI,rfl,rfl,Gf⟩) λh=>A9 (ho.symm.trans (show((x.outs.length:Int)==0)=false by rw[hml]at h;exact h)) dC0⟩) λh=>A9 (At.2 h10) (by rw[h];decide)⟩
      |false =>
       cases cl with
       |true=>exact⟨[],hBare,sR,Gf,rfl,z00 (λ_=>⟨[3,4],hO,sR,⟨rfl,rfl,by decide,rfl,rfl,Gf⟩,rfl,[3,4],hT,sR,⟨rfl,rfl,Gf,rfl,rfl,Gf⟩,rfl,k0,rfl,z01 rfl oM0,[],hA,sR,Gj,rfl,k1,rfl,z01 rfl oM0,[],hB,sR,Gj,rfl,z00 (λh=>A9 (ho.symm.trans (show((x.outs.length:Int)==0)=true by rw[hml]at h;exact h)) dC0) λ_=>⟨[],hC,sR,Gf,rfl,sI,rfl,rfl,Gf⟩⟩) λh=>A9 (At.2 h10) (by rw[h];decide)⟩
       |false=>exact⟨[],hBare,sR,Gf,rfl,z00 (λ_=>⟨[3,4],hO,sR,⟨rfl,rfl,by decide,rfl,rfl,Gf⟩,rfl,[3,4],hT,sR,⟨rfl,rfl,Gf,rfl,rfl,Gf⟩,rfl,k0,rfl,z01 rfl oM0,[],hA,sR,Gj,rfl,k1,rfl,z01 rfl oM0,[],hB,sR,Gj,rfl,z00 (λh=>A9 (ho.symm.trans (show((x.outs.length:Int)==0)=true by rw[hml]at h;exact h)) dC0) λ_=>⟨[],hC,sR,Gf,rfl,rfl,rfl,by simp;omega,[],hE,H0 (H0 (I0 (sE (by simp[ints,eInt];exact .inr rfl)) sR)),Gj,rfl,sI,rfl,rfl,Gf⟩⟩) λh=>A9 (At.2 h10) (by rw[h];decide)⟩
  by_cases h11:x.kind=11
  ·obtain⟨a,hk⟩:=z25 hbr h11;rw[zi8 u f deep wh seen set hbr h11 hk];have k0:(x.kids.map eKid)[0]?=some [z2h a]:=by rw[hk];rfl
   have hkw:kdW x.kids=1+lsW a+0:=by rw[hk];rfl
   have hP:=yg5 u f set x.params hbp;have hO:=yg5 u f set x.outs hbo;have hT:=z2j u f set x.args seen (r8of f.types x.params);generalize z07 f.types seen x.args (r8of f.types x.params)=tb at hT⊢
   cases tb with
   |false=>exact⟨[],hBare,sR,Gf,rfl,z00 (λh=>A9 (Av h) h10) λ_=>z00 (λ_=>⟨[3,4],hP,sR,⟨rfl,rfl,by decide,rfl,rfl,Gf⟩,rfl,[3,4],hO,sR,⟨rfl,rfl,by decide,rfl,rfl,Gf⟩,rfl,[3,4],hP,sR,⟨rfl,rfl,by decide,rfl,rfl,Gf⟩,rfl,[3,4],hT,sR,⟨rfl,rfl,Gf,rfl,rfl,Gf⟩,rfl,sI,rfl,rfl,Gf⟩) λh=>A9 (At.2 h11) (by rw[h];decide)⟩
   |true =>
    rw[A5 rfl];have hS:=z4y u f set x.params (List.replicate x.params.length 0) hs;have hl1:=(z7c f.types set x.params (List.replicate x.params.length 0)).trans hs;generalize z1w f.types set x.params (List.replicate x.params.length 0)=rs at hS hl1⊢;obtain⟨bs,s1⟩:=rs
    cases bs with
    |false=>exact⟨[],hBare,sR,Gf,rfl,z00 (λh=>A9 (Av h) h10) λ_=>z00 (λ_=>⟨[3,4],hP,sR,⟨rfl,rfl,by decide,rfl,rfl,Gf⟩,rfl,[3,4],hO,sR,⟨rfl,rfl,by decide,rfl,rfl,Gf⟩,rfl,[3,4],hP,sR,⟨rfl,rfl,by decide,rfl,rfl,Gf⟩,rfl,[3,4],hT,sR,⟨rfl,rfl,Gf,rfl,rfl,Gf⟩,rfl,rfl,rfl,by simp;omega,[],hS,H0 (H0 (I0 (sE (by simp[ints,eInt];exact .inr rfl)) sR)),Gj,rfl,sI,rfl,rfl,Gf⟩) λh=>A9 (At.2 h11) (by rw[h];decide)⟩
    |true =>
     unfold andT;rw[A5 rfl];dsimp only at hl1;have hA:=ih a (by rw[hk];exact .head _) (deep+1) ⟨false,true,[],r8of f.types x.params,r8of f.types x.outs⟩ (seen++x.params) s1 oM0 hl1 (by simp;omega);have hl2:=(z9u u f (deep+1) ⟨false,true,[],r8of f.types x.params,r8of f.types x.outs⟩ (seen++x.params) s1 a).trans hl1;dsimp only;generalize z2o u f (deep+1) ⟨false,true,[],r8of f.types x.params,r8of f.types x.outs⟩ (seen++x.params) s1 a=ra at hA hl2⊢;obtain⟨ba,s2⟩:=ra
     cases ba with
     |false=>exact⟨[],hBare,sR,Gf,rfl,z00 (λh=>A9 (Av h) h10) λ_=>z00 (λ_=>⟨[3,4],hP,sR,⟨rfl,rfl,by decide,rfl,rfl,Gf⟩,rfl,[3,4],hO,sR,⟨rfl,rfl,by decide,rfl,rfl,Gf⟩,rfl,[3,4],hP,sR,⟨rfl,rfl,by decide,rfl,rfl,Gf⟩,rfl,[3,4],hT,sR,⟨rfl,rfl,Gf,rfl,rfl,Gf⟩,rfl,rfl,rfl,by simp;omega,[],hS,H0 (H0 (I0 (sE (by simp[ints,eInt];exact .inr rfl)) sR)),Gj,rfl,rfl,zl2 (λ_ _=>⟨rfl,λy hy=>by simp[eInt]at hy;subst hy;rfl⟩),by simp;omega,rfl,zl2 (λ_ _=>⟨rfl,λy hy=>by simp[eInt]at hy;subst hy;rfl⟩),by simp;omega,by simp,k0,rfl,z01 rfl oM0,[],hA,H0 (H0 (I0 (sE (by simp[ints])) (I0 (sP (PSub.agg (And.intro (PSub.refl _) (And.intro (PSub.refl _) (And.intro PSub.nil (And.intro (PSub.refl _) (And.intro (PSub.refl _) trivial))))))) sR))),Gj,rfl,sI,rfl,rfl,Gf⟩) λh=>A9 (At.2 h11) (by rw[h];decide)⟩
     |true =>
      rw[A5 rfl];dsimp only at hl2⊢;have hE:=z4y u f s2 x.outs (List.replicate x.outs.length 0) hl2;have hC:=zj7 x;unfold zg6;generalize z04 x=cl at hC⊢
      cases ho:((x.outs.length:Int)==0)with
      |true=>exact⟨[],hBare,sR,Gf,rfl,z00 (λh=>A9 (Av h) h10) λ_=>z00 (λ_=>⟨[3,4],hP,sR,⟨rfl,rfl,by decide,rfl,rfl,Gf⟩,rfl,[3,4],hO,sR,⟨rfl,rfl,by decide,rfl,rfl,Gf⟩,rfl,[3,4],hP,sR,⟨rfl,rfl,by decide,rfl,rfl,Gf⟩,rfl,[3,4],hT,sR,⟨rfl,rfl,Gf,rfl,rfl,Gf⟩,rfl,rfl,rfl,by simp;omega,[],hS,H0 (H0 (I0 (sE (by simp[ints,eInt];exact .inr rfl)) sR)),Gj,rfl,rfl,zl2 (λ_ _=>⟨rfl,λy hy=>by simp[eInt]at hy;subst hy;rfl⟩),by simp;omega,rfl,zl2 (λ_ _=>⟨rfl,λy hy=>by simp[eInt]at hy;subst hy;rfl⟩),by simp;omega,by simp,k0,rfl,z01 rfl oM0,[],hA,H0 (H0 (I0 (sE (by simp[ints])) (I0 (sP (PSub.agg (And.intro (PSub.refl _) (And.intro (PSub.refl _) (And.intro PSub.nil (And.intro (PSub.refl _) (And.intro (PSub.refl _) trivial))))))) sR))),Gj,rfl,z00 (λ_=>⟨rfl,rfl,by simp;omega,[],hE,H0 (H0 (I0 (sE (by simp[ints,eInt];exact .inr rfl)) sR)),Gj,rfl,sI,rfl,rfl,Gf⟩) λh=>A9 (ho.symm.trans (show((x.outs.length:Int)==0)=false by rw[hml]at h;exact h)) dC0⟩) λh=>A9 (At.2 h11) (by rw[h];decide)⟩
      |false =>
       cases cl with
       |true=>exact⟨[],hBare,sR,Gf,rfl,z00 (λh=>A9 (Av h) h10) λ_=>z00 (λ_=>⟨[3,4],hP,sR,⟨rfl,rfl,by decide,rfl,rfl,Gf⟩,rfl,[3,4],hO,sR,⟨rfl,rfl,by decide,rfl,rfl,Gf⟩,rfl,[3,4],hP,sR,⟨rfl,rfl,by decide,rfl,rfl,Gf⟩,rfl,[3,4],hT,sR,⟨rfl,rfl,Gf,rfl,rfl,Gf⟩,rfl,rfl,rfl,by simp;omega,[],hS,H0 (H0 (I0 (sE (by simp[ints,eInt];exact .inr rfl)) sR)),Gj,rfl,rfl,zl2 (λ_ _=>⟨rfl,λy hy=>by simp[eInt]at hy;subst hy;rfl⟩),by simp;omega,rfl,zl2 (λ_ _=>⟨rfl,λy hy=>by simp[eInt]at hy;subst hy;rfl⟩),by simp;omega,by simp,k0,rfl,z01 rfl oM0,[],hA,H0 (H0 (I0 (sE (by simp[ints])) (I0 (sP (PSub.agg (And.intro (PSub.refl _) (And.intro (PSub.refl _) (And.intro PSub.nil (And.intro (PSub.refl _) (And.intro (PSub.refl _) trivial))))))) sR))),Gj,rfl,z00 (λh=>A9 (ho.symm.trans (show((x.outs.length:Int)==0)=true by rw[hml]at h;exact h)) dC0) λ_=>⟨[],hC,sR,Gf,rfl,sI,rfl,rfl,Gf⟩⟩) λh=>A9 (At.2 h11) (by rw[h];decide)⟩
       |false=>exact⟨[],hBare,sR,Gf,rfl,z00 (λh=>A9 (Av h) h10) λ_=>z00 (λ_=>⟨[3,4],hP,sR,⟨rfl,rfl,by decide,rfl,rfl,Gf⟩,rfl,[3,4],hO,sR,⟨rfl,rfl,by decide,rfl,rfl,Gf⟩,rfl,[3,4],hP,sR,⟨rfl,rfl,by decide,rfl,rfl,Gf⟩,rfl,[3,4],hT,sR,⟨rfl,rfl,Gf,rfl,rfl,Gf⟩,rfl,rfl,rfl,by simp;omega,[],hS,H0 (H0 (I0 (sE (by simp[ints,eInt];exact .inr rfl)) sR)),Gj,rfl,rfl,zl2 (λ_ _=>⟨rfl,λy hy=>by simp[eInt]at hy;subst hy;rfl⟩),by simp;omega,rfl,zl2 (λ_ _=>⟨rfl,λy hy=>by simp[eInt]at hy;subst hy;rfl⟩),by simp;omega,by simp,k0,rfl,z01 rfl oM0,[],hA,H0 (H0 (I0 (sE (by simp[ints])) (I0 (sP (PSub.agg (And.intro (PSub.refl _) (And.intro (PSub.refl _) (And.intro PSub.nil (And.intro (PSub.refl _) (And.intro (PSub.refl _) trivial))))))) sR))),Gj,rfl,z00 (λh=>A9 (ho.symm.trans (show((x.outs.length:Int)==0)=true by rw[hml]at h;exact h)) dC0) λ_=>⟨[],hC,sR,Gf,rfl,rfl,rfl,by simp;omega,[],hE,H0 (H0 (I0 (sE (by simp[ints,eInt];exact .inr rfl)) sR)),Gj,rfl,sI,rfl,rfl,Gf⟩⟩) λh=>A9 (At.2 h11) (by rw[h];decide)⟩
  ·have e10:(x.kind==10)=false:=by simpa using h10
   have e11:(x.kind==11)=false:=by simpa using h11
   have no:∀{i:Int},x.kind≠i->(x.kind==i)=true->False:=λh e=>h (Av e);rw[z9w u f deep wh seen set hbr e10 e11];exact⟨[],hBare,sR,Gf,rfl,z00 (λh=>(no h10 h).elim) λ_=>z00 (λh=>(no h11 h).elim) λ_=>⟨[],yg6 u f set hs hg x seen wh,sR,Gj,rfl,sI,rfl,rfl,Gf⟩⟩
theorem y85{hp hp2:Hp}{L:List Nat}(hh:agh hp2 hp L):∀{xs ys:List IV},yd4 (look hp) (· ∈ L) xs ys->yd4 (look hp2) (· ∈ L) xs ys
 |[],[],_=>trivial
 |[],_::_,h=>h.elim
 |_::_,[],h=>h.elim
 |x::xs,y::ys,h=>by
  refine⟨?_,y85 hh h.2⟩
  cases h.1 with
  |same=>exact .same
  |row hL hσ hn he=>exact .row hL (hh.at hσ hL) hn he
theorem yo4{P:Program}{o:Oper}{fr:Fr}{hp:Hp}{Rl:List Nat}(L:List Nat){f:FuncId}{os:Array Operand}{tys:Array TypeId}{xs args:List IV}{pre post:List (Nat×HO)}{R:Nat->Prop}{r:IV}(hsc:SC P f args pre R r post)(hf:z6n P f)
 (ho:o.op=.call { callee:=.value (.func f),args:=os,argTypes:=tys }) (hx:evs fr os.toList=some xs) (hl:yd4 (look hp) (· ∈ L) xs args) (hL:∀k∈L,look (up pre) k=none) (hpre:∀p∈pre,look hp p.1=some p.2) (hdom:pre.map (·.1)=post.map (·.1))
 (hR:∀k∈Rl,look (up pre) k=none∨R k) (hr:∃z,r=.pv (.val z)) (hpost:∀k ob,look (up post) k=some ob->y40 ob=true∨(R k/\look (up pre) k=some ob)):OkF P Rl o fr hp ⟨r,up post,post.map (·.1)++L,[]⟩:=by
 intro c fr2 hp2 hc _ hg hh _;refine ok_lend (· ∈ L) hsc hf ho (hg.evs hx λy hy=>?_) (sRf _ _) (y85 (λk hk=>hh k (C9 _ hk)) hl) hL (λk ob hk=>?_) hdom (λk hk=>hR k (hc k hk)) hr hpost
 ·rw[ho];simp only[Op.operands,Call.operands,Do];exact C9 _ hy
 ·exact hh.at (hpre (k,ob) (z1o hk)) (Bq _ (by rw[<- hdom];exact Df (f:=(·.1)) (z1o hk)))
theorem y6p(N:Nat):∀(u:Un)(f:Fl)(hg:∀g∈u.flows,0<=g.params/\g.params<=g.types.length)(l:List Nd)(deep:Int)(wh:Wh)(all:List Int)(set:List Bool)(hd:0<=deep/\deep<=101)(hs:set.length=f.types.length)(hb:all.length+lsW l<=34359738368),SizeOf.sizeOf l<N->SC Tryz.prog 48 [.ptr 3 0,.pv (z2h l),.pv (ints all),.pv (whv wh),iInt deep] (ckHp u f 4 set) (λk=>k=3) (iBool (z2o u f deep wh all set l).1) (ckHp u f 4 (z2o u f deep wh all set l).2):=by
 induction N with
 |zero=>intro u f hg l deep wh all set hd hs hb hN;exact A9 hN (An _)
 |succ N ih =>
  intro u f hg l deep wh all set hd hs hb hN;refine L0 (K0 tb { pb:=[108],an:=[6011],gh:=[(0,[.len 1]),(2,[.grow 11 111 3 1])] } [3] Tryz.func48 rfl rfl ?_) λk _ h=>Al.2 h;intro hl;simp only[Ab]at hl;have hl:l.length<=9223372036854775807:=hl;have ll:(l.map Nd.enc).length=l.length:=Ab _;unfold z2o;refine⟨rfl,zl2 (λ_ _=>⟨rfl,λy hy=>by simp[eInt]at hy;subst hy;rfl⟩),by simp;omega,Nat×List Int×List Bool,λq=>[(12,iInt ((q.1:Nat):Int)),(11,.sl 111 (q.2.1.map eInt).length)],λq=>(111,.row ⟨3,1⟩ (q.2.1.map eInt))::ckHp u f 4 q.2.2,λq=>l.length-q.1,λq=>q.1<=l.length/\q.2.2.length=f.types.length/\r8go u f deep wh all set l=r8go u f deep wh q.2.1 q.2.2 (l.drop q.1)/\q.2.1.length+lsW (l.drop q.1)<=34359738368,[],(0,all,set),⟨Aj _,hs,rfl,hb⟩,⟨rfl,slq (Bu _),Gf⟩,Gj,?_⟩;rintro⟨i,al,s⟩ ⟨i1,i2,i3,i4⟩;dsimp only at i1 i2 i3 i4;refine z00 (λhc=>?_) λhc=>?_
  ·have hlt:i<l.length:=z12 (f:=Nd.enc) rfl hc;obtain⟨x,x1,x2,x3,x4⟩:=z0u hlt;have hxe:=zb5 x;rw[x3,lsW]at i4;rw[x3,r8go]at i3;have hne:∀r,ne l r=r:=λr=>by unfold ne;rw[A1 (by rw[Fy];intro e;rw[e]at hlt;exact A9 hlt (An _))]
   refine z00 (λh1=>?_) λh1=>?_
   ·have h1:deep > 100:=Ap h1;rw[A5 h1]at i3;rw[i3,hne];exact⟨sI,rfl,rfl,Gf⟩
   have h1:¬deep > 100:=Am h1;rw[A1 h1]at i3;have hX:=j41 u f hg x deep ⟨hd.1,by omega⟩ wh al s i2 oM0 λq hq deep w all set hd hs hb=>ih u f hg q deep w all set hd hs hb (Bg (zc7 x4 rfl hq) (C7 hN));have hXl:=(z9v u f x deep wh al s).trans i2;have hck:=ck_lend (u:=u) (f:=f) (bt:=4) (set:=s) (z9v u f x deep wh al s);generalize z4x u f deep wh al s x=r at hX hXl hck i3;obtain⟨b,s2⟩:=r;dsimp only at hX hXl hck;have hR:∀k∈[3],look (up (ckHp u f 4 s)) k=none∨k=3:=λk hk=>.inr (Al.1 hk);have hL:∀k∈[111],look (up (ckHp u f 4 s)) k=none:=λk hk=>by rw[Al.1 hk];rfl
   have hpre:∀q∈ckHp u f 4 s,look ((111,some (.row ⟨3,1⟩ (al.map eInt)))::up (ckHp u f 4 s)) q.1=some q.2:=λq hq=>by
    simp only[ckHp,Aq,C1,Fp]at hq;rcases hq with rfl|rfl<;>rfl
   cases b
   ·rw[show andT (false,s2) (λs1=>if (z04 x != (l.drop (i+1)).isEmpty)=true then(false,s1)else r8go u f deep wh (al++x.outs) s1 (l.drop (i+1)))=(false,s2)from rfl]at i3;rw[i3,hne];exact⟨z0a x1,rfl,yo4 [111] hX (tb.fok _ rfl) rfl rfl ⟨.same,.same,.row (Al.2 rfl) rfl rfl rfl,.same,.same,Gf⟩ hL hpre rfl hR ⟨_,rfl⟩ hck,sI,rfl,rfl,Gf⟩
   rw[show andT (true,s2) (λs1=>if (z04 x != (l.drop (i+1)).isEmpty)=true then(false,s1)else r8go u f deep wh (al++x.outs) s1 (l.drop (i+1)))=(if (z04 x != (l.drop (i+1)).isEmpty)=true then(false,s2)else r8go u f deep wh (al++x.outs) s2 (l.drop (i+1)))from rfl]at i3;have hem:(l.drop (i+1)).isEmpty=((i:Int)==((l.map Nd.enc).length:Int)-1):=by
    rw[Cn,Fy,List.drop_eq_nil_iff,At,ll];omega
   rw[hem]at i3;refine⟨z0a x1,rfl,yo4 [111] hX (tb.fok _ rfl) rfl rfl ⟨.same,.same,.row (Al.2 rfl) rfl rfl rfl,.same,.same,Gf⟩ hL hpre rfl hR ⟨_,rfl⟩ hck,z0a x1,rfl,[],zj7 x,sR,Gf,rfl,z3e rfl (by rw[ll];omega),z00 (λh2=>?_) λh2=>?_⟩
   ·have h2:(z04 x != ((i:Int)==((l.map Nd.enc).length:Int)-1))=true:=h2;rw[A5 h2]at i3;rw[i3,hne];exact⟨sI,rfl,rfl,Gf⟩
   ·rw[A1 (by rw[show(z04 x != ((i:Int)==((l.map Nd.enc).length:Int)-1))=false from h2];decide)]at i3;have hlen:(al++x.outs).length+lsW (l.drop (i+1))<=34359738368:=by rw[B8];omega
    exact⟨z0a x1,rfl,rfl,zl2 (λ_ _=>⟨rfl,λy hy=>by simp[eInt]at hy;subst hy;rfl⟩),by simp;omega,z01 rfl oM0,(i+1,al++x.outs,s2),z05 hlt,⟨hlt,hXl,i3,hlen⟩,⟨rfl,slq sI0,Gf⟩,⟨rwq sI0,rfl,rfl,Gf⟩,rfl,rfl,rfl,rfl⟩
  ·have hge:l.length<=i:=z13 (f:=Nd.enc) rfl hc;have hgo:r8go u f deep wh all set l=(true,s):=by rw[i3,Ae hge,r8go]
   rw[hgo,show ne l (true,s)=(decide ((l.length:Int) > 0),s) by cases l<;>simp[ne]];exact⟨sE (by rw[ll]),rfl,rfl,Gf⟩
theorem j40(u:Un)(f:Fl)(hg:∀g∈u.flows,0<=g.params/\g.params<=g.types.length)(l:List Nd)(deep:Int)(wh:Wh)(all:List Int)(set:List Bool)(hd:0<=deep/\deep<=101)(hs:set.length=f.types.length)(hb:all.length+lsW l<=34359738368):SC Tryz.prog 48 [.ptr 3 0,.pv (z2h l),.pv (ints all),.pv (whv wh),iInt deep] (ckHp u f 4 set) (λk=>k=3) (iBool (z2o u f deep wh all set l).1) (ckHp u f 4 (z2o u f deep wh all set l).2):=y6p _ u f hg l deep wh all set hd hs hb (Ac _)
theorem j3y(u:Un)(f:Fl)(hg:∀g∈u.flows,0<=g.params/\g.params<=g.types.length)(hb:lsW f.body<=34000000000):SC Tryz.prog 25 [.pv u.enc,.pv (.agg f.enc)] [] (λ_=>False) (iBool (z5i u f)) []:=by
 refine SC.anyR (K0 tb { pb:=[102,103],ids:=[(57,4),(59,3)],gh:=[(10,[.grow 7 107 3 1]),(15,[.fz 7 107])] } [] Tryz.func25 rfl rfl ?_);unfold z5i;have hl:((f.types.map eInt).length:Int)=f.types.length:=by rw[Ab]
 refine z00 (λh1=>?_) λh1=>?_
 ·rw[show decide (f.params<0)=true from h1];exact⟨sI,Gf⟩
 rw[show decide (f.params<0)=false from h1];refine z00 (λh2=>?_) λh2=>?_
 ·rw[show decide (f.params > 8)=true from h2];exact⟨sI,Gf⟩
 rw[show decide (f.params > 8)=false from h2];refine z00 (λh3=>?_) λh3=>?_
 ·have h3:decide (f.params > ((f.types.map eInt).length:Int))=true:=h3;rw[hl]at h3;rw[h3];exact⟨sI,Gf⟩
 have h3:decide (f.params > ((f.types.map eInt).length:Int))=false:=h3;rw[hl]at h3;rw[h3];refine z00 (λh4=>?_) λh4=>?_
 ·have h4:decide (((f.types.map eInt).length:Int) > 20000)=true:=h4;rw[hl]at h4;rw[h4];exact⟨sI,Gf⟩
 have h4:decide (((f.types.map eInt).length:Int) > 20000)=false:=h4;rw[hl]at h4;rw[h4];simp only[Dn,B6];have q1:=Am h1;have q3:=Am h3;have q4:=Am h4;have q2:=Am h2;refine⟨Nat,λi=>[(5,iInt ((i:Nat):Int))],λ_=>[],λi=>f.types.length-i,λi=>i<=f.types.length/\f.types.all (λt=>t==1||t==2)=(f.types.drop i).all (λt=>t==1||t==2),[],0,⟨Aj _,rfl⟩,Gg,Gf,?_⟩;rintro i ⟨i1,i2⟩;refine z00 (λhc=>?_) λhc=>?_
 ·have hlt:i<f.types.length:=z12 (f:=eInt) rfl hc;obtain⟨x,x1,x2,x3,x4⟩:=z0u hlt;rw[x3,De]at i2;refine⟨z02 (f:=eInt) x1,rfl,z00 (λc1=>?_) λc1=>?_⟩
  ·have c1:(x==1)=false:=by simpa using c1
   refine⟨z02 (f:=eInt) x1,rfl,z00 (λc2=>?_) λc2=>?_⟩
   ·have c2:(x==2)=false:=by simpa using c2
    rw[c1,c2]at i2;rw[i2];exact⟨sI,Gf⟩
   ·have c2:(x==2)=true:=by simpa using c2
    rw[c1,c2]at i2;exact⟨z01 rfl oM0,i+1,z05 hlt,⟨hlt,i2⟩,Gg,Gf,rfl,rfl,rfl,rfl⟩
  ·have c1:(x==1)=true:=by simpa using c1
   rw[c1]at i2;exact⟨z01 rfl oM0,i+1,z05 hlt,⟨hlt,i2⟩,Gg,Gf,rfl,rfl,rfl,rfl⟩
 ·have hge:f.types.length<=i:=z13 (f:=eInt) rfl hc;rw[i2,Ae hge,G2,B6];have hn:∀k:Nat,((iota k).map eInt).length=k:=λk=>by rw[Ab,y0u]
  refine⟨rfl,VNum.mk (n:=f.types.length) hl oM0 ⟨by simp,Nat,λi=>[(8,iInt ((i:Nat):Int)),(7,.sl 107 i)],λi=>(107,.row ⟨3,1⟩ ((iota i).map eInt))::ckHp u f 4 (z5f i f.types.length),λi=>f.params.toNat-i,λi=>(i:Int)<=f.params,[],0,by show((0:Nat):Int)<=_;omega,Gi,⟨rfl,boq (by simp[y5a,z5f];rfl),rwq (by simp[z5f,zf9];exact .inr rfl),Gf⟩,?_⟩⟩;intro i hi;have hsl:=z4h (k:=i) (n:=f.types.length) oM0;refine z00 (λhc=>?_) λhc=>?_
  ·have hlt:(i:Int)<f.params:=Ap hc;have hss:=yt8 (k:=i) (n:=f.types.length) oM0;exact⟨rfl,VIdR.mk (i:=i) (by rw[Ab];omega) rfl ⟨i,0,_,rfl,rfl,z02 (f:=zf9) (by rw[Ad (show i<(z5f i f.types.length).length by omega)]),by simp[zf9],hn i,z3u rfl,by simp;omega,z01 rfl oM0,i+1,(by show f.params.toNat-(i+1)<f.params.toNat-i;omega),(by show((i+1:Nat):Int)<=f.params;omega),⟨rfl,slq sI0,Gf⟩,⟨rwq (by rw[<- j1n];simp[eInt]),boq (by rw[<- hss];simp[y5a]),rwq (by rw[<- hss];simp[zf9,C8]),Gf⟩,rfl,rfl,rfl,rfl⟩⟩
  ·have hge:¬(i:Int)<f.params:=Am hc;have hi2:i=f.params.toNat:=by omega
   subst hi2;have hL:=j40 u f hg f.body 1 z3z (iota f.params.toNat) (z5f f.params.toNat f.types.length) ⟨by decide,by decide⟩ oM0 (by rw[y0u];omega);exact⟨hn _,[],hL,H0 (H0 (H0 (I0 (sP (z0g _)) (H0 J0)))),Gi,rfl,sI,Gf⟩
inductive Ex where
 |mk (kind op n:Int) (name:ByteArray) (args:List Ex)
inductive St where
 |mk (kind ty:Int) (name:ByteArray) (args:List Ex) (thn els:List St)
structure Pm where
 name:ByteArray
 ty:Int
structure Fu where
 name:ByteArray
 ty:Int
 params:List Pm
 body:List St
structure Pg where
 arrays:List Ar
 funcs:List Fu
structure Tk where
 kind:Int
 text:ByteArray
 line:Int
mutual
def Ex.enc:Ex->List PV
 |.mk kind op n name args=>[vInt kind,vInt op,vInt n,vStr name,.seq (Ex.encL args)]
def Ex.encL:List Ex->List (List PV)
 |[]=>[]
 |x::r=>x.enc::Ex.encL r
end
theorem Ex.encL_eq:∀l,Ex.encL l=l.map Ex.enc
 |[]=>rfl
 |x::r=>by simp[Ex.encL,Ex.encL_eq r]
def exs(l:List Ex):PV:=.seq (l.map Ex.enc)
def Ex.kind:Ex->Int|.mk k _ _ _ _=>k
def Ex.op:Ex->Int|.mk _ o _ _ _=>o
def Ex.n:Ex->Int|.mk _ _ n _ _=>n
def Ex.name:Ex->ByteArray|.mk _ _ _ s _=>s
def Ex.args:Ex->List Ex|.mk _ _ _ _ a=>a
theorem Ex.enc_eq(x:Ex):x.enc=[vInt x.kind,vInt x.op,vInt x.n,vStr x.name,exs x.args]:=by
 cases x
 simp[Ex.enc,Ex.encL_eq,exs,Ex.kind,Ex.op,Ex.n,Ex.name,Ex.args]
theorem z1f{l:List Ex}{i:Nat}{x:Ex}(h:l[i]?=some x):(l.map Ex.enc)[i]?=some [vInt x.kind,vInt x.op,vInt x.n,vStr x.name,exs x.args]:=by
 simp[h,Ex.enc_eq]
def exv(x:Ex):PV:=.agg [vInt x.kind,vInt x.op,vInt x.n,vStr x.name,exs x.args]
mutual
def St.enc:St->List PV
 |.mk kind ty name args thn els=>[vInt kind,vInt ty,vStr name,exs args,.seq (St.encL thn),.seq (St.encL els)]
def St.encL:List St->List (List PV)
 |[]=>[]
 |x::r=>x.enc::St.encL r
end
theorem St.encL_eq:∀l,St.encL l=l.map St.enc
 |[]=>rfl
 |x::r=>by simp[St.encL,St.encL_eq r]
def sts(l:List St):PV:=.seq (l.map St.enc)
def St.kind:St->Int|.mk k _ _ _ _ _=>k
def St.ty:St->Int|.mk _ t _ _ _ _=>t
def St.name:St->ByteArray|.mk _ _ s _ _ _=>s
def St.args:St->List Ex|.mk _ _ _ a _ _=>a
def St.thn:St->List St|.mk _ _ _ _ t _=>t
def St.els:St->List St|.mk _ _ _ _ _ e=>e
theorem St.enc_eq(x:St):x.enc=[vInt x.kind,vInt x.ty,vStr x.name,exs x.args,sts x.thn,sts x.els]:=by
 cases x
 simp[St.enc,St.encL_eq,sts,St.kind,St.ty,St.name,St.args,St.thn,St.els]
theorem zk5{l:List St}{i:Nat}{x:St}(h:l[i]?=some x):(l.map St.enc)[i]?=some [vInt x.kind,vInt x.ty,vStr x.name,exs x.args,sts x.thn,sts x.els]:=by
 simp[h,St.enc_eq]
def stv(x:St):PV:=.agg [vInt x.kind,vInt x.ty,vStr x.name,exs x.args,sts x.thn,sts x.els]
def Pm.enc(p:Pm):List PV:=[vStr p.name,vInt p.ty]
def pms(l:List Pm):PV:=.seq (l.map Pm.enc)
def Fu.enc(f:Fu):List PV:=[vStr f.name,vInt f.ty,pms f.params,sts f.body]
def fus(l:List Fu):PV:=.seq (l.map Fu.enc)
def Pg.enc(p:Pg):PV:=.agg [arrs p.arrays,fus p.funcs]
def Tk.enc(t:Tk):List PV:=[vInt t.kind,vStr t.text,vInt t.line]
def tks(l:List Tk):PV:=.seq (l.map Tk.enc)
mutual
def xz:Ex->Nat
 |.mk _ _ _ _ args=>1+xzL args
def xzL:List Ex->Nat
 |[]=>0
 |x::r=>xz x+xzL r
end
mutual
def sz:St->Nat
 |.mk _ _ _ args thn els=>1+xzL args+szL thn+szL els
def szL:List St->Nat
 |[]=>0
 |x::r=>sz x+szL r
end
theorem j6a:∀a b:List Ex,xzL (a++b)=xzL a+xzL b
 |[],b=>by simp[xzL]
 |x::r,b=>by simp only[Be,xzL,j6a r b];omega
theorem j57:∀a b:List St,szL (a++b)=szL a+szL b
 |[],b=>by simp[szL]
 |x::r,b=>by simp only[Be,szL,j57 r b];omega
theorem xz_pos(x:Ex):1<=xz x:=by cases x;simp only[xz];omega
theorem sz_pos(x:St):1<=sz x:=by cases x;simp only[sz];omega
theorem zc8:∀l:List Ex,l.length<=xzL l
 |[]=>Ag _
 |x::r=>by
  have:=xz_pos x;have:=zc8 r;simp only[A3,xzL];omega
theorem z8p:∀l:List St,l.length<=szL l
 |[]=>Ag _
 |x::r=>by
  have:=sz_pos x;have:=z8p r;simp only[A3,szL];omega
def maxI:Int:=9223372036854775807
def qVal:Int->List UInt8->Int
 |n,[]=>n
 |n,b::r=>if n > (maxI-((b.toNat:Int)-48)).tdiv 10 then -1 else qVal (n*10+((b.toNat:Int)-48)) r
def z8h(s:ByteArray):Int :=
 if qVal 0 s.data.toList = -1 then -1 else if s.data.toList=[]∨(s.data.toList.length > 1/\s.data.toList.head? = some 48)then -1 else qVal 0 s.data.toList
def zi4(s:ByteArray):Bool:=s.data.toList.all (λb=>z3v b.toNat)&&decide (z8h s≥0)
def sgL:List ByteArray:=[⟨#[62,62,62]⟩,⟨#[60,60]⟩,⟨#[62,62]⟩,⟨#[60,61]⟩,⟨#[62,61]⟩,⟨#[61,61]⟩,⟨#[33,61]⟩,⟨#[38,38]⟩,⟨#[124,124]⟩,⟨#[40]⟩,⟨#[41]⟩,⟨#[123]⟩,⟨#[125]⟩,⟨#[91]⟩,⟨#[93]⟩,⟨#[44]⟩,⟨#[59]⟩,⟨#[61]⟩,⟨#[60]⟩,⟨#[62]⟩,⟨#[43]⟩,⟨#[45]⟩,⟨#[42]⟩,⟨#[47]⟩,⟨#[37]⟩,⟨#[38]⟩,⟨#[124]⟩,⟨#[94]⟩,⟨#[126]⟩,⟨#[33]⟩]
def sgIs(s w:ByteArray):Bool:=decide (w.size<=s.size)&&(s.extract 0 w.size).toList==w.toList
def sgGo(s:ByteArray):List ByteArray->ByteArray
 |[]=>⟨#[]⟩
 |w::r=>if sgIs s w then w else sgGo s r
def sgOf(s:ByteArray):ByteArray:=sgGo s sgL
theorem y03(s:ByteArray):∀l:List ByteArray,sgGo s l=⟨#[]⟩∨(sgGo s l∈l/\(sgGo s l).size<=s.size)
 |[]=>.inl rfl
 |w::r=>by
  simp only[sgGo];split
  ·rename_i h;simp only[sgIs,A0,Ba]at h;exact .inr ⟨.head _,h.1⟩
  ·rcases y03 s r with h|h
   ·exact .inl h
   ·exact .inr ⟨.tail _ h.1,h.2⟩
def z4b(s:ByteArray)(at_:Nat):Nat:=((s.data.toList.drop at_).takeWhile isLD).length
def zr2(s:ByteArray)(at_:Nat):Nat:=at_+((s.data.toList.drop at_).takeWhile λb=>b != 10).length
inductive TStep where
 |skip (line at_:Nat)
 |tok (t:Tk) (at_:Nat)
 |bad (line:Nat)
def z3d(b:UInt8)(w:ByteArray):Int:=if z1l w then 2 else if z4i b.toNat then 1 else 0
def zu5(s:ByteArray)(line at_:Nat)(b:UInt8):TStep :=
 if b=10 then .skip (line+1) (at_+1)
 else if b=32∨b=9∨b=13 then .skip line (at_+1)
 else if b=47/\s.data.toList[at_+1]?=some 47 then .skip line (zr2 s at_)
 else if z4b s at_ > 0 then
  if (z3d b (s.extract at_ (at_+z4b s at_))=1/\z0o (s.extract at_ (at_+z4b s at_))=false)∨(z3d b (s.extract at_ (at_+z4b s at_))=0/\zi4 (s.extract at_ (at_+z4b s at_))=false)then .bad line
  else .tok ⟨z3d b (s.extract at_ (at_+z4b s at_)),s.extract at_ (at_+z4b s at_),line⟩ (at_+z4b s at_)
 else if (sgOf (s.extract at_ s.size)).size=0 then .bad line
 else .tok ⟨2,sgOf (s.extract at_ s.size),line⟩ (at_+(sgOf (s.extract at_ s.size)).size)
def toks(s:ByteArray):Nat->Nat->Nat->List Tk->List Tk×Int×Int
 |0,_,_,_=>([],0,0)
 |N+1,line,at_,out=>match s.data.toList[at_]? with
  |none=>(out++[⟨3,⟨#[]⟩,line⟩],0,0)
  |some b=>match zu5 s line at_ b with
   |.skip line' at'=>toks s N line' at' out
   |.tok t at'=>toks s N line at' (out++[t])
   |.bad l=>([],20,l)
def z1d(s:ByteArray):List Tk×Int×Int:=if s.size > 100000 then([],2,0)else toks s (s.size+1) 1 0 []
theorem j3k(s:ByteArray)(a:Nat):a+z4b s a<=s.size∨z4b s a=0:=by
 unfold z4b;have h:=F6 (p:=isLD) (l:=s.data.toList.drop a);have h1:=h.length_le;rw[Ep]at h1;have h2:s.data.toList.length=s.size:=Bw;omega
theorem y3p{s:ByteArray}{a:Nat}{b:UInt8}(h:s.data.toList[a]?=some b)(hb:b≠10):a<zr2 s a/\zr2 s a<=s.size:=by
 have hlt:=(A7.1 h).1;have hd:s.data.toList.drop a=b::s.data.toList.drop (a+1):=by
  rw[D8 hlt,(A7.1 h).2]
 have h2:s.data.toList.length=s.size:=Bw;unfold zr2;rw[hd,E8,A5 (by simpa using hb)];have h1:=(F6 (p:=λb:UInt8=>b != 10) (l:=s.data.toList.drop (a+1))).length_le;rw[Ep]at h1;simp only[A3];omega
theorem tStep_at{s:ByteArray}{line a:Nat}{b:UInt8}(h:s.data.toList[a]?=some b) :
 match zu5 s line a b with
 |.skip _ at'=>a<at'/\at'<=s.size
 |.tok t at'=>a<at'/\at'<=s.size/\t.kind≠3/\(t.kind=0->zi4 t.text=true)
 |.bad _=>True:=by
 have hlt:=(A7.1 h).1;have h2:s.data.toList.length=s.size:=Bw;unfold zu5
 by_cases c1:b=10
 ·rw[A5 c1];exact⟨by omega,by omega⟩
 rw[A1 c1]
 by_cases c2:b=32∨b=9∨b=13
 ·rw[A5 c2];exact⟨by omega,by omega⟩
 rw[A1 c2]
 by_cases c3:b=47/\s.data.toList[a+1]?=some 47
 ·rw[A5 c3];exact y3p h c1
 rw[A1 c3]
 by_cases c4:z4b s a > 0
 ·rw[A5 c4];have h3:=j3k s a;generalize s.extract a (a+z4b s a)=w
  by_cases c5:(z3d b w=1/\z0o w=false)∨(z3d b w=0/\zi4 w=false)
  ·rw[A5 c5];trivial
  ·rw[A1 c5];refine⟨by omega,by omega,?_,λe=>?_⟩
   ·show z3d b w≠3;unfold z3d;split
    ·decide
    ·split<;>decide
   ·have e':z3d b w=0:=e
    cases hq:zi4 w with
    |true=>rfl
    |false=>exact A9 (.inr ⟨e',hq⟩) c5
 rw[A1 c4]
 by_cases c6:(sgOf (s.extract a s.size)).size=0
 ·rw[A5 c6];trivial
 ·rw[A1 c6];have h3:=y03 (s.extract a s.size) sgL;have h4:(s.extract a s.size).size=s.size-a:=by simp[Cq]
  refine⟨by omega,?_,by show(2:Int)≠3;decide,λe=>A9 e (by show(2:Int)≠0;decide)⟩;rcases h3 with h3|h3
  ·exact A9 (by unfold sgOf;rw[h3];rfl) c6
  ·have:=h3.2;unfold sgOf;omega
def TkOk(T:List Tk):Prop:=∃init e,T=init++[e]/\e.kind=3/\(∀t∈init,t.kind≠3/\(t.kind=0->zi4 t.text=true))
theorem yi6(s:ByteArray):∀(N line a:Nat)(out:List Tk),s.size<N+a->a<=s.size->out.length<=a->(∀t∈out,t.kind≠3/\(t.kind=0->zi4 t.text=true))->(toks s N line a out).2.1=0->TkOk (toks s N line a out).1/\(toks s N line a out).1.length<=s.size+1
 |0,_,a,_,h,h',_,_,_=>by omega
 |N+1,line,a,out,hN,ha,hl,ho,h0=>by
  unfold toks at h0⊢
  cases hb:s.data.toList[a]? with
  |none =>
   refine⟨⟨out,⟨3,⟨#[]⟩,line⟩,rfl,rfl,ho⟩,?_⟩;show(out++[_]).length<=_;rw[B8];show out.length+1<=_
   omega
  |some b =>
   rw[hb]at h0;have hs:=tStep_at (line:=line) hb;dsimp only at h0⊢;generalize zu5 s line a b=st at hs h0
   cases st with
   |skip l2 a2=>exact yi6 s N l2 a2 out oM0 hs.2 oM0 ho h0
   |tok t a2 =>
    refine yi6 s N line a2 (out++[t]) oM0 hs.2.1 (by rw[B8];show out.length+1<=_;omega) (λt' ht'=>?_) h0;rcases B3.1 ht' with ht'|ht'
    ·exact ho t' ht'
    ·rw[Al.1 ht'];exact hs.2.2
   |bad l=>exact A9 (show(20:Int)=0 from h0) dC0
theorem ze2{s:ByteArray}(h:(z1d s).2.1=0):TkOk (z1d s).1/\(z1d s).1.length<=100001:=by
 unfold z1d at h⊢
 by_cases hs:s.size > 100000
 ·rw[A5 hs]at h;exact A9 h dC0
 ·rw[A1 hs]at h⊢;obtain⟨h1,h2⟩:=yi6 s (s.size+1) 1 0 [] oM0 (Aj _) (Aj _) (λt ht=>by simp at ht) h;exact⟨h1,by omega⟩
theorem za2(n:Int):SC Tryz.prog 74 [.pv (vU8 n)] [] (λ_=>False) (iBool (z4i n)) []:=by
 refine SC.anyR (K0 tb {} [] Tryz.func74 rfl rfl ?_);unfold z4i;refine z00 (λh1=>z00 (λh2=>⟨sE (by rw[h1,h2];rfl),Gf⟩) λh2=>?_) λh1=>?_
 ·refine z00 (λh3=>z00 (λh4=>⟨sE (by rw[h1,h2,h3,h4];rfl),Gf⟩) λh4=>⟨sE (by rw[h1,h2,h3,h4];rfl),Gf⟩) λh3=>⟨sE (by rw[h1,h2,h3];rfl),Gf⟩
 ·refine z00 (λh3=>z00 (λh4=>⟨sE (by rw[h1,h3,h4];rfl),Gf⟩) λh4=>⟨sE (by rw[h1,h3,h4];rfl),Gf⟩) λh3=>⟨sE (by rw[h1,h3];rfl),Gf⟩
theorem zs9(n:Int):SC Tryz.prog 75 [.pv (vU8 n)] [] (λ_=>False) (iBool (z3v n)) []:=by
 refine SC.anyR (K0 tb {} [] Tryz.func75 rfl rfl ?_);unfold z3v;exact z00 (λh1=>⟨sE (by rw[h1];rfl),Gf⟩) λh1=>⟨sE (by rw[h1];rfl),Gf⟩
theorem y22(s:ByteArray):SC Tryz.prog 76 [iStr s] [] (λ_=>False) (iBool (z1l s)) []:=by
 refine SC.anyR (K0 tb {} [] Tryz.func76 rfl rfl ?_);have N:∀{b:Bool}{P:Prop},b=true->b=false->P:=λh g=>by rw[h]at g;cases g
 have T:∀{b:Bool},b=true->SubI (iBool true) (iBool b):=λh=>sE (by rw[h]);exact z00 (λh=>z00 (λ_=>⟨T (by unfold z1l;rw[h];simp only[Bk,Bf]),Gf⟩) λg=>N h g) λh1=>z00 (λh=>z00 (λ_=>⟨T (by unfold z1l;rw[h];simp only[Bk,Bf]),Gf⟩) λg=>N h g) λh2=>z00 (λh=>z00 (λ_=>⟨T (by unfold z1l;rw[h];simp only[Bk,Bf]),Gf⟩) λg=>N h g) λh3=>z00 (λh=>z00 (λ_=>⟨T (by unfold z1l;rw[h];simp only[Bk,Bf]),Gf⟩) λg=>N h g) λh4=>z00 (λh=>z00 (λ_=>⟨T (by unfold z1l;rw[h];simp only[Bk,Bf]),Gf⟩) λg=>N h g) λh5=>z00 (λh=>z00 (λ_=>⟨T (by unfold z1l;rw[h];simp only[Bk,Bf]),Gf⟩) λg=>N h g) λh6=>z00 (λh=>z00 (λ_=>⟨T (by unfold z1l;rw[h];simp only[Bk,Bf]),Gf⟩) λg=>N h g) λh7=>z00 (λh=>z00 (λ_=>⟨T (by unfold z1l;rw[h];simp only[Bk,Bf]),Gf⟩) λg=>N h g) λh8=>z00 (λh=>z00 (λ_=>⟨T (by unfold z1l;rw[h];simp only[Bk,Bf]),Gf⟩) λg=>N h g) λh9=>z00 (λh=>z00 (λ_=>⟨T (by unfold z1l;rw[h];simp only[Bk,Bf]),Gf⟩) λg=>N h g) λh10=>z00 (λh=>z00 (λ_=>⟨T (by unfold z1l;rw[h];simp only[Bk,Bf]),Gf⟩) λg=>N h g) λh11=>z00 (λh=>z00 (λ_=>⟨T (by unfold z1l;rw[h];simp only[Bk,Bf]),Gf⟩) λg=>N h g) λh12=>z00 (λh=>z00 (λ_=>⟨T (by unfold z1l;rw[h];simp only[Bk,Bf]),Gf⟩) λg=>N h g) λh13=>z00 (λh=>z00 (λ_=>⟨T (by unfold z1l;rw[h];simp only[Bk,Bf]),Gf⟩) λg=>N h g) λh14=>z00 (λh=>z00 (λ_=>⟨T (by unfold z1l;rw[h];simp only[Bk,Bf]),Gf⟩) λg=>N h g) λh15=>z00 (λh=>z00 (λ_=>⟨T (by unfold z1l;rw[h];simp only[Bk,Bf]),Gf⟩) λg=>N h g) λh16=>z00 (λh=>z00 (λ_=>⟨T (by unfold z1l;rw[h];simp only[Bk,Bf]),Gf⟩) λg=>N h g) λh17=>z00 (λh=>⟨T (by unfold z1l;rw[h];simp only[Bk,Bf]),Gf⟩) λh18=>⟨sE (by unfold z1l;rw[h1,h2,h3,h4,h5,h6,h7,h8,h9,h10,h11,h12,h13,h14,h15,h16,h17,h18];rfl),Gf⟩
theorem q64{m n z:Int}(hn:n≠0)(h:m.tdiv n=z)(h1:-9223372036854775808<=z/\z<=9223372036854775807):z3f .quo .i64 m n=some (.int .i64 z):=by
 subst h;simp only[z3f];rw[A1 hn,D3 _ h1]
theorem y6k(s:ByteArray)(h:s.data.toList.all (λb=>z3v b.toNat)=true)(hs:s.size<=1073741824):SC Tryz.prog 83 [.pv (.val (.string s))] [] (λk=>k∈[]) (iInt (z8h s)) []:=by
 refine K0 tb {} [] Tryz.func83 rfl rfl ?_;refine⟨Int×Nat,λa=>[(3,iInt a.1),(4,iInt (a.2:Nat))],λ_=>[],λa=>s.size-a.2,λa=>a.2<=s.size/\0<=a.1/\a.1<=maxI/\qVal 0 s.data.toList=qVal a.1 (s.data.toList.drop a.2),[],(0,0),⟨Aj _,by decide,by decide,rfl⟩,Gi,Gf,?_⟩;rintro⟨n,k⟩ ⟨hk,hn0,hn1,hq⟩;refine z00 (λhc=>?_) λhc=>?_
 ·obtain⟨b,hb⟩:∃b,s.data.toList[k]?=some b:=⟨s.data.toList[k]'(by simpa using Ap hc),Ad _⟩;have hd:s.data.toList.drop k=b::s.data.toList.drop (k+1):=by
   obtain⟨h1,h2⟩:=A7.1 hb;rw[D8 h1,h2]
  have hdig:=Bj.1 h b (Af hb);simp only[z3v,A0,Ba]at hdig;have hlt:k<s.size:=by simpa using Ap hc
  rw[hd]at hq;simp only[qVal]at hq;unfold maxI at hn1 hq;have hw:IntKind.i64.wrap (b.toNat:Int)=(b.toNat:Int):=D3 _ oM0;have hb2:s[k]?=some b:=by
   rw[y37 (by rw[z2d];exact(A7.1 hb).1)];simp only[z2d];rw[(A7.1 hb).2]
  generalize hdd:(b.toNat:Int)-48=d at hq;have hd9:0<=d/\d<=9:=by omega
  have hdv:(9223372036854775807-d).tdiv 10=(9223372036854775807-d)/10:=Du oM0;rw[hdv]at hq;refine⟨hb2,rfl,z3e (z:=d) (by rw[hw];exact hdd) oM0,z3e rfl oM0,q64 (z:=(9223372036854775807-d)/10) dC0 hdv oM0,z00 (λh2=>?_) λh2=>?_⟩
  ·refine⟨sE ?_,Gf⟩;have h2:=Ap h2;unfold z8h;rw[hq,A5 h2];rfl
  ·have h2:=Am h2;rw[A1 h2]at hq;refine⟨y5k rfl oM0,z01 (z:=n*10+d) rfl oM0,z01 rfl (by dsimp only;omega),(n*10+d,k+1),z05 hlt,⟨hlt,by show 0<=n*10+d;omega,by show n*10+d<=maxI;unfold maxI;omega,hq⟩,Gi,Gf,rfl,rfl,rfl,rfl⟩
 ·have hge:s.size<=k:=by simpa using Am hc
  have hq2:qVal 0 s.data.toList=n:=by
   rw[hq,show s.data.toList.drop k=[]from Ae (by simpa using hge)];rfl
  refine z00 (λhe=>?_) λhe=>?_
  ·refine⟨sE ?_,Gf⟩;have he:s.toList=[]:=by simpa using he
   rw[z2d]at he;unfold z8h;simp[he]
  ·have he:s.toList≠[]:=by simpa using he
   rw[z2d]at he;have hn:n ≠ -1:=by dsimp only at hn0;omega
   have hl:s.data.toList.length=s.size:=Bw;obtain⟨b0,r0,hs0⟩:=Cf he;have hb0:s[0]?=some b0:=by
    rw[y37 (by rw[z2d,hs0];simp)];simp[z2d,hs0]
   have hval:z8h s=if s.size > 1/\b0=48 then -1 else n:=by
    unfold z8h;rw[hq2,A1 hn,hl,hs0];simp
   refine z00 (λh1=>⟨hb0,rfl,z00 (λh2=>?_) λh2=>?_⟩) λh1=>?_
   ·refine⟨sE ?_,Gf⟩;have h3:b0=48:=UInt8.toNat_inj.1 (by have:=Av h2;show b0.toNat=48;omega);rw[hval,A5 ⟨by have:=Ap h1;omega,h3⟩]
   ·refine⟨sE ?_,Gf⟩;have h3:b0≠48:=λe=>by subst e;simp at h2
    rw[hval,A1 (λh=>h3 h.2)]
   ·refine⟨sE ?_,Gf⟩;rw[hval,A1 (λh=>by have:=Am h1;omega)]
theorem zu7{s:ByteArray}{k:Nat}(h:decide ((k:Int)<(s.size:Int))=true):∃b,s[k]?=some b/\s.data.toList[k]?=some b/\s.data.toList.drop k=b::s.data.toList.drop (k+1)/\k<s.size/\b∈s.data.toList:=by
 have hlt:k<s.size:=by simpa using Ap h
 obtain⟨b,hb⟩:∃b,s.data.toList[k]?=some b:=⟨s.data.toList[k]'(by simpa using hlt),Ad _⟩;obtain⟨h1,h2⟩:=A7.1 hb;refine⟨b,?_,hb,by rw[D8 h1,h2],hlt,Af hb⟩;rw[y37 (by rw[z2d];exact h1)];simp only[z2d];rw[h2]
theorem zp2{s:ByteArray}{k:Nat}(h:decide ((k:Int)<(s.size:Int))=false):s.data.toList.drop k=[] :=
 Ae (by have h2:s.data.toList.length=s.size:=Bw;have:=Am h;omega)
theorem j3x(s:ByteArray)(hs:s.size<=1073741824):SC Tryz.prog 77 [.pv (.val (.string s))] [] (λk=>k∈[]) (iBool (zi4 s)) []:=by
 refine K0 tb {} [] Tryz.func77 rfl rfl ?_;refine⟨Nat,λk=>[(3,iInt (k:Nat))],λ_=>[],λk=>s.size-k,λk=>k<=s.size/\s.data.toList.all (λb=>z3v b.toNat)=(s.data.toList.drop k).all (λb=>z3v b.toNat),[],0,⟨Aj _,rfl⟩,Gg,Gf,?_⟩;rintro k ⟨hk,hq⟩;refine z00 (λhc=>?_) λhc=>?_
 ·obtain⟨b,h1,h2,h3,h4,h5⟩:=zu7 hc;rw[h3,De]at hq;refine⟨h1,rfl,[],zs9 _,sR,Gf,rfl,z00 (λhd=>?_) λhd=>?_⟩
  ·have hd:z3v b.toNat=false:=by simpa using hd
   refine⟨sE ?_,Gf⟩;unfold zi4;rw[hq,hd];rfl
  ·have hd:z3v b.toNat=true:=by simpa using hd
   rw[hd]at hq;exact⟨z01 rfl oM0,k+1,z05 h4,⟨h4,hq⟩,Gg,Gf,rfl,rfl,rfl,rfl⟩
 ·rw[zp2 hc]at hq;refine⟨[],y6k s hq hs,sR,Gf,rfl,sE ?_,Gf⟩;unfold zi4;rw[hq];rfl
def sgEls:List (List PV):=sgL.map λw=>[.val (.string w)]
theorem y9o:sgEls.length=30:=rfl
theorem sg_at{k:Nat}(h:k<30):∃w,sgEls[k]?=some [.val (.string w)]/\sgL.drop k=w::sgL.drop (k+1)/\w.size<=3:=by
 obtain⟨w,h1,h2,h3,h4⟩:=z0u (l:=sgL) (k:=k) h;refine⟨w,by unfold sgEls;rw[Bc,h1];rfl,h3,?_⟩;have:∀w∈sgL,w.size<=3:=by decide
 exact this w h4
theorem sc_sign(s:ByteArray)(hs:s.size<=1073741824):SC Tryz.prog 78 [.pv (.val (.string s))] [] (λk=>k∈[]) (.pv (.val (.string (sgOf s)))) []:=by
 refine K0 tb {} [] Tryz.func78 rfl rfl ?_;refine⟨Nat,λk=>[(4,iInt (k:Nat)),(3,.pv (.seq sgEls))],λ_=>[],λk=>30-k,λk=>k<=30/\sgOf s=sgGo s (sgL.drop k),[],0,⟨Aj _,rfl⟩,Gi,Gf,?_⟩;rintro k ⟨hk,hq⟩;refine z00 (λhc=>?_) λhc=>?_
 ·have hlt:k<30:=by have:=Ap hc;rw[y9o]at this;omega
  obtain⟨w,h1,h2,h3⟩:=sg_at hlt;rw[h2]at hq;simp only[sgGo]at hq;refine⟨h1,rfl,z00 (λh4=>?_) λh4=>?_⟩
  ·have h5:w.size<=s.size:=by have:=Ap h4;omega
   refine⟨h1,rfl,w.size,rfl,Aj _,h5,h1,rfl,z00 (λh6=>?_) λh6=>?_⟩
   ·exact⟨h1,rfl,sE (by rw[hq,A5 (by unfold sgIs;rw[h6];simp[h5])]),Gf⟩
   ·rw[A1 (by unfold sgIs;rw[h6];simp)]at hq;exact⟨z01 rfl oM0,k+1,z05 hlt,⟨hlt,hq⟩,Gi,Gf,rfl,rfl,rfl,rfl⟩
  ·have h5:¬w.size<=s.size:=by have:=Am h4;omega
   rw[A1 (by unfold sgIs;simp[h5])]at hq;exact⟨z01 rfl oM0,k+1,z05 hlt,⟨hlt,hq⟩,Gi,Gf,rfl,rfl,rfl,rfl⟩
 ·have hge:k=30:=by have:=Am hc;rw[y9o]at this;omega
  subst hge;exact⟨sE (by rw[hq];rfl),Gf⟩
theorem z6r(s:ByteArray):SC Tryz.prog 46 [iStr s] [] (λ_=>False) (iBool (z0o s)) []:=by
 refine SC.anyR (K0 tb {} [] Tryz.func46 rfl rfl ?_);have hlen:s.toList.length=s.size:=by rw[z2d];exact Bw
 refine z00 (λh1=>⟨sE ?_,Gf⟩) λh1=>?_
 ·have h1:s.toList=[]:=by simpa using h1
  unfold z0o;rw[h1];rfl
 have h1':s.toList≠[]:=by simpa using h1
 have h1:(s.toList==[])=false:=by simpa using h1'
 refine z00 (λh2=>⟨sE ?_,Gf⟩) λh2=>?_
 ·have:¬(s.size:Int)<=20:=by have:=Ap h2;omega
  unfold z0o;rw[h1,Dk this];rfl
 have h2:(s.size:Int)<=20:=by have:=Am h2;omega
 obtain⟨b0,r0,hs0⟩:=Cf h1';have hb0:s[0]?=some b0:=by
  rw[y37 (by rw[hs0];simp)];simp[hs0]
 refine⟨hb0,rfl,[],za2 _,sR,Gf,rfl,z00 (λh3=>⟨sE ?_,Gf⟩) λh3=>?_⟩
 ·have h3:z4i b0.toNat=false:=by simpa using h3
  unfold z0o;rw[hs0];simp[h3]
 have h3:z4i b0.toNat=true:=by simpa using h3
 refine⟨[],y22 s,sR,Gf,rfl,z00 (λh4=>⟨sE ?_,Gf⟩) λh4=>?_⟩
 ·unfold z0o;rw[h4];simp
 have hN:z0o s=s.data.toList.all isLD:=by
  unfold z0o;rw[h1,h4,Cb h2];rw[<- z2d];simp[hs0,h3]
 refine⟨Nat,λk=>[(3,iInt (k:Nat))],λ_=>[],λk=>s.size-k,λk=>k<=s.size/\s.data.toList.all isLD=(s.data.toList.drop k).all isLD,[],0,⟨Aj _,rfl⟩,Gg,Gf,?_⟩;rintro k ⟨hk,hq⟩;refine z00 (λhc=>?_) λhc=>?_
 ·obtain⟨b,g1,g2,g3,g4,g5⟩:=zu7 hc;rw[g3,De]at hq;refine⟨g1,rfl,[],za2 _,sR,Gf,rfl,z00 (λh5=>⟨g1,rfl,[],zs9 _,sR,Gf,rfl,z00 (λh6=>⟨sE ?_,Gf⟩) λh6=>?_⟩) λh5=>?_⟩
  ·rw[hN,hq];unfold isLD;rw[show z4i b.toNat=false by simpa using h5,show z3v b.toNat=false by simpa using h6];rfl
  ·have h7:isLD b=true:=by unfold isLD;rw[show z3v b.toNat=true by simpa using h6];simp
   rw[h7]at hq;exact⟨z01 rfl oM0,k+1,z05 g4,⟨g4,hq⟩,Gg,Gf,rfl,rfl,rfl,rfl⟩
  ·have h7:isLD b=true:=by unfold isLD;rw[show z4i b.toNat=true by simpa using h5];simp
   rw[h7]at hq;exact⟨z01 rfl oM0,k+1,z05 g4,⟨g4,hq⟩,Gg,Gf,rfl,rfl,rfl,rfl⟩
 ·rw[zp2 hc]at hq;exact⟨sE (by rw[hN,hq];rfl),Gf⟩
theorem y98(u:Un):SC Tryz.prog 24 [.pv u.enc] [] (λ_=>False) (iBool (z1i u)) []:=by
 refine SC.anyR (K0 tb { gh:=[(4,[.len 10]),(10,[.len 51])] } [] Tryz.func24 rfl rfl ?_);refine⟨Nat,λk=>[(3,iInt k)],λ_=>[],λk=>u.arrays.length-k,λk=>k<=u.arrays.length/\r8gA u u.arrays 0=r8gA u (u.arrays.drop k) k,[],0,⟨Aj _,rfl⟩,Gg,Gf,?_⟩;rintro k ⟨hk,hA⟩;refine z00 (λhc=>?_) λhc=>?_
 ·have hlt:=z12 (f:=Ar.enc) rfl hc;intro hl;simp only[Ab]at hl;obtain⟨a,ha,_,hd,_⟩:=z0u hlt;rw[hd,show r8gA u (a::u.arrays.drop (k+1)) k=(gArr u a k&&r8gA u (u.arrays.drop (k+1)) (k+1))from rfl]at hA;have bad:gArr u a k=false->SubI (iBool false) (iBool (z1i u)):=λh=>sE (by unfold z1i;rw[hA,h];rfl);have hNm:=z6r a.name
  cases hN:z0o a.name with
  |false=>rw[hN]at hNm;exact⟨z02 (f:=Ar.enc) ha,rfl,[],hNm,sR,Gf,rfl,bad (by unfold gArr;rw[hN];rfl),Gf⟩
  |true =>
   rw[hN]at hNm;refine⟨z02 (f:=Ar.enc) ha,rfl,[],hNm,sR,Gf,rfl,z00 (λh1=>⟨bad (by unfold gArr;rw[hN,show decide (a.size<1)=true from h1];rfl),Gf⟩) λh1=>z00 (λh2=>⟨bad (by unfold gArr;rw[hN,show decide (a.size<1)=false from h1,show decide (a.size > 1000)=true from h2];rfl),Gf⟩) λh2=>⟨[],z0d u a.name,sR,Gf,rfl,z00 (λh3=>?_) λh3=>⟨[],z4n u a.name,sR,Gf,rfl,z00 (λh4=>?_) λh4=>?_⟩⟩⟩
   ·have q3:(z0i a.name u.arrays 0==(k:Int))=false:=by simpa using h3
    exact⟨bad (by unfold gArr;rw[hN,show decide (a.size<1)=false from h1,show decide (a.size > 1000)=false from h2,q3];rfl),Gf⟩
   ·have q3:(z0i a.name u.arrays 0==(k:Int))=true:=by simpa using h3
    exact⟨bad (by unfold gArr;rw[hN,show decide (a.size<1)=false from h1,show decide (a.size > 1000)=false from h2,q3,show decide (z06 a.name u.flows 0≥0)=true from h4];rfl),Gf⟩
   ·have q3:(z0i a.name u.arrays 0==(k:Int))=true:=by simpa using h3
    have good:gArr u a k=true:=by unfold gArr;rw[hN,show decide (a.size<1)=false from h1,show decide (a.size > 1000)=false from h2,q3,show decide (z06 a.name u.flows 0≥0)=false from h4];rfl
    exact⟨z01 rfl oM0,k+1,z05 hlt,⟨hlt,by rw[hA,good];rfl⟩,Gg,Gf,rfl,rfl,rfl,rfl⟩
 ·rw[Ae (z13 (f:=Ar.enc) rfl hc),show r8gA u [] k=true from rfl]at hA;refine⟨Nat,λk=>[(5,iInt k)],λ_=>[],λk=>u.flows.length-k,λk=>k<=u.flows.length/\r8gF u u.flows 0=r8gF u (u.flows.drop k) k,[],0,⟨Aj _,rfl⟩,Gg,Gf,?_⟩;rintro k ⟨hk,hF⟩;refine z00 (λhc=>?_) λhc=>?_
  ·have hlt:=z12 (f:=Fl.enc) rfl hc;intro hl;simp only[Ab]at hl;obtain⟨f,hf,_,hd,_⟩:=z0u hlt;rw[hd,show r8gF u (f::u.flows.drop (k+1)) k=(gFlw u f k&&r8gF u (u.flows.drop (k+1)) (k+1))from rfl]at hF;have bad:gFlw u f k=false->SubI (iBool false) (iBool (z1i u)):=λh=>sE (by unfold z1i;rw[hA,hF,h];rfl);have hNm:=z6r f.name
   cases hN:z0o f.name with
   |false=>rw[hN]at hNm;exact⟨z02 (f:=Fl.enc) hf,rfl,[],hNm,sR,Gf,rfl,bad (by unfold gFlw;rw[hN];rfl),Gf⟩
   |true =>
    rw[hN]at hNm;have tail:∀(q1:(z06 f.name u.flows 0==(k:Int))=true) (q2:(f.ty==1||f.ty==2)=true),gFlw u f k=(!decide (f.params<0) && !decide (f.params > f.types.length)):=λq1 q2=>by unfold gFlw;rw[hN,q1,q2];rfl
    refine⟨z02 (f:=Fl.enc) hf,rfl,[],hNm,sR,Gf,rfl,[],z4n u f.name,sR,Gf,rfl,z00 (λh1=>?_) λh1=>?_⟩
    ·have q1:(z06 f.name u.flows 0==(k:Int))=false:=by simpa using h1
     exact⟨bad (by unfold gFlw;rw[hN,q1];rfl),Gf⟩
    ·have q1:(z06 f.name u.flows 0==(k:Int))=true:=by simpa using h1
     refine z00 (λh2=>z00 (λh3=>?_) λh3=>?_) λh2=>?_
     ·have e2:(f.ty==1)=false:=by simpa using h2
      have e3:(f.ty==2)=false:=by simpa using h3
      exact⟨bad (by unfold gFlw;rw[hN,q1,e2,e3];rfl),Gf⟩
     ·have e3:(f.ty==2)=true:=by simpa using h3
      have T:=tail q1 (by rw[e3,Bk]);refine z00 (λh4=>⟨bad (by rw[T,show decide (f.params<0)=true from h4];rfl),Gf⟩) λh4=>z00 (λh5=>⟨bad (by rw[T,show decide (f.params<0)=false from h4,show decide (f.params > f.types.length)=true by simpa using h5];rfl),Gf⟩) λh5=>?_;have good:gFlw u f k=true:=by rw[T,show decide (f.params<0)=false from h4,show decide (f.params > f.types.length)=false by simpa using h5];rfl
      exact⟨z01 rfl oM0,k+1,z05 hlt,⟨hlt,by rw[hF,good];rfl⟩,Gg,Gf,rfl,rfl,rfl,rfl⟩
     ·have e2:(f.ty==1)=true:=by simpa using h2
      have T:=tail q1 (by rw[e2,Bf]);refine z00 (λh4=>⟨bad (by rw[T,show decide (f.params<0)=true from h4];rfl),Gf⟩) λh4=>z00 (λh5=>⟨bad (by rw[T,show decide (f.params<0)=false from h4,show decide (f.params > f.types.length)=true by simpa using h5];rfl),Gf⟩) λh5=>?_;have good:gFlw u f k=true:=by rw[T,show decide (f.params<0)=false from h4,show decide (f.params > f.types.length)=false by simpa using h5];rfl
      exact⟨z01 rfl oM0,k+1,z05 hlt,⟨hlt,by rw[hF,good];rfl⟩,Gg,Gf,rfl,rfl,rfl,rfl⟩
  ·rw[Ae (z13 (f:=Fl.enc) rfl hc),show r8gF u [] k=true from rfl]at hF;have hG:z1i u=zb6 u:=by unfold z1i;rw[hA,hF];rfl
   rw[hG];refine⟨[],z4n u z0x,sR,Gf,rfl,?_⟩
   cases hp:decide (z06 z0x u.flows 0≥0)with
   |false=>exact z00 (λh=>A9 (hp.symm.trans h) dC0) λ_=>⟨sE (by unfold zb6;rw[hp];rfl),Gf⟩
   |true =>
    have h0:z06 z0x u.flows 0≥0:=by simpa using hp
    obtain⟨g,hg,_⟩:=ze9 h0;have hD:u.flows.getD (z06 z0x u.flows 0).toNat y7s=g:=by rw[Ax,hg];rfl
    have hi:=z02 (f:=Fl.enc) hg;refine z00 (λ_=>⟨hi,by omega,z00 (λh1=>⟨hi,by omega,sE ?_,Gf⟩) λh1=>⟨sE ?_,Gf⟩⟩) λh=>A9 (hp.symm.trans h) dC0
    ·unfold zb6;rw[hp,hD,show(g.ty==1)=true from h1];rfl
    ·unfold zb6;rw[hp,hD,show(g.ty==1)=false from h1];rfl
theorem ze6{u:Un}{f:Fl}(hf:f∈u.flows):lsW f.body<=z0j u:=by
 have h1:=yj7 hf;have h2:=y88 f.body;unfold z0j z0z at *
 omega
theorem y8r(u:Un)(l:List Fl)(i:Nat){f:Fl}(h:l.drop i=f::l.drop (i+1)):z5s u (l.drop i) i=if z5i u f then z5s u (l.drop (i+1)) ((i+1:Nat):Int)else(80,(i:Int)):=by
 rw[h,z5s];rfl
theorem zt0(u:Un)(hW:z0j u<=34000000000):SC Tryz.prog 9 [.pv u.enc] [] (λ_=>False) (.tup [iInt (z17 u).1,iInt (z17 u).2]) []:=by
 refine SC.anyR (K0 tb { pb:=[101] } [] Tryz.func9 rfl rfl ?_);have hG:=y98 u;have hw2:u.flows.length<=z0j u:=by unfold z0j;omega
 unfold z17
 cases hh:z1i u
 ·rw[hh]at hG;exact⟨[],hG,sR,Gf,rfl,sI,Gf⟩
 rw[hh]at hG;have hg:=z6x hh;rw[A5 rfl];refine⟨[],hG,sR,Gf,rfl,Nat,λi=>[(4,iInt ((i:Nat):Int))],λ_=>[],λi=>u.flows.length-i,λi=>i<=u.flows.length/\z5s u u.flows 0=z5s u (u.flows.drop i) i,[],0,⟨Aj _,rfl⟩,Gg,Gf,?_⟩;rintro i ⟨i1,i2⟩;refine z00 (λhc=>?_) λhc=>?_
 ·have hlt:i<u.flows.length:=z12 (f:=Fl.enc) rfl hc;obtain⟨x,x1,x2,x3,x4⟩:=z0u hlt;have hF:=j3y u x hg (Bm (ze6 x4) hW);rw[y8r u u.flows i x3]at i2;generalize z5i u x=b at hF i2
  cases b
  ·rw[A1 dC0]at i2;rw[i2];exact⟨z02 (f:=Fl.enc) x1,rfl,[],hF,sR,Gf,rfl,sI,Gf⟩
  ·rw[A5 rfl]at i2;exact⟨z02 (f:=Fl.enc) x1,rfl,[],hF,sR,Gf,rfl,z01 rfl oM0,i+1,z05 hlt,⟨hlt,i2⟩,Gg,Gf,rfl,rfl,rfl,rfl⟩
 ·have hge:u.flows.length<=i:=z13 (f:=Fl.enc) rfl hc;rw[i2,Ae hge];exact⟨sI,Gf⟩
theorem y35(u:Un):∀d,
 (∀l a s r,z2f u d l a s=some r->r.2.2.ar.length=s.ar.length)/\(∀x a p s r,z3w u d x a p s=some r->r.2.2.ar.length=s.ar.length) /\
 (∀k p s r,z4j u d k p s=some r->r.2.ar.length=s.ar.length)/\∀x p s r,mSum u d x p s=some r->r.2.ar.length=s.ar.length
 |0=>⟨λ_ _ _ _ h=>by simp[z2f]at h,λ_ _ _ _ _ h=>by simp[z3w]at h,λ_ _ _ _ h=>by simp[z4j]at h,λ_ _ _ _ h=>by simp[mSum]at h⟩
 |d+1=>by
  obtain⟨i1,i2,i3,i4⟩:=y35 u d;refine⟨λl a s r h=>?_,λx a p s r h=>?_,λk p s r h=>?_,λx p s r h=>?_⟩
  ·cases l with
   |nil=>rw[y89 h]
   |cons x l =>
    obtain⟨d1,e,h2⟩:=z8y rfl h;obtain rfl:d1=d:=by omega
    rcases h2 with⟨_,rfl⟩|⟨_,p,r1,_,h3,h4⟩
    ·exact Ah List.length (zz4 s)
    ·have E1:r1.2.2.ar.length=s.ar.length:=by
      rw[<- zz4 s];unfold z5o at h3;split at h3
      ·simp only[Ao,A8]at h3;obtain⟨o,_,v',_,rfl⟩:=h3;rfl
      split at h3
      ·cases h3;rfl
      split at h3
      ·simp only[Ao]at h3;obtain⟨a0,_,q,_,r2,h5,h6⟩:=h3;have h7:=i1 _ _ _ _ h5;split at h6
       ·simp only[A8]at h6;obtain⟨v',_,rfl⟩:=h6;exact h7
       ·cases h6;exact h7
      split at h3
      ·exact i2 _ _ _ _ _ h3
      ·simp only[Ao]at h3;obtain⟨r2,h5,h6⟩:=h3;have h7:=i4 _ _ _ _ h5;split at h6
       ·simp only[Ao,A8]at h6;obtain⟨o,_,v',_,rfl⟩:=h6;exact h7
       ·cases h6;exact h7
     split at h4
     ·cases h4;exact E1
     ·exact(i1 _ _ _ _ h4).trans E1
  ·obtain⟨d1,v2,q,r1,e,_,_,h3,h4⟩:=z5g h;obtain rfl:d1=d:=by omega
   have E1:=i1 _ _ _ _ h3;split at h4
   ·cases h4;exact E1
   split at h4
   ·simp only[A8]at h4;obtain⟨v',_,rfl⟩:=h4;exact E1
   ·exact(i2 _ _ _ _ _ h4).trans E1
  ·obtain⟨d1,f,r1,e,_,_,_,_,h3,rfl⟩:=z7h h;obtain rfl:d1=d:=by omega
   exact i1 _ _ _ _ h3
  ·have ne:∀{i:Int},x.kind≠i->(x.kind==i)=false:=λh=>Aa.2 h
   by_cases k3:x.kind=3
   ·obtain⟨a0,_,rfl⟩:=z9r h (At.2 k3);rfl
   by_cases k4:x.kind=4
   ·obtain⟨a0,a1,_,_,rfl⟩:=z8a h (At.2 k4);dsimp only;split<;>rfl
   by_cases k5:x.kind=5
   ·obtain⟨a0,b,s',_,h2,h3⟩:=z7j h k5;rcases h3 with⟨rfl,rfl⟩|⟨rfl,row,y,_,_,rfl⟩
    ·exact zm3 h2
    ·rfl
   by_cases k6:x.kind=6
   ·obtain⟨a0,b,s',_,h2,h3⟩:=z68 h k6;rcases h3 with⟨rfl,rfl⟩|⟨rfl,row,y,_,_,rfl⟩
    ·exact zm3 h2
    ·simp[z60]
   by_cases k7:x.kind=7
   ·have:=i3 _ _ _ _ (zd1 h (At.2 k7));exact this
   by_cases k9:x.kind=9
   ·obtain⟨a0,_,_,rfl⟩:=z7k h (At.2 k9);rfl
   by_cases k8:x.kind=8
   ·rcases z92 h (At.2 k8)with⟨_,rfl⟩|⟨y,q,_,rfl⟩<;>rfl
   ·obtain rfl:=z91 h (ne k3) (ne k4) (ne k5) (ne k6) (ne k7) (ne k9) (ne k8);rfl
theorem j0l{u:Un}{d:Nat}{k:Int}{p:List Int}{s:Rs}{r:Int×Rs}(h:z4j u d k p s=some r):r.2.ar.length=s.ar.length:=(y35 u d).2.2.1 _ _ _ _ h
theorem zt8(u:Un)(hub:∀f∈u.flows,lsW f.body<=34359738368):∀D,SRC u D/\SRL u D
 |0=>⟨λ_ h=>A9 h (An _),λ_ h=>A9 h (An _)⟩
 |D+1=>by
  obtain⟨i1,i2⟩:=zt8 u hub D;have a1:∀d l v s r,z2f u d l v s=some r->r.2.2.ar.length=s.ar.length:=λd=>(y35 u d).1;have a2:∀d x v a s r,z3w u d x v a s=some r->r.2.2.ar.length=s.ar.length:=λd=>(y35 u d).2.1;have a3:∀d k a s r,z4j u d k a s=some r->r.2.ar.length=s.ar.length:=λd=>(y35 u d).2.2.1;have a4:∀d x a s r,mSum u d x a s=some r->r.2.ar.length=s.ar.length:=λd=>(y35 u d).2.2.2;refine⟨λd hd k a s r h h1=>?_,λd hd l v s r h hb h1=>?_⟩
  ·obtain⟨ins,ar,st,code,out,cost,fuel,spent⟩:=s;rcases ar with _|⟨row,_|⟨row2,_|⟨row3,t⟩⟩⟩
   ·exact sr_call0 u hub D i2 a1 d (C7 hd) k a ⟨ins,[],st,code,out,cost,fuel,spent⟩ r h
   ·exact A9 rfl h1.2
   ·exact sr_call2 u hub D i2 a1 d (C7 hd) k a ⟨ins,[],st,code,out,cost,fuel,spent⟩ row row2 r h
   ·simp at h1
  ·obtain⟨ins,ar,st,code,out,cost,fuel,spent⟩:=s;rcases ar with _|⟨row,_|⟨row2,_|⟨row3,t⟩⟩⟩
   ·exact sr_list0 u D i1 i2 a3 a1 a2 a4 d (C7 hd) l v ⟨ins,[],st,code,out,cost,fuel,spent⟩ r h hb
   ·exact A9 rfl h1.2
   ·exact sr_list2 u D i1 i2 a3 a1 a2 a4 d (C7 hd) l v ⟨ins,[],st,code,out,cost,fuel,spent⟩ row row2 r h hb
   ·simp at h1
theorem y87{k:Nat}{o:HO}{hp:Hp}(h:look hp k=none):look ((k,none)::(k,some o)::hp)=look hp:=by
 funext j
 show(bif Nat.beq k j then none else bif Nat.beq k j then some o else look hp j)=look hp j
 by_cases e:k=j
 ·subst e;rw[show Nat.beq k k=true from Di k,h];rfl
 ·rw[z45 e];rfl
theorem SC.give3{P:Program}{f:FuncId}{args:List IV}{pre post:List (Nat×HO)}{R:Nat->Prop}{k n:Nat}{s:RT}{els:List (List PV)}{y z:IV}
 (h:SC P f args pre R (.tup [.sl k n,y,z]) ((k,.row s els)::post)) (hn:els.length=n) (hk:look (up post) k=none):SC P f args pre R (.tup [.pv (.seq els),y,z]) post:=by
 intro F ρ w vs hkept hrel hargs;refine(h F ρ w vs hkept hrel hargs).mono ?_;rintro e w' ⟨ρ',v,he,hv,hrel',t⟩
 cases hv with
 |tup cs ws u hl hv hr =>
  have hl:ws.size=3:=hl;have ha:All ⟨F,R,ρ,look (up pre),w,3⟩ ρ' (look (up ((k,.row s els)::post))) w' [(0,.sl k n),(1,y),(2,z)] { tmps:=ws,defers:=[] }:=by
   refine⟨hrel',λt x hx=>?_,t,rfl,hl,hkept⟩
   match t,hx with
   |0,hx=>cases hx;exact⟨u 0,hv 0 _ rfl,hr 0 _ rfl⟩
   |1,hx=>cases hx;exact⟨u 1,hv 1 _ rfl,hr 1 _ rfl⟩
   |2,hx=>cases hx;exact⟨u 2,hv 2 _ rfl,hr 2 _ rfl⟩
   |t+3,hx=>cases hx
  have hb:=ha.freeze (k:=k) (n:=n) (t:=0) (s:=s) (els:=els) z1h hn rfl;have e2:look ((k,none)::up ((k,.row s els)::post))=look (up post):=y87 hk;rw[e2]at hb;refine⟨_,_,he,.tup _ ws u hl (λj c hj=>?_) λj c hj=>?_,hb.rel,hb.tr⟩
  ·match j,hj with
   |0,hj=>exact hv 0 _ rfl
   |1,hj=>exact hv 1 _ rfl
   |2,hj=>exact hv 2 _ rfl
  ·match j,hj with
   |0,hj => 
    cases hj
    obtain⟨v,h1,h2⟩:=hb.fr 0 _ rfl;rw[show ws[0]?=some (u 0)from hv 0 _ rfl]at h1
    cases h1;exact h2
   |1,hj =>
    cases hj
    obtain⟨v,h1,h2⟩:=hb.fr 1 _ rfl;rw[show ws[1]?=some (u 1)from hv 1 _ rfl]at h1
    cases h1;exact h2
   |2,hj =>
    cases hj
    obtain⟨v,h1,h2⟩:=hb.fr 2 _ rfl;rw[show ws[2]?=some (u 2)from hv 2 _ rfl]at h1
    cases h1;exact h2
theorem SC.give{P:Program}{f:FuncId}{args:List IV}{pre post:List (Nat×HO)}{R:Nat->Prop}{k n:Nat}{s:RT}{els:List (List PV)}
 (h:SC P f args pre R (.sl k n) ((k,.row s els)::post)) (hn:els.length=n) (hk:look (up post) k=none):SC P f args pre R (.pv (.seq els)) post:=by
 intro F ρ w vs hkept hrel hargs;refine(h F ρ w vs hkept hrel hargs).mono ?_;rintro e w' ⟨ρ',v,he,hv,hrel',t⟩;have ha:All ⟨F,R,ρ,look (up pre),w,1⟩ ρ' (look (up ((k,.row s els)::post))) w' [(0,.sl k n)] { tmps:=#[v],defers:=[] }:=by
  refine⟨hrel',λt x hx=>?_,t,rfl,rfl,hkept⟩
  match t,hx with
  |0,hx=>cases hx;exact⟨v,rfl,hv⟩
  |t+1,hx=>cases hx
 have hb:=ha.freeze (k:=k) (n:=n) (t:=0) (s:=s) (els:=els) z1h hn rfl;have e2:look ((k,none)::up ((k,.row s els)::post))=look (up post):=y87 hk;rw[e2]at hb;obtain⟨v2,h1,h2⟩:=hb.fr 0 _ rfl
 cases h1
 exact⟨_,v,he,h2,hb.rel,hb.tr⟩
def tkRt:RT:=⟨113,3⟩
theorem sT3{x x' y z:IV}(h:SubI x x'):SubI (.tup [x,y,z]) (.tup [x',y,z]):=λF ρ σ w v hv=>by
 cases hv with
 |tup cs vs u hl hv hr =>
  refine .tup _ vs u hl (λj c hj=>?_) λj c hj=>?_
  ·match j,hj with
   |0,_=>exact hv 0 x rfl
   |j+1,hj=>exact hv (j+1) c hj
  ·match j,hj with
   |0,hj=>cases hj;exact h _ _ _ _ _ (hr 0 x rfl)
   |j+1,hj=>exact hr (j+1) c hj
theorem yp7{s:ByteArray}{a m:Nat}{b:UInt8}(h:s.data.toList.drop (a+m)=b::s.data.toList.drop (a+m+1))(hb:isLD b=true) :
 ((s.data.toList.drop (a+m)).takeWhile isLD).length=1+((s.data.toList.drop (a+m+1)).takeWhile isLD).length:=by
 rw[h,E8,A5 hb,A3];omega
theorem run_stop{s:ByteArray}{a m:Nat}{b:UInt8}(h:s.data.toList.drop (a+m)=b::s.data.toList.drop (a+m+1))(hb:isLD b=false) :
 ((s.data.toList.drop (a+m)).takeWhile isLD).length=0:=by
 rw[h,E8,A1 (by simp[hb])];rfl
theorem b_eq{b:UInt8}{n:Int}(h:((b.toNat:Int)==n)=true){c:UInt8}(hc:(c.toNat:Int)=n):b=c:=UInt8.toNat_inj.1 (by have:=Av h;omega)
theorem b_ne{b:UInt8}{n:Int}(h:((b.toNat:Int)==n)=false){c:UInt8}(hc:(c.toNat:Int)=n):¬b=c:=λe=>by subst e;simp[hc]at h
def tkR(t:List Tk×Int×Int):IV:=if t.2.1=0 then .sl 1001 (t.1.map Tk.enc).length else .pv (tks t.1)
def tkPost(t:List Tk×Int×Int):List (Nat×HO):=if t.2.1=0 then[(1001,.row tkRt (t.1.map Tk.enc))]else[]
theorem yx3(s:ByteArray)(hs:s.size<=1073741824):SC Tryz.prog 43 [.pv (.val (.string s))] [] (λk=>k∈[]) (.tup [tkR (z1d s),iInt (z1d s).2.1,iInt (z1d s).2.2]) (tkPost (z1d s)):=by
 refine K0 tb { gh:=[(4,[.grow 5 1001 113 3])] } [] Tryz.func43 rfl rfl ?_;unfold z1d;refine z00 (λh=>?_) λh=>?_
 ·have h:s.size > 100000:=by have:=Ap h;omega
  rw[A5 h];exact⟨sT3 sN,Gf⟩
 have h:¬s.size > 100000:=by have:=Am h;omega
 rw[A1 h];generalize hTK:toks s (s.size+1) 1 0 []=TK;refine⟨Nat×Nat×List Tk,λa=>[(6,iInt (a.1:Nat)),(7,iInt (a.2.1:Nat)),(5,.sl 1001 (a.2.2.map Tk.enc).length)],λa=>[(1001,.row tkRt (a.2.2.map Tk.enc))],λa=>s.size-a.2.1,
  λa=>a.1<=a.2.1+1/\a.2.1<=s.size/\a.2.2.length<=a.2.1/\∃N,s.size<N+a.2.1/\TK=toks s N a.1 a.2.1 a.2.2,[],(1,0,[]),⟨Ag _,Aj _,Ag _,s.size+1,by omega,hTK.symm⟩,Gj,Gg,?_⟩
 rintro⟨line,at_,out⟩ ⟨h1,h2,h3,N,h4,h5⟩;dsimp only at h1 h2 h3 h4 h5;refine z00 (λhc=>?_) λhc=>?_
 ·obtain⟨b,g1,g2,g3,g4,g5⟩:=zu7 hc;dsimp only at g1 g2 g3 g4 hc;obtain⟨M,rfl⟩:∃M,N=M+1:=⟨N-1,by omega⟩;unfold toks at h5;simp only[g2]at h5;refine⟨Nat,λm=>[(9,iInt (m:Nat))],λ_=>[],λm=>s.size-m,λm=>at_+m<=s.size/\z4b s at_=m+((s.data.toList.drop (at_+m)).takeWhile isLD).length,[],0,⟨h2,by unfold z4b;simp⟩,Gg,Gf,?_⟩;rintro m ⟨hm,hr⟩;refine⟨z01 rfl (by dsimp only;omega),z00 (λhc2=>?_) λhc2=>?_⟩
  rotate_left
  have hrun:z4b s at_=m:=by rw[hr,zp2 (k:=at_+m) (by simpa using hc2)];rfl
  clear hr hc2
  rotate_left
  obtain⟨b2,k1,k2,k3,k4,k5⟩:=zu7 (k:=at_+m) (by simpa using hc2);refine⟨z01 rfl (by dsimp only;omega),k1,by dsimp only;omega,[],za2 _,sR,Gf,rfl,z00 (λh6=>?_) λh6=>?_⟩;exact⟨z01 rfl oM0,m+1,by omega,⟨by omega,by rw[hr,yp7 k3 (by unfold isLD;rw[h6];rfl),show at_+(m+1)=at_+m+1 from rfl];omega⟩,Gg,Gf,rfl,rfl,rfl,rfl⟩;refine⟨z01 rfl (by dsimp only;omega),k1,by dsimp only;omega,[],zs9 _,sR,Gf,rfl,z00 (λh7=>?_) λh7=>?_⟩;exact⟨z01 rfl oM0,m+1,by omega,⟨by omega,by rw[hr,yp7 k3 (by unfold isLD;rw[h7];simp),show at_+(m+1)=at_+m+1 from rfl];omega⟩,Gg,Gf,rfl,rfl,rfl,rfl⟩;have hrun:z4b s at_=m:=by rw[hr,run_stop k3 (by unfold isLD;rw[h6,h7];rfl)];rfl
  clear hr k1 k2 k3 k4 k5 h6 h7 hc2
  all_goals
   refine⟨g1,rfl,z00 (λb1=>?_) λb1=>?_⟩
   ·rw[zu5,A5 (b_eq b1 rfl)]at h5;exact⟨z01 rfl (by dsimp only;omega),z01 rfl (by dsimp only;omega),(line+1,at_+1,out),z05 g4,⟨by show line+1<=at_+1+1;omega,g4,by show out.length<=at_+1;omega,M,by show s.size<M+(at_+1);omega,h5⟩,Gj,Gg,rfl,rfl,rfl,rfl⟩
   rw[zu5,A1 (b_ne b1 rfl)]at h5;have blank:((b.toNat:Int)==32)=true∨((b.toNat:Int)==9)=true∨((b.toNat:Int)==13)=true->TK=toks s M line (at_+1) out:=λe=>by
    rw[A5 (e.elim (λe=>.inl (b_eq e rfl)) λe=>.inr (e.elim (λe=>.inl (b_eq e rfl)) λe=>.inr (b_eq e rfl)))]at h5;exact h5
   refine⟨g1,rfl,z00 (λb2=>?_) λb2=>⟨g1,rfl,z00 (λb3=>?_) λb3=>⟨g1,rfl,z00 (λb4=>?_) λb4=>?_⟩⟩⟩
   ·have h5:=blank (.inl b2);exact⟨z01 rfl (by dsimp only;omega),(line,at_+1,out),z05 g4,⟨by show line<=at_+1+1;omega,g4,by show out.length<=at_+1;omega,M,by show s.size<M+(at_+1);omega,h5⟩,Gj,Gg,rfl,rfl,rfl,rfl⟩
   ·have h5:=blank (.inr (.inl b3));exact⟨z01 rfl (by dsimp only;omega),(line,at_+1,out),z05 g4,⟨by show line<=at_+1+1;omega,g4,by show out.length<=at_+1;omega,M,by show s.size<M+(at_+1);omega,h5⟩,Gj,Gg,rfl,rfl,rfl,rfl⟩
   ·have h5:=blank (.inr (.inr b4));exact⟨z01 rfl (by dsimp only;omega),(line,at_+1,out),z05 g4,⟨by show line<=at_+1+1;omega,g4,by show out.length<=at_+1;omega,M,by show s.size<M+(at_+1);omega,h5⟩,Gj,Gg,rfl,rfl,rfl,rfl⟩
   rw[A1 (λe=>e.elim (b_ne b2 rfl) λe=>e.elim (b_ne b3 rfl) (b_ne b4 rfl))]at h5;clear blank;refine⟨g1,rfl,z00 (λb5=>?_) λb5=>?_⟩
   rotate_left
   have c3:¬(b=47/\s.data.toList[at_+1]?=some 47):=λe=>b_ne b5 rfl e.1;clear b5
   rotate_right
   refine⟨z01 rfl (by dsimp only;omega),z00 (λb6=>?_) λb6=>?_⟩
   rotate_left
   have c3:¬(b=47/\s.data.toList[at_+1]?=some 47):=λe=>by
    have:=Am b6;have h8:=(A7.1 e.2).1;have h9:s.data.toList.length=s.size:=Bw;dsimp only at this;omega
   clear b5 b6
   rotate_right
   obtain⟨q,q1,q2,q3,q4,q5⟩:=zu7 (k:=at_+1) (by simpa using b6);refine⟨z01 rfl (by dsimp only;omega),q1,by dsimp only;omega,z00 (λb7=>?_) λb7=>?_⟩
   rotate_left
   have c3:¬(b=47/\s.data.toList[at_+1]?=some 47):=λe=>by
    rw[q2]at e;exact b_ne b7 rfl (C0 e.2)
   clear b5 b6 b7 q1 q2 q3 q4 q5
   rotate_right
   rw[A5 ⟨b_eq b5 rfl,by rw[q2,b_eq (c:=47) b7 rfl]⟩]at h5;clear b5 b6 b7 q1 q2 q3 q4 q5
   ·refine⟨Nat,λj=>[(7,iInt (j:Nat))],λ_=>[],λj=>s.size-j,λj=>at_<=j/\j<=s.size/\zr2 s at_=j+((s.data.toList.drop j).takeWhile λb=>b != 10).length,[],at_,⟨Ag _,h2,rfl⟩,Gg,Gf,?_⟩;rintro j ⟨j1,j2,j3⟩;have hend:=y3p g2 (b_ne b1 rfl);have fin:zr2 s at_=j->at_<j/\(line<=j+1/\j<=s.size/\out.length<=j/\∃N,s.size<N+j/\TK=toks s N line j out):=λe=>by
     rw[e]at hend h5;obtain⟨e1,e2⟩:=hend;exact⟨e1,by omega,j2,by omega,M,by omega,h5⟩
    refine z00 (λd1=>?_) λd1=>?_
    ·obtain⟨q,q1,q2,q3,q4,q5⟩:=zu7 (k:=j) d1;refine⟨q1,rfl,z00 (λd2=>?_) λd2=>?_⟩
     ·have d3:q≠10:=λe=>by subst e;simp at d2
      rw[q3,E8,A5 (by simpa using d3),A3]at j3;exact⟨z01 rfl oM0,j+1,z05 q4,⟨by omega,q4,by rw[j3];omega⟩,Gg,Gf,rfl,rfl,rfl,rfl⟩
     ·have d3:q=10:=b_eq (c:=10) (n:=10) (by simpa using d2) rfl;rw[q3,E8,A1 (by simp[d3])]at j3;obtain⟨f1,f2⟩:=fin j3;exact⟨(line,j,out),by dsimp only;omega,f2,Gj,Gg,rfl,rfl,rfl,rfl⟩
    ·rw[zp2 d1]at j3;obtain⟨f1,f2⟩:=fin j3;exact⟨(line,j,out),by dsimp only;omega,f2,Gj,Gg,rfl,rfl,rfl,rfl⟩
   all_goals
    rw[A1 c3,hrun]at h5;clear c3;refine z00 (λd1=>?_) λd1=>?_
    ·have d1:m > 0:=by have:=Ap d1;omega
     rw[A5 d1]at h5;have hm2:at_+m<=s.size:=hm;generalize hw:s.extract at_ (at_+m)=w at h5;have hws:w.size=m:=by rw[<- hw,Cq];omega
     have nx:∀k:Int,TK=toks s M line (at_+m) (out++[⟨k,w,line⟩])->line<=at_+m+1/\at_+m<=s.size/\(out++[(⟨k,w,line⟩:Tk)]).length<=at_+m/\∃N,s.size<N+(at_+m)/\TK=toks s N line (at_+m) (out++[⟨k,w,line⟩]):=λk e =>
      ⟨by omega,hm2,by rw[B8];show _+1<=_;omega,M,by omega,e⟩
     refine⟨z01 rfl (by dsimp only;omega),at_,rfl,at_+m,by dsimp only;omega,by omega,hm2,?_⟩;rw[hw];refine⟨g1,rfl,[],za2 _,sR,Gf,rfl,z00 (λe1=>?_) λe1=>?_⟩
     ·refine⟨[],y22 w,sR,Gf,rfl,z00 (λe2=>?_) λe2=>?_⟩
      ·rw[show z3d b w=2 by unfold z3d;rw[A5 e2],A1 sI0]at h5;exact⟨z01 (z:=((at_+m:Nat):Int)) (by rw[hws];rfl) oM0,rfl,z3u rfl,by simp;omega,(line,at_+m,out++[⟨2,w,line⟩]),by dsimp only;omega,nx 2 h5,⟨rfl,rfl,slq sI0,Gf⟩,⟨rwq (by simp[Tk.enc]),Gf⟩,rfl,rfl,rfl,rfl⟩
      ·rw[show z3d b w=1 by unfold z3d;rw[A1 (by simp[e2]),A5 e1]]at h5;refine⟨[],z6r w,sR,Gf,rfl,z00 (λe3=>?_) λe3=>?_⟩
       ·have e3:z0o w=false:=by simpa using e3
        rw[A5 (.inl ⟨rfl,e3⟩)]at h5;refine⟨?_,?_⟩<;>rw[h5]
        ·exact sT3 sN
        ·trivial
       ·have e3:z0o w=true:=by simpa using e3
        rw[A1 (by simp[e3])]at h5;exact⟨z01 (z:=((at_+m:Nat):Int)) (by rw[hws];rfl) oM0,rfl,z3u rfl,by simp;omega,(line,at_+m,out++[⟨1,w,line⟩]),by dsimp only;omega,nx 1 h5,⟨rfl,rfl,slq sI0,Gf⟩,⟨rwq (by simp[Tk.enc]),Gf⟩,rfl,rfl,rfl,rfl⟩
     ·refine⟨[],y22 w,sR,Gf,rfl,z00 (λe2=>?_) λe2=>?_⟩
      ·rw[show z3d b w=2 by unfold z3d;rw[A5 e2],A1 sI0]at h5;exact⟨z01 (z:=((at_+m:Nat):Int)) (by rw[hws];rfl) oM0,rfl,z3u rfl,by simp;omega,(line,at_+m,out++[⟨2,w,line⟩]),by dsimp only;omega,nx 2 h5,⟨rfl,rfl,slq sI0,Gf⟩,⟨rwq (by simp[Tk.enc]),Gf⟩,rfl,rfl,rfl,rfl⟩
      ·rw[show z3d b w=0 by unfold z3d;rw[A1 (by simp[e2]),A1 (by simp[e1])]]at h5;refine⟨[],j3x w oM0,sR,Gf,rfl,z00 (λe3=>?_) λe3=>?_⟩
       ·have e3:zi4 w=false:=by simpa using e3
        rw[A5 (.inr ⟨rfl,e3⟩)]at h5;refine⟨?_,?_⟩<;>rw[h5]
        ·exact sT3 sN
        ·trivial
       ·have e3:zi4 w=true:=by simpa using e3
        rw[A1 (by simp[e3])]at h5;exact⟨z01 (z:=((at_+m:Nat):Int)) (by rw[hws];rfl) oM0,rfl,z3u rfl,by simp;omega,(line,at_+m,out++[⟨0,w,line⟩]),by dsimp only;omega,nx 0 h5,⟨rfl,rfl,slq sI0,Gf⟩,⟨rwq (by simp[Tk.enc]),Gf⟩,rfl,rfl,rfl,rfl⟩
    ·have d1:¬m > 0:=by have:=Am d1;omega
     rw[A1 d1]at h5;refine⟨at_,rfl,h2,Ag _,[],sc_sign (s.extract at_ s.size) (by rw[Cq];omega),sR,Gf,rfl,?_⟩;have hgl:=y03 (s.extract at_ s.size) sgL;have hgs:(s.extract at_ s.size).size=s.size-at_:=by rw[Cq];omega
     rw[hgs]at hgl
     change sgOf (s.extract at_ s.size)=⟨#[]⟩∨(sgOf (s.extract at_ s.size)∈sgL/\(sgOf (s.extract at_ s.size)).size<=s.size-at_)at hgl
     generalize sgOf (s.extract at_ s.size)=w at h5 hgl;refine z00 (λe1=>?_) λe1=>?_
     ·have e1:w.toList=[]:=by simpa using e1
      have e2:w.size=0:=by rw[z2d]at e1;have h9:w.data.toList.length=w.size:=Bw;rw[e1]at h9;exact h9.symm
      rw[A5 e2]at h5;refine⟨?_,?_⟩<;>rw[h5]
      ·exact sT3 sN
      ·trivial
     ·have e1:w.toList≠[]:=by simpa using e1
      have e2:¬w.size=0:=λe=>e1 (by rw[z2d];have h9:w.data.toList.length=w.size:=Bw;exact List.length_eq_zero_iff.1 (h9.trans e));rw[A1 e2]at h5;have e3:at_+w.size<=s.size:=by
       rcases hgl with e|e
       ·exact A9 (by rw[e];rfl) e2
       ·have:=e.2;omega
      exact⟨z01 (z:=((at_+w.size:Nat):Int)) rfl oM0,rfl,z3u rfl,by simp;omega,(line,at_+w.size,out++[⟨2,w,line⟩]),by dsimp only;omega,
       ⟨by show line<=at_+w.size+1;omega,e3,by rw[B8];show _+1<=at_+w.size;omega,M,by show s.size<M+(at_+w.size);omega,h5⟩,⟨rfl,rfl,slq sI0,Gf⟩,⟨rwq (by simp[Tk.enc]),Gf⟩,rfl,rfl,rfl,rfl⟩
 ·have hc:=zp2 hc;obtain⟨M,rfl⟩:∃M,N=M+1:=⟨N-1,by omega⟩;unfold toks at h5;have hn:s.data.toList[at_]?=none:=by
   rw[<- List.head?_drop];dsimp only at hc;rw[hc];rfl
  simp only[hn]at h5;refine⟨rfl,z3u rfl,by simp;omega,?_⟩;refine⟨?_,?_⟩<;>rw[h5]
  ·exact sE (by simp[tkR])
  ·exact⟨rwq (by simp[Tk.enc];rfl),Gf⟩
theorem j3p(s:ByteArray)(hs:s.size<=1073741824):SC Tryz.prog 43 [.pv (.val (.string s))] [] (λk=>k∈[]) (.tup [.pv (tks (z1d s).1),iInt (z1d s).2.1,iInt (z1d s).2.2]) []:=by
 have h:=yx3 s hs;unfold tkR tkPost at h
 by_cases e:(z1d s).2.1=0
 ·rw[A5 e,A5 e]at h;exact h.give3 rfl rfl
 ·rw[A1 e,A1 e]at h;exact h
structure Ps where
 at_:Nat
 bad:Bool
 deep:Bool
def Ps.over(s:Ps):Bool:=s.bad||s.deep
def Ps.next(s:Ps):Ps:={ s with at_:=s.at_+1 }
def Ps.setBad(s:Ps):Ps:={ s with bad:=true }
def Ps.setDeep(s:Ps):Ps:={ s with deep:=true }
def s_:ByteArray:=⟨#[]⟩
def tkAt(T:List Tk)(s:Ps):Tk:=T.getD s.at_ ⟨3,s_,0⟩
def pIs(T:List Tk)(w:ByteArray)(s:Ps):Bool:=!s.over&&((tkAt T s).kind==2&&eqS (tkAt T s).text w)
def z8q(T:List Tk)(w:ByteArray)(s:Ps):Bool×Ps:=if pIs T w s then(true,s.next)else(false,s)
def z0q(T:List Tk)(w:ByteArray)(s:Ps):Ps:=if pIs T w s then s.next else if s.deep then s else s.setBad
def z0k(T:List Tk)(k:Int)(s:Ps):ByteArray×Ps:=if s.over then(s_,s)else if (tkAt T s).kind=k then((tkAt T s).text,s.next)else(s_,s.setBad)
def sInt:ByteArray:=⟨#[105,110,116]⟩
def j3l:ByteArray:=⟨#[98,111,111,108]⟩
def sIf:ByteArray:=⟨#[105,102]⟩
def sElse:ByteArray:=⟨#[101,108,115,101]⟩
def yq1:ByteArray:=⟨#[119,104,105,108,101]⟩
def yp8:ByteArray:=⟨#[98,114,101,97,107]⟩
def zn7:ByteArray:=⟨#[99,111,110,116,105,110,117,101]⟩
def y6j:ByteArray:=⟨#[114,101,116,117,114,110]⟩
def yq0:ByteArray:=⟨#[112,114,105,110,116]⟩
def sRead:ByteArray:=⟨#[114,101,97,100]⟩
def sTrue:ByteArray:=⟨#[116,114,117,101]⟩
def yp9:ByteArray:=⟨#[102,97,108,115,101]⟩
def sRo:ByteArray:=⟨#[40]⟩
def sRc:ByteArray:=⟨#[41]⟩
def sBo:ByteArray:=⟨#[123]⟩
def sBc:ByteArray:=⟨#[125]⟩
def sSo:ByteArray:=⟨#[91]⟩
def sSc:ByteArray:=⟨#[93]⟩
def zn6:ByteArray:=⟨#[44]⟩
def z5b:ByteArray:=⟨#[59]⟩
def sEq:ByteArray:=⟨#[61]⟩
def z0t(T:List Tk)(s:Ps):Int×Ps:=if pIs T sInt s then(1,s.next)else(2,z0q T j3l s)
def x0:Ex:=.mk 0 0 0 s_ []
def pUn(T:List Tk)(s:Ps):Option Int:=[20,21,22,23,24,25,26,27,28].find? λo=>pIs T (zp8 o) s
def pOp(T:List Tk)(level:Int)(s:Ps):Int:=([1,2,3,4,5,6,7,8,9,10,11,12,13,14,15,16,17,18,19].find? λo=>decide (z4g o=level)&&pIs T (zp8 o) s).getD 0
def z43(depth:Int)(s:Ps):Ps:=if depth > 100/\s.bad=false then s.setDeep else s
def aGo(T:List Tk)(first:Bool)(s:Ps):Ps:=if first then s else(z8q T zn6 s).2
mutual
def z30(T:List Tk):Nat->Int->Int->Ps->Ex×Ps
 |0,_,_,s=>(x0,s)
 |N+1,level,depth,s=>if level > 10 then z6q T N depth s else z8w T N level depth (z30 T N (level+1) depth s)
def z8w(T:List Tk):Nat->Int->Int->Ex×Ps->Ex×Ps
 |0,_,_,r=>r
 |N+1,level,depth,r=>if pOp T level r.2=0 then r else
  z8w T N level depth (.mk 5 (pOp T level r.2) 0 s_ [r.1,(z30 T N (level+1) depth r.2.next).1],(z30 T N (level+1) depth r.2.next).2)
def z6q(T:List Tk):Nat->Int->Ps->Ex×Ps
 |0,_,s=>(x0,s)
 |N+1,depth,s=>match pUn T (z43 depth s)with
  |none=>zx7 T N depth (z43 depth s)
  |some op=>if op≥23 then(.mk 4 op 0 s_ [(z30 T N 1 (depth+1) (z0q T sRo (z43 depth s).next)).1],z0q T sRc (z30 T N 1 (depth+1) (z0q T sRo (z43 depth s).next)).2)
   else(.mk 4 op 0 s_ [(z6q T N (depth+1) (z43 depth s).next).1],(z6q T N (depth+1) (z43 depth s).next).2)
def zx7(T:List Tk):Nat->Int->Ps->Ex×Ps
 |0,_,s=>(x0,s)
 |N+1,depth,s=>if s.over then(x0,s)
  else if pIs T sRo s then((z30 T N 1 (depth+1) s.next).1,z0q T sRc (z30 T N 1 (depth+1) s.next).2)
  else if pIs T sTrue s then(.mk 2 0 1 s_ [],s.next)
  else if pIs T yp9 s then(.mk 2 0 0 s_ [],s.next)
  else if pIs T sRead s then(.mk 8 0 0 s_ [],z0q T sRc (z0q T sRo s.next))
  else if (tkAt T s).kind=0 then(.mk 1 0 (z8h (tkAt T s).text) s_ [],s.next)
  else if pIs T sRo (z0k T 1 s).2 then(.mk 7 0 0 (z0k T 1 s).1 (z6w T N (depth+1) (z0k T 1 s).2.next).1,(z6w T N (depth+1) (z0k T 1 s).2.next).2)
  else if pIs T sSo (z0k T 1 s).2 then(.mk 6 0 0 (z0k T 1 s).1 [(z30 T N 1 (depth+1) (z0k T 1 s).2.next).1],z0q T sSc (z30 T N 1 (depth+1) (z0k T 1 s).2.next).2)
  else(.mk 3 0 0 (z0k T 1 s).1 [],(z0k T 1 s).2)
def z6w(T:List Tk):Nat->Int->Ps->List Ex×Ps
 |0,_,s=>([],s)
 |N+1,depth,s=>if pIs T sRc s then([],s.next)else((z89 T N depth true [] s).1,z0q T sRc (z89 T N depth true [] s).2)
def z89(T:List Tk):Nat->Int->Bool->List Ex->Ps->List Ex×Ps
 |0,_,_,out,s=>(out,s)
 |N+1,depth,first,out,s=>if (first||pIs T zn6 s)=true/\(aGo T first s).over=false then
  z89 T N depth false (out++[(z30 T N 1 depth (aGo T first s)).1]) (z30 T N 1 depth (aGo T first s)).2
  else(out,aGo T first s)
end
def big(T:List Tk):Nat:=20*T.length+40
def mE(T:List Tk)(s:Ps):Ex×Ps:=z30 T (big T) 1 1 s
def z1r(T:List Tk)(s:Ps):Ex×Ps:=((mE T (z0q T sRo s)).1,z0q T sRc (mE T (z0q T sRo s)).2)
def z4s(T:List Tk)(s:Ps):St×Ps :=
 if pIs T sRo (z0k T 1 s).2 then(.mk 10 0 s_ [.mk 7 0 0 (z0k T 1 s).1 (z6w T (big T) 2 (z0k T 1 s).2.next).1] [] [],(z6w T (big T) 2 (z0k T 1 s).2.next).2)
 else if pIs T sSo (z0k T 1 s).2 then
  (.mk 3 0 (z0k T 1 s).1 [(mE T (z0k T 1 s).2.next).1,(mE T (z0q T sEq (z0q T sSc (mE T (z0k T 1 s).2.next).2))).1] [] [],(mE T (z0q T sEq (z0q T sSc (mE T (z0k T 1 s).2.next).2))).2)
 else(.mk 2 0 (z0k T 1 s).1 [(mE T (z0q T sEq (z0k T 1 s).2)).1] [] [],(mE T (z0q T sEq (z0k T 1 s).2)).2)
def mLet(T:List Tk)(s:Ps):St×Ps :=
 (.mk 1 (z0t T s).1 (z0k T 1 (z0t T s).2).1 [(mE T (z0q T sEq (z0k T 1 (z0t T s).2).2)).1] [] [],(mE T (z0q T sEq (z0k T 1 (z0t T s).2).2)).2)
def z9q(T:List Tk)(s:Ps):St×Ps :=
 if pIs T yp8 s then(.mk 6 0 s_ [] [] [],s.next)
 else if pIs T zn7 s then(.mk 7 0 s_ [] [] [],s.next)
 else if pIs T y6j s then(.mk 8 0 s_ [(mE T s.next).1] [] [],(mE T s.next).2)
 else if pIs T yq0 s then(.mk 9 0 s_ [(z1r T s.next).1] [] [],(z1r T s.next).2)
 else z4s T s
def z3b(depth:Int)(s:Ps):Ps:=if depth > 100 then s.setDeep else s
mutual
def z5q(T:List Tk):Nat->Int->Ps->St×Ps
 |0,_,s=>(.mk 0 0 s_ [] [] [],s.setBad)
 |N+1,depth,s0 =>
  if pIs T sInt (z3b depth s0)||pIs T j3l (z3b depth s0)then((mLet T (z3b depth s0)).1,z0q T z5b (mLet T (z3b depth s0)).2)
  else if pIs T sIf (z3b depth s0)then
   if pIs T sElse (z1v T N (depth+1) (z1r T (z3b depth s0).next).2).2 then
    (.mk 4 0 s_ [(z1r T (z3b depth s0).next).1] (z1v T N (depth+1) (z1r T (z3b depth s0).next).2).1 (z1v T N (depth+1) (z1v T N (depth+1) (z1r T (z3b depth s0).next).2).2.next).1,(z1v T N (depth+1) (z1v T N (depth+1) (z1r T (z3b depth s0).next).2).2.next).2)
   else(.mk 4 0 s_ [(z1r T (z3b depth s0).next).1] (z1v T N (depth+1) (z1r T (z3b depth s0).next).2).1 [],(z1v T N (depth+1) (z1r T (z3b depth s0).next).2).2)
  else if pIs T yq1 (z3b depth s0)then
   (.mk 5 0 s_ [(z1r T (z3b depth s0).next).1] (z1v T N (depth+1) (z1r T (z3b depth s0).next).2).1 [],(z1v T N (depth+1) (z1r T (z3b depth s0).next).2).2)
  else((z9q T (z3b depth s0)).1,z0q T z5b (z9q T (z3b depth s0)).2)
def z1v(T:List Tk):Nat->Int->Ps->List St×Ps
 |0,_,s=>([],s)
 |N+1,depth,s=>z75 T N depth [] (z0q T sBo s)
def z75(T:List Tk):Nat->Int->List St->Ps->List St×Ps
 |0,_,out,s=>(out,s)
 |N+1,depth,out,s=>if s.over then(out,s)else if pIs T sBc s then(out,s.next)else z75 T N depth (out++[(z5q T N depth s).1]) (z5q T N depth s).2
end
def zb4(T:List Tk):Nat->Bool->List Pm->Ps->List Pm×Ps
 |0,_,out,s=>(out,s)
 |N+1,first,out,s=>if (first||pIs T zn6 s)=true/\(aGo T first s).over=false then
  zb4 T N false (out++[⟨(z0k T 1 (z0t T (aGo T first s)).2).1,(z0t T (aGo T first s)).1⟩]) (z0k T 1 (z0t T (aGo T first s)).2).2
  else(out,aGo T first s)
def z7r(T:List Tk)(s:Ps):List Pm×Ps:=if pIs T sRc s then([],s.next)else((zb4 T (big T) true [] s).1,z0q T sRc (zb4 T (big T) true [] s).2)
def z7b(T:List Tk)(t:Int)(name:ByteArray)(s:Ps):Fu×Ps :=
 (⟨name,t,(z7r T (z0q T sRo s)).1,(z1v T (big T) 1 (z7r T (z0q T sRo s)).2).1⟩,(z1v T (big T) 1 (z7r T (z0q T sRo s)).2).2)
def qArr(T:List Tk)(fs:List Fu)(t:Int)(s:Ps):Bool:=t==1&&fs.length==0&&pIs T sSo s
def z2v(T:List Tk):Nat->Pg->Ps->Pg×Ps
 |0,p,s=>(p,s)
 |N+1,p,s=>if s.over||(tkAt T s).kind==3 then(p,s)
  else if qArr T p.funcs (z0t T s).1 (z0k T 1 (z0t T s).2).2 then
   z2v T N ⟨p.arrays++[⟨(z0k T 1 (z0t T s).2).1,z8h (z0k T 0 (z0k T 1 (z0t T s).2).2.next).1⟩],p.funcs⟩ (z0q T z5b (z0q T sSc (z0k T 0 (z0k T 1 (z0t T s).2).2.next).2))
  else z2v T N ⟨p.arrays,p.funcs++[(z7b T (z0t T s).1 (z0k T 1 (z0t T s).2).1 (z0k T 1 (z0t T s).2).2).1]⟩ (z7b T (z0t T s).1 (z0k T 1 (z0t T s).2).1 (z0k T 1 (z0t T s).2).2).2
def z90(T:List Tk):Pg×Ps:=z2v T (big T) ⟨[],[]⟩ ⟨0,false,false⟩
section
structure Fw(T:List Tk)(s s':Ps):Prop where
 at_:s.at_<=s'.at_
 ov:s.over=true->s'.over=true
 lt:s.at_<T.length->s'.at_<T.length
variable {T:List Tk}
theorem Fw.rfl{s:Ps}:Fw T s s:=⟨Ag _,id,id⟩
theorem Fw.trans{a b c:Ps}(h:Fw T a b)(k:Fw T b c):Fw T a c:=⟨Bm h.at_ k.at_,λe=>k.ov (h.ov e),λe=>k.lt (h.lt e)⟩
theorem j29(hT:TkOk T){s:Ps}(h:s.at_<T.length)(hk:(tkAt T s).kind≠3):s.at_+1<T.length:=by
 obtain⟨init,e,rfl,he,_⟩:=hT;rw[B8]at h⊢;rcases Dy (s.at_+1) (init.length+[e].length)with h'|h'
 ·exact h'
 ·refine A9 ?_ hk;have hi:s.at_=init.length:=by simp at h h';omega
  unfold tkAt;rw[hi];simpa using he
theorem z3y{w:ByteArray}{s:Ps}(h:pIs T w s=true):s.over=false/\(tkAt T s).kind=2:=by
 simp only[pIs,A0,Bi,At]at h;exact⟨h.1,h.2.1⟩
theorem j1c(hT:TkOk T){s:Ps}(h:s.over=false)(hk:(tkAt T s).kind≠3):Fw T s s.next :=
 ⟨Fg _,λe=>(Bool.noConfusion (h.symm.trans e)),λe=>j29 hT e hk⟩
theorem z11(hT:TkOk T){w:ByteArray}{s:Ps}(h:pIs T w s=true):Fw T s s.next:=by
 have:=z3y h;exact j1c hT this.1 (by rw[this.2];decide)
theorem y0p{s:Ps}:Fw T s s.setBad:=⟨Ag _,λ_=>by simp[Ps.over,Ps.setBad],id⟩
theorem y3h{s:Ps}:Fw T s s.setDeep:=⟨Ag _,λ_=>by simp[Ps.over,Ps.setDeep],id⟩
theorem z0b(hT:TkOk T){w:ByteArray}{s:Ps}:Fw T s (z0q T w s):=by
 unfold z0q;split
 ·rename_i h;exact z11 hT h
 ·split
  ·exact .rfl
  ·exact y0p
theorem z1x(hT:TkOk T){k:Int}(hk:k≠3){s:Ps}:Fw T s (z0k T k s).2:=by
 unfold z0k;split
 ·exact .rfl
 ·split
  ·rename_i h1 h2;exact j1c hT (by simpa using h1) (by rw[h2];exact hk)
  ·exact y0p
theorem z5l(hT:TkOk T){s:Ps}:Fw T s (z0t T s).2:=by
 unfold z0t;split
 ·rename_i h;exact z11 hT h
 ·exact z0b hT
theorem zl4{d:Int}{s:Ps}:Fw T s (z43 d s):=by
 unfold z43;split
 ·exact y3h
 ·exact .rfl
theorem y7w{d:Int}{s:Ps}:Fw T s (z3b d s):=by
 unfold z3b;split
 ·exact y3h
 ·exact .rfl
theorem y3g(hT:TkOk T){b:Bool}{s:Ps}:Fw T s (aGo T b s):=by
 unfold aGo z8q;split
 ·exact .rfl
 ·split
  ·rename_i h;exact z11 hT h
  ·exact .rfl
theorem pUn_is{s:Ps}{o:Int}(h:pUn T s=some o):pIs T (zp8 o) s=true:=by
 unfold pUn at h;have:=List.find?_some h;exact this
theorem pOp_is{l:Int}{s:Ps}(h:pOp T l s≠0):pIs T (zp8 (pOp T l s)) s=true:=by
 unfold pOp at h⊢
 cases hq:List.find? (λo=>decide (z4g o=l)&&pIs T (zp8 o) s) [1,2,3,4,5,6,7,8,9,10,11,12,13,14,15,16,17,18,19]with
 |none=>rw[hq]at h;exact A9 _root_.rfl h
 |some o=>have:=List.find?_some hq;simp only[A0]at this;exact this.2
theorem z52(hT:TkOk T):∀N,(∀l d s,Fw T s (z30 T N l d s).2)/\(∀l d r,Fw T r.2 (z8w T N l d r).2)/\(∀d s,Fw T s (z6q T N d s).2)/\(∀d s,Fw T s (zx7 T N d s).2)/\(∀d s,Fw T s (z6w T N d s).2)/\(∀d b out s,Fw T s (z89 T N d b out s).2)
 |0=>⟨λ_ _ _=>.rfl,λ_ _ _=>.rfl,λ_ _=>.rfl,λ_ _=>.rfl,λ_ _=>.rfl,λ_ _ _ _=>.rfl⟩
 |N+1=>by
  obtain⟨iE,iL,iU,iP,iA,iG⟩:=z52 hT N;refine⟨λl d s=>?_,λl d r=>?_,λd s=>?_,λd s=>?_,λd s=>?_,λd b out s=>?_⟩
  ·unfold z30;split
   ·exact iU _ _
   ·exact(iE _ _ _).trans (iL _ _ _)
  ·unfold z8w;split
   ·exact .rfl
   ·rename_i h;exact(z11 hT (pOp_is h)).trans ((iE (l+1) d r.2.next).trans (iL l d (.mk 5 (pOp T l r.2) 0 s_ [r.1,(z30 T N (l+1) d r.2.next).1],(z30 T N (l+1) d r.2.next).2)))
  ·unfold z6q
   cases h:pUn T (z43 d s)with
   |none=>exact zl4.trans (iP _ _)
   |some o =>
    have h1:=(zl4 (T:=T) (d:=d) (s:=s)).trans (z11 hT (pUn_is h));dsimp only;split
    ·exact h1.trans ((z0b hT).trans ((iE _ _ _).trans (z0b hT)))
    ·exact h1.trans (iU _ _)
  ·unfold zx7;split
   ·exact .rfl
   rename_i ho;split
   ·rename_i h;exact(z11 hT h).trans ((iE _ _ _).trans (z0b hT))
   split
   ·rename_i h;exact z11 hT h
   split
   ·rename_i h;exact z11 hT h
   split
   ·rename_i h;exact(z11 hT h).trans ((z0b hT).trans (z0b hT))
   split
   ·rename_i h;exact j1c hT (by simpa using ho) (by rw[h];decide)
   split
   ·rename_i h;exact(z1x hT dC0).trans ((z11 hT h).trans (iA _ _))
   split
   ·rename_i h;exact(z1x hT dC0).trans ((z11 hT h).trans ((iE _ _ _).trans (z0b hT)))
   ·exact z1x hT dC0
  ·unfold z6w;split
   ·rename_i h;exact z11 hT h
   ·exact(iG _ _ _ _).trans (z0b hT)
  ·unfold z89;split
   ·exact(y3g hT).trans ((iE _ _ _).trans (iG _ _ _ _))
   ·exact y3g hT
theorem z58(hT:TkOk T){s:Ps}:Fw T s (mE T s).2:=by
 unfold mE;exact(z52 hT (big T)).1 1 1 s
attribute [local irreducible] mE z6w
theorem z2t(hT:TkOk T){s:Ps}:Fw T s (z1r T s).2:=by
 unfold z1r;exact(z0b hT).trans ((z58 hT).trans (z0b hT))
theorem yl2(hT:TkOk T){s:Ps}:Fw T s (z4s T s).2:=by
 unfold z4s;split
 ·rename_i h;exact(z1x hT dC0).trans ((z11 hT h).trans ((z52 hT (big T)).2.2.2.2.1 _ _))
 split
 ·rename_i h;exact(z1x hT dC0).trans ((z11 hT h).trans ((z58 hT).trans ((z0b hT (w:=sSc)).trans ((z0b hT (w:=sEq)).trans (z58 hT)))))
 ·exact(z1x hT dC0).trans ((z0b hT).trans (z58 hT))
theorem fw_let(hT:TkOk T){s:Ps}:Fw T s (mLet T s).2:=by
 unfold mLet;exact(z5l hT).trans ((z1x hT dC0).trans ((z0b hT).trans (z58 hT)))
theorem fw_flat(hT:TkOk T){s:Ps}:Fw T s (z9q T s).2:=by
 unfold z9q;split
 ·rename_i h;exact z11 hT h
 split
 ·rename_i h;exact z11 hT h
 split
 ·rename_i h;exact(z11 hT h).trans (z58 hT)
 split
 ·rename_i h;exact(z11 hT h).trans (z2t hT)
 ·exact yl2 hT
theorem z5k(hT:TkOk T):∀N,(∀d s,Fw T s (z5q T N d s).2)/\(∀d s,Fw T s (z1v T N d s).2)/\(∀d out s,Fw T s (z75 T N d out s).2)
 |0=>⟨λ_ _=>y0p,λ_ _=>.rfl,λ_ _ _=>.rfl⟩
 |N+1=>by
  obtain⟨iS,iB,iL⟩:=z5k hT N;refine⟨λd s=>?_,λd s=>?_,λd out s=>?_⟩
  ·unfold z5q;refine(y7w (d:=d)).trans ?_;split
   ·exact(fw_let hT).trans (z0b hT (w:=z5b))
   split
   ·rename_i h;split
    ·rename_i h2;exact(z11 hT h).trans ((z2t hT).trans ((iB _ _).trans ((z11 hT h2).trans (iB _ _))))
    ·exact(z11 hT h).trans ((z2t hT).trans (iB _ _))
   split
   ·rename_i h;exact(z11 hT h).trans ((z2t hT).trans (iB _ _))
   ·exact(fw_flat hT).trans (z0b hT (w:=z5b))
  ·unfold z1v;exact(z0b hT).trans (iL _ _ _)
  ·unfold z75;split
   ·exact .rfl
   split
   ·rename_i h;exact z11 hT h
   ·exact(iS _ _).trans (iL _ _ _)
theorem yl3(hT:TkOk T):∀N b out s,Fw T s (zb4 T N b out s).2
 |0,_,_,_=>.rfl
 |N+1,b,out,s=>by
  unfold zb4;split
  ·exact(y3g hT).trans ((z5l hT).trans ((z1x hT dC0).trans (yl3 hT N _ _ _)))
  ·exact y3g hT
theorem zl3(hT:TkOk T){s:Ps}:Fw T s (z7r T s).2:=by
 unfold z7r;split
 ·rename_i h;exact z11 hT h
 ·exact(yl3 hT _ _ _ _).trans (z0b hT)
theorem y5g(hT:TkOk T){t:Int}{n:ByteArray}{s:Ps}:Fw T s (z7b T t n s).2:=by
 unfold z7b;exact(z0b hT).trans ((zl3 hT).trans ((z5k hT (big T)).2.1 _ _))
def Go1(s s':Ps):Prop:=s'.over=true∨s.at_<s'.at_
theorem Go1.then{a b c:Ps}(h:Go1 a b)(k:Fw T b c):Go1 a c:=h.elim (λe=>.inl (k.ov e)) λe=>.inr (Bg e k.at_)
theorem Go1.after{a b c:Ps}(k:Fw T a b)(h:Go1 b c):Go1 a c:=h.elim .inl λe=>.inr (Nat.lt_of_le_of_lt k.at_ e)
theorem z8n{s:Ps}:Go1 s s.next:=.inr (Ac _)
theorem zi1{w:ByteArray}{s:Ps}:Go1 s (z0q T w s):=by
 unfold z0q;split
 ·exact z8n
 ·split
  ·rename_i h;exact .inl (by simp[Ps.over,h])
  ·exact .inl (by simp[Ps.over,Ps.setBad])
theorem z6u{k:Int}{s:Ps}:Go1 s (z0k T k s).2:=by
 unfold z0k;split
 ·rename_i h;exact .inl h
 ·split
  ·exact z8n
  ·exact .inl (by simp[Ps.over,Ps.setBad])
theorem zl6{s:Ps}:Go1 s (z0t T s).2:=by
 unfold z0t;split
 ·exact z8n
 ·exact zi1
theorem go_named(hT:TkOk T){s:Ps}:Go1 s (z4s T s).2:=by
 unfold z4s;split
 ·rename_i h;exact z6u.then ((z11 hT h).trans ((z52 hT (big T)).2.2.2.2.1 _ _))
 split
 ·rename_i h;exact z6u.then ((z11 hT h).trans ((z58 hT).trans ((z0b hT (w:=sSc)).trans ((z0b hT (w:=sEq)).trans (z58 hT)))))
 ·exact z6u.then ((z0b hT).trans (z58 hT))
theorem go_flat(hT:TkOk T){s:Ps}:Go1 s (z9q T s).2:=by
 unfold z9q;split
 ·exact z8n
 split
 ·exact z8n
 split
 ·exact z8n.then (z58 hT)
 split
 ·exact z8n.then (z2t hT)
 ·exact go_named hT
theorem go_stmt(hT:TkOk T)(N:Nat){d:Int}{s:Ps}:Go1 s (z5q T N d s).2:=by
 cases N with
 |zero=>exact .inl (by simp[z5q,Ps.over,Ps.setBad])
 |succ N =>
 obtain⟨iS,iB,iL⟩:=z5k hT N;unfold z5q;refine Go1.after (y7w (d:=d) (T:=T)) ?_;split
 ·exact zl6.then ((z1x hT (k:=1) dC0).trans ((z0b hT (w:=sEq)).trans ((z58 hT).trans (z0b hT (w:=z5b)))))
 split
 ·rename_i h;split
  ·rename_i h2;exact z8n.then ((z2t hT).trans ((iB _ _).trans ((z11 hT h2).trans (iB _ _))))
  ·exact z8n.then ((z2t hT).trans (iB _ _))
 split
 ·exact z8n.then ((z2t hT).trans (iB _ _))
 ·exact(go_flat hT).then (z0b hT (w:=z5b))
end
def psO(T:List Tk)(s:Ps):List (Nat×HO):=[(1,.box [.pv (tks T),iInt (s.at_:Nat),iBool s.bad,iBool s.deep])]
theorem yi5{T:List Tk}{s:Ps}(h:s.at_<T.length):(T.map Tk.enc)[s.at_]?=some (tkAt T s).enc:=by
 unfold tkAt;rw[Bc,Ax,Ad h];rfl
theorem z7e(T:List Tk)(s:Ps):SC Tryz.prog 79 [.ptr 1 0] (psO T s) (λk=>k∈[1]) (iBool s.over) (psO T s):=by
 refine K0 tb {} [1] Tryz.func79 rfl rfl ?_;unfold Ps.over;exact z00 (λh=>⟨sE (by rw[h];rfl),rfl,Gf⟩) λh=>⟨sE (by rw[h];rfl),rfl,Gf⟩
theorem yq5(T:List Tk)(s:Ps)(h:s.at_<T.length)(w:ByteArray):SC Tryz.prog 130 [.ptr 1 0,.pv (.val (.string w))] (psO T s) (λk=>k∈[1]) (iBool (pIs T w s)) (psO T s):=by
 refine K0 tb {} [1] Tryz.func130 rfl rfl ?_;refine⟨[1],z7e T s,sR,⟨rfl,rfl,.head _,Gf⟩,rfl,z00 (λh1=>⟨yi5 h,rfl,z00 (λh2=>⟨yi5 h,rfl,sE ?_,rfl,Gf⟩) λh2=>⟨sE ?_,rfl,Gf⟩⟩) λh1=>⟨sE ?_,rfl,Gf⟩⟩
 ·unfold pIs eqS;rw[h1,show((tkAt T s).kind==2)=true from h2];rfl
 ·unfold pIs;rw[h1,show((tkAt T s).kind==2)=false from h2];rfl
 ·unfold pIs;rw[h1];rfl
theorem z40(T:List Tk)(s:Ps)(h:s.at_<T.length)(hb:T.length<=1073741824)(w:ByteArray):SC Tryz.prog 82 [.ptr 1 0,.pv (.val (.string w))] (psO T s) (λk=>k∈[]) (iBool (z8q T w s).1) (psO T (z8q T w s).2):=by
 refine K0 tb {} [] Tryz.func82 rfl rfl ?_;unfold z8q;refine⟨[1],yq5 T s h w,sR,Gi,rfl,z00 (λh1=>?_) λh1=>?_⟩
 ·rw[A5 h1];exact⟨z01 rfl oM0,sE (by rw[h1]),rfl,Gf⟩
 ·rw[A1 (by rw[h1];decide)];exact⟨sE (by rw[h1]),rfl,Gf⟩
theorem z1b(T:List Tk)(s:Ps)(h:s.at_<T.length)(hb:T.length<=1073741824)(w:ByteArray):SC Tryz.prog 84 [.ptr 1 0,.pv (.val (.string w))] (psO T s) (λk=>k∈[]) (.tup []) (psO T (z0q T w s)):=by
 have ht:=z40 T s h hb w;unfold z8q at ht;refine K0 tb {} [] Tryz.func84 rfl rfl ?_;unfold z0q
 cases h1:pIs T w s with
 |true =>
  rw[h1]at ht
  exact⟨[],ht,sR,Gg,rfl,sI,rfl,Gf⟩
 |false =>
  rw[h1]at ht;refine⟨[],ht,sR,Gg,rfl,?_⟩;obtain⟨at_,bad,deep⟩:=s
  cases deep with
  |true=>exact⟨sI,rfl,Gf⟩
  |false=>exact⟨sI,rfl,Gf⟩
theorem z8e(T:List Tk)(s:Ps)(h:s.at_<T.length)(hb:T.length<=1073741824)(k:Int):SC Tryz.prog 81 [.ptr 1 0,.pv (.val (.int .i64 k))] (psO T s) (λk=>k∈[]) (.pv (.val (.string (z0k T k s).1))) (psO T (z0k T k s).2):=by
 refine K0 tb {} [] Tryz.func81 rfl rfl ?_;unfold z0k;refine⟨[1],z7e T s,sR,Gi,rfl,z00 (λh1=>?_) λh1=>?_⟩
 ·rw[A5 h1];exact⟨sI,rfl,Gf⟩
 ·rw[A1 (by rw[h1];decide)];refine⟨yi5 h,rfl,z00 (λh2=>?_) λh2=>?_⟩
  ·have h2:¬(tkAt T s).kind=k:=by simpa using h2
   rw[A1 h2];exact⟨sI,rfl,Gf⟩
  ·have h2:(tkAt T s).kind=k:=by simpa using h2
   rw[A5 h2];exact⟨z01 rfl oM0,sI,rfl,Gf⟩
theorem zn9(T:List Tk)(hT:TkOk T)(s:Ps)(h:s.at_<T.length)(hb:T.length<=1073741824):SC Tryz.prog 80 [.ptr 1 0] (psO T s) (λk=>k∈[]) (iInt (z0t T s).1) (psO T (z0t T s).2):=by
 have ht:=z40 T s h hb sInt;unfold z8q at ht;refine K0 tb {} [] Tryz.func80 rfl rfl ?_;unfold z0t
 cases h1:pIs T sInt s with
 |true =>
  rw[h1]at ht
  exact⟨[],ht,sR,Gg,rfl,sI,rfl,Gf⟩
 |false =>
  rw[h1]at ht;exact⟨[],ht,sR,Gg,rfl,[],z1b T s h hb j3l,sR,Gg,rfl,sI,rfl,Gf⟩
def j4y:List (List PV):=wSigns.tail.map λs=>[.val (.string s)]
theorem sc_signs:SC Tryz.prog 266 [] [] (λk=>k∈[]) (.pv (.seq j4y)) []:=by
 refine K0 tb {} [] Tryz.func266 rfl rfl ?_;exact⟨sI,Gf⟩
theorem ops28{op:Int}(h0:1<=op)(h1:op<=28):op=1∨op=2∨op=3∨op=4∨op=5∨op=6∨op=7∨op=8∨op=9∨op=10∨op=11∨op=12∨op=13∨op=14∨op=15∨op=16∨op=17∨op=18∨op=19∨op=20∨op=21∨op=22∨op=23∨op=24∨op=25∨op=26∨op=27∨op=28:=by omega
theorem sign_get{op:Int}(h0:1<=op)(h1:op<=28):j4y[(op-1).toNat]?=some [.val (.string (zp8 op))]:=by
 rcases ops28 h0 h1 with rfl|rfl|rfl|rfl|rfl|rfl|rfl|rfl|rfl|rfl|rfl|rfl|rfl|rfl|rfl|rfl|rfl|rfl|rfl|rfl|rfl|rfl|rfl|rfl|rfl|rfl|rfl|rfl<;>rfl
theorem y4i(op:Int)(h0:1<=op)(h1:op<=28):SC Tryz.prog 251 [.pv (.val (.int .i64 op))] [] (λk=>k∈[]) (.pv (.val (.string (zp8 op)))) []:=by
 refine K0 tb {} [] Tryz.func251 rfl rfl ?_;refine z00 (λh=>?_) λh=>?_
 ·have:=Ap h;omega
 ·refine z00 (λh2=>?_) λh2=>?_
  ·have:=Ap h2;omega
  ·exact⟨[],sc_signs,sR,Gf,rfl,z3e rfl oM0,sign_get h0 h1,by omega,sI,Gf⟩
theorem y4h(op:Int)(h0:1<=op)(h1:op<=19):SC Tryz.prog 182 [.pv (.val (.int .i64 op))] [] (λk=>k∈[]) (iInt (z4g op)) []:=by
 refine K0 tb {} [] Tryz.func182 rfl rfl ?_;rcases(show op=1∨op=2∨op=3∨op=4∨op=5∨op=6∨op=7∨op=8∨op=9∨op=10∨op=11∨op=12∨op=13∨op=14∨op=15∨op=16∨op=17∨op=18∨op=19 by omega)with rfl|rfl|rfl|rfl|rfl|rfl|rfl|rfl|rfl|rfl|rfl|rfl|rfl|rfl|rfl|rfl|rfl|rfl|rfl<;>exact⟨sI,Gf⟩
def y1a(k n:Nat):List Int:=(List.range n).map λi=>((k+i:Nat):Int)
theorem zw1(k n:Nat):y1a k (n+1)=(k:Int)::y1a (k+1) n:=by
 unfold y1a;rw[List.range_succ_eq_map];simp only[B7,Eg]
 congr 1
 refine List.map_congr_left λi _=>?_;show((k+(i+1):Nat):Int)=((k+1+i:Nat):Int)
 congr 1
 omega
theorem sc_pop(T:List Tk)(s:Ps)(h:s.at_<T.length)(level:Int):SC Tryz.prog 237 [.ptr 1 0,.pv (.val (.int .i64 level))] (psO T s) (λk=>k∈[1]) (iInt (pOp T level s)) (psO T s):=by
 refine K0 tb {} [1] Tryz.func237 rfl rfl ?_;refine⟨Nat,λk=>[(5,iInt ((k:Nat):Int))],λ_=>[],λk=>20-k,λk=>1<=k/\k<=20/\pOp T level s=((y1a k (20-k)).find? λo=>decide (z4g o=level)&&pIs T (zp8 o) s).getD 0,[],1,⟨Ag _,by decide,rfl⟩,Gg,Gf,?_⟩;rintro k ⟨h1,h2,h3⟩;refine z00 (λhc=>?_) λhc=>?_
 ·have hk:k<=19:=by have:=Ap hc;omega
  rw[show 20-k=(19-k)+1 by omega,zw1,List.find?_cons]at h3;refine⟨[],y4h k oM0 oM0,sR,Gf,rfl,z00 (λe1=>?_) λe1=>?_⟩
  ·refine⟨[],y4i k oM0 oM0,sR,Gf,rfl,[1],yq5 T s h _,sR,⟨rfl,rfl,.head _,Gf⟩,rfl,z00 (λe2=>?_) λe2=>?_⟩
   ·rw[Cb (Av e1),e2]at h3;exact⟨sE (by rw[h3];rfl),rfl,Gf⟩
   ·rw[e2,D1]at h3;exact⟨z01 rfl oM0,k+1,by omega,⟨by omega,by omega,by rw[h3,show 20-(k+1)=19-k by omega]⟩,Gg,Gf,rfl,rfl,rfl,rfl⟩
  ·rw[Dk (λe=>by rw[e]at e1;simp at e1),D2]at h3;exact⟨z01 rfl oM0,k+1,by omega,⟨by omega,by omega,by rw[h3,show 20-(k+1)=19-k by omega]⟩,Gg,Gf,rfl,rfl,rfl,rfl⟩
 ·have hk:k=20:=by have:=Am hc;omega
  subst hk;exact⟨sE (by rw[h3];rfl),rfl,Gf⟩
section
variable {T:List Tk}
theorem y2r(k o n:Int)(s:ByteArray)(a:List Ex):xz (.mk k o n s a)=1+xzL a:=by simp only[xz]
theorem xz_x0:xz x0=1:=rfl
theorem z72(a:Ex):xzL [a]=xz a:=by simp[xzL]
theorem j6b(a b:Ex):xzL [a,b]=xz a+xz b:=by simp[xzL]
theorem z0p(s:Ps):s.next.at_=s.at_+1:=rfl
theorem y5c(hT:TkOk T):∀N,(∀l d s,xz (z30 T N l d s).1+2*s.at_<=1+2*(z30 T N l d s).2.at_)/\(∀l d r,xz (z8w T N l d r).1+2*r.2.at_<=xz r.1+2*(z8w T N l d r).2.at_)/\(∀d s,xz (z6q T N d s).1+2*s.at_<=1+2*(z6q T N d s).2.at_) /\
 (∀d s,xz (zx7 T N d s).1+2*s.at_<=1+2*(zx7 T N d s).2.at_)/\(∀d s,xzL (z6w T N d s).1+2*s.at_<=1+2*(z6w T N d s).2.at_)/\(∀d b out s,xzL (z89 T N d b out s).1+2*s.at_<=xzL out+(bif b then 1 else 0)+2*(z89 T N d b out s).2.at_)
 |0=>⟨λ_ _ _=>Ag _,λ_ _ _=>Ag _,λ_ _=>Ag _,λ_ _=>Ag _,λ_ s=>by show 0+2*s.at_<=1+2*s.at_;omega,λ_ b out s=>by show xzL out+2*s.at_<=_+2*s.at_;omega⟩
 |N+1=>by
  obtain⟨iE,iL,iU,iP,iA,iG⟩:=y5c hT N;refine⟨λl d s=>?_,λl d r=>?_,λd s=>?_,λd s=>?_,λd s=>?_,λd b out s=>?_⟩
  ·unfold z30;split
   ·exact iU _ _
   ·have h1:=iE (l+1) d s;have h2:=iL l d (z30 T N (l+1) d s);omega
  ·unfold z8w;split
   ·exact Ag _
   ·have h1:=iE (l+1) d r.2.next;have h2:=iL l d (.mk 5 (pOp T l r.2) 0 s_ [r.1,(z30 T N (l+1) d r.2.next).1],(z30 T N (l+1) d r.2.next).2);simp only[y2r,j6b]at h2;rw[z0p]at h1;omega
  ·unfold z6q;have h0:=(zl4 (T:=T) (d:=d) (s:=s)).at_;have h0':(z43 d s).at_=s.at_:=by unfold z43;split<;>rfl
   cases h:pUn T (z43 d s)with
   |none =>
    have:=iP d (z43 d s);dsimp only
    omega
   |some o =>
    dsimp only;split
    ·have h1:=iE 1 (d+1) (z0q T sRo (z43 d s).next);have h2:=(z0b hT (w:=sRo) (s:=(z43 d s).next)).at_;have h3:=(z0b hT (w:=sRc) (s:=(z30 T N 1 (d+1) (z0q T sRo (z43 d s).next)).2)).at_;rw[z0p]at h2;simp only[y2r,z72];omega
    ·have h1:=iU (d+1) (z43 d s).next;rw[z0p]at h1;simp only[y2r,z72];omega
  ·unfold zx7;split
   ·simp[xz_x0]
   split
   ·have h1:=iE 1 (d+1) s.next;have h3:=(z0b hT (w:=sRc) (s:=(z30 T N 1 (d+1) s.next).2)).at_;rw[z0p]at h1;dsimp only;omega
   split
   ·simp only[y2r,xzL,z0p];omega
   split
   ·simp only[y2r,xzL,z0p];omega
   split
   ·have h2:=(z0b hT (w:=sRo) (s:=s.next)).at_;have h3:=(z0b hT (w:=sRc) (s:=z0q T sRo s.next)).at_;rw[z0p]at h2;simp only[y2r,xzL];omega
   split
   ·simp only[y2r,xzL,z0p];omega
   have hx:=(z1x hT (k:=1) dC0 (s:=s)).at_;split
   ·have h1:=iA (d+1) (z0k T 1 s).2.next;rw[z0p]at h1;simp only[y2r];omega
   split
   ·have h1:=iE 1 (d+1) (z0k T 1 s).2.next;have h3:=(z0b hT (w:=sSc) (s:=(z30 T N 1 (d+1) (z0k T 1 s).2.next).2)).at_;rw[z0p]at h1;simp only[y2r,z72];omega
   ·simp only[y2r,xzL];omega
  ·unfold z6w;split
   ·simp only[xzL,z0p];omega
   ·have h1:=iG d true [] s;have h3:=(z0b hT (w:=sRc) (s:=(z89 T N d true [] s).2)).at_;simp only[xzL,E6]at h1;dsimp only;omega
  ·unfold z89;have h0:=(y3g hT (b:=b) (s:=s)).at_;split
   ·rename_i hc;have h1:=iE 1 d (aGo T b s);have h2:=iG d false (out++[(z30 T N 1 d (aGo T b s)).1]) (z30 T N 1 d (aGo T b s)).2;rw[j6a,z72]at h2
    cases b with
    |true =>
     simp only[E6,D7]at h2⊢
     omega
    |false =>
     have hi:pIs T zn6 s=true:=by simpa using hc.1
     have h3:(aGo T false s).at_=s.at_+1:=by simp[aGo,z8q,hi,z0p]
     simp only[D7]at h2⊢;omega
   ·dsimp only;omega
theorem yu5(hT:TkOk T)(s:Ps):xz (mE T s).1+2*s.at_<=1+2*(mE T s).2.at_:=(y5c hT (big T)).1 1 1 s
theorem yn4(hT:TkOk T)(d:Int)(s:Ps):xzL (z6w T (big T) d s).1+2*s.at_<=1+2*(z6w T (big T) d s).2.at_:=(y5c hT (big T)).2.2.2.2.1 d s
theorem y0t(hT:TkOk T)(s:Ps):xz (z1r T s).1+2*s.at_<=1+2*(z1r T s).2.at_:=by
 have h1:=yu5 hT (z0q T sRo s);have h2:=(z0b hT (w:=sRo) (s:=s)).at_;have h3:=(z0b hT (w:=sRc) (s:=(mE T (z0q T sRo s)).2)).at_;unfold z1r;dsimp only;omega
end
def rem(T:List Tk)(s:Ps):Nat:=20*(T.length-s.at_)
def exB(x:Ex):HO:=.box [iInt x.kind,iInt x.op,iInt x.n,.pv (vStr x.name),.pv (exs x.args)]
def psB(T:List Tk)(s:Ps):HO:=.box [.pv (tks T),iInt (s.at_:Nat),iBool s.bad,iBool s.deep]
def dOk(T:List Tk)(d:Int)(s:Ps):Prop:=0<=d/\d+(T.length:Int)<=4294967296+(s.at_:Int)
theorem dOk.fw{T:List Tk}{d:Int}{s s':Ps}(h:dOk T d s)(k:s.at_<=s'.at_):dOk T d s':=⟨h.1,by have:=h.2;omega⟩
theorem dOk.up{T:List Tk}{d:Int}{s s':Ps}(h:dOk T d s)(k:s.at_<s'.at_):dOk T (d+1) s':=⟨by have:=h.1;omega,by have:=h.2;omega⟩
def fE(T:List Tk)(l d:Int)(s:Ps)(r:Ex×Ps):Prop:=SC Tryz.prog 209 [.ptr 1 0,.pv (.val (.int .i64 l)),.pv (.val (.int .i64 d))] (psO T s) (λk=>k∈[]) (.pv (exv r.1)) (psO T r.2)
def fU(T:List Tk)(d:Int)(s:Ps)(r:Ex×Ps):Prop:=SC Tryz.prog 236 [.ptr 1 0,.pv (.val (.int .i64 d))] (psO T s) (λk=>k∈[]) (.pv (exv r.1)) (psO T r.2)
def fP(T:List Tk)(d:Int)(s:Ps)(r:Ex×Ps):Prop:=SC Tryz.prog 252 [.ptr 1 0,.pv (.val (.int .i64 d))] (psO T s) (λk=>k∈[]) (.pv (exv r.1)) (psO T r.2)
def fA(T:List Tk)(d:Int)(s:Ps)(r:List Ex×Ps):Prop:=SC Tryz.prog 238 [.ptr 1 0,.pv (.val (.int .i64 d))] (psO T s) (λk=>k∈[]) (.pv (exs r.1)) (psO T r.2)
def SCE(T:List Tk)(N:Nat):Prop:=∀(l d:Int)(s:Ps),1<=l->l<=11->dOk T d s->s.at_<T.length->rem T s+(14-l).toNat<=N->fE T l d s (z30 T N l d s)
def SCU(T:List Tk)(N:Nat):Prop:=∀(d:Int)(s:Ps),dOk T d s->s.at_<T.length->rem T s+2<=N->fU T d s (z6q T N d s)
def SCP(T:List Tk)(N:Nat):Prop:=∀(d:Int)(s:Ps),dOk T d s->s.at_<T.length->rem T s+1<=N->fP T d s (zx7 T N d s)
def SCA(T:List Tk)(N:Nat):Prop:=∀(d:Int)(s:Ps),dOk T d s->s.at_<T.length->rem T s+17<=N->fA T d s (z6w T N d s)
theorem ex2(a b:Ex):exs [a,b]=.seq [[vInt a.kind,vInt a.op,vInt a.n,vStr a.name,exs a.args],[vInt b.kind,vInt b.op,vInt b.n,vStr b.name,exs b.args]]:=by
 simp only[exs,B7,Cv,Ex.enc_eq]
theorem ex1(a:Ex):exs [a]=.seq [[vInt a.kind,vInt a.op,vInt a.n,vStr a.name,exs a.args]]:=by
 simp only[exs,B7,Cv,Ex.enc_eq]
theorem y94(T:List Tk)(hT:TkOk T)(hb:T.length<=1073741824)(N:Nat)(ihE:∀M,M<=N->SCE T M)(ihU:SCU T N):SCE T (N+1):=by
 intro l d s h1 h2 hd h hm;refine K0 tb {} [] Tryz.func209 rfl rfl ?_;refine z00 (λh3=>?_) λh3=>?_
 ·have h3:=Ap h3;have e:l=11:=by omega
  subst e;have hu:=ihU d s hd h oM0;rw[show z30 T (N+1) 11 d s=z6q T N d s by rw[z30,A5 h3]];exact⟨[],hu,sR,Gg,rfl,sI,rfl,Gf⟩
 ·have h3:=Am h3;have he:=ihE N (Ag _) (l+1) d s oM0 oM0 hd h oM0;have hf:=(z52 hT N).1 (l+1) d s;rw[show z30 T (N+1) l d s=z8w T N l d (z30 T N (l+1) d s) by rw[z30,A1 h3]];have hr:rem T (z30 T N (l+1) d s).2<=rem T s:=by have:=hf.at_;unfold rem;omega
  generalize z30 T N (l+1) d s=r0 at he hf hr;refine⟨z01 rfl oM0,[],he,sR,Gg,rfl,Nat×(Ex×Ps),λ_=>[],λa=>[(107,exB a.2.1),(1,psB T a.2.2)],λa=>a.1,
   λa=>z8w T N l d r0=z8w T a.1 l d a.2/\s.at_<=a.2.2.at_/\a.2.2.at_<T.length/\rem T a.2.2+(13-l).toNat<=a.1/\a.1<=N,[],(N,r0),⟨rfl,hf.at_,hf.lt h,by dsimp only;omega,Ag _⟩,Gf,Gi,?_⟩
  rintro⟨n,r⟩ ⟨i1,i0,i2,i3,i4⟩;dsimp only at i1 i0 i2 i3 i4;obtain⟨m,rfl⟩:∃m,n=m+1:=⟨n-1,by unfold rem at i3;omega⟩;rw[z8w]at i1;refine⟨[],sc_pop T r.2 i2 l,sR,Gg,rfl,z00 (λe1=>?_) λe1=>?_⟩
  ·have e1:pOp T l r.2=0:=Av e1;rw[A5 e1]at i1;rw[i1];exact⟨sI,rfl,Gf⟩
  ·have e1:¬pOp T l r.2=0:=by simpa using e1
   rw[A1 e1]at i1;have hn:=j29 hT i2 (by rw[(z3y (pOp_is e1)).2];decide);have hr2:rem T r.2.next+20<=rem T r.2:=by unfold rem;rw[z0p];omega
   have he2:=ihE m oM0 (l+1) d r.2.next oM0 oM0 (hd.fw (by rw[z0p];omega)) hn oM0;have hf2:=(z52 hT m).1 (l+1) d r.2.next;have hr3:rem T (z30 T m (l+1) d r.2.next).2<=rem T r.2.next:=by have:=hf2.at_;unfold rem;omega
   generalize z30 T m (l+1) d r.2.next=r2 at he2 hf2 hr3 i1;refine⟨z01 rfl oM0,z01 rfl oM0,[],he2,sR,Gg,rfl,(m,(.mk 5 (pOp T l r.2) 0 s_ [r.1,r2.1],r2.2)),Ac _,⟨i1,by have:=hf2.at_;rw[z0p]at this;dsimp only;omega,hf2.lt hn,by dsimp only;omega,by dsimp only;omega⟩,Gf,⟨?_,rfl,Gf⟩,rfl,rfl,rfl,rfl⟩;exact(Ah (λp=>some (HO.box [iInt 5,iInt (pOp T l r.2),iInt 0,.pv (vStr s_),.pv p])) (ex2 r.1 r2.1)).symm
theorem y6w(T:List Tk)(hT:TkOk T)(hb:T.length<=1073741824)(N:Nat)(ihE:SCE T N)(ihU:SCU T N)(ihP:SCP T N):SCU T (N+1):=by
 intro d s hd h hm;refine K0 tb {} [] Tryz.func236 rfl rfl ?_;obtain⟨s1,es⟩:∃x,x=z43 d s:=⟨_,rfl⟩;have hf1:Fw T s s1:=by rw[es];exact zl4
 have ha1:s1.at_=s.at_:=by rw[es];unfold z43;split<;>rfl
 have hM:z6q T (N+1) d s=match pUn T s1 with
  |none=>zx7 T N d s1
  |some op=>if op≥23 then(.mk 4 op 0 s_ [(z30 T N 1 (d+1) (z0q T sRo s1.next)).1],z0q T sRc (z30 T N 1 (d+1) (z0q T sRo s1.next)).2)
   else(.mk 4 op 0 s_ [(z6q T N (d+1) s1.next).1],(z6q T N (d+1) s1.next).2):=by rw[es];rfl
 generalize z6q T (N+1) d s=R at hM;have hd1:dOk T d s1:=hd.fw hf1.at_;have hl1:s1.at_<T.length:=by rw[ha1];exact h
 have hm1:rem T s1+2<=N+1:=by unfold rem at hm⊢;rw[ha1];exact hm
 clear hd hm hf1;obtain⟨at_,bad,deep⟩:=s
 cases bad
 all_goals refine z00 (λc1=>?_) λc1=>?_
 have e:s1=⟨at_,false,true⟩:=by rw[es];unfold z43;rw[A5 ⟨Ap c1,rfl⟩];rfl
 rotate_left
 have e:s1=⟨at_,false,deep⟩:=by rw[es];unfold z43;rw[A1 (λg=>Am c1 g.1)]
 rotate_left
 have e:s1=⟨at_,true,deep⟩:=by rw[es];unfold z43;rw[A1 (λg=>by cases g.2)]
 rotate_left
 have e:s1=⟨at_,true,deep⟩:=by rw[es];unfold z43;rw[A1 (λg=>by cases g.2)]
 rotate_left
 all_goals
  clear es c1;refine⟨Nat,λk=>[(5,iInt ((k:Nat):Int))],λ_=>[(1,psB T s1)],λk=>29-k,λk=>20<=k/\k<=29/\pUn T s1=(y1a k (29-k)).find? λo=>pIs T (zp8 o) s1,[],20,⟨Ag _,by decide,rfl⟩,Gg,⟨by rw[e];rfl,Gf⟩,?_⟩;rintro k ⟨h1,h2,h3⟩;refine z00 (λhc=>?_) λhc=>?_
  ·have hk:k<=28:=by have:=Ap hc;omega
   rw[show 29-k=(28-k)+1 by omega,zw1,List.find?_cons]at h3;have ht:=z40 T s1 hl1 hb (zp8 k);unfold z8q at ht;refine⟨[],y4i k oM0 oM0,sR,Gf,rfl,?_⟩
   cases hp:pIs T (zp8 k) s1 with
   |false =>
    rw[hp]at ht h3
    exact⟨[],ht,sR,Gg,rfl,z01 rfl oM0,k+1,by omega,⟨by omega,by omega,by rw[h3,show 29-(k+1)=28-k by omega]⟩,Gg,Gg,rfl,rfl,rfl,rfl⟩
   |true =>
    rw[hp]at ht h3;dsimp only at h3;rw[h3]at hM;dsimp only at hM;have hn:=(z11 hT hp).lt hl1;have hr:=show rem T s1.next+20<=rem T s1 by unfold rem;rw[z0p]at hn⊢;omega
    have hd2:dOk T (d+1) s1.next:=hd1.up (Ac _);refine⟨[],ht,sR,Gg,rfl,z00 (λg1=>?_) λg1=>?_⟩
    ·have g1:=Ap g1;rw[A5 g1]at hM;have hf2:=z0b hT (w:=sRo) (s:=s1.next);have he:=ihE 1 (d+1) (z0q T sRo s1.next) oM0 oM0 (hd2.fw hf2.at_) (hf2.lt hn) (by have:=hf2.at_;unfold rem at hr hm1⊢;omega);have hf3:=((z52 hT N).1 1 (d+1) (z0q T sRo s1.next)).lt (hf2.lt hn);generalize z30 T N 1 (d+1) (z0q T sRo s1.next)=r at he hM hf3;subst hM;refine⟨[],z1b T s1.next hn hb sRo,sR,Gg,rfl,z00 (λ_=>?_) λg2=>A9 g1 (Am g2)⟩;refine⟨z01 rfl (by have:=hd2.1;have:=hd2.2;omega),[],he,sR,Gg,rfl,[],z1b T r.2 hf3 hb sRc,sR,Gg,rfl,?_⟩;exact⟨sE (Ah (λp=>IV.pv (.agg [vInt 4,vInt (k:Int),vInt 0,vStr s_,p])) (ex1 r.1).symm),rfl,Gf⟩
    ·have g1:=Am g1;rw[A1 g1]at hM;have hu:=ihU (d+1) s1.next hd2 hn oM0;generalize z6q T N (d+1) s1.next=r at hu hM;subst hM;refine z00 (λg2=>A9 (Ap g2) g1) λ_=>?_;refine⟨z01 rfl (by have:=hd2.1;have:=hd2.2;omega),[],hu,sR,Gg,rfl,?_⟩;exact⟨sE (Ah (λp=>IV.pv (.agg [vInt 4,vInt (k:Int),vInt 0,vStr s_,p])) (ex1 r.1).symm),rfl,Gf⟩
  ·have hk:k=29:=by have:=Am hc;omega
   subst hk;rw[show pUn T s1=none from h3]at hM;subst hM;exact⟨[],ihP d s1 hd1 hl1 oM0,sR,Gg,rfl,sI,rfl,Gf⟩
theorem zv6{w:ByteArray}(h:zi4 w=true):w.data.toList.all (λb=>z3v b.toNat)=true:=by
 unfold zi4 at h;simp only[A0]at h;exact h.1
def TkSz(T:List Tk):Prop:=∀t∈T,t.text.size<=1073741824
theorem j5c{T:List Tk}{s:Ps}(h:s.at_<T.length):tkAt T s∈T:=by
 unfold tkAt;rw[Ax,Ad h];exact D4 h
theorem tk_num{T:List Tk}(hT:TkOk T){s:Ps}(h:s.at_<T.length)(hk:(tkAt T s).kind=0):zi4 (tkAt T s).text=true:=by
 have hm:=j5c h;obtain⟨init,e,rfl,he,hi⟩:=hT;rcases B3.1 hm with hm|hm
 ·exact(hi _ hm).2 hk
 ·rw[Al.1 hm,he]at hk;cases hk
theorem y97(T:List Tk)(hT:TkOk T)(hS:TkSz T)(hb:T.length<=1073741824)(N:Nat)(ihE:SCE T N)(ihA:SCA T N):SCP T (N+1):=by
 intro d s hd h hm;refine K0 tb {} [] Tryz.func252 rfl rfl ?_;generalize hM:zx7 T (N+1) d s=R;unfold zx7 at hM;have tk:∀w,SC Tryz.prog 82 [.ptr 1 0,.pv (.val (.string w))] (psO T s) (λk=>k∈[]) (iBool (if pIs T w s then(true,s.next)else(false,s)).1) (psO T (if pIs T w s then(true,s.next)else(false,s)).2):=λw=>z40 T s h hb w;have nx:∀{w},pIs T w s=true->s.next.at_<T.length/\rem T s.next+20<=rem T s/\dOk T (d+1) s.next:=λ{w} hp=>by
  have hn:=(z11 hT hp).lt h;exact⟨hn,by unfold rem;rw[z0p]at hn⊢;omega,hd.up (Ac _)⟩
 refine⟨[],z7e T s,sR,Gg,rfl,z00 (λo1=>?_) λo1=>?_⟩
 ·rw[A5 o1]at hM;subst hM;exact⟨sP (z0g _),rfl,Gf⟩
 rw[A1 (by rw[o1];decide)]at hM
 cases p1:pIs T sRo s with
 |true =>
  have t:=tk sRo;rw[p1]at t hM;obtain⟨n1,n2,n3⟩:=nx p1;have he:=ihE 1 (d+1) s.next oM0 oM0 n3 n1 oM0;have hf3:=((z52 hT N).1 1 (d+1) s.next).lt n1;rw[A5 rfl]at hM;generalize z30 T N 1 (d+1) s.next=r at he hM hf3;subst hM
  exact⟨[],t,sR,Gg,rfl,z01 rfl (by have:=n3.1;have:=n3.2;omega),[],he,sR,Gg,rfl,[],z1b T r.2 hf3 hb sRc,sR,Gg,rfl,sI,rfl,Gf⟩
 |false =>
 have t:=tk sRo;rw[p1]at t hM;rw[A1 dC0]at hM;refine⟨[],t,sR,Gg,rfl,?_⟩
 cases p2:pIs T sTrue s with
 |true =>
  have t:=tk sTrue;rw[p2]at t hM;rw[A5 rfl]at hM;subst hM
  exact⟨[],t,sR,Gg,rfl,sP (z0g _),rfl,Gf⟩
 |false =>
 have t:=tk sTrue;rw[p2]at t hM;rw[A1 dC0]at hM;refine⟨[],t,sR,Gg,rfl,?_⟩
 cases p3:pIs T yp9 s with
 |true =>
  have t:=tk yp9;rw[p3]at t hM;rw[A5 rfl]at hM;subst hM
  exact⟨[],t,sR,Gg,rfl,sP (z0g _),rfl,Gf⟩
 |false =>
 have t:=tk yp9;rw[p3]at t hM;rw[A1 dC0]at hM;refine⟨[],t,sR,Gg,rfl,?_⟩
 cases p4:pIs T sRead s with
 |true =>
  have t:=tk sRead;rw[p4]at t hM;rw[A5 rfl]at hM;subst hM;obtain⟨n1,_,_⟩:=nx p4
  exact⟨[],t,sR,Gg,rfl,[],z1b T s.next n1 hb sRo,sR,Gg,rfl,[],z1b T _ ((z0b hT (w:=sRo)).lt n1) hb sRc,sR,Gg,rfl,sP (z0g _),rfl,Gf⟩
 |false =>
 have t:=tk sRead;rw[p4]at t hM;rw[A1 dC0]at hM;refine⟨[],t,sR,Gg,rfl,yi5 h,rfl,z00 (λk1=>?_) λk1=>?_⟩
 ·have k1:(tkAt T s).kind=0:=Av k1;rw[A5 k1]at hM;subst hM;have hx:=z8e T s h hb 0;have ex:z0k T 0 s=((tkAt T s).text,s.next):=by unfold z0k;rw[A1 (by rw[o1];decide),A5 k1]
  rw[ex]at hx;exact⟨[],hx,sR,Gg,rfl,[],y6k _ (zv6 (tk_num hT h k1)) (hS _ (j5c h)),sR,Gf,rfl,sP (z0g _),rfl,Gf⟩
 have k1:¬(tkAt T s).kind=0:=by simpa using k1
 rw[A1 k1]at hM;have hx:=z8e T s h hb 1;have fx:=z1x hT (k:=1) dC0 (s:=s);generalize z0k T 1 s=x at hx fx hM;have hl:=fx.lt h;have hdx:=hd.fw fx.at_;have hrx:rem T x.2<=rem T s:=by have:=fx.at_;unfold rem;omega
 have tx:∀w,SC Tryz.prog 82 [.ptr 1 0,.pv (.val (.string w))] (psO T x.2) (λk=>k∈[]) (iBool (if pIs T w x.2 then(true,x.2.next)else(false,x.2)).1) (psO T (if pIs T w x.2 then(true,x.2.next)else(false,x.2)).2):=λw=>z40 T x.2 hl hb w;have nx2:∀{w},pIs T w x.2=true->x.2.next.at_<T.length/\rem T x.2.next+20<=rem T x.2/\dOk T (d+1) x.2.next:=λ{w} hp=>by
  have hn:=(z11 hT hp).lt hl;exact⟨hn,by unfold rem;rw[z0p]at hn⊢;omega,hdx.up (Ac _)⟩
 refine⟨[],hx,sR,Gg,rfl,?_⟩
 cases p5:pIs T sRo x.2 with
 |true =>
  have t:=tx sRo;rw[p5]at t hM;obtain⟨n1,n2,n3⟩:=nx2 p5;have ha:=ihA (d+1) x.2.next n3 n1 oM0;rw[A5 rfl]at hM;generalize z6w T N (d+1) x.2.next=r at ha hM;subst hM
  exact⟨[],t,sR,Gg,rfl,z01 rfl (by have:=n3.1;have:=n3.2;omega),[],ha,sR,Gg,rfl,sI,rfl,Gf⟩
 |false =>
 have t:=tx sRo;rw[p5]at t hM;rw[A1 dC0]at hM;refine⟨[],t,sR,Gg,rfl,?_⟩
 cases p6:pIs T sSo x.2 with
 |true =>
  have t:=tx sSo;rw[p6]at t hM;obtain⟨n1,n2,n3⟩:=nx2 p6;have he:=ihE 1 (d+1) x.2.next oM0 oM0 n3 n1 oM0;have hf3:=((z52 hT N).1 1 (d+1) x.2.next).lt n1;rw[A5 rfl]at hM;generalize z30 T N 1 (d+1) x.2.next=r at he hM hf3;subst hM;exact⟨[],t,sR,Gg,rfl,z01 rfl (by have:=n3.1;have:=n3.2;omega),[],he,sR,Gg,rfl,[],z1b T r.2 hf3 hb sSc,sR,Gg,rfl,
   sE (Ah (λp=>IV.pv (.agg [vInt 6,vInt 0,vInt 0,vStr x.1,p])) (ex1 r.1).symm),rfl,Gf⟩
 |false =>
 have t:=tx sSo;rw[p6]at t hM;rw[A1 dC0]at hM;subst hM;exact⟨[],t,sR,Gg,rfl,sP (z0g _),rfl,Gf⟩
def exRt:RT:=⟨187,5⟩
theorem enc5(out:List Ex)(x:Ex):(out++[x]).map Ex.enc=out.map Ex.enc++[[vInt x.kind,vInt x.op,vInt x.n,vStr x.name,exs x.args]]:=by
 rw[Cp,B7,Cv,Ex.enc_eq]
theorem y92(T:List Tk)(hT:TkOk T)(hb:T.length<=1073741824)(N:Nat)(ihE:∀M,M<=N->SCE T M):SCA T (N+1):=by
 intro d s hd h hm;refine K0 tb { gh:=[(4,[.grow 5 1001 187 5]),(9,[.fz 5 1001])] } [] Tryz.func238 rfl rfl ?_;generalize hM:z6w T (N+1) d s=R;unfold z6w at hM;have t:=z40 T s h hb sRc;unfold z8q at t
 cases p1:pIs T sRc s with
 |true =>
  rw[p1]at t hM;rw[A5 rfl]at hM;subst hM
  exact⟨[],t,sR,Gg,rfl,sN,rfl,Gf⟩
 |false =>
 rw[p1]at t hM;rw[A1 dC0]at hM;generalize hL:z89 T N d true [] s=L at hM;refine⟨[],t,sR,Gg,rfl,Nat×Bool×List Ex×Ps,λa=>[(6,iBool a.2.1),(5,.sl 1001 (a.2.2.1.map Ex.enc).length)],λa=>[(1001,.row exRt (a.2.2.1.map Ex.enc)),(1,psB T a.2.2.2)],λa=>a.1,
  λa=>L=z89 T a.1 d a.2.1 a.2.2.1 a.2.2.2/\s.at_<=a.2.2.2.at_/\a.2.2.2.at_<T.length/\rem T a.2.2.2+(bif a.2.1 then 15 else 1)<=a.1/\a.1<=N/\a.2.2.1.length<=a.2.2.2.at_+(bif a.2.1 then 0 else 1),[],(N,true,[],s),
  ⟨hL.symm,Ag _,h,by simp only[E6];omega,Ag _,Aj _⟩,Gi,Gi,?_⟩
 rintro⟨n,first,out,z⟩ ⟨i1,i2,i3,i4,i5,i6⟩;dsimp only at i1 i2 i3 i4 i5 i6;obtain⟨m,rfl⟩:∃m,n=m+1:=⟨n-1,by cases first<;>simp only[E6,D7]at i4<;>omega⟩;rw[z89]at i1
 cases first with
 |true =>
  simp only[E6]at i4 i6;rw[show aGo T true z=z from rfl,Bf]at i1;refine⟨[],z7e T z,sR,Gg,rfl,z00 (λo1=>?_) λo1=>?_⟩
  ·have o1:z.over=false:=by simpa using o1
   rw[A5 ⟨rfl,o1⟩]at i1;have he:=ihE m oM0 1 d z oM0 oM0 (hd.fw i2) i3 oM0;have hf:=(z52 hT m).1 1 d z;generalize z30 T m 1 d z=r at he hf i1;have h5:=hf.at_;exact⟨[],he,sR,Gg,rfl,rfl,z3u rfl,by simp;omega,(m,false,out++[r.1],r.2),Ac _,
    ⟨i1,by dsimp only;omega,hf.lt i3,by simp only[D7];unfold rem at i4⊢;omega,by dsimp only;omega,by simp only[D7,B8,A3,A6];omega⟩,⟨rfl,slq sI0,Gf⟩,⟨rwq (by rw[enc5]),rfl,Gf⟩,rfl,rfl,rfl,rfl⟩
  ·have o1:z.over=true:=by simpa using o1
   rw[A1 (λe=>by rw[o1]at e;cases e.2)]at i1;subst i1;subst hM
   exact⟨[],z1b T z i3 hb sRc,sR,Gg,rfl,rfl,sI,rfl,Gf⟩
 |false =>
  simp only[D7]at i4 i6;rw[Ce]at i1;have t:=z40 T z i3 hb zn6;unfold z8q at t
  cases p2:pIs T zn6 z with
  |false =>
   rw[p2]at t i1;rw[A1 (λe=>by cases e.1),show aGo T false z=z by unfold aGo z8q;rw[p2];rfl]at i1;subst i1;subst hM
   exact⟨[],t,sR,Gg,rfl,[],z1b T z i3 hb sRc,sR,Gg,rfl,rfl,sI,rfl,Gf⟩
  |true =>
   rw[p2]at t i1;have hn:=(z11 hT p2).lt i3;have o1:z.next.over=false:=(z3y p2).1;rw[show aGo T false z=z.next by unfold aGo z8q;rw[p2];rfl,A5 ⟨rfl,o1⟩]at i1;have he:=ihE m oM0 1 d z.next oM0 oM0 (hd.fw (by rw[z0p];omega)) hn (by unfold rem at i4⊢;rw[z0p]at hn⊢;omega);have hf:=(z52 hT m).1 1 d z.next;generalize z30 T m 1 d z.next=r at he hf i1;have h5:=hf.at_;rw[z0p]at h5 hn;have h6:=hf.lt hn;refine⟨[],t,sR,Gg,rfl,[],z7e T z.next,sR,Gg,rfl,z00 (λ_=>?_) λg=>by rw[o1]at g;cases g⟩;exact⟨[],he,sR,Gg,rfl,rfl,z3u rfl,by simp;omega,(m,false,out++[r.1],r.2),Ac _,
    ⟨i1,by dsimp only;omega,h6,by simp only[D7];unfold rem at i4⊢;omega,by dsimp only;omega,by simp only[D7,B8,A3,A6];omega⟩,⟨rfl,slq sI0,Gf⟩,⟨rwq (by rw[enc5]),rfl,Gf⟩,rfl,rfl,rfl,rfl⟩
theorem y6m(T:List Tk)(hT:TkOk T)(hS:TkSz T)(hb:T.length<=1073741824):∀N,(∀M,M<=N->SCE T M)/\(∀M,M<=N->SCU T M)/\(∀M,M<=N->SCP T M)/\(∀M,M<=N->SCA T M)
 |0=>by
  refine⟨λM hM l d s h1 h2 hd h hm=>?_,λM hM d s hd h hm=>?_,λM hM d s hd h hm=>?_,λM hM d s hd h hm=>?_⟩<;>exact A9 hm (by unfold rem;omega)
 |N+1=>by
  obtain⟨iE,iU,iP,iA⟩:=y6m T hT hS hb N;refine⟨λM hM=>?_,λM hM=>?_,λM hM=>?_,λM hM=>?_⟩<;>rcases Dy N M with h|h
  ·rw[show M=N+1 by omega];exact y94 T hT hb N iE (iU N (Ag _))
  ·exact iE M h
  ·rw[show M=N+1 by omega];exact y6w T hT hb N (iE N (Ag _)) (iU N (Ag _)) (iP N (Ag _))
  ·exact iU M h
  ·rw[show M=N+1 by omega];exact y97 T hT hS hb N (iE N (Ag _)) (iA N (Ag _))
  ·exact iP M h
  ·rw[show M=N+1 by omega];exact y92 T hT hb N iE
  ·exact iA M h
theorem yx9(T:List Tk)(hT:TkOk T)(hS:TkSz T)(hb:T.length<=1073741824)(s:Ps)(h:s.at_<T.length):fE T 1 1 s (mE T s) :=
 (y6m T hT hS hb (big T)).1 (big T) (Ag _) 1 1 s dC0 dC0 ⟨by decide,by omega⟩ h (by unfold rem big;omega)
theorem sc_mArgs(T:List Tk)(hT:TkOk T)(hS:TkSz T)(hb:T.length<=1073741824)(s:Ps)(h:s.at_<T.length):fA T 2 s (z6w T (big T) 2 s) :=
 (y6m T hT hS hb (big T)).2.2.2 (big T) (Ag _) 2 s ⟨by decide,by omega⟩ h (by unfold rem big;omega)
section
def nilV:PV:=.val (.slice none 0 0)
theorem zu4{k t:Int}{nm:ByteArray}{p:PV}{a:List Ex}(h:exs a=p):SubI (.pv (.agg [vInt k,vInt t,vStr nm,p,nilV,nilV])) (.pv (stv (.mk k t nm a [] []))):=by subst h;exact sP (z0g _)
theorem yr9{k t:Int}{nm:ByteArray}{p:PV}{a:List Ex}{x:List St}(h:exs a=p):SubI (.pv (.agg [vInt k,vInt t,vStr nm,p,sts x,nilV])) (.pv (stv (.mk k t nm a x []))):=by subst h;exact sP (z0g _)
theorem stv_sub2{k t:Int}{nm:ByteArray}{p:PV}{a:List Ex}{x y:List St}(h:exs a=p):SubI (.pv (.agg [vInt k,vInt t,vStr nm,p,sts x,sts y])) (.pv (stv (.mk k t nm a x y))):=by subst h;exact sI
attribute [local irreducible] mE z6w
variable (T:List Tk) (hT:TkOk T) (hS:TkSz T) (hb:T.length<=1073741824)
include hT hS hb
theorem y1y(s:Ps)(h:s.at_<T.length):SC Tryz.prog 210 [.ptr 1 0] (psO T s) (λk=>k∈[]) (.pv (exs [(z1r T s).1])) (psO T (z1r T s).2):=by
 refine K0 tb {} [] Tryz.func210 rfl rfl ?_;have h1:=(z0b hT (w:=sRo)).lt h;unfold z1r;have he:=yx9 T hT hS hb _ h1;have h2:=(z58 hT (s:=z0q T sRo s)).lt h1;generalize mE T (z0q T sRo s)=r at he h2;exact⟨[],z1b T s h hb sRo,sR,Gg,rfl,[],he,sR,Gg,rfl,[],z1b T r.2 h2 hb sRc,sR,Gg,rfl,sE (Ah IV.pv (ex1 r.1).symm),rfl,Gf⟩
theorem sc_named(s:Ps)(h:s.at_<T.length):SC Tryz.prog 211 [.ptr 1 0] (psO T s) (λk=>k∈[]) (.pv (stv (z4s T s).1)) (psO T (z4s T s).2):=by
 refine K0 tb {} [] Tryz.func211 rfl rfl ?_;generalize hM:z4s T s=R;unfold z4s at hM;have hx:=z8e T s h hb 1;have fx:=z1x hT (k:=1) dC0 (s:=s);generalize z0k T 1 s=x at hx fx hM;have hl:=fx.lt h;have tx:∀w,SC Tryz.prog 82 [.ptr 1 0,.pv (.val (.string w))] (psO T x.2) (λk=>k∈[]) (iBool (if pIs T w x.2 then(true,x.2.next)else(false,x.2)).1) (psO T (if pIs T w x.2 then(true,x.2.next)else(false,x.2)).2):=λw=>z40 T x.2 hl hb w;refine⟨[],hx,sR,Gg,rfl,?_⟩
 cases p5:pIs T sRo x.2 with
 |true =>
  have t:=tx sRo;rw[p5]at t hM;have n1:=(z11 hT p5).lt hl;have ha:=sc_mArgs T hT hS hb x.2.next n1;rw[A5 rfl]at hM;generalize z6w T (big T) 2 x.2.next=r at ha hM;subst hM
  exact⟨[],t,sR,Gg,rfl,[],ha,sR,Gg,rfl,zu4 (ex1 _),rfl,Gf⟩
 |false =>
 have t:=tx sRo;rw[p5]at t hM;rw[A1 dC0]at hM;refine⟨[],t,sR,Gg,rfl,?_⟩
 cases p6:pIs T sSo x.2 with
 |true =>
  have t:=tx sSo;rw[p6]at t hM;have n1:=(z11 hT p6).lt hl;have he:=yx9 T hT hS hb x.2.next n1;have n2:=(z58 hT (s:=x.2.next)).lt n1;rw[A5 rfl]at hM;generalize mE T x.2.next=r at he hM n2;have n3:=(z0b hT (w:=sSc)).lt n2;have n4:=(z0b hT (w:=sEq)).lt n3;have he2:=yx9 T hT hS hb _ n4;generalize mE T (z0q T sEq (z0q T sSc r.2))=r2 at he2 hM;subst hM
  exact⟨[],t,sR,Gg,rfl,[],he,sR,Gg,rfl,[],z1b T r.2 n2 hb sSc,sR,Gg,rfl,[],z1b T _ n3 hb sEq,sR,Gg,rfl,[],he2,sR,Gg,rfl,zu4 (ex2 _ _),rfl,Gf⟩
 |false =>
 have t:=tx sSo;rw[p6]at t hM;rw[A1 dC0]at hM;have n4:=(z0b hT (w:=sEq)).lt hl;have he2:=yx9 T hT hS hb _ n4;generalize mE T (z0q T sEq x.2)=r2 at he2 hM;subst hM;exact⟨[],t,sR,Gg,rfl,[],z1b T _ hl hb sEq,sR,Gg,rfl,[],he2,sR,Gg,rfl,zu4 (ex1 _),rfl,Gf⟩
end
section
variable {T:List Tk}
theorem y2g(k t:Int)(s:ByteArray)(a:List Ex)(x y:List St):sz (.mk k t s a x y)=1+xzL a+szL x+szL y:=by simp only[sz]
theorem szL_one(a:St):szL [a]=sz a:=by simp[szL]
theorem Fw.back{s s':Ps}(h:Fw T s s')(k:s'.over=false):s.over=false:=by
 cases e:s.over with
 |false=>rfl
 |true=>exact A9 (h.ov e) (by rw[k];decide)
theorem Go1.lt{s s':Ps}(h:Go1 s s')(k:s'.over=false):s.at_<s'.at_:=h.elim (λe=>A9 e (by rw[k];decide)) id
attribute [local irreducible] mE z6w
theorem let_sz(hT:TkOk T){s:Ps}(h:(mLet T s).2.over=false):sz (mLet T s).1+3*s.at_<=3*(mLet T s).2.at_:=by
 unfold mLet at h⊢;dsimp only at h⊢;have h1:=yu5 hT (z0q T sEq (z0k T 1 (z0t T s).2).2);have b1:=(z58 hT).back h;have b2:=(z0b hT (w:=sEq)).back b1;have b3:=(z1x hT (k:=1) dC0).back b2;have a1:=(z58 hT (s:=z0q T sEq (z0k T 1 (z0t T s).2).2)).at_;have a2:=zi1.lt b1;have a3:=z6u.lt b2;have a4:=zl6.lt b3;simp only[y2g,z72,szL];omega
theorem named_sz(hT:TkOk T){s:Ps}(h:(z4s T s).2.over=false):sz (z4s T s).1+3*s.at_<=3*(z4s T s).2.at_:=by
 unfold z4s at h⊢;split at h
 ·rename_i h1;rw[A5 h1];dsimp only at h⊢;have h2:=yn4 hT 2 (z0k T 1 s).2.next;have b1:=(z3y h1).1;have a1:=z6u.lt b1;rw[z0p]at h2;simp only[y2g,z72,y2r,szL];omega
 rename_i h1;rw[A1 h1];split at h
 ·rename_i h2;rw[A5 h2];dsimp only at h⊢;have b1:=(z3y h2).1;have a1:=z6u.lt b1;have c1:=yu5 hT (z0k T 1 s).2.next;have d1:=(z58 hT (s:=(z0k T 1 s).2.next)).at_;rw[z0p]at c1 d1;generalize(mE T (z0k T 1 s).2.next)=e at h c1 d1⊢;have d2:=(z0b hT (w:=sSc) (s:=e.2)).at_;have d3:=(z0b hT (w:=sEq) (s:=z0q T sSc e.2)).at_;have c2:=yu5 hT (z0q T sEq (z0q T sSc e.2));have d4:=(z58 hT (s:=z0q T sEq (z0q T sSc e.2))).at_;simp only[y2g,j6b,szL];omega
 ·rename_i h2;rw[A1 h2];dsimp only at h⊢;have b1:=(z58 hT).back h;have b2:=(z0b hT (w:=sEq)).back b1;have a1:=z6u.lt b2;have a2:=zi1.lt b1;have c1:=yu5 hT (z0q T sEq (z0k T 1 s).2);have a3:=(z58 hT (s:=z0q T sEq (z0k T 1 s).2)).at_;simp only[y2g,z72,szL];omega
theorem flat_sz(hT:TkOk T){s:Ps}(h:(z9q T s).2.over=false):sz (z9q T s).1+3*s.at_<=3*(z9q T s).2.at_:=by
 unfold z9q at h⊢;split at h
 ·rename_i h1;rw[A5 h1];simp only[y2g,xzL,szL,z0p];omega
 rename_i h1;rw[A1 h1];split at h
 ·rename_i h1;rw[A5 h1];simp only[y2g,xzL,szL,z0p];omega
 rename_i h1;rw[A1 h1];split at h
 ·rename_i h1;rw[A5 h1];have c1:=yu5 hT s.next;have a1:=(z58 hT (s:=s.next)).at_;rw[z0p]at c1 a1;simp only[y2g,z72,szL];omega
 rename_i h1;rw[A1 h1];split at h
 ·rename_i h1;rw[A5 h1];have c1:=y0t hT s.next;have a1:=(z2t hT (s:=s.next)).at_;rw[z0p]at c1 a1;simp only[y2g,z72,szL];omega
 rename_i h1;rw[A1 h1];exact named_sz hT h
theorem y2f(d:Int)(s:Ps):(z3b d s).at_=s.at_:=by unfold z3b;split<;>rfl
theorem stmt_sz(hT:TkOk T)(N:Nat)(iB:∀d s,(z1v T N d s).2.over=false->szL (z1v T N d s).1+3*s.at_<=3*(z1v T N d s).2.at_)(d:Int)(s:Ps)(h:(z5q T (N+1) d s).2.over=false):sz (z5q T (N+1) d s).1+3*s.at_<=3*(z5q T (N+1) d s).2.at_:=by
 have e:=y2f d s;unfold z5q at h⊢;generalize z3b d s=s at e h⊢;rw[<- e];split at h
 ·rename_i h1;rw[A5 h1];have b1:=(z0b hT (w:=z5b)).back h;have h2:=let_sz hT b1;have h3:=(z0b hT (w:=z5b) (s:=(mLet T s).2)).at_;dsimp only at h3⊢;omega
 rename_i h1;rw[A1 h1];split at h
 ·rename_i h1;rw[A5 h1];have c1:=y0t hT s.next;have a1:=(z2t hT (s:=s.next)).at_;rw[z0p]at c1 a1;split at h
  ·rename_i h2;rw[A5 h2];have b2:=iB _ _ h;have b3:=iB _ _ (z3y h2).1;rw[z0p]at b2;simp only[y2g,z72];omega
  ·rename_i h2;rw[A1 h2];have b3:=iB _ _ h;simp only[y2g,z72,szL];omega
 rename_i h1;rw[A1 h1];split at h
 ·rename_i h1;rw[A5 h1];have c1:=y0t hT s.next;have a1:=(z2t hT (s:=s.next)).at_;rw[z0p]at c1 a1;have b3:=iB _ _ h;simp only[y2g,z72,szL];omega
 rename_i h1;rw[A1 h1];have b1:=(z0b hT (w:=z5b)).back h;have h2:=flat_sz hT b1;have h3:=(z0b hT (w:=z5b) (s:=(z9q T s).2)).at_;dsimp only at h3⊢;omega
theorem yr7(hT:TkOk T):∀N,(∀d s,(z5q T N d s).2.over=false->sz (z5q T N d s).1+3*s.at_<=3*(z5q T N d s).2.at_)/\(∀d s,(z1v T N d s).2.over=false->szL (z1v T N d s).1+3*s.at_<=3*(z1v T N d s).2.at_) /\
 (∀d out s,(z75 T N d out s).2.over=false->szL (z75 T N d out s).1+3*s.at_<=szL out+3*(z75 T N d out s).2.at_)
 |0=>⟨λd s h=>A9 h (by simp[z5q,Ps.over,Ps.setBad]),λd s _=>by show 0+3*s.at_<=3*s.at_;omega,λd out s _=>by show szL out+3*s.at_<=szL out+3*s.at_;omega⟩
 |N+1=>by
  obtain⟨iS,iB,iL⟩:=yr7 hT N;refine⟨λd s h=>stmt_sz hT N iB d s h,λd s h=>?_,λd out s h=>?_⟩
  ·unfold z1v at h⊢;have h1:=iL d [] (z0q T sBo s) h;have h2:=(z0b hT (w:=sBo) (s:=s)).at_;simp only[szL]at h1;omega
  ·unfold z75 at h⊢;split at h
   ·rename_i h1;rw[A5 h1];exact Ag _
   rename_i h1;rw[A1 h1];split at h
   ·rename_i h1;rw[A5 h1];simp only[z0p];omega
   rename_i h1;rw[A1 h1];have b1:=((z5k hT N).2.2 _ _ _).back h;have h2:=iL _ _ _ h;have h3:=iS _ _ b1;rw[j57,szL_one]at h2;omega
end
def fS(T:List Tk)(d:Int)(s:Ps)(r:St×Ps):Prop:=SC Tryz.prog 180 [.ptr 1 0,.pv (.val (.int .i64 d))] (psO T s) (λk=>k∈[]) (.pv (stv r.1)) (psO T r.2)
def fB(T:List Tk)(d:Int)(s:Ps)(r:List St×Ps):Prop:=SC Tryz.prog 131 [.ptr 1 0,.pv (.val (.int .i64 d))] (psO T s) (λk=>k∈[]) (.pv (sts r.1)) (psO T r.2)
def SCS(T:List Tk)(N:Nat):Prop:=∀(d:Int)(s:Ps),dOk T d s->s.at_<T.length->rem T s+5<=N->fS T d s (z5q T N d s)
def SCB(T:List Tk)(N:Nat):Prop:=∀(d:Int)(s:Ps),dOk T d s->s.at_<T.length->rem T s+8<=N->fB T d s (z1v T N d s)
theorem yr8{k t:Int}{nm:ByteArray}:SubI (.pv (.agg [vInt k,vInt t,vStr nm,nilV,nilV,nilV])) (.pv (stv (.mk k t nm [] [] []))):=sP (z0g _)
attribute [local irreducible] mE z6w z1r z4s
theorem y9h(T:List Tk)(hT:TkOk T)(hS:TkSz T)(hb:T.length<=1073741824)(N:Nat)(ihB:SCB T N):SCS T (N+1):=by
 intro d s hd h hm;refine K0 tb {} [] Tryz.func180 rfl rfl ?_;generalize hM:z5q T (N+1) d s=R;unfold z5q at hM;have ha1:=y2f d s;obtain⟨z,ez⟩:∃x,x=z3b d s:=⟨_,rfl⟩;rw[<- ez]at hM ha1;have hd1:dOk T d z:=hd.fw oM0;have hl:z.at_<T.length:=by rw[ha1];exact h
 have hm1:rem T z+5<=N+1:=by unfold rem at hm⊢;rw[ha1];exact hm
 refine z00 (λc1=>?_) λc1=>?_;have e:z=⟨s.at_,s.bad,true⟩:=by rw[ez];unfold z3b;rw[A5 (Ap c1)];rfl
 rotate_left
 have e:z=⟨s.at_,s.bad,s.deep⟩:=by rw[ez];unfold z3b;rw[A1 (Am c1)]
 rotate_left
 all_goals
  have hpre:psO T z=psO T z:=rfl;clear ez c1;have tz:∀w,SC Tryz.prog 82 [.ptr 1 0,.pv (.val (.string w))] (psO T z) (λk=>k∈[]) (iBool (if pIs T w z then(true,z.next)else(false,z)).1) (psO T (if pIs T w z then(true,z.next)else(false,z)).2):=λw=>z40 T z hl hb w;have nx:∀{w},pIs T w z=true->z.next.at_<T.length/\rem T z.next+20<=rem T z/\dOk T (d+1) z.next:=λ{w} hp=>by
   have hn:=(z11 hT hp).lt hl;exact⟨hn,by unfold rem;rw[z0p]at hn⊢;omega,hd1.up (Ac _)⟩
  have letc:(pIs T sInt z||pIs T j3l z)=true->((mLet T z).1,z0q T z5b (mLet T z).2)=R:=λq=>by rw[A5 q]at hM;exact hM
  have lx:=zn9 T hT z hl hb;have lf:=(z5l hT (s:=z)).lt hl;refine⟨[],yq5 T z hl sInt,sR,⟨by rw[e];rfl,Gf⟩,rfl,z00 (λq1=>?_) λq1=>⟨[],yq5 T z hl j3l,sR,Gg,rfl,z00 (λq2=>?_) λq2=>?_⟩⟩;have hM:=letc (by rw[q1];rfl)
  rotate_left
  have hM:=letc (by rw[q2];simp)
  rotate_right
  iterate 2
   unfold mLet at hM;generalize z0t T z=p at lx lf hM;have hx:=z8e T p.2 lf hb 1;have n1:=(z1x hT (k:=1) dC0 (s:=p.2)).lt lf;generalize z0k T 1 p.2=x at hx n1 hM;have n2:=(z0b hT (w:=sEq)).lt n1;have he:=yx9 T hT hS hb _ n2;have n3:=(z58 hT (s:=z0q T sEq x.2)).lt n2;generalize mE T (z0q T sEq x.2)=r at he n3 hM;subst hM;exact⟨[],lx,sR,Gg,rfl,[],hx,sR,Gg,rfl,[],z1b T _ n1 hb sEq,sR,Gg,rfl,[],he,sR,Gg,rfl,[],z1b T _ n3 hb z5b,sR,Gg,rfl,zu4 (ex1 _),rfl,Gf⟩
  clear letc lx lf;rw[q1,q2,A1 dC0]at hM
  cases q3:pIs T sIf z with
  |true =>
   have t:=tz sIf;rw[q3]at t hM;rw[A5 rfl]at hM;obtain⟨n1,n2,n3⟩:=nx q3;have hi:=y1y T hT hS hb z.next n1;have fi:=z2t hT (s:=z.next);generalize z1r T z.next=i at hi fi hM;have n4:=fi.lt n1;have n5:rem T i.2<=rem T z.next:=by have:=fi.at_;unfold rem;omega
   have n6:=n3.fw fi.at_;have hB:=ihB (d+1) i.2 n6 n4 oM0;have fb:=(z5k hT N).2.1 (d+1) i.2;generalize z1v T N (d+1) i.2=b at hB fb hM;have n7:=fb.lt n4;have n8:rem T b.2<=rem T i.2:=by have:=fb.at_;unfold rem;omega
   have te:=z40 T b.2 n7 hb sElse;unfold z8q at te
   cases q4:pIs T sElse b.2 with
   |true =>
    rw[q4]at te hM;rw[A5 rfl]at hM;have m1:=(z11 hT q4).lt n7;have hB2:=ihB (d+1) b.2.next ((n6.fw fb.at_).fw (Fg _)) m1 (by unfold rem at *;rw[z0p]at *;omega);generalize z1v T N (d+1) b.2.next=b2 at hB2 hM;subst hM
    exact⟨[],t,sR,Gg,rfl,[],hi,sR,Gg,rfl,z01 rfl (by have:=n3.1;have:=n3.2;omega),[],hB,sR,Gg,rfl,[],te,sR,Gg,rfl,z01 rfl (by have:=n3.1;have:=n3.2;omega),[],hB2,sR,Gg,rfl,stv_sub2 rfl,rfl,Gf⟩
   |false =>
    rw[q4]at te hM;rw[A1 dC0]at hM;subst hM
    exact⟨[],t,sR,Gg,rfl,[],hi,sR,Gg,rfl,z01 rfl (by have:=n3.1;have:=n3.2;omega),[],hB,sR,Gg,rfl,[],te,sR,Gg,rfl,yr9 rfl,rfl,Gf⟩
  |false =>
  have t:=tz sIf;rw[q3]at t hM;rw[A1 dC0]at hM;refine⟨[],t,sR,Gg,rfl,?_⟩;clear t
  cases q5:pIs T yq1 z with
  |true =>
   have t:=tz yq1;rw[q5]at t hM;rw[A5 rfl]at hM;obtain⟨n1,n2,n3⟩:=nx q5;have hi:=y1y T hT hS hb z.next n1;have fi:=z2t hT (s:=z.next);generalize z1r T z.next=i at hi fi hM;have n4:=fi.lt n1;have n5:rem T i.2<=rem T z.next:=by have:=fi.at_;unfold rem;omega
   have n6:=n3.fw fi.at_;have hB:=ihB (d+1) i.2 n6 n4 oM0;generalize z1v T N (d+1) i.2=b at hB hM;subst hM
   exact⟨[],t,sR,Gg,rfl,[],hi,sR,Gg,rfl,z01 rfl (by have:=n3.1;have:=n3.2;omega),[],hB,sR,Gg,rfl,yr9 rfl,rfl,Gf⟩
  |false =>
  have t:=tz yq1;rw[q5]at t hM;rw[A1 dC0]at hM;refine⟨[],t,sR,Gg,rfl,?_⟩;clear t;unfold z9q at hM
  cases q6:pIs T yp8 z with
  |true =>
   have t:=tz yp8;rw[q6]at t hM;rw[A5 rfl]at hM;obtain⟨n1,_,_⟩:=nx q6;subst hM
   exact⟨[],t,sR,Gg,rfl,[],z1b T _ n1 hb z5b,sR,Gg,rfl,yr8,rfl,Gf⟩
  |false =>
  have t:=tz yp8;rw[q6]at t hM;rw[A1 dC0]at hM;refine⟨[],t,sR,Gg,rfl,?_⟩;clear t
  cases q7:pIs T zn7 z with
  |true =>
   have t:=tz zn7;rw[q7]at t hM;rw[A5 rfl]at hM;obtain⟨n1,_,_⟩:=nx q7;subst hM
   exact⟨[],t,sR,Gg,rfl,[],z1b T _ n1 hb z5b,sR,Gg,rfl,yr8,rfl,Gf⟩
  |false =>
  have t:=tz zn7;rw[q7]at t hM;rw[A1 dC0]at hM;refine⟨[],t,sR,Gg,rfl,?_⟩;clear t
  cases q8:pIs T y6j z with
  |true =>
   have t:=tz y6j;rw[q8]at t hM;rw[A5 rfl]at hM;obtain⟨n1,_,_⟩:=nx q8;have he:=yx9 T hT hS hb _ n1;have n2:=(z58 hT (s:=z.next)).lt n1;generalize mE T z.next=r at he n2 hM;subst hM
   exact⟨[],t,sR,Gg,rfl,[],he,sR,Gg,rfl,[],z1b T _ n2 hb z5b,sR,Gg,rfl,zu4 (ex1 _),rfl,Gf⟩
  |false =>
  have t:=tz y6j;rw[q8]at t hM;rw[A1 dC0]at hM;refine⟨[],t,sR,Gg,rfl,?_⟩;clear t
  cases q9:pIs T yq0 z with
  |true =>
   have t:=tz yq0;rw[q9]at t hM;rw[A5 rfl]at hM;obtain⟨n1,_,_⟩:=nx q9;have hi:=y1y T hT hS hb z.next n1;have n2:=(z2t hT (s:=z.next)).lt n1;generalize z1r T z.next=i at hi n2 hM;subst hM
   exact⟨[],t,sR,Gg,rfl,[],hi,sR,Gg,rfl,[],z1b T _ n2 hb z5b,sR,Gg,rfl,zu4 rfl,rfl,Gf⟩
  |false =>
  have t:=tz yq0;rw[q9]at t hM;rw[A1 dC0]at hM;have hn:=sc_named T hT hS hb z hl;have n2:=(yl2 hT (s:=z)).lt hl;generalize z4s T z=r at hn n2 hM;subst hM;exact⟨[],t,sR,Gg,rfl,[],hn,sR,Gg,rfl,[],z1b T _ n2 hb z5b,sR,Gg,rfl,sI,rfl,Gf⟩
def stRt:RT:=⟨149,6⟩
theorem enc6(out:List St)(x:St):(out++[x]).map St.enc=out.map St.enc++[[vInt x.kind,vInt x.ty,vStr x.name,exs x.args,sts x.thn,sts x.els]]:=by
 rw[Cp,B7,Cv,St.enc_eq]
theorem y6l(T:List Tk)(hT:TkOk T)(hb:T.length<=1073741824)(N:Nat)(ihS:∀M,M<=N->SCS T M):SCB T (N+1):=by
 intro d s hd h hm;refine K0 tb { gh:=[(2,[.grow 5 1001 149 6]),(5,[.fz 5 1001])] } [] Tryz.func131 rfl rfl ?_;have hf0:=z0b hT (w:=sBo) (s:=s);have hl0:=hf0.lt h;have hr0:rem T (z0q T sBo s)<=rem T s:=by have:=hf0.at_;unfold rem;omega
 generalize hM:z1v T (N+1) d s=R;unfold z1v at hM;refine⟨[],z1b T s h hb sBo,sR,Gg,rfl,Nat×List St×Ps,λa=>[(5,.sl 1001 (a.2.1.map St.enc).length)],λa=>[(1001,.row stRt (a.2.1.map St.enc)),(1,psB T a.2.2)],λa=>a.1,
  λa=>R=z75 T a.1 d a.2.1 a.2.2/\s.at_<=a.2.2.at_/\a.2.2.at_<T.length/\(a.2.2.over=true∨rem T a.2.2+6<=a.1)/\1<=a.1/\a.1<=N/\(a.2.1.length<=a.2.2.at_∨(a.2.2.over=true/\a.2.1.length<=a.2.2.at_+1)),[],(N,[],z0q T sBo s),
  ⟨hM.symm,hf0.at_,hl0,.inr (by dsimp only;omega),by dsimp only;omega,Ag _,.inl (Aj _)⟩,Gg,Gi,?_⟩
 rintro⟨n,out,z⟩ ⟨i1,i2,i3,i4,i5,i6,i7⟩;dsimp only at i1 i2 i3 i4 i5 i6 i7;obtain⟨m,rfl⟩:∃m,n=m+1:=⟨n-1,by omega⟩;rw[z75]at i1;have t:=z40 T z i3 hb sBc;unfold z8q at t;refine⟨[],z7e T z,sR,Gg,rfl,z00 (λo1=>?_) λo1=>?_⟩
 ·have o1:z.over=false:=by simpa using o1
  rw[A1 (by rw[o1];decide)]at i1
  cases p2:pIs T sBc z with
  |true =>
   rw[p2]at t i1;rw[A5 rfl]at i1;subst i1
   exact⟨[],t,sR,Gg,rfl,rfl,sI,rfl,Gf⟩
  |false =>
   rw[p2]at t i1;rw[A1 dC0]at i1;have i4:rem T z+6<=m+1:=i4.resolve_left (by rw[o1];decide);have i7:out.length<=z.at_:=i7.resolve_right (λe=>by rw[o1]at e;cases e.1);have hs:=ihS m oM0 d z (hd.fw i2) i3 oM0;have hf:=(z5k hT m).1 d z;have hg:=go_stmt hT m (d:=d) (s:=z);generalize z5q T m d z=r at hs hf hg i1;have h5:=hf.at_;refine⟨[],t,sR,Gg,rfl,[],hs,sR,Gg,rfl,rfl,z3u rfl,by simp;omega,(m,out++[r.1],r.2),Ac _,⟨i1,by dsimp only;omega,hf.lt i3,?_,?_,by dsimp only;omega,?_⟩,⟨slq sI0,Gf⟩,⟨rwq (by rw[enc6]),rfl,Gf⟩,rfl,rfl,rfl,rfl⟩
   ·rcases hg with g|g
    ·exact .inl g
    ·exact .inr (by dsimp only;unfold rem at i4⊢;omega)
   ·dsimp only;unfold rem at i4;omega
   ·dsimp only;rw[B8];rcases hg with g|g
    ·exact .inr ⟨g,by show _+1<=_;omega⟩
    ·exact .inl (by show _+1<=_;omega)
 ·have o1:z.over=true:=by simpa using o1
  rw[A5 o1]at i1;subst i1;exact⟨rfl,sI,rfl,Gf⟩
theorem yr2(T:List Tk)(hT:TkOk T)(hS:TkSz T)(hb:T.length<=1073741824):∀N,(∀M,M<=N->SCS T M)/\(∀M,M<=N->SCB T M)
 |0=>by
  refine⟨λM hM d s hd h hm=>?_,λM hM d s hd h hm=>?_⟩<;>exact A9 hm (by unfold rem;omega)
 |N+1=>by
  obtain⟨iS,iB⟩:=yr2 T hT hS hb N;refine⟨λM hM=>?_,λM hM=>?_⟩<;>rcases Dy N M with h|h
  ·rw[show M=N+1 by omega];exact y9h T hT hS hb N (iB N (Ag _))
  ·exact iS M h
  ·rw[show M=N+1 by omega];exact y6l T hT hb N iS
  ·exact iB M h
theorem j3w(T:List Tk)(hT:TkOk T)(hS:TkSz T)(hb:T.length<=1073741824)(s:Ps)(h:s.at_<T.length):fB T 1 s (z1v T (big T) 1 s) :=
 (yr2 T hT hS hb (big T)).2 (big T) (Ag _) 1 s ⟨by decide,by omega⟩ h (by unfold rem big;omega)
def pmRt:RT:=⟨102,2⟩
def fuv(f:Fu):PV:=.agg f.enc
theorem j2r(out:List Pm)(x:Pm):(out++[x]).map Pm.enc=out.map Pm.enc++[[vStr x.name,vInt x.ty]]:=by rw[Cp];rfl
attribute [local irreducible] z1v
theorem yg2(T:List Tk)(hT:TkOk T)(hS:TkSz T)(hb:T.length<=1073741824)(t:Int)(name:ByteArray)(s:Ps)(h:s.at_<T.length) :
 SC Tryz.prog 85 [.ptr 1 0,.pv (.val (.int .i64 t)),.pv (.val (.string name))] (psO T s) (λk=>k∈[]) (.pv (fuv (z7b T t name s).1)) (psO T (z7b T t name s).2):=by
 refine K0 tb { gh:=[(4,[.growC 107 2 1001 102 2]),(9,[.fzC 107 2 1001])] } [] Tryz.func85 rfl rfl ?_;generalize hM:z7b T t name s=R;unfold z7b at hM;have h1:=(z0b hT (w:=sRo)).lt h;refine⟨[],z1b T s h hb sRo,sR,Gg,rfl,?_⟩;generalize z0q T sRo s=y at h1 hM;have hp:=(zl3 hT (s:=y)).lt h1;have hB:=j3w T hT hS hb _ hp;generalize hP:z7r T y=P at hp hB hM;unfold z7r at hP;generalize z1v T (big T) 1 P.2=B at hB hM;have tk:=z40 T y h1 hb sRc;unfold z8q at tk
 cases p1:pIs T sRc y with
 |true =>
  rw[p1]at tk hP;rw[A5 rfl]at hP;subst hP;subst hM
  exact⟨[],tk,sR,Gg,rfl,[],hB,sR,Gg,rfl,sP (z0g _),rfl,Gf⟩
 |false =>
 rw[p1]at tk hP;rw[A1 dC0]at hP;refine⟨[],tk,sR,Gg,rfl,?_⟩;generalize hL:zb4 T (big T) true [] y=L at hP;refine⟨Nat×Bool×List Pm×Ps,λa=>[(8,iBool a.2.1)],λa=>[(1001,.row pmRt (a.2.2.1.map Pm.enc)),(107,.box [.pv (vStr name),iInt t,.sl 1001 (a.2.2.1.map Pm.enc).length,.pv (.val (.slice none 0 0))]),(1,psB T a.2.2.2)],λa=>a.1,
  λa=>L=zb4 T a.1 a.2.1 a.2.2.1 a.2.2.2/\a.2.2.2.at_<T.length/\rem T a.2.2.2+(bif a.2.1 then 15 else 1)<=a.1/\a.2.2.1.length<=a.2.2.2.at_+(bif a.2.1 then 0 else 1),[],(big T,true,[],y),
  ⟨hL.symm,h1,by simp only[E6];unfold rem big;omega,Aj _⟩,Gg,Gj,?_⟩
 rintro⟨n,first,out,z⟩ ⟨i1,i3,i4,i6⟩;dsimp only at i1 i3 i4 i6;obtain⟨m,rfl⟩:∃m,n=m+1:=⟨n-1,by cases first<;>simp only[E6,D7]at i4<;>omega⟩;rw[zb4]at i1;have exit_:L=(out,z)->P=(out,z0q T sRc z):=λe=>by rw[<- hP,e]
 cases first with
 |true =>
  simp only[E6]at i4 i6;rw[show aGo T true z=z from rfl,Bf]at i1;refine⟨[],z7e T z,sR,Gg,rfl,z00 (λo1=>?_) λo1=>?_⟩
  ·have o1:z.over=false:=by simpa using o1
   rw[A5 ⟨rfl,o1⟩]at i1;have lx:=zn9 T hT z i3 hb;have lf:=z5l hT (s:=z);generalize z0t T z=p at lx lf i1;have hx:=z8e T p.2 (lf.lt i3) hb 1;have fx:=z1x hT (k:=1) dC0 (s:=p.2);generalize z0k T 1 p.2=x at hx fx i1;have f1:=lf.at_;have f2:=fx.at_;exact⟨[],lx,sR,Gg,rfl,[],hx,sR,Gg,rfl,rfl,z3u rfl,by simp;omega,by simp,(m,false,out++[⟨x.1,p.1⟩],x.2),Ac _,
    ⟨i1,fx.lt (lf.lt i3),by simp only[D7];unfold rem at i4⊢;omega,by simp only[D7,B8,A3,A6];omega⟩,Gg,⟨rwq (by rw[j2r]),boq sI0,rfl,Gf⟩,rfl,rfl,rfl,rfl⟩
  ·have o1:z.over=true:=by simpa using o1
   rw[A1 (λe=>by rw[o1]at e;cases e.2)]at i1;have e:=exit_ i1;subst e;subst hM
   exact⟨rfl,[],z1b T z i3 hb sRc,sR,Gg,rfl,[],hB,sR,Gg,rfl,sI,rfl,Gf⟩
 |false =>
  simp only[D7]at i4 i6;rw[Ce]at i1;have tk:=z40 T z i3 hb zn6;unfold z8q at tk
  cases p2:pIs T zn6 z with
  |false =>
   rw[p2]at tk i1;rw[A1 (λe=>by cases e.1),show aGo T false z=z by unfold aGo z8q;rw[p2];rfl]at i1;have e:=exit_ i1;subst e;subst hM
   exact⟨[],tk,sR,Gg,rfl,rfl,[],z1b T z i3 hb sRc,sR,Gg,rfl,[],hB,sR,Gg,rfl,sI,rfl,Gf⟩
  |true =>
   rw[p2]at tk i1;have hn:=(z11 hT p2).lt i3;have o1:z.next.over=false:=(z3y p2).1;rw[show aGo T false z=z.next by unfold aGo z8q;rw[p2];rfl,A5 ⟨rfl,o1⟩]at i1;have lx:=zn9 T hT z.next hn hb;have lf:=z5l hT (s:=z.next);generalize z0t T z.next=p at lx lf i1;have hx:=z8e T p.2 (lf.lt hn) hb 1;have fx:=z1x hT (k:=1) dC0 (s:=p.2);generalize z0k T 1 p.2=x at hx fx i1;have f1:=lf.at_;have f2:=fx.at_;have f3:=fx.lt (lf.lt hn);rw[z0p]at f1 hn;refine⟨[],tk,sR,Gg,rfl,[],z7e T z.next,sR,Gg,rfl,z00 (λ_=>?_) λg=>by rw[o1]at g;cases g⟩;exact⟨[],lx,sR,Gg,rfl,[],hx,sR,Gg,rfl,rfl,z3u rfl,by simp;omega,by simp,(m,false,out++[⟨x.1,p.1⟩],x.2),Ac _,
    ⟨i1,f3,by simp only[D7];unfold rem at i4⊢;omega,by simp only[D7,B8,A3,A6];omega⟩,Gg,⟨rwq (by rw[j2r]),boq sI0,rfl,Gf⟩,rfl,rfl,rfl,rfl⟩
def arRt:RT:=⟨84,2⟩
def fuRt:RT:=⟨57,4⟩
theorem ar_snoc(out:List Ar)(x:Ar):(out++[x]).map Ar.enc=out.map Ar.enc++[[vStr x.name,vInt x.size]]:=by rw[Cp];rfl
theorem fu_snoc(out:List Fu)(x:Fu):(out++[x]).map Fu.enc=out.map Fu.enc++[[vStr x.name,vInt x.ty,pms x.params,sts x.body]]:=by rw[Cp];rfl
theorem text_num{T:List Tk}(hT:TkOk T)(hS:TkSz T){s:Ps}(h:s.at_<T.length):(z0k T 0 s).1.data.toList.all (λb=>z3v b.toNat)=true/\(z0k T 0 s).1.size<=1073741824:=by
 unfold z0k;split
 ·exact⟨rfl,Aj _⟩
 ·split
  ·rename_i hk;exact⟨zv6 (tk_num hT h hk),hS _ (j5c h)⟩
  ·exact⟨rfl,Aj _⟩
attribute [local irreducible] z7b
theorem sc_prog(T:List Tk)(hT:TkOk T)(hS:TkSz T)(hb:T.length<=1073741824)(h:0<T.length) :
 SC Tryz.prog 44 [.ptr 1 0] (psO T ⟨0,false,false⟩) (λk=>k∈[]) (.pv (z90 T).1.enc) (psO T (z90 T).2):=by
 refine K0 tb { gh:=[(2000000,[.growC 103 0 1001 84 2,.growC 103 1 1002 57 4]),(11,[.fzC 103 0 1001,.fzC 103 1 1002])] } [] Tryz.func44 rfl rfl ?_;generalize hM:z90 T=R;unfold z90 at hM;refine⟨Nat×Pg×Ps,λ_=>[],λa=>[(1001,.row arRt (a.2.1.arrays.map Ar.enc)),(1002,.row fuRt (a.2.1.funcs.map Fu.enc)),(103,.box [.sl 1001 (a.2.1.arrays.map Ar.enc).length,.sl 1002 (a.2.1.funcs.map Fu.enc).length]),(1,psB T a.2.2)],λa=>a.1,
  λa=>R=z2v T a.1 a.2.1 a.2.2/\a.2.2.at_<T.length/\(a.2.2.over=true∨rem T a.2.2+6<=a.1)/\1<=a.1/\a.2.1.arrays.length<=a.2.2.at_+1/\a.2.1.funcs.length<=a.2.2.at_+1/\(a.2.2.over=true∨(a.2.1.arrays.length<=a.2.2.at_/\a.2.1.funcs.length<=a.2.2.at_)),[],(big T,⟨[],[]⟩,⟨0,false,false⟩),
  ⟨hM.symm,h,.inr (by dsimp only;unfold rem big;omega),by unfold big;dsimp only;omega,Aj _,Aj _,.inr ⟨Aj _,Aj _⟩⟩,Gf,Gk,?_⟩
 rintro⟨n,p,z⟩ ⟨i1,i3,i4,i5,i6,i7,i8⟩;dsimp only at i1 i3 i4 i5 i6 i7 i8;obtain⟨m,rfl⟩:∃m,n=m+1:=⟨n-1,by omega⟩;rw[z2v]at i1;refine⟨[],z7e T z,sR,Gg,rfl,z00 (λo1=>?_) λo1=>?_⟩
 ·have o1:z.over=false:=by simpa using o1
  refine⟨yi5 i3,rfl,z00 (λk1=>?_) λk1=>?_⟩
  ·have k1:((tkAt T z).kind==3)=false:=by simpa using k1
   rw[o1,k1,A1 dC0]at i1;have i4:rem T z+6<=m+1:=i4.resolve_left (by rw[o1];decide);have i8:=i8.resolve_left (by rw[o1];decide);have lx:=zn9 T hT z i3 hb;have lf:=z5l hT (s:=z);have lg:=zl6 (T:=T) (s:=z);generalize z0t T z=t at lx lf lg i1;have hx:=z8e T t.2 (lf.lt i3) hb 1;have fx:=z1x hT (k:=1) dC0 (s:=t.2);generalize z0k T 1 t.2=x at hx fx i1;have lt1:=fx.lt (lf.lt i3);have lg1:=lg.then fx;refine⟨[],lx,sR,Gg,rfl,[],hx,sR,Gg,rfl,?_⟩;have lg2:=lg1;have fnc:qArr T p.funcs t.1 x.2=false->R=z2v T m ⟨p.arrays,p.funcs++[(z7b T t.1 x.1 x.2).1]⟩ (z7b T t.1 x.1 x.2).2:=λe=>by rw[i1,e,A1 dC0]
   have hF:=yg2 T hT hS hb t.1 x.1 x.2 lt1;have fF:=y5g hT (t:=t.1) (n:=x.1) (s:=x.2);refine z00 (λc1=>?_) λc1=>?_
   rotate_left
   have i1:=fnc (by unfold qArr;rw[c1];rfl)
   rotate_left
   refine⟨rfl,z00 (λc2=>?_) λc2=>?_⟩
   rotate_left
   have i1:=fnc (by unfold qArr;rw[show(p.funcs.length==0)=false by(have:=(Aa).1 c2;simp at this⊢;exact this)];simp)
   rotate_right
   have tk:=z40 T x.2 lt1 hb sSo;unfold z8q at tk
   cases c3:pIs T sSo x.2
   rw[c3]at tk;have i1:=fnc (by unfold qArr;rw[c3];simp);refine⟨[],tk,sR,Gg,rfl,?_⟩
   rotate_left
   ·rw[c3]at tk;have hc:qArr T p.funcs t.1 x.2=true:=by
     unfold qArr;rw[c1,c3,show(p.funcs.length==0)=true by(have:=Av c2;simp at this⊢;exact this)];rfl
    rw[hc,A5 rfl]at i1;clear fnc hF fF;have n1:=(z11 hT c3).lt lt1;have hv:=text_num hT hS n1;have hy:=z8e T x.2.next n1 hb 0;have fy:=z1x hT (k:=0) dC0 (s:=x.2.next);generalize z0k T 0 x.2.next=y at hv hy fy i1;have n2:=fy.lt n1;have f3:=z0b hT (w:=sSc) (s:=y.2);have n3:=f3.lt n2;have f4:=z0b hT (w:=z5b) (s:=z0q T sSc y.2);have n4:=f4.lt n3;have lg3:=lg1.then ((z11 hT c3).trans (fy.trans (f3.trans f4)));have at4:z.at_<=(z0q T z5b (z0q T sSc y.2)).at_:=by have a1:=lf.at_;have a2:=fx.at_;have a3:=fy.at_;have a4:=f3.at_;have a5:=f4.at_;rw[z0p]at a3;omega
    have h3:=z1b T y.2 n2 hb sSc;have h4:=z1b T _ n3 hb z5b;generalize z0q T z5b (z0q T sSc y.2)=w at h4 n4 lg3 at4 i1;refine⟨[],tk,sR,Gg,rfl,[],hy,sR,Gg,rfl,[],y6k y.1 hv.1 hv.2,sR,Gf,rfl,[],h3,sR,Gg,rfl,[],h4,sR,Gg,rfl,rfl,z3u rfl,by simp;omega,by simp,
     (m,⟨p.arrays++[⟨x.1,z8h y.1⟩],p.funcs⟩,w),Ac _,⟨i1,n4,?_,by dsimp only;unfold rem at i4;omega,by simp;omega,by dsimp only;omega,?_⟩,Gf,⟨rwq (by rw[ar_snoc]),rfl,boq sI0,rfl,Gf⟩,rfl,rfl,rfl,rfl⟩
    ·exact lg3.elim .inl λg=>.inr (by dsimp only;unfold rem at i4⊢;omega)
    ·exact lg3.elim .inl λg=>.inr ⟨by simp;omega,by dsimp only;omega⟩
   iterate 3
    have lg3:=lg2.then fF;have lt2:=fF.lt lt1;have at2:z.at_<=(z7b T t.1 x.1 x.2).2.at_:=by have a1:=lf.at_;have a2:=fx.at_;have a3:=fF.at_;omega
    generalize z7b T t.1 x.1 x.2=f at hF lg3 lt2 at2 i1;refine⟨[],hF,sR,Gg,rfl,rfl,z3u rfl,by simp;omega,by simp,(m,⟨p.arrays,p.funcs++[f.1]⟩,f.2),Ac _,⟨i1,lt2,?_,by dsimp only;unfold rem at i4;omega,by dsimp only;omega,by simp;omega,?_⟩,Gf,⟨rfl,rwq (by rw[fu_snoc]),boq sI0,rfl,Gf⟩,rfl,rfl,rfl,rfl⟩
    ·exact lg3.elim .inl λg=>.inr (by dsimp only;unfold rem at i4⊢;omega)
    ·exact lg3.elim .inl λg=>.inr ⟨by dsimp only;omega,by simp;omega⟩
  ·have k1:((tkAt T z).kind==3)=true:=by simpa using k1
   rw[o1,k1,A5 dC0]at i1;subst i1;exact⟨rfl,rfl,sI,rfl,Gf⟩
 ·have o1:z.over=true:=by simpa using o1
  rw[o1,Bf,A5 rfl]at i1;subst i1;exact⟨rfl,rfl,sI,rfl,Gf⟩
theorem zo0(op:Int):SC Tryz.prog 182 [.pv (.val (.int .i64 op))] [] (λk=>k∈[]) (iInt (z4g op)) []:=by
 by_cases h:1<=op/\op<=19
 ·exact y4h op h.1 h.2
 refine K0 tb {} [] Tryz.func182 rfl rfl ?_;have hz:z4g op=0:=by
  unfold z4g;split
  ·rfl
  ·rename_i g;simp only[Bb,Ba,not_or]at g;rcases(show op=0∨op=20∨op=21∨op=22∨op=23∨op=24∨op=25∨op=26∨op=27∨op=28 by omega)with rfl|rfl|rfl|rfl|rfl|rfl|rfl|rfl|rfl|rfl<;>rfl
 exact z00 (λh=>A9 (Av h) oM0) λ_=>z00 (λh=>A9 (Av h) oM0) λ_=>z00 (λh=>A9 (Av h) oM0) λ_=>z00 (λh=>A9 (Av h) oM0) λ_=>z00 (λh=>A9 (Av h) oM0) λ_=>z00 (λh=>A9 (Av h) oM0) λ_=>z00 (λh=>A9 (Av h) oM0) λ_=>z00 (λh=>A9 (Av h) oM0) λ_=>z00 (λh=>A9 (Av h) oM0) λ_=>z00 (λh=>A9 (Av h) oM0) λ_=>z00 (λh=>A9 (Av h) oM0) λ_=>z00 (λh=>A9 (Av h) oM0) λ_=>z00 (λh=>A9 (Av h) oM0) λ_=>z00 (λh=>A9 (Av h) oM0) λ_=>z00 (λh=>A9 (Av h) oM0) λ_=>z00 (λh=>A9 (Av h) oM0) λ_=>z00 (λh=>A9 (Av h) oM0) λ_=>z00 (λh=>A9 (Av h) oM0) λ_=>z00 (λh=>A9 (Av h) oM0) λ_=>⟨sE (by rw[hz]),Gf⟩
def rOwn(k o n:Int)(nm:ByteArray)(len:Nat):Bool :=
 if k=1 then o==0&&decide (n≥0)&&nm.toList==[]&&len==0
 else if k=2 then o==0&&(n==0||n==1)&&nm.toList==[]&&len==0
 else if k=3 then o==0&&n==0&&z0o nm&&len==0
 else if k=4 then z2w o&&n==0&&nm.toList==[]&&len==1
 else if k=5 then decide (z4g o > 0)&&n==0&&nm.toList==[]&&len==2
 else if k=6 then o==0&&n==0&&z0o nm&&len==1
 else if k=7 then o==0&&n==0&&z0o nm&&decide (len<=8)
 else if k=8 then o==0&&n==0&&nm.toList==[]&&len==0
 else false
mutual
def rx:Ex->Int->Bool
 |.mk k o n nm args,most=>rxL args most&&rOwn k o n nm args.length
def rxL:List Ex->Int->Bool
 |[],_=>true
 |x::r,most=>(!decide (most<2)&&rx x (most-1))&&rxL r most
end
theorem y21(op:Int):SC Tryz.prog 181 [.pv (.val (.int .i64 op))] [] (λk=>k∈[]) (iBool (z2w op)) []:=by
 refine K0 tb {} [] Tryz.func181 rfl rfl ?_;unfold z2w;exact z00 (λh=>⟨sE (by rw[h];rfl),Gf⟩) λh=>⟨sE (by rw[h];rfl),Gf⟩
theorem zh6{x:Ex}:∀{l:List Ex},x∈l->xz x<=xzL l
 |y::r,h=>by
  simp only[xzL];rcases Aq.1 h with rfl|h
  ·omega
  ·have:=zh6 h;omega
theorem zg2(l:Nat):((l:Int)==0)=(l==0):=by rw[Cn];simp
theorem zg3(l:Nat):((l:Int)==1)=(l==1):=by rw[Cn];simp;omega
theorem zg4(l:Nat):((l:Int)==2)=(l==2):=by rw[Cn];simp;omega
theorem zg5(l:Nat):decide ((l:Int)<=8)=decide (l<=8):=by rw[Cn];simp;omega
theorem sc_rx:∀(N:Nat)(e:Ex),SizeOf.sizeOf e<N->xz e<=1073741824->∀most:Int,0<=most->most<=100->SC Tryz.prog 133 [.pv (exv e),.pv (.val (.int .i64 most))] [] (λk=>k∈[]) (iBool (rx e most)) []
 |0,_,h,_,_,_,_=>A9 h (An _)
 |N+1,.mk k o n nm args,hN,hx,most,h0,h1=>by
  refine K0 tb { pb:=[102] } [] Tryz.func133 rfl rfl ?_;have hl:=zc8 args;simp only[xz]at hx;refine⟨Nat,λi=>[(5,iInt ((i:Nat):Int))],λ_=>[],λi=>args.length-i,λi=>i<=args.length/\rxL args most=rxL (args.drop i) most,[],0,⟨Aj _,rfl⟩,Gg,Gf,?_⟩;rintro i ⟨i1,i2⟩;refine z00 (λhc=>?_) λhc=>?_
  ·have hlt:i<args.length:=z12 (f:=Ex.enc) rfl hc;obtain⟨x,x1,x2,x3,x4⟩:=z0u hlt;rw[x3]at i2;simp only[rxL]at i2;refine z00 (λc1=>?_) λc1=>?_
   ·rw[c1]at i2;exact⟨sE (by rw[rx,i2];rfl),Gf⟩
   ·rw[c1]at i2;have hxx:=zh6 x4;have hsz:SizeOf.sizeOf x<N:=by have:=Br x4;simp at hN;omega
    have c2:=Am c1;refine⟨z1f x1,rfl,z3e rfl oM0,[],sc_rx N x hsz oM0 (most-1) oM0 oM0,sR,Gf,rfl,z00 (λc3=>?_) λc3=>?_⟩
    ·rw[show rx x (most-1)=false by simpa using c3]at i2;exact⟨sE (by rw[rx,i2];rfl),Gf⟩
    ·rw[show rx x (most-1)=true by simpa using c3]at i2;exact⟨z01 rfl oM0,i+1,z05 hlt,⟨hlt,i2⟩,Gg,Gf,rfl,rfl,rfl,rfl⟩
  ·have hge:args.length<=i:=z13 (f:=Ex.enc) rfl hc;rw[Ae hge]at i2;have hR:rx (.mk k o n nm args) most=rOwn k o n nm args.length:=by rw[rx,i2];rfl
   generalize rx (.mk k o n nm args) most=R at hR;clear i1 i2 hc hge hN hx h0 h1;have nl:(nm.toList==ByteArray.toList ⟨#[]⟩)=(nm.toList==[]):=by simp
   have hnm:=z6r nm;have hcase:k=1∨k=2∨k=3∨k=4∨k=5∨k=6∨k=7∨k=8∨(k≠1/\k≠2/\k≠3/\k≠4/\k≠5/\k≠6/\k≠7/\k≠8):=by omega
   by_cases ho:o=0
   ·subst ho;have e0:z2w 0=false:=rfl;have e1:z4g 0=0:=rfl;refine⟨[],hnm,sR,Gf,rfl,?_⟩;rcases hcase with rfl|rfl|rfl|rfl|rfl|rfl|rfl|rfl|hk
    iterate 3 ·repeat' (first|exact⟨sE (Ah iBool (by rw[hR];simp_all[rOwn,zg2,zg3,zg4,zg5,Ex.op,Ex.n,Ex.name,Ex.args]<;>first|done|omega|(intro h;omega))),Gf⟩|refine z00 (λ_=>?_) λ_=>?_)
    ·refine⟨[],y21 0,sR,Gf,rfl,?_⟩
     repeat' (first|exact⟨sE (Ah iBool (by rw[hR];simp_all[rOwn,zg2,zg3,zg4,zg5,Ex.op,Ex.n,Ex.name,Ex.args]<;>first|done|omega|(intro h;omega))),Gf⟩|refine z00 (λ_=>?_) λ_=>?_)
    ·refine⟨[],zo0 0,sR,Gf,rfl,?_⟩
     repeat' (first|exact⟨sE (Ah iBool (by rw[hR];simp_all[rOwn,zg2,zg3,zg4,zg5,Ex.op,Ex.n,Ex.name,Ex.args]<;>first|done|omega|(intro h;omega))),Gf⟩|refine z00 (λ_=>?_) λ_=>?_)
    iterate 3 ·repeat' (first|exact⟨sE (Ah iBool (by rw[hR];simp_all[rOwn,zg2,zg3,zg4,zg5,Ex.op,Ex.n,Ex.name,Ex.args]<;>first|done|omega|(intro h;omega))),Gf⟩|refine z00 (λ_=>?_) λ_=>?_)
    ·refine z00 (λh=>A9 (Av h) hk.1) λ_=>z00 (λh=>A9 (Av h) hk.2.1) λ_=>z00 (λh=>A9 (Av h) hk.2.2.1) λ_=>z00 (λh=>A9 (Av h) hk.2.2.2.1) λ_=>z00 (λh=>A9 (Av h) hk.2.2.2.2.1) λ_=>z00 (λh=>A9 (Av h) hk.2.2.2.2.2.1) λ_=>z00 (λh=>A9 (Av h) hk.2.2.2.2.2.2.1) λ_=>z00 (λh=>A9 (Av h) hk.2.2.2.2.2.2.2) λ_=>?_;exact⟨sE (Ah iBool (by rw[hR];unfold rOwn;obtain⟨g1,g2,g3,g4,g5,g6,g7,g8⟩:=hk;rw[A1 g1,A1 g2,A1 g3,A1 g4,A1 g5,A1 g6,A1 g7,A1 g8])),Gf⟩
   ·refine z00 (λh=>A9 (Av h) ho) λ_=>⟨[],hnm,sR,Gf,rfl,?_⟩;rcases hcase with rfl|rfl|rfl|rfl|rfl|rfl|rfl|rfl|hk
    iterate 3 ·repeat' (first|exact⟨sE (Ah iBool (by rw[hR];simp_all[rOwn,zg2,zg3,zg4,zg5,Ex.op,Ex.n,Ex.name,Ex.args]<;>first|done|omega|(intro h;omega))),Gf⟩|refine z00 (λ_=>?_) λ_=>?_)
    ·refine⟨[],y21 o,sR,Gf,rfl,?_⟩
     repeat' (first|exact⟨sE (Ah iBool (by rw[hR];simp_all[rOwn,zg2,zg3,zg4,zg5,Ex.op,Ex.n,Ex.name,Ex.args]<;>first|done|omega|(intro h;omega))),Gf⟩|refine z00 (λ_=>?_) λ_=>?_)
    ·refine⟨[],zo0 o,sR,Gf,rfl,?_⟩
     repeat' (first|exact⟨sE (Ah iBool (by rw[hR];simp_all[rOwn,zg2,zg3,zg4,zg5,Ex.op,Ex.n,Ex.name,Ex.args]<;>first|done|omega|(intro h;omega))),Gf⟩|refine z00 (λ_=>?_) λ_=>?_)
    iterate 3 ·repeat' (first|exact⟨sE (Ah iBool (by rw[hR];simp_all[rOwn,zg2,zg3,zg4,zg5,Ex.op,Ex.n,Ex.name,Ex.args]<;>first|done|omega|(intro h;omega))),Gf⟩|refine z00 (λ_=>?_) λ_=>?_)
    ·refine z00 (λh=>A9 (Av h) hk.1) λ_=>z00 (λh=>A9 (Av h) hk.2.1) λ_=>z00 (λh=>A9 (Av h) hk.2.2.1) λ_=>z00 (λh=>A9 (Av h) hk.2.2.2.1) λ_=>z00 (λh=>A9 (Av h) hk.2.2.2.2.1) λ_=>z00 (λh=>A9 (Av h) hk.2.2.2.2.2.1) λ_=>z00 (λh=>A9 (Av h) hk.2.2.2.2.2.2.1) λ_=>z00 (λh=>A9 (Av h) hk.2.2.2.2.2.2.2) λ_=>?_;exact⟨sE (Ah iBool (by rw[hR];unfold rOwn;obtain⟨g1,g2,g3,g4,g5,g6,g7,g8⟩:=hk;rw[A1 g1,A1 g2,A1 g3,A1 g4,A1 g5,A1 g6,A1 g7,A1 g8])),Gf⟩
def shp(k:Int):Bool×Bool×Int×Bool×Bool :=
 if k=1 then(true,true,1,false,false)else if k=2 then(false,true,1,false,false)else if k=3 then(false,true,2,false,false)
 else if k=4 then(false,false,1,true,true)else if k=5 then(false,false,1,true,false)else if k=6∨k=7 then(false,false,0,false,false)
 else if k=8∨k=9∨k=10 then(false,false,1,false,false)else(false,false,-1,false,false)
def shpV(s:Bool×Bool×Int×Bool×Bool):IV:=.tup [iBool s.1,iBool s.2.1,iInt s.2.2.1,iBool s.2.2.2.1,iBool s.2.2.2.2]
theorem sc_shape(k:Int):SC Tryz.prog 132 [.pv (.val (.int .i64 k))] [] (λk=>k∈[]) (shpV (shp k)) []:=by
 refine K0 tb {} [] Tryz.func132 rfl rfl ?_;have hcase:k=1∨k=2∨k=3∨k=4∨k=5∨k=6∨k=7∨k=8∨k=9∨k=10∨(k≠1/\k≠2/\k≠3/\k≠4/\k≠5/\k≠6/\k≠7/\k≠8/\k≠9/\k≠10):=by omega
 rcases hcase with rfl|rfl|rfl|rfl|rfl|rfl|rfl|rfl|rfl|rfl|hk
 iterate 10 exact⟨sI,Gf⟩
 have hs:shp k=(false,false,-1,false,false):=by
  unfold shp;rw[A1 oM0,A1 oM0,A1 oM0,A1 oM0,A1 oM0,A1 oM0,A1 oM0]
 rw[hs]
 repeat' (first|exact⟨sI,Gf⟩|refine z00 (λh=>A9 (Av h) oM0) λ_=>?_)
theorem y4f(t:Int):SC Tryz.prog 86 [.pv (.val (.int .i64 t))] [] (λk=>k∈[]) (iBool (t==1||t==2)) []:=by
 refine K0 tb {} [] Tryz.func86 rfl rfl ?_;exact z00 (λh=>⟨sE (by rw[h];rfl),Gf⟩) λh=>⟨sE (by rw[h];rfl),Gf⟩
def yv8(k ty:Int)(nm:ByteArray)(len:Nat)(most:Int):Bool :=
 decide (most<1)||(len:Int) != (shp k).2.2.1||(shp k).1 != (ty==1||ty==2)||(!(shp k).1&&ty != 0)||(shp k).2.1 != z0o nm||(!(shp k).2.1 && !(nm.toList==[]))
def j2x(k:Int)(args:List Ex)(a b:Nat):Bool :=
 (k==10&&((args.head?.map Ex.kind).getD 0) != 7)||(!(shp k).2.2.2.1&&decide (0<a))||(!(shp k).2.2.2.2&&decide (0<b))
mutual
def rst:St->Int->Bool
 |.mk k ty nm args thn els,most=>!yv8 k ty nm args.length most&&args.all (λe=>rx e 100) && !j2x k args thn.length els.length&&rsL thn (most-1)&&rsL els (most-1)
def rsL:List St->Int->Bool
 |[],_=>true
 |x::r,most=>rst x most&&rsL r most
end
def rTy(t:Int):Bool:=t==1||t==2
def rFu(f:Fu):Bool:=z0o f.name&&rTy f.ty&&decide (f.params.length<=8)&&rsL f.body 100&&f.params.all λp=>z0o p.name&&rTy p.ty
def rPg(p:Pg):Bool:=(p.arrays.all λa=>z0o a.name&&decide (1<=a.size)&&decide (a.size<=1000))&&p.funcs.all rFu
theorem y4a(x:St)(most:Int):rst x most=(!yv8 x.kind x.ty x.name x.args.length most&&x.args.all (λe=>rx e 100) && !j2x x.kind x.args x.thn.length x.els.length&&rsL x.thn (most-1)&&rsL x.els (most-1)):=by
 cases x;rw[rst];rfl
theorem y33(x:St):sz x=1+xzL x.args+szL x.thn+szL x.els:=by cases x;rw[sz];rfl
theorem zx5{x:St}:∀{l:List St},x∈l->sz x<=szL l
 |y::r,h=>by
  simp only[szL];rcases Aq.1 h with rfl|h
  ·omega
  ·have:=zx5 h;omega
theorem zt7(x:St):SizeOf.sizeOf x.thn<SizeOf.sizeOf x/\SizeOf.sizeOf x.els<SizeOf.sizeOf x:=by
 cases x;simp[St.thn,St.els];omega
theorem j43:∀(N:Nat)(l:List St),SizeOf.sizeOf l<N->szL l<=1073741824->∀most:Int,0<=most->most<=100->SC Tryz.prog 87 [.pv (sts l),.pv (.val (.int .i64 most))] [] (λk=>k∈[]) (iBool (rsL l most)) []
 |0,_,h,_,_,_,_=>A9 h (An _)
 |N+1,l,hN,hx,most,h0,h1=>by
  refine K0 tb { pb:=[106],jn:=[8,3] } [] Tryz.func87 rfl rfl ?_;have hl:=z8p l;refine⟨Nat,λi=>[(5,iInt ((i:Nat):Int))],λ_=>[],λi=>l.length-i,λi=>i<=l.length/\rsL l most=rsL (l.drop i) most,[],0,⟨Aj _,rfl⟩,Gg,Gf,?_⟩;rintro i ⟨i1,i2⟩;refine z00 (λhc=>?_) λhc=>?_
  ·have hlt:i<l.length:=z12 (f:=St.enc) rfl hc;obtain⟨x,x1,x2,x3,x4⟩:=z0u hlt;rw[x3]at i2;rw[rsL,y4a]at i2;have hxx:=zx5 x4;rw[y33]at hxx;have hal:=zc8 x.args;have hsz:SizeOf.sizeOf x.thn<N/\SizeOf.sizeOf x.els<N:=by have:=Br x4;have:=zt7 x;omega
   refine⟨Unit,λ_=>[],λ_=>[],λ_=>rsL l most=rsL (l.drop (i+1)) most,[],?_,?_⟩
   ·have hS:=sc_shape x.kind;have h10:x.kind=10->(shp x.kind).2.2.1=1:=λe=>by rw[e];rfl
    unfold yv8 j2x at i2;generalize shp x.kind=s at hS i2 h10;obtain⟨s1,s2,s3,s4,s5⟩:=s;dsimp only at hS i2 h10;generalize hT:((x.kind==10&&((x.args.head?.map Ex.kind).getD 0) != 7)||(!s4&&decide (0<x.thn.length))||(!s5&&decide (0<x.els.length)))=tl at i2;refine⟨zk5 x1,rfl,[],hS,sR,Gf,rfl,Unit,λ_=>[],λ_=>[],λ_=>¬most<1/\(x.args.length:Int)=s3/\rsL l most=(x.args.all (λe=>rx e 100) && !tl&&rsL x.thn (most-1)&&rsL x.els (most-1)&&rsL (l.drop (i+1)) most),[],?_,?_⟩
    ·have nl:(x.name.toList==ByteArray.toList ⟨#[]⟩)=(x.name.toList==[]):=by simp
     have hnm:=z6r x.name;clear hT hS h10 hxx hal hsz x2 x3 x4 hl hx hN;refine z00 (λc1=>⟨sE (Ah iBool (by rw[i2,c1];rfl)),Gf⟩) λc1=>z00 (λc2=>?_) λc2=>?_
     ·have c2:((x.args.length:Int) != s3)=true:=by simpa using c2
      exact⟨sE (Ah iBool (by rw[i2,c2];simp)),Gf⟩
     ·have c2:((x.args.length:Int) != s3)=false:=by simpa using c2
      have fin:=i2;rw[c1,c2]at fin;have d1:=Am c1;have d2:(x.args.length:Int)=s3:=by simpa using c2
      clear i2 c1 c2
      cases s1<;>cases s2 <;>
      repeat' (first|exact⟨sE (Ah iBool (by rw[fin];simp_all)),Gf⟩|exact⟨(),⟨d1,d2,by rw[fin];simp_all⟩,Gf,Gf,rfl,rfl,rfl,rfl⟩|refine z00 (λ_=>?_) λ_=>?_|refine⟨[],hnm,sR,Gf,rfl,?_⟩)
    ·rintro _ ⟨d1,d2,hA⟩;clear i2;refine⟨Nat,λj=>[(12,iInt ((j:Nat):Int))],λ_=>[],λj=>x.args.length-j,λj=>j<=x.args.length/\x.args.all (λe=>rx e 100)=(x.args.drop j).all (λe=>rx e 100),[],0,⟨Aj _,rfl⟩,Gg,Gf,?_⟩;rintro j ⟨j1,j2⟩;refine z00 (λc1=>?_) λc1=>?_
     ·have c1:(j:Int)<s3:=Ap c1;have hlj:j<x.args.length:=by omega
      obtain⟨e,e1,e2,e3,e4⟩:=z0u hlj;have:=zh6 e4;rw[e3,De]at j2;refine⟨z1f e1,rfl,[],sc_rx _ e (Ac _) oM0 100 dC0 dC0,sR,Gf,rfl,z00 (λc2=>?_) λc2=>?_⟩
      ·exact⟨sE (Ah iBool (by rw[hA,j2,show rx e 100=false by simpa using c2];rfl)),Gf⟩
      ·rw[show rx e 100=true by simpa using c2,B6]at j2;exact⟨z01 rfl oM0,j+1,z05 hlj,⟨hlj,j2⟩,Gg,Gf,rfl,rfl,rfl,rfl⟩
     ·have c1:¬(j:Int)<s3:=Am c1;rw[Ae oM0]at j2;rw[j2,show List.all [] (λe=>rx e 100)=true from rfl,B6]at hA;have r1:=j43 N x.thn hsz.1 oM0 (most-1) oM0 oM0;have r2:=j43 N x.els hsz.2 oM0 (most-1) oM0 oM0;have s1:z3f .sub .i64 most 1=some (.int .i64 (most-1)):=z3e rfl oM0;have ha:x.kind=10->∃e,x.args[0]?=some e/\((x.args.head?.map Ex.kind).getD 0)=e.kind:=λe=>by
       have:=h10 e
       match hx:x.args with
       |[]=>rw[hx]at d2;simp at d2;omega
       |e0::r=>exact⟨e0,rfl,rfl⟩
      clear h10 j1 j2 hS hxx hal hsz x2 x3 x4 hl hx hN i1;subst hT;generalize rsL x.thn (most-1)=q1 at hA r1;generalize rsL x.els (most-1)=q2 at hA r2;refine z00 (λk1=>?_) λk1=>?_
      ·obtain⟨e0,e1,e2⟩:=ha (Av k1);rw[e2]at hA;refine⟨z1f (i:=0) e1,rfl,?_⟩
       cases s4<;>cases s5 <;>
       repeat' (first|exact⟨sE (Ah iBool (by rw[hA];simp_all)),Gf⟩|exact⟨(),by rw[hA];simp_all,Gf,Gf,rfl,rfl,rfl,rfl⟩|refine z00 (λ_=>?_) λ_=>?_|refine⟨s1,[],r1,sR,Gf,rfl,?_⟩|refine⟨s1,[],r2,sR,Gf,rfl,?_⟩)
      ·cases s4<;>cases s5 <;>
       repeat' (first|exact⟨sE (Ah iBool (by rw[hA];simp_all)),Gf⟩|exact⟨(),by rw[hA];simp_all,Gf,Gf,rfl,rfl,rfl,rfl⟩|refine z00 (λ_=>?_) λ_=>?_|refine⟨s1,[],r1,sR,Gf,rfl,?_⟩|refine⟨s1,[],r2,sR,Gf,rfl,?_⟩)
   ·intro _ hA;exact⟨z01 rfl oM0,i+1,z05 hlt,⟨hlt,hA⟩,Gg,Gf,rfl,rfl,rfl,rfl⟩
  ·have hge:l.length<=i:=z13 (f:=St.enc) rfl hc;rw[Ae hge]at i2;exact⟨sE (by rw[i2];rfl),Gf⟩
section
theorem tStep_sz{s:ByteArray}{line a:Nat}{b:UInt8}{t:Tk}{a2:Nat}(h:zu5 s line a b=.tok t a2):t.text.size<=s.size:=by
 unfold zu5 at h;split at h
 ·cases h
 split at h
 ·cases h
 split at h
 ·cases h
 split at h
 ·split at h
  ·cases h
  ·cases h
   show(s.extract a (a+z4b s a)).size<=s.size;rw[Cq];omega
 ·split at h
  ·cases h
  ·cases h
   show(sgOf (s.extract a s.size)).size<=s.size;rcases y03 (s.extract a s.size) sgL with h|h
   ·unfold sgOf;rw[h];exact Aj _
   ·have:=h.2;rw[Cq]at this;unfold sgOf;omega
theorem yi7(s:ByteArray):∀(N line a:Nat)(out:List Tk),(∀t∈out,t.text.size<=s.size)->∀t∈(toks s N line a out).1,t.text.size<=s.size
 |0,_,_,_,_,t,ht=>by simp[toks]at ht
 |N+1,line,a,out,ho,t,ht=>by
  unfold toks at ht
  cases hb:s.data.toList[a]? with
  |none =>
   rw[hb]at ht;rcases B3.1 ht with ht|ht
   ·exact ho t ht
   ·rw[Al.1 ht];exact Aj _
  |some b =>
   rw[hb]at ht;dsimp only at ht
   cases hst:zu5 s line a b with
   |skip l2 a2=>rw[hst]at ht;exact yi7 s N l2 a2 out ho t ht
   |tok t2 a2 =>
    rw[hst]at ht;refine yi7 s N line a2 (out++[t2]) (λt' ht'=>?_) t ht;rcases B3.1 ht' with ht'|ht'
    ·exact ho t' ht'
    ·rw[Al.1 ht'];exact tStep_sz hst
   |bad l=>rw[hst]at ht;cases ht
theorem j5d(s:ByteArray):∀t∈(z1d s).1,t.text.size<=s.size:=by
 unfold z1d;split
 ·intro t ht;cases ht
 ·exact yi7 s _ _ _ [] (λt ht=>by cases ht)
def pz:List Fu->Nat
 |[]=>0
 |f::r=>1+f.params.length+szL f.body+pz r
theorem pz_app:∀a b:List Fu,pz (a++b)=pz a+pz b
 |[],b=>by simp[pz]
 |x::r,b=>by simp only[Be,pz,pz_app r b];omega
variable {T:List Tk}
theorem y8q(hT:TkOk T):∀N b out s,(zb4 T N b out s).1.length+s.at_<=out.length+(bif b then 1 else 0)+(zb4 T N b out s).2.at_
 |0,b,out,s=>by show out.length+s.at_<=_+_+s.at_;omega
 |N+1,b,out,s=>by
  unfold zb4;split
  ·rename_i hc;have h1:=y8q hT N false (out++[⟨(z0k T 1 (z0t T (aGo T b s)).2).1,(z0t T (aGo T b s)).1⟩]) (z0k T 1 (z0t T (aGo T b s)).2).2;rw[B8]at h1;have h2:=(z5l hT (s:=aGo T b s)).at_;have h3:=(z1x hT (k:=1) dC0 (s:=(z0t T (aGo T b s)).2)).at_;simp only[A3,A6,D7]at h1
   cases b with
   |true =>
    have h4:(aGo T true s).at_=s.at_:=rfl;simp only[E6]
    omega
   |false =>
    have hi:pIs T zn6 s=true:=by simpa using hc.1
    have h4:(aGo T false s).at_=s.at_+1:=by simp[aGo,z8q,hi,z0p]
    simp only[D7];omega
  ·have:=(y3g hT (b:=b) (s:=s)).at_;dsimp only;omega
theorem func_sz(hT:TkOk T){t:Int}{n:ByteArray}{s:Ps}(h:(z7b T t n s).2.over=false):(z7b T t n s).1.params.length+szL (z7b T t n s).1.body+3*s.at_<=3*(z7b T t n s).2.at_+1:=by
 unfold z7b at h⊢;dsimp only at h⊢;have h1:=(yr7 hT (big T)).2.1 1 _ h;have h2:=(z0b hT (w:=sRo) (s:=s)).at_;have h6:=(zl3 hT (s:=z0q T sRo s)).at_;have h3:=((z5k hT (big T)).2.1 1 (z7r T (z0q T sRo s)).2).at_;have h4:(z7r T (z0q T sRo s)).1.length+(z0q T sRo s).at_<=1+(z7r T (z0q T sRo s)).2.at_:=by
  unfold z7r;split
  ·simp only[A6,z0p];omega
  ·have:=y8q hT (big T) true [] (z0q T sRo s);have h5:=(z0b hT (w:=sRc) (s:=(zb4 T (big T) true [] (z0q T sRo s)).2)).at_;simp only[A6,E6]at this;dsimp only;omega
 omega
theorem z78(hT:TkOk T):∀N p s,Fw T s (z2v T N p s).2
 |0,_,_=>.rfl
 |N+1,p,s=>by
  unfold z2v;split
  ·exact .rfl
  split
  ·rename_i c2;have hc:pIs T sSo (z0k T 1 (z0t T s).2).2=true:=by unfold qArr at c2;simp only[A0]at c2;exact c2.2
   exact(z5l hT).trans ((z1x hT (k:=1) dC0).trans ((z11 hT hc).trans ((z1x hT (k:=0) dC0).trans ((z0b hT (w:=sSc)).trans ((z0b hT (w:=z5b)).trans (z78 hT N _ _))))))
  ·exact(z5l hT).trans ((z1x hT (k:=1) dC0).trans ((y5g hT).trans (z78 hT N _ _)))
theorem y67(hT:TkOk T):∀N p s,(z2v T N p s).2.over=false->pz (z2v T N p s).1.funcs+(z2v T N p s).1.arrays.length+3*s.at_<=pz p.funcs+p.arrays.length+3*(z2v T N p s).2.at_
 |0,_,_,_=>Ag _
 |N+1,p,s,h=>by
  unfold z2v at h⊢;split
  ·exact Ag _
  rename_i c1;rw[A1 c1]at h;have a1:=(z5l hT (s:=s)).at_;have a2:=(z1x hT (k:=1) dC0 (s:=(z0t T s).2)).at_;split
  ·rename_i c2;rw[A5 c2]at h;have h1:=y67 hT N _ _ h;have hc:pIs T sSo (z0k T 1 (z0t T s).2).2=true:=by unfold qArr at c2;simp only[A0]at c2;exact c2.2
   have a3:=(z1x hT (k:=0) dC0 (s:=(z0k T 1 (z0t T s).2).2.next)).at_;have a4:=(z0b hT (w:=sSc) (s:=(z0k T 0 (z0k T 1 (z0t T s).2).2.next).2)).at_;have a5:=(z0b hT (w:=z5b) (s:=z0q T sSc (z0k T 0 (z0k T 1 (z0t T s).2).2.next).2)).at_;rw[z0p]at a3;simp only[B8,A3,A6]at h1;omega
  ·rename_i c2;rw[A1 c2]at h;have h1:=y67 hT N _ _ h;have b1:(z7b T (z0t T s).1 (z0k T 1 (z0t T s).2).1 (z0k T 1 (z0t T s).2).2).2.over=false:=(z78 hT N _ _).back h;have h2:=func_sz hT b1;have b2:=(y5g hT).back b1;have a3:=z6u.lt b2;have a4:=zl6.lt ((z1x hT (k:=1) dC0).back b2);rw[pz_app]at h1;simp only[pz]at h1;omega
end
theorem zw3{f:Fu}:∀{l:List Fu},f∈l->1+f.params.length+szL f.body<=pz l
 |y::r,h=>by
  simp only[pz];rcases Aq.1 h with rfl|h
  ·omega
  ·have:=zw3 h;omega
theorem y36{l:List Ar}{i:Nat}{x:Ar}(h:l[i]?=some x):(l.map Ar.enc)[i]?=some [vStr x.name,vInt x.size]:=by simp[h,Ar.enc]
theorem zb2{l:List Fu}{i:Nat}{x:Fu}(h:l[i]?=some x):(l.map Fu.enc)[i]?=some [vStr x.name,vInt x.ty,pms x.params,sts x.body]:=by simp[h,Fu.enc]
theorem zw2{l:List Pm}{i:Nat}{x:Pm}(h:l[i]?=some x):(l.map Pm.enc)[i]?=some [vStr x.name,vInt x.ty]:=by simp[h,Pm.enc]
theorem zm1:∀l:List Fu,l.length<=pz l
 |[]=>Ag _
 |x::r=>by have:=zm1 r;simp only[A3,pz];omega
theorem sc_Right(p:Pg)(hb:pz p.funcs<=1073741824)(ha:p.arrays.length<=1073741824):SC Tryz.prog 45 [.pv p.enc] [] (λk=>k∈[]) (iBool (rPg p)) []:=by
 refine K0 tb {} [] Tryz.func45 rfl rfl ?_;have hfl:=zm1 p.funcs;refine⟨Nat,λi=>[(3,iInt ((i:Nat):Int))],λ_=>[],λi=>p.arrays.length-i,λi=>i<=p.arrays.length/\(p.arrays.all λa=>z0o a.name&&decide (1<=a.size)&&decide (a.size<=1000))=((p.arrays.drop i).all λa=>z0o a.name&&decide (1<=a.size)&&decide (a.size<=1000)),[],0,⟨Aj _,rfl⟩,Gg,Gf,?_⟩;rintro i ⟨i1,i2⟩;refine z00 (λhc=>?_) λhc=>?_
 ·have hlt:i<p.arrays.length:=z12 (f:=Ar.enc) rfl hc;obtain⟨x,x1,x2,x3,x4⟩:=z0u hlt;rw[x3,De]at i2;refine⟨y36 x1,rfl,[],z6r x.name,sR,Gf,rfl,z00 (λc1=>?_) λc1=>⟨y36 x1,rfl,z00 (λc2=>?_) λc2=>⟨y36 x1,rfl,z00 (λc3=>?_) λc3=>?_⟩⟩⟩
  ·exact⟨sE (Ah iBool (by unfold rPg;rw[i2,show z0o x.name=false by simpa using c1];rfl)),Gf⟩
  ·exact⟨sE (Ah iBool (by unfold rPg;have:=Ap c2;rw[i2,show decide (1<=x.size)=false by simpa using this];simp)),Gf⟩
  ·exact⟨sE (Ah iBool (by unfold rPg;have:=Ap c3;rw[i2,show decide (x.size<=1000)=false by simpa using this];simp)),Gf⟩
  ·have d2:=Am c2;have d3:=Am c3;rw[show z0o x.name=true by simpa using c1,show decide (1<=x.size)=true by simpa using d2,show decide (x.size<=1000)=true by simpa using d3,B6,B6,B6]at i2;exact⟨z01 rfl oM0,i+1,z05 hlt,⟨hlt,i2⟩,Gg,Gf,rfl,rfl,rfl,rfl⟩
 ·have hge:p.arrays.length<=i:=z13 (f:=Ar.enc) rfl hc;rw[Ae hge,G2]at i2;have hR:rPg p=p.funcs.all rFu:=by unfold rPg;rw[i2,B6]
  clear i1 i2 hc hge;refine⟨Nat,λi=>[(4,iInt ((i:Nat):Int))],λ_=>[],λi=>p.funcs.length-i,λi=>i<=p.funcs.length/\rPg p=(p.funcs.drop i).all rFu,[],0,⟨Aj _,hR⟩,Gg,Gf,?_⟩;rintro i ⟨i1,i2⟩;refine z00 (λhc=>?_) λhc=>?_
  ·have hlt:i<p.funcs.length:=z12 (f:=Fu.enc) rfl hc;obtain⟨x,x1,x2,x3,x4⟩:=z0u hlt;have hpz:=zw3 x4;rw[x3,De]at i2;refine⟨zb2 x1,rfl,[],z6r x.name,sR,Gf,rfl,z00 (λc1=>?_) λc1=>⟨[],y4f x.ty,sR,Gf,rfl,z00 (λc2=>?_) λc2=>z00 (λc3=>?_) λc3=>⟨[],j43 _ x.body (Ac _) oM0 100 dC0 dC0,sR,Gf,rfl,z00 (λc4=>?_) λc4=>?_⟩⟩⟩
   ·exact⟨sE (Ah iBool (by unfold rFu at i2;rw[i2,show z0o x.name=false by simpa using c1];rfl)),Gf⟩
   ·exact⟨sE (Ah iBool (by unfold rFu at i2;rw[i2,show rTy x.ty=false by simpa[rTy]using c2];simp)),Gf⟩
   ·exact⟨sE (Ah iBool (by unfold rFu at i2;have:=Ap c3;rw[i2,show decide (x.params.length<=8)=false by simp at this⊢;omega];simp)),Gf⟩
   ·exact⟨sE (Ah iBool (by unfold rFu at i2;rw[i2,show rsL x.body 100=false by simpa using c4];simp)),Gf⟩
   ·have hF:rFu x=x.params.all λp=>z0o p.name&&rTy p.ty:=by
     unfold rFu;have:=Am c3;rw[show z0o x.name=true by simpa using c1,show rTy x.ty=true by unfold rTy;simpa only[Bool.not_eq_false']using c2,show decide (x.params.length<=8)=true by simp at this⊢;omega,show rsL x.body 100=true by simpa using c4];rfl
    rw[hF]at i2;refine⟨Nat,λj=>[(6,iInt ((j:Nat):Int))],λ_=>[],λj=>x.params.length-j,λj=>j<=x.params.length/\(x.params.all λp=>z0o p.name&&rTy p.ty)=(x.params.drop j).all λp=>z0o p.name&&rTy p.ty,[],0,⟨Aj _,rfl⟩,Gg,Gf,?_⟩;rintro j ⟨j1,j2⟩;refine z00 (λhd=>?_) λhd=>?_
    ·have hlj:j<x.params.length:=z12 (f:=Pm.enc) rfl hd;obtain⟨y,y1,y2,y3,y4⟩:=z0u hlj;rw[y3,De]at j2;refine⟨zw2 y1,rfl,[],z6r y.name,sR,Gf,rfl,z00 (λk1=>?_) λk1=>⟨zw2 y1,rfl,[],y4f y.ty,sR,Gf,rfl,z00 (λk2=>?_) λk2=>?_⟩⟩
     ·exact⟨sE (Ah iBool (by rw[i2,j2,show z0o y.name=false by simpa using k1];rfl)),Gf⟩
     ·exact⟨sE (Ah iBool (by rw[i2,j2,show rTy y.ty=false by simpa[rTy]using k2];simp)),Gf⟩
     ·rw[show z0o y.name=true by simpa using k1,show rTy y.ty=true by unfold rTy;simpa only[Bool.not_eq_false']using k2,B6,B6]at j2;exact⟨z01 rfl oM0,j+1,z05 hlj,⟨hlj,j2⟩,Gg,Gf,rfl,rfl,rfl,rfl⟩
    ·have hge:x.params.length<=j:=z13 (f:=Pm.enc) rfl hd;rw[Ae hge,G2]at j2;rw[j2,B6]at i2;exact⟨z01 rfl oM0,i+1,z05 hlt,⟨hlt,i2⟩,Gg,Gf,rfl,rfl,rfl,rfl⟩
  ·have hge:p.funcs.length<=i:=z13 (f:=Fu.enc) rfl hc;rw[Ae hge,G2]at i2;exact⟨sE (by rw[i2]),Gf⟩
theorem z56{b:Bool}{A:Prop}(h:b=true)(a:A):z2c b A:=by rw[h];exact a
theorem z1g{α:Type}(p:α -> Bool):∀(l:List α)(j:Int){i:Nat},(∀x∈l.take i,p x=false)->idxP p l j=idxP p (l.drop i) (j+i)
 |l,j,0,_=>by simp
 |[],j,i+1,_=>by simp[idxP]
 |x::r,j,i+1,h=>by
  have h1:=h x sI0;rw[idxP,A1 (by simp[h1]),z1g p r (j+1) (i:=i) (λy hy=>h y (by simp[hy])),Fd]
  congr 1;omega
theorem sc_idxSt(fq:FuncId)(ws:List IV)(hent:tb.fn fq=true)(p:St->Bool)(l:List St)(hl:l.length<=4611686018427387904)(h:∀x∈l,SC Tryz.prog fq (.pv (stv x)::ws) [] (λk=>k∈[]) (iBool (p x)) []):SC Tryz.prog 114 [.pv (sts l),.fn (.func fq) [] ws] [] (λk=>k∈[]) (iInt (idxP p l 0)) []:=by
 refine K0 tb {} [] Tryz.func114 rfl rfl ?_;refine⟨Nat,λi=>[(8,iInt ((i:Nat):Int))],λ_=>[],λi=>l.length-i,λi=>i<=l.length/\∀x∈l.take i,p x=false,[],0,⟨Aj _,λx hx=>by simp at hx⟩,Gg,Gf,?_⟩;rintro i ⟨i1,i2⟩;refine z00 (λhc=>?_) λhc=>?_
 ·have hlt:i<l.length:=z12 (f:=St.enc) rfl hc;obtain⟨x,x1,x2,x3,x4⟩:=z0u hlt;refine⟨zk5 x1,rfl,z56 (b:=tb.fn fq) hent ⟨h x x4,sR,Gf,λk hk=>hk,rfl,rfl,z00 (λc=>?_) λc=>?_⟩⟩
  ·exact⟨sE (by rw[z1g p l 0 i2,x3,idxP,A5 c,Dw]),Gf⟩
  ·exact⟨z01 rfl oM0,i+1,z05 hlt,⟨hlt,λy hy=>by rw[x2]at hy;rcases B3.1 hy with g|g;exact i2 y g;rw[Al.1 g];exact c⟩,Gg,Gf,rfl,rfl,rfl,rfl⟩
 ·have hge:l.length<=i:=z13 (f:=St.enc) rfl hc;exact⟨sE (by rw[z1g p l 0 i2,Ae hge];rfl),Gf⟩
theorem y6n(fq:FuncId)(ws:List IV)(hent:tb.fn fq=true)(p:St->Bool)(l:List St)(hl:l.length<=4611686018427387904)(h:∀x∈l,SC Tryz.prog fq (.pv (stv x)::ws) [] (λk=>k∈[]) (iBool (p x)) []):SC Tryz.prog 66 [.pv (sts l),.fn (.func fq) [] ws] [] (λk=>k∈[]) (iBool (l.any p)) []:=by
 refine K0 tb {} [] Tryz.func66 rfl rfl ?_;exact⟨[],sc_idxSt fq ws hent p l hl h,sR,Gf,rfl,sE (Ah iBool (z6g p l 0 dC0)),Gf⟩
theorem sc_idxEx(fq:FuncId)(ws:List IV)(hent:tb.fn fq=true)(p:Ex->Bool)(l:List Ex)(hl:l.length<=4611686018427387904)(h:∀x∈l,SC Tryz.prog fq (.pv (exv x)::ws) [] (λk=>k∈[]) (iBool (p x)) []):SC Tryz.prog 239 [.pv (exs l),.fn (.func fq) [] ws] [] (λk=>k∈[]) (iInt (idxP p l 0)) []:=by
 refine K0 tb {} [] Tryz.func239 rfl rfl ?_;refine⟨Nat,λi=>[(8,iInt ((i:Nat):Int))],λ_=>[],λi=>l.length-i,λi=>i<=l.length/\∀x∈l.take i,p x=false,[],0,⟨Aj _,λx hx=>by simp at hx⟩,Gg,Gf,?_⟩;rintro i ⟨i1,i2⟩;refine z00 (λhc=>?_) λhc=>?_
 ·have hlt:i<l.length:=z12 (f:=Ex.enc) rfl hc;obtain⟨x,x1,x2,x3,x4⟩:=z0u hlt;refine⟨z1f x1,rfl,z56 (b:=tb.fn fq) hent ⟨h x x4,sR,Gf,λk hk=>hk,rfl,rfl,z00 (λc=>?_) λc=>?_⟩⟩
  ·exact⟨sE (by rw[z1g p l 0 i2,x3,idxP,A5 c,Dw]),Gf⟩
  ·exact⟨z01 rfl oM0,i+1,z05 hlt,⟨hlt,λy hy=>by rw[x2]at hy;rcases B3.1 hy with g|g;exact i2 y g;rw[Al.1 g];exact c⟩,Gg,Gf,rfl,rfl,rfl,rfl⟩
 ·have hge:l.length<=i:=z13 (f:=Ex.enc) rfl hc;exact⟨sE (by rw[z1g p l 0 i2,Ae hge];rfl),Gf⟩
theorem yq2(fq:FuncId)(ws:List IV)(hent:tb.fn fq=true)(p:Ex->Bool)(l:List Ex)(hl:l.length<=4611686018427387904)(h:∀x∈l,SC Tryz.prog fq (.pv (exv x)::ws) [] (λk=>k∈[]) (iBool (p x)) []):SC Tryz.prog 213 [.pv (exs l),.fn (.func fq) [] ws] [] (λk=>k∈[]) (iBool (l.any p)) []:=by
 refine K0 tb {} [] Tryz.func213 rfl rfl ?_;exact⟨[],sc_idxEx fq ws hent p l hl h,sR,Gf,rfl,sE (Ah iBool (z6g p l 0 dC0)),Gf⟩
theorem sc_idxPm(fq:FuncId)(ws:List IV)(hent:tb.fn fq=true)(p:Pm->Bool)(l:List Pm)(hl:l.length<=4611686018427387904)(h:∀x∈l,SC Tryz.prog fq (.pv (.agg x.enc)::ws) [] (λk=>k∈[]) (iBool (p x)) []):SC Tryz.prog 187 [.pv (pms l),.fn (.func fq) [] ws] [] (λk=>k∈[]) (iInt (idxP p l 0)) []:=by
 refine K0 tb {} [] Tryz.func187 rfl rfl ?_;refine⟨Nat,λi=>[(8,iInt ((i:Nat):Int))],λ_=>[],λi=>l.length-i,λi=>i<=l.length/\∀x∈l.take i,p x=false,[],0,⟨Aj _,λx hx=>by simp at hx⟩,Gg,Gf,?_⟩;rintro i ⟨i1,i2⟩;refine z00 (λhc=>?_) λhc=>?_
 ·have hlt:i<l.length:=z12 (f:=Pm.enc) rfl hc;obtain⟨x,x1,x2,x3,x4⟩:=z0u hlt;refine⟨zw2 x1,rfl,z56 (b:=tb.fn fq) hent ⟨h x x4,sR,Gf,λk hk=>hk,rfl,rfl,z00 (λc=>?_) λc=>?_⟩⟩
  ·exact⟨sE (by rw[z1g p l 0 i2,x3,idxP,A5 c,Dw]),Gf⟩
  ·exact⟨z01 rfl oM0,i+1,z05 hlt,⟨hlt,λy hy=>by rw[x2]at hy;rcases B3.1 hy with g|g;exact i2 y g;rw[Al.1 g];exact c⟩,Gg,Gf,rfl,rfl,rfl,rfl⟩
 ·have hge:l.length<=i:=z13 (f:=Pm.enc) rfl hc;exact⟨sE (by rw[z1g p l 0 i2,Ae hge];rfl),Gf⟩
theorem sc_hasPm(fq:FuncId)(ws:List IV)(hent:tb.fn fq=true)(p:Pm->Bool)(l:List Pm)(hl:l.length<=4611686018427387904)(h:∀x∈l,SC Tryz.prog fq (.pv (.agg x.enc)::ws) [] (λk=>k∈[]) (iBool (p x)) []):SC Tryz.prog 152 [.pv (pms l),.fn (.func fq) [] ws] [] (λk=>k∈[]) (iBool (l.any p)) []:=by
 refine K0 tb {} [] Tryz.func152 rfl rfl ?_;exact⟨[],sc_idxPm fq ws hent p l hl h,sR,Gf,rfl,sE (Ah iBool (z6g p l 0 dC0)),Gf⟩
theorem yq4(fq:FuncId)(ws:List IV)(hent:tb.fn fq=true)(p:Fu->Bool)(l:List Fu)(hl:l.length<=4611686018427387904)(h:∀x∈l,SC Tryz.prog fq (.pv (.agg x.enc)::ws) [] (λk=>k∈[]) (iBool (p x)) []):SC Tryz.prog 149 [.pv (fus l),.fn (.func fq) [] ws] [] (λk=>k∈[]) (iInt (idxP p l 0)) []:=by
 refine K0 tb {} [] Tryz.func149 rfl rfl ?_;refine⟨Nat,λi=>[(8,iInt ((i:Nat):Int))],λ_=>[],λi=>l.length-i,λi=>i<=l.length/\∀x∈l.take i,p x=false,[],0,⟨Aj _,λx hx=>by simp at hx⟩,Gg,Gf,?_⟩;rintro i ⟨i1,i2⟩;refine z00 (λhc=>?_) λhc=>?_
 ·have hlt:i<l.length:=z12 (f:=Fu.enc) rfl hc;obtain⟨x,x1,x2,x3,x4⟩:=z0u hlt;refine⟨zb2 x1,rfl,z56 (b:=tb.fn fq) hent ⟨h x x4,sR,Gf,λk hk=>hk,rfl,rfl,z00 (λc=>?_) λc=>?_⟩⟩
  ·exact⟨sE (by rw[z1g p l 0 i2,x3,idxP,A5 c,Dw]),Gf⟩
  ·exact⟨z01 rfl oM0,i+1,z05 hlt,⟨hlt,λy hy=>by rw[x2]at hy;rcases B3.1 hy with g|g;exact i2 y g;rw[Al.1 g];exact c⟩,Gg,Gf,rfl,rfl,rfl,rfl⟩
 ·have hge:l.length<=i:=z13 (f:=Fu.enc) rfl hc;exact⟨sE (by rw[z1g p l 0 i2,Ae hge];rfl),Gf⟩
theorem sc_hasFu(fq:FuncId)(ws:List IV)(hent:tb.fn fq=true)(p:Fu->Bool)(l:List Fu)(hl:l.length<=4611686018427387904)(h:∀x∈l,SC Tryz.prog fq (.pv (.agg x.enc)::ws) [] (λk=>k∈[]) (iBool (p x)) []):SC Tryz.prog 101 [.pv (fus l),.fn (.func fq) [] ws] [] (λk=>k∈[]) (iBool (l.any p)) []:=by
 refine K0 tb {} [] Tryz.func101 rfl rfl ?_;exact⟨[],yq4 fq ws hent p l hl h,sR,Gf,rfl,sE (Ah iBool (z6g p l 0 dC0)),Gf⟩
theorem yq3(fq:FuncId)(ws:List IV)(hent:tb.fn fq=true)(p:Ar->Bool)(l:List Ar)(hl:l.length<=4611686018427387904)(h:∀x∈l,SC Tryz.prog fq (.pv (.agg x.enc)::ws) [] (λk=>k∈[]) (iBool (p x)) []):SC Tryz.prog 148 [.pv (arrs l),.fn (.func fq) [] ws] [] (λk=>k∈[]) (iInt (idxP p l 0)) []:=by
 refine K0 tb {} [] Tryz.func148 rfl rfl ?_;refine⟨Nat,λi=>[(8,iInt ((i:Nat):Int))],λ_=>[],λi=>l.length-i,λi=>i<=l.length/\∀x∈l.take i,p x=false,[],0,⟨Aj _,λx hx=>by simp at hx⟩,Gg,Gf,?_⟩;rintro i ⟨i1,i2⟩;refine z00 (λhc=>?_) λhc=>?_
 ·have hlt:i<l.length:=z12 (f:=Ar.enc) rfl hc;obtain⟨x,x1,x2,x3,x4⟩:=z0u hlt;refine⟨y36 x1,rfl,z56 (b:=tb.fn fq) hent ⟨h x x4,sR,Gf,λk hk=>hk,rfl,rfl,z00 (λc=>?_) λc=>?_⟩⟩
  ·exact⟨sE (by rw[z1g p l 0 i2,x3,idxP,A5 c,Dw]),Gf⟩
  ·exact⟨z01 rfl oM0,i+1,z05 hlt,⟨hlt,λy hy=>by rw[x2]at hy;rcases B3.1 hy with g|g;exact i2 y g;rw[Al.1 g];exact c⟩,Gg,Gf,rfl,rfl,rfl,rfl⟩
 ·have hge:l.length<=i:=z13 (f:=Ar.enc) rfl hc;exact⟨sE (by rw[z1g p l 0 i2,Ae hge];rfl),Gf⟩
theorem sc_hasAr(fq:FuncId)(ws:List IV)(hent:tb.fn fq=true)(p:Ar->Bool)(l:List Ar)(hl:l.length<=4611686018427387904)(h:∀x∈l,SC Tryz.prog fq (.pv (.agg x.enc)::ws) [] (λk=>k∈[]) (iBool (p x)) []):SC Tryz.prog 100 [.pv (arrs l),.fn (.func fq) [] ws] [] (λk=>k∈[]) (iBool (l.any p)) []:=by
 refine K0 tb {} [] Tryz.func100 rfl rfl ?_;exact⟨[],yq3 fq ws hent p l hl h,sR,Gf,rfl,sE (Ah iBool (z6g p l 0 dC0)),Gf⟩
theorem sc_rowOf(op:Int):SC Tryz.prog 250 [iInt op] [] (λk=>k∈[]) (.pv (.agg [vStr (zp8 op),vInt (z4g op)])) []:=by
 refine K0 tb {} [] Tryz.func250 rfl rfl ?_;refine z00 (λc=>?_) λc=>z00 (λc2=>?_) λc2=>?_
 ·have h:op<0:=Ap c;exact⟨sE (by simp[zp8,z4g,h];exact⟨rfl,rfl⟩),Gf⟩
 ·have h:op≥29:=Ap c2;exact⟨sE (by simp[zp8,z4g,h];exact⟨rfl,rfl⟩),Gf⟩
 ·have h1:=Am c;have h2:=Am c2;rcases j0o (op:=op) oM0 oM0 with rfl|rfl|rfl|rfl|rfl|rfl|rfl|rfl|rfl|rfl|rfl|rfl|rfl|rfl|rfl|rfl|rfl|rfl|rfl|rfl|rfl|rfl|rfl|rfl|rfl|rfl|rfl|rfl|rfl
  ·exact⟨(by decide:(0:Nat)<29),rfl,sI,Gf⟩
  ·exact⟨(by decide:(1:Nat)<29),rfl,sI,Gf⟩
  ·exact⟨(by decide:(2:Nat)<29),rfl,sI,Gf⟩
  ·exact⟨(by decide:(3:Nat)<29),rfl,sI,Gf⟩
  ·exact⟨(by decide:(4:Nat)<29),rfl,sI,Gf⟩
  ·exact⟨(by decide:(5:Nat)<29),rfl,sI,Gf⟩
  ·exact⟨(by decide:(6:Nat)<29),rfl,sI,Gf⟩
  ·exact⟨(by decide:(7:Nat)<29),rfl,sI,Gf⟩
  ·exact⟨(by decide:(8:Nat)<29),rfl,sI,Gf⟩
  ·exact⟨(by decide:(9:Nat)<29),rfl,sI,Gf⟩
  ·exact⟨(by decide:(10:Nat)<29),rfl,sI,Gf⟩
  ·exact⟨(by decide:(11:Nat)<29),rfl,sI,Gf⟩
  ·exact⟨(by decide:(12:Nat)<29),rfl,sI,Gf⟩
  ·exact⟨(by decide:(13:Nat)<29),rfl,sI,Gf⟩
  ·exact⟨(by decide:(14:Nat)<29),rfl,sI,Gf⟩
  ·exact⟨(by decide:(15:Nat)<29),rfl,sI,Gf⟩
  ·exact⟨(by decide:(16:Nat)<29),rfl,sI,Gf⟩
  ·exact⟨(by decide:(17:Nat)<29),rfl,sI,Gf⟩
  ·exact⟨(by decide:(18:Nat)<29),rfl,sI,Gf⟩
  ·exact⟨(by decide:(19:Nat)<29),rfl,sI,Gf⟩
  ·exact⟨(by decide:(20:Nat)<29),rfl,sI,Gf⟩
  ·exact⟨(by decide:(21:Nat)<29),rfl,sI,Gf⟩
  ·exact⟨(by decide:(22:Nat)<29),rfl,sI,Gf⟩
  ·exact⟨(by decide:(23:Nat)<29),rfl,sI,Gf⟩
  ·exact⟨(by decide:(24:Nat)<29),rfl,sI,Gf⟩
  ·exact⟨(by decide:(25:Nat)<29),rfl,sI,Gf⟩
  ·exact⟨(by decide:(26:Nat)<29),rfl,sI,Gf⟩
  ·exact⟨(by decide:(27:Nat)<29),rfl,sI,Gf⟩
  ·exact⟨(by decide:(28:Nat)<29),rfl,sI,Gf⟩
theorem y9l(op:Int):SC Tryz.prog 232 [iInt op] [] (λk=>k∈[]) (iInt (z4g op)) []:=by
 refine K0 tb {} [] Tryz.func232 rfl rfl ?_;exact⟨[],sc_rowOf op,sR,Gf,rfl,sI,Gf⟩
end Go.Proofs.YtjlaalpfpecikaaGreatDoor
