/- PART 5 of 9 of a proof: see the last part. -/
import Derived.Test.YtdhllinkobindaaGreatDoorWl4
set_option maxRecDepth 20000
set_option maxHeartbeats 8000000
set_option linter.unusedSimpArgs false
set_option linter.unusedVariables false
set_option linter.unusedSectionVars false
namespace Go.Proofs.YtdhllinkobindaaGreatDoor
open Go
theorem yd1{u:Un}{f:Fl}{set:List Bool}{x:Nd}{seen:List Int}{g:Fl}(h:z05 x.name u.flows 0≥0)(hg:u.flows[(z05 x.name u.flows 0).toNat]?=some g) :
 zc1 u f set x seen=andS (z06 f.types seen x.args (g.types.take g.params.toNat)) set (z1s f.types set x.outs [g.ty]):=by
 unfold zc1;rw[if_pos (C8 h),hg]
theorem yd0{u:Un}{f:Fl}{set:List Bool}{x:Nd}{seen:List Int}(h:decide (z05 x.name u.flows 0≥0)=false):zc1 u f set x seen=(false,set):=by
 unfold zc1;rw[h];rfl
theorem ye9(u:Un)(f:Fl)(set:List Bool)(hs:set.length=f.types.length)(hg:∀g∈u.flows,0<=g.params/\g.params<=g.types.length)(x:Nd)(seen:List Int)(wh:Wh):SC Tryz.prog 137 [.ptr 3 0,.pv (ndv x),.pv (ints seen),.pv (whv wh)] (ckHp u f 4 set) (λk=>k=3) (iBool (z1g u f set x seen wh).1) (ckHp u f 4 (z1g u f set x seen wh).2):=by
 refine SC.sameR (SC.vc tb {} [3] Tryz.func137 rfl rfl ?_) λk _ h=>Ah.2 h;obtain⟨kind,op,n,name,args,outs,params,kids⟩:=x;rcases(show kind=1∨kind=2∨kind=3∨kind=4∨kind=5∨kind=6∨kind=7∨kind=9∨kind=8∨kind=12∨kind=13∨kind=14∨kind=15∨(kind≠1/\kind≠2/\kind≠3/\kind≠4/\kind≠5/\kind≠6/\kind≠7/\kind≠8/\kind≠9/\kind≠12/\kind≠13/\kind≠14/\kind≠15) by omega)with rfl|rfl|rfl|rfl|rfl|rfl|rfl|rfl|rfl|rfl|rfl|rfl|rfl|hk
 ·have hT:=z2h u f set args seen [];have hS:=z4w u f set outs [1] hs;rw[show z1g u f set ⟨1,op,n,name,args,outs,params,kids⟩ seen wh=andS (z06 f.types seen args []) set (z1s f.types set outs [1])from rfl];generalize z06 f.types seen args []=b at hT⊢
  cases b with
  |true=>exact⟨[3,4],hT,SubA.same (SubA.same (SubA.same (SubA.cons sN sR))),⟨rfl,rfl,Gc,rfl,rfl,Gc⟩,rfl,[],hS,sR,Gf,rfl,sI,rfl,rfl,Gc⟩
  |false=>exact⟨[3,4],hT,SubA.same (SubA.same (SubA.same (SubA.cons sN sR))),⟨rfl,rfl,Gc,rfl,rfl,Gc⟩,rfl,sI,rfl,rfl,Gc⟩
 ·have hT:=z2h u f set args seen [];have hS:=z4w u f set outs [2] hs;rw[show z1g u f set ⟨2,op,n,name,args,outs,params,kids⟩ seen wh=andS ((n==0||n==1)&&z06 f.types seen args []) set (z1s f.types set outs [2])from rfl];generalize z06 f.types seen args []=b at hT⊢;refine z00 (λh0=>?_) λh0=>?_
  ·rw[show(n==0)=true from h0]
   cases b with
   |true=>exact⟨[3,4],hT,SubA.same (SubA.same (SubA.same (SubA.cons sN sR))),⟨rfl,rfl,Gc,rfl,rfl,Gc⟩,rfl,[],hS,sR,Gf,rfl,sI,rfl,rfl,Gc⟩
   |false=>exact⟨[3,4],hT,SubA.same (SubA.same (SubA.same (SubA.cons sN sR))),⟨rfl,rfl,Gc,rfl,rfl,Gc⟩,rfl,sI,rfl,rfl,Gc⟩
  ·rw[show(n==0)=false from h0];refine z00 (λh1=>?_) λh1=>?_
   ·rw[show(n==1)=true from h1]
    cases b with
    |true=>exact⟨[3,4],hT,SubA.same (SubA.same (SubA.same (SubA.cons sN sR))),⟨rfl,rfl,Gc,rfl,rfl,Gc⟩,rfl,[],hS,sR,Gf,rfl,sI,rfl,rfl,Gc⟩
    |false=>exact⟨[3,4],hT,SubA.same (SubA.same (SubA.same (SubA.cons sN sR))),⟨rfl,rfl,Gc,rfl,rfl,Gc⟩,rfl,sI,rfl,rfl,Gc⟩
   ·rw[show(n==1)=false from h1];exact⟨sI,rfl,rfl,Gc⟩
 ·have hO:=zv8 op;have hT:=z2h u f set args seen [(z0p op).1];have hS:=z4w u f set outs [(z0p op).2] hs;have hI:=yu5 op;rw[show z1g u f set ⟨3,op,n,name,args,outs,params,kids⟩ seen wh=andS (z2v op&&z06 f.types seen args [(z0p op).1]) set (z1s f.types set outs [(z0p op).2])from rfl];generalize z06 f.types seen args [(z0p op).1]=b at hT⊢;generalize z2v op=q at hI⊢
  cases q with
  |true =>
   cases b with
   |true=>exact⟨[],hO,sR,Gc,rfl,[],hI,sR,Gc,rfl,[3,4],hT,sR,⟨rfl,rfl,Gc,rfl,rfl,Gc⟩,rfl,[],hS,sR,Gf,rfl,sI,rfl,rfl,Gc⟩
   |false=>exact⟨[],hO,sR,Gc,rfl,[],hI,sR,Gc,rfl,[3,4],hT,sR,⟨rfl,rfl,Gc,rfl,rfl,Gc⟩,rfl,sI,rfl,rfl,Gc⟩
  |false=>exact⟨[],hO,sR,Gc,rfl,[],hI,sR,Gc,rfl,sI,rfl,rfl,Gc⟩
 ·have hO:=zv8 op;have hT:=z2h u f set args seen [(z0p op).1,(z0p op).1];have hS:=z4w u f set outs [(z0p op).2] hs;have hI:=yu6 op;rw[show z1g u f set ⟨4,op,n,name,args,outs,params,kids⟩ seen wh=andS (z3y op&&z06 f.types seen args [(z0p op).1,(z0p op).1]&&f.types.getD (args.getD 0 0).toNat 0==f.types.getD (args.getD 1 0).toNat 0) set (z1s f.types set outs [(z0p op).2])from rfl]
  cases hb:z06 f.types seen args [(z0p op).1,(z0p op).1]with
  |false =>
   rw[hb]at hT;generalize z3y op=q at hI⊢
   cases q with
   |true=>exact⟨[],hO,sR,Gc,rfl,[],hI,sR,Gc,rfl,[3,4],hT,sR,⟨rfl,rfl,Gc,rfl,rfl,Gc⟩,rfl,sI,rfl,rfl,Gc⟩
   |false=>exact⟨[],hO,sR,Gc,rfl,[],hI,sR,Gc,rfl,sI,rfl,rfl,Gc⟩
  |true =>
   rw[hb]at hT;obtain⟨a,b,rfl,a0,a1,b0,b1⟩:=yd3 hb;have ga:f.types[a.toNat]?=some (f.types.getD a.toNat 0):=by rw[Ax,A5 a1];rfl
   have gb:f.types[b.toNat]?=some (f.types.getD b.toNat 0):=by rw[Ax,A5 b1];rfl
   generalize z3y op=q at hI⊢
   cases q with
   |false=>exact⟨[],hO,sR,Gc,rfl,[],hI,sR,Gc,rfl,sI,rfl,rfl,Gc⟩
   |true =>
    rw[show([a,b].getD 0 0:Int)=a from rfl,show([a,b].getD 1 0:Int)=b from rfl];refine⟨[],hO,sR,Gc,rfl,[],hI,sR,Gc,rfl,[3,4],hT,sR,⟨rfl,rfl,Gc,rfl,rfl,Gc⟩,rfl,at0 (a:=eInt a),rfl,z02 (f:=eInt) ga,by omega,at1 (b:=eInt b),rfl,z02 (f:=eInt) gb,by omega,z00 (λh=>?_) λh=>?_⟩
    ·rw[show(f.types.getD a.toNat 0==f.types.getD b.toNat 0)=true from h];exact⟨[],hS,sR,Gf,rfl,sI,rfl,rfl,Gc⟩
    ·rw[show(f.types.getD a.toNat 0==f.types.getD b.toNat 0)=false from h];exact⟨sI,rfl,rfl,Gc⟩
 ·have hA:=z0d u name;have hT:=z2h u f set args seen [1];have hS:=z4w u f set outs [1] hs;rw[show z1g u f set ⟨5,op,n,name,args,outs,params,kids⟩ seen wh=andS (decide (z0g name u.arrays 0≥0)&&z06 f.types seen args [1]) set (z1s f.types set outs [1])from rfl];generalize z06 f.types seen args [1]=b at hT⊢;refine⟨[],hA,sR,Gc,rfl,z00 (λh=>?_) λh=>?_⟩
  ·rw[show decide (z0g name u.arrays 0≥0)=true from h]
   cases b with
   |true=>exact⟨[3,4],hT,sR,⟨rfl,rfl,Gc,rfl,rfl,Gc⟩,rfl,[],hS,sR,Gf,rfl,sI,rfl,rfl,Gc⟩
   |false=>exact⟨[3,4],hT,sR,⟨rfl,rfl,Gc,rfl,rfl,Gc⟩,rfl,sI,rfl,rfl,Gc⟩
  ·rw[show decide (z0g name u.arrays 0≥0)=false from h];exact⟨sI,rfl,rfl,Gc⟩
 ·have hA:=z0d u name;have hT:=z2h u f set args seen [1,1];rw[show z1g u f set ⟨6,op,n,name,args,outs,params,kids⟩ seen wh=(decide (z0g name u.arrays 0≥0)&&z06 f.types seen args [1,1]&&(outs.length:Int)==0,set)from rfl];generalize z06 f.types seen args [1,1]=b at hT⊢;refine⟨[],hA,sR,Gc,rfl,z00 (λh=>?_) λh=>?_⟩
  ·rw[show decide (z0g name u.arrays 0≥0)=true from h]
   cases b with
   |true=>exact⟨[3,4],hT,sR,⟨rfl,rfl,Gc,rfl,rfl,Gc⟩,rfl,sE (by simp[Nd.outs]),rfl,rfl,Gc⟩
   |false=>exact⟨[3,4],hT,sR,⟨rfl,rfl,Gc,rfl,rfl,Gc⟩,rfl,sI,rfl,rfl,Gc⟩
  ·rw[show decide (z0g name u.arrays 0≥0)=false from h];exact⟨sI,rfl,rfl,Gc⟩
 ·have hP:=z3t u name;rw[show z1g u f set ⟨7,op,n,name,args,outs,params,kids⟩ seen wh=zc1 u f set ⟨7,op,n,name,args,outs,params,kids⟩ seen from rfl]
  cases hp:decide (z05 name u.flows 0≥0)with
  |true =>
   have h0:z05 name u.flows 0≥0:=by simpa using hp
   obtain⟨g,hgk,_⟩:=ze0 h0;rw[show zc1 u f set ⟨7,op,n,name,args,outs,params,kids⟩ seen=andS (z06 f.types seen args (g.types.take g.params.toNat)) set (z1s f.types set outs [g.ty])from yd1 h0 hgk];obtain⟨g0,g1⟩:=hg g (Ae hgk);have hT:=z2h u f set args seen (g.types.take g.params.toNat);have hS:=z4w u f set outs [g.ty] hs;have hi:=z02 (f:=Fl.enc) hgk;generalize z06 f.types seen args (g.types.take g.params.toNat)=b at hT⊢
   cases b with
   |true=>exact⟨[],hP,sR,Gc,rfl,z00 (λ_=>⟨hi,by omega,hi,by omega,g.params.toNat,by omega,by omega,by simp;omega,zk4,[3,4],hT,SubA.same (SubA.same (SubA.same (SubA.cons (sE (by simp[ints])) sR))),⟨rfl,rfl,Gc,rfl,rfl,Gc⟩,rfl,hi,by omega,[],hS,sR,Gf,rfl,sI,rfl,rfl,Gc⟩) λh=>absurd (hp.symm.trans h) dC0⟩
   |false=>exact⟨[],hP,sR,Gc,rfl,z00 (λ_=>⟨hi,by omega,hi,by omega,g.params.toNat,by omega,by omega,by simp;omega,zk4,[3,4],hT,SubA.same (SubA.same (SubA.same (SubA.cons (sE (by simp[ints])) sR))),⟨rfl,rfl,Gc,rfl,rfl,Gc⟩,rfl,sI,rfl,rfl,Gc⟩) λh=>absurd (hp.symm.trans h) dC0⟩
  |false =>
   rw[show zc1 u f set ⟨7,op,n,name,args,outs,params,kids⟩ seen=(false,set)from yd0 hp];exact⟨[],hP,sR,Gc,rfl,z00 (λh=>absurd (hp.symm.trans h) dC0) λ_=>⟨sI,rfl,rfl,Gc⟩⟩
 ·have hT:=z2h u f set args seen [1];rw[show z1g u f set ⟨9,op,n,name,args,outs,params,kids⟩ seen wh=(z06 f.types seen args [1]&&(outs.length:Int)==0,set)from rfl];generalize z06 f.types seen args [1]=b at hT⊢
  cases b with
  |true=>exact⟨[3,4],hT,sR,⟨rfl,rfl,Gc,rfl,rfl,Gc⟩,rfl,sE (by simp[Nd.outs]),rfl,rfl,Gc⟩
  |false=>exact⟨[3,4],hT,sR,⟨rfl,rfl,Gc,rfl,rfl,Gc⟩,rfl,sI,rfl,rfl,Gc⟩
 ·have hS:=z4w u f set outs [1] hs;rw[show z1g u f set ⟨8,op,n,name,args,outs,params,kids⟩ seen wh=andS ((args.length:Int)==0) set (z1s f.types set outs [1])from rfl];refine z00 (λh=>?_) λh=>?_
  ·rw[show((args.length:Int)==0)=true by simpa[Nd.args]using h];exact⟨[],hS,sR,Gf,rfl,sI,rfl,rfl,Gc⟩
  ·rw[show((args.length:Int)==0)=false by simpa[Nd.args]using h];exact⟨sI,rfl,rfl,Gc⟩
 ·obtain⟨If,Loop,Yield,Next,Left⟩:=wh;have hT:=z2h u f set args seen Yield;rw[show z1g u f set ⟨12,op,n,name,args,outs,params,kids⟩ seen ⟨If,Loop,Yield,Next,Left⟩=(If&&z06 f.types seen args Yield&&(outs.length:Int)==0,set)from rfl];generalize z06 f.types seen args Yield=b at hT⊢
  cases If with
  |true =>
   cases b with
   |true=>exact⟨[3,4],hT,sR,⟨rfl,rfl,Gc,rfl,rfl,Gc⟩,rfl,sE (by simp[Nd.outs]),rfl,rfl,Gc⟩
   |false=>exact⟨[3,4],hT,sR,⟨rfl,rfl,Gc,rfl,rfl,Gc⟩,rfl,sI,rfl,rfl,Gc⟩
  |false=>exact⟨sI,rfl,rfl,Gc⟩
 ·obtain⟨If,Loop,Yield,Next,Left⟩:=wh;have hT:=z2h u f set args seen Next;rw[show z1g u f set ⟨13,op,n,name,args,outs,params,kids⟩ seen ⟨If,Loop,Yield,Next,Left⟩=(Loop&&z06 f.types seen args Next&&(outs.length:Int)==0,set)from rfl];generalize z06 f.types seen args Next=b at hT⊢
  cases Loop with
  |true =>
   cases b with
   |true=>exact⟨[3,4],hT,sR,⟨rfl,rfl,Gc,rfl,rfl,Gc⟩,rfl,sE (by simp[Nd.outs]),rfl,rfl,Gc⟩
   |false=>exact⟨[3,4],hT,sR,⟨rfl,rfl,Gc,rfl,rfl,Gc⟩,rfl,sI,rfl,rfl,Gc⟩
  |false=>exact⟨sI,rfl,rfl,Gc⟩
 ·obtain⟨If,Loop,Yield,Next,Left⟩:=wh;have hT:=z2h u f set args seen Left;rw[show z1g u f set ⟨14,op,n,name,args,outs,params,kids⟩ seen ⟨If,Loop,Yield,Next,Left⟩=(Loop&&z06 f.types seen args Left&&(outs.length:Int)==0,set)from rfl];generalize z06 f.types seen args Left=b at hT⊢
  cases Loop with
  |true =>
   cases b with
   |true=>exact⟨[3,4],hT,sR,⟨rfl,rfl,Gc,rfl,rfl,Gc⟩,rfl,sE (by simp[Nd.outs]),rfl,rfl,Gc⟩
   |false=>exact⟨[3,4],hT,sR,⟨rfl,rfl,Gc,rfl,rfl,Gc⟩,rfl,sI,rfl,rfl,Gc⟩
  |false=>exact⟨sI,rfl,rfl,Gc⟩
 ·have hT:=z2h u f set args seen [f.ty];rw[show z1g u f set ⟨15,op,n,name,args,outs,params,kids⟩ seen wh=(z06 f.types seen args [f.ty]&&(outs.length:Int)==0,set)from rfl];generalize z06 f.types seen args [f.ty]=b at hT⊢
  cases b with
  |true=>exact⟨[3,4],hT,sR,⟨rfl,rfl,Gc,rfl,rfl,Gc⟩,rfl,sE (by simp[Nd.outs]),rfl,rfl,Gc⟩
  |false=>exact⟨[3,4],hT,sR,⟨rfl,rfl,Gc,rfl,rfl,Gc⟩,rfl,sI,rfl,rfl,Gc⟩
 ·obtain⟨k1,k2,k3,k4,k5,k6,k7,k8,k9,k12,k13,k14,k15⟩:=hk;have no:∀{i:Int},kind≠i->(kind==i)=true->False:=λh e=>h (eq_of_beq e);have ne:∀{i:Int},kind≠i->(kind==i)=false:=λh=>Ac.2 h;rw[show z1g u f set ⟨kind,op,n,name,args,outs,params,kids⟩ seen wh=(false,set) by unfold z1g;simp only[Nd.kind,ne k1,ne k2,ne k3,ne k4,ne k5,ne k6,ne k7,ne k8,ne k9,ne k12,ne k13,ne k14,ne k15];rfl];exact z00 (λh=>(no k1 h).elim) λ_=>z00 (λh=>(no k2 h).elim) λ_=>z00 (λh=>(no k3 h).elim) λ_=>z00 (λh=>(no k4 h).elim) λ_=>z00 (λh=>(no k5 h).elim) λ_=>z00 (λh=>(no k6 h).elim) λ_=>z00 (λh=>(no k7 h).elim) λ_=>z00 (λh=>(no k8 h).elim) λ_=>z00 (λh=>(no k9 h).elim) λ_=>z00 (λh=>(no k12 h).elim) λ_=>z00 (λh=>(no k13 h).elim) λ_=>z00 (λh=>(no k14 h).elim) λ_=>z00 (λh=>(no k15 h).elim) λ_=>⟨sI,rfl,rfl,Gc⟩
theorem j2f(u:Un)(f:Fl)(hg:∀g∈u.flows,0<=g.params/\g.params<=g.types.length)(x:Nd)(deep:Int)(hd:0<=deep/\deep<=100)(wh:Wh)(seen:List Int)(set:List Bool)(hs:set.length=f.types.length)(hb:seen.length+ndW x<=34359738368)(ih:∀q∈x.kids,∀(deep:Int)(w:Wh)(all:List Int)(set:List Bool),0<=deep/\deep<=101->set.length=f.types.length->all.length+lsW q<=34359738368->SC Tryz.prog 48 [.ptr 3 0,.pv (z1m q),.pv (ints all),.pv (whv w),iInt deep] (ckHp u f 4 set) (λk=>k=3) (iBool (z2l u f deep w all set q).1) (ckHp u f 4 (z2l u f deep w all set q).2)):SC Tryz.prog 87 [.ptr 3 0,.pv (ndv x),.pv (ints seen),.pv (whv wh),iInt deep] (ckHp u f 4 set) (λk=>k=3) (iBool (z4v u f deep wh seen set x).1) (ckHp u f 4 (z4v u f deep wh seen set x).2):=by
 refine SC.sameR (SC.vc tb { pb:=[182,213,252],gh:=[(15,[.fz 14 219])] } [3] Tryz.func87 rfl rfl ?_) λk _ h=>Ah.2 h;have hbW:=z7i x;have hbo:x.outs.length<=34359738368:=by omega
 have hbp:x.params.length<=34359738368:=by omega
 have hml:((x.outs.map eInt).length:Int)=x.outs.length:=by simp
 have hBare:=j2d x
 cases hbr:z1i x with
 |false =>
  rw[hbr]at hBare;rw[zh8 u f deep wh seen set hbr]
  exact⟨[],hBare,sR,Gc,rfl,sI,rfl,rfl,Gc⟩
 |true =>
  rw[hbr]at hBare
  by_cases h10:x.kind=10
  ·obtain⟨a,b,hk⟩:=z3s hbr h10;rw[y16 u f deep wh seen set hbr h10 hk];have k0:(x.kids.map eKid)[0]?=some [z1m a]:=by rw[hk];rfl
   have k1:(x.kids.map eKid)[1]?=some [z1m b]:=by rw[hk];rfl
   have hkw:kdW x.kids=1+lsW a+(1+lsW b+0):=by rw[hk];rfl
   have hO:=ye8 u f set x.outs hbo;have hT:=z2h u f set x.args seen [2];generalize z06 f.types seen x.args [2]=tb at hT⊢
   cases tb with
   |false=>exact⟨[],hBare,sR,Gc,rfl,z00 (λ_=>⟨[3,4],hO,sR,⟨rfl,rfl,by decide,rfl,rfl,Gc⟩,rfl,[3,4],hT,sR,⟨rfl,rfl,Gc,rfl,rfl,Gc⟩,rfl,sI,rfl,rfl,Gc⟩) λh=>absurd (As.2 h10) (by rw[h];decide)⟩
   |true =>
    rw[if_pos rfl];have hA:=ih a (by rw[hk];exact .head _) (deep+1) ⟨true,wh.Loop,r8of f.types x.outs,wh.Next,wh.Left⟩ seen set oM0 hs oM0;have hl1:=(z99 u f (deep+1) ⟨true,wh.Loop,r8of f.types x.outs,wh.Next,wh.Left⟩ seen set a).trans hs;generalize z2l u f (deep+1) ⟨true,wh.Loop,r8of f.types x.outs,wh.Next,wh.Left⟩ seen set a=ra at hA hl1⊢;obtain⟨ba,s1⟩:=ra
    cases ba with
    |false=>exact⟨[],hBare,sR,Gc,rfl,z00 (λ_=>⟨[3,4],hO,sR,⟨rfl,rfl,by decide,rfl,rfl,Gc⟩,rfl,[3,4],hT,sR,⟨rfl,rfl,Gc,rfl,rfl,Gc⟩,rfl,k0,rfl,z01 rfl oM0,[],hA,sR,Gf,rfl,sI,rfl,rfl,Gc⟩) λh=>absurd (As.2 h10) (by rw[h];decide)⟩
    |true =>
     unfold andT;rw[if_pos rfl];dsimp only at hl1;have hB:=ih b (by rw[hk];exact .tail _ (.head _)) (deep+1) ⟨true,wh.Loop,r8of f.types x.outs,wh.Next,wh.Left⟩ seen s1 oM0 hl1 oM0;have hl2:=(z99 u f (deep+1) ⟨true,wh.Loop,r8of f.types x.outs,wh.Next,wh.Left⟩ seen s1 b).trans hl1;dsimp only;generalize z2l u f (deep+1) ⟨true,wh.Loop,r8of f.types x.outs,wh.Next,wh.Left⟩ seen s1 b=rb at hB hl2⊢;obtain⟨bb,s2⟩:=rb
     cases bb with
     |false=>exact⟨[],hBare,sR,Gc,rfl,z00 (λ_=>⟨[3,4],hO,sR,⟨rfl,rfl,by decide,rfl,rfl,Gc⟩,rfl,[3,4],hT,sR,⟨rfl,rfl,Gc,rfl,rfl,Gc⟩,rfl,k0,rfl,z01 rfl oM0,[],hA,sR,Gf,rfl,k1,rfl,z01 rfl oM0,[],hB,sR,Gf,rfl,sI,rfl,rfl,Gc⟩) λh=>absurd (As.2 h10) (by rw[h];decide)⟩
     |true =>
      rw[if_pos rfl];dsimp only at hl2⊢;have hE:=z4w u f s2 x.outs (List.replicate x.outs.length 0) hl2;have hC:=zi5 x;unfold zf7;generalize z08 x=cl at hC⊢
      cases ho:((x.outs.length:Int)==0)with
      |true=>exact⟨[],hBare,sR,Gc,rfl,z00 (λ_=>⟨[3,4],hO,sR,⟨rfl,rfl,by decide,rfl,rfl,Gc⟩,rfl,[3,4],hT,sR,⟨rfl,rfl,Gc,rfl,rfl,Gc⟩,rfl,k0,rfl,z01 rfl oM0,[],hA,sR,Gf,rfl,k1,rfl,z01 rfl oM0,[],hB,sR,Gf,rfl,z00 (λ_=>⟨rfl,rfl,by simp;omega,[],hE,SubA.same (SubA.same (SubA.cons (sE (by simp[ints,eInt];exact .inr rfl)) sR)),Gf,rfl,sI,rfl,rfl,Gc⟩) λh=>absurd (ho.symm.trans (show((x.outs.length:Int)==0)=false by rw[hml]at h;exact h)) dC0⟩) λh=>absurd (As.2 h10) (by rw[h];decide)⟩
      |false =>
       cases cl with
       |true=>exact⟨[],hBare,sR,Gc,rfl,z00 (λ_=>⟨[3,4],hO,sR,⟨rfl,rfl,by decide,rfl,rfl,Gc⟩,rfl,[3,4],hT,sR,⟨rfl,rfl,Gc,rfl,rfl,Gc⟩,rfl,k0,rfl,z01 rfl oM0,[],hA,sR,Gf,rfl,k1,rfl,z01 rfl oM0,[],hB,sR,Gf,rfl,z00 (λh=>absurd (ho.symm.trans (show((x.outs.length:Int)==0)=true by rw[hml]at h;exact h)) dC0) λ_=>⟨[],hC,sR,Gc,rfl,sI,rfl,rfl,Gc⟩⟩) λh=>absurd (As.2 h10) (by rw[h];decide)⟩
       |false=>exact⟨[],hBare,sR,Gc,rfl,z00 (λ_=>⟨[3,4],hO,sR,⟨rfl,rfl,by decide,rfl,rfl,Gc⟩,rfl,[3,4],hT,sR,⟨rfl,rfl,Gc,rfl,rfl,Gc⟩,rfl,k0,rfl,z01 rfl oM0,[],hA,sR,Gf,rfl,k1,rfl,z01 rfl oM0,[],hB,sR,Gf,rfl,z00 (λh=>absurd (ho.symm.trans (show((x.outs.length:Int)==0)=true by rw[hml]at h;exact h)) dC0) λ_=>⟨[],hC,sR,Gc,rfl,rfl,rfl,by simp;omega,[],hE,SubA.same (SubA.same (SubA.cons (sE (by simp[ints,eInt];exact .inr rfl)) sR)),Gf,rfl,sI,rfl,rfl,Gc⟩⟩) λh=>absurd (As.2 h10) (by rw[h];decide)⟩
  by_cases h11:x.kind=11
  ·obtain⟨a,hk⟩:=z25 hbr h11;rw[zh9 u f deep wh seen set hbr h11 hk];have k0:(x.kids.map eKid)[0]?=some [z1m a]:=by rw[hk];rfl
   have hkw:kdW x.kids=1+lsW a+0:=by rw[hk];rfl
   have hP:=ye8 u f set x.params hbp;have hO:=ye8 u f set x.outs hbo;have hT:=z2h u f set x.args seen (r8of f.types x.params);generalize z06 f.types seen x.args (r8of f.types x.params)=tb at hT⊢
   cases tb with
   |false=>exact⟨[],hBare,sR,Gc,rfl,z00 (λh=>absurd (eq_of_beq h) h10) λ_=>z00 (λ_=>⟨[3,4],hP,sR,⟨rfl,rfl,by decide,rfl,rfl,Gc⟩,rfl,[3,4],hO,sR,⟨rfl,rfl,by decide,rfl,rfl,Gc⟩,rfl,[3,4],hP,sR,⟨rfl,rfl,by decide,rfl,rfl,Gc⟩,rfl,[3,4],hT,sR,⟨rfl,rfl,Gc,rfl,rfl,Gc⟩,rfl,sI,rfl,rfl,Gc⟩) λh=>absurd (As.2 h11) (by rw[h];decide)⟩
   |true =>
    rw[if_pos rfl];have hS:=z4w u f set x.params (List.replicate x.params.length 0) hs;have hl1:=(z71 f.types set x.params (List.replicate x.params.length 0)).trans hs;generalize z1s f.types set x.params (List.replicate x.params.length 0)=rs at hS hl1⊢;obtain⟨bs,s1⟩:=rs
    cases bs with
    |false=>exact⟨[],hBare,sR,Gc,rfl,z00 (λh=>absurd (eq_of_beq h) h10) λ_=>z00 (λ_=>⟨[3,4],hP,sR,⟨rfl,rfl,by decide,rfl,rfl,Gc⟩,rfl,[3,4],hO,sR,⟨rfl,rfl,by decide,rfl,rfl,Gc⟩,rfl,[3,4],hP,sR,⟨rfl,rfl,by decide,rfl,rfl,Gc⟩,rfl,[3,4],hT,sR,⟨rfl,rfl,Gc,rfl,rfl,Gc⟩,rfl,rfl,rfl,by simp;omega,[],hS,SubA.same (SubA.same (SubA.cons (sE (by simp[ints,eInt];exact .inr rfl)) sR)),Gf,rfl,sI,rfl,rfl,Gc⟩) λh=>absurd (As.2 h11) (by rw[h];decide)⟩
    |true =>
     unfold andT;rw[if_pos rfl];dsimp only at hl1;have hA:=ih a (by rw[hk];exact .head _) (deep+1) ⟨false,true,[],r8of f.types x.params,r8of f.types x.outs⟩ (seen++x.params) s1 oM0 hl1 (by simp;omega);have hl2:=(z99 u f (deep+1) ⟨false,true,[],r8of f.types x.params,r8of f.types x.outs⟩ (seen++x.params) s1 a).trans hl1;dsimp only;generalize z2l u f (deep+1) ⟨false,true,[],r8of f.types x.params,r8of f.types x.outs⟩ (seen++x.params) s1 a=ra at hA hl2⊢;obtain⟨ba,s2⟩:=ra
     cases ba with
     |false=>exact⟨[],hBare,sR,Gc,rfl,z00 (λh=>absurd (eq_of_beq h) h10) λ_=>z00 (λ_=>⟨[3,4],hP,sR,⟨rfl,rfl,by decide,rfl,rfl,Gc⟩,rfl,[3,4],hO,sR,⟨rfl,rfl,by decide,rfl,rfl,Gc⟩,rfl,[3,4],hP,sR,⟨rfl,rfl,by decide,rfl,rfl,Gc⟩,rfl,[3,4],hT,sR,⟨rfl,rfl,Gc,rfl,rfl,Gc⟩,rfl,rfl,rfl,by simp;omega,[],hS,SubA.same (SubA.same (SubA.cons (sE (by simp[ints,eInt];exact .inr rfl)) sR)),Gf,rfl,rfl,zj8 (λ_ _=>⟨rfl,λy hy=>by simp[eInt]at hy;subst hy;rfl⟩),by simp;omega,rfl,zj8 (λ_ _=>⟨rfl,λy hy=>by simp[eInt]at hy;subst hy;rfl⟩),by simp;omega,by simp,k0,rfl,z01 rfl oM0,[],hA,SubA.same (SubA.same (SubA.cons (sE (by simp[ints])) (SubA.cons (sP (PSub.agg (And.intro (PSub.refl _) (And.intro (PSub.refl _) (And.intro PSub.nil (And.intro (PSub.refl _) (And.intro (PSub.refl _) trivial))))))) sR))),Gf,rfl,sI,rfl,rfl,Gc⟩) λh=>absurd (As.2 h11) (by rw[h];decide)⟩
     |true =>
      rw[if_pos rfl];dsimp only at hl2⊢;have hE:=z4w u f s2 x.outs (List.replicate x.outs.length 0) hl2;have hC:=zi5 x;unfold zf7;generalize z08 x=cl at hC⊢
      cases ho:((x.outs.length:Int)==0)with
      |true=>exact⟨[],hBare,sR,Gc,rfl,z00 (λh=>absurd (eq_of_beq h) h10) λ_=>z00 (λ_=>⟨[3,4],hP,sR,⟨rfl,rfl,by decide,rfl,rfl,Gc⟩,rfl,[3,4],hO,sR,⟨rfl,rfl,by decide,rfl,rfl,Gc⟩,rfl,[3,4],hP,sR,⟨rfl,rfl,by decide,rfl,rfl,Gc⟩,rfl,[3,4],hT,sR,⟨rfl,rfl,Gc,rfl,rfl,Gc⟩,rfl,rfl,rfl,by simp;omega,[],hS,SubA.same (SubA.same (SubA.cons (sE (by simp[ints,eInt];exact .inr rfl)) sR)),Gf,rfl,rfl,zj8 (λ_ _=>⟨rfl,λy hy=>by simp[eInt]at hy;subst hy;rfl⟩),by simp;omega,rfl,zj8 (λ_ _=>⟨rfl,λy hy=>by simp[eInt]at hy;subst hy;rfl⟩),by simp;omega,by simp,k0,rfl,z01 rfl oM0,[],hA,SubA.same (SubA.same (SubA.cons (sE (by simp[ints])) (SubA.cons (sP (PSub.agg (And.intro (PSub.refl _) (And.intro (PSub.refl _) (And.intro PSub.nil (And.intro (PSub.refl _) (And.intro (PSub.refl _) trivial))))))) sR))),Gf,rfl,z00 (λ_=>⟨rfl,rfl,by simp;omega,[],hE,SubA.same (SubA.same (SubA.cons (sE (by simp[ints,eInt];exact .inr rfl)) sR)),Gf,rfl,sI,rfl,rfl,Gc⟩) λh=>absurd (ho.symm.trans (show((x.outs.length:Int)==0)=false by rw[hml]at h;exact h)) dC0⟩) λh=>absurd (As.2 h11) (by rw[h];decide)⟩
      |false =>
       cases cl with
       |true=>exact⟨[],hBare,sR,Gc,rfl,z00 (λh=>absurd (eq_of_beq h) h10) λ_=>z00 (λ_=>⟨[3,4],hP,sR,⟨rfl,rfl,by decide,rfl,rfl,Gc⟩,rfl,[3,4],hO,sR,⟨rfl,rfl,by decide,rfl,rfl,Gc⟩,rfl,[3,4],hP,sR,⟨rfl,rfl,by decide,rfl,rfl,Gc⟩,rfl,[3,4],hT,sR,⟨rfl,rfl,Gc,rfl,rfl,Gc⟩,rfl,rfl,rfl,by simp;omega,[],hS,SubA.same (SubA.same (SubA.cons (sE (by simp[ints,eInt];exact .inr rfl)) sR)),Gf,rfl,rfl,zj8 (λ_ _=>⟨rfl,λy hy=>by simp[eInt]at hy;subst hy;rfl⟩),by simp;omega,rfl,zj8 (λ_ _=>⟨rfl,λy hy=>by simp[eInt]at hy;subst hy;rfl⟩),by simp;omega,by simp,k0,rfl,z01 rfl oM0,[],hA,SubA.same (SubA.same (SubA.cons (sE (by simp[ints])) (SubA.cons (sP (PSub.agg (And.intro (PSub.refl _) (And.intro (PSub.refl _) (And.intro PSub.nil (And.intro (PSub.refl _) (And.intro (PSub.refl _) trivial))))))) sR))),Gf,rfl,z00 (λh=>absurd (ho.symm.trans (show((x.outs.length:Int)==0)=true by rw[hml]at h;exact h)) dC0) λ_=>⟨[],hC,sR,Gc,rfl,sI,rfl,rfl,Gc⟩⟩) λh=>absurd (As.2 h11) (by rw[h];decide)⟩
       |false=>exact⟨[],hBare,sR,Gc,rfl,z00 (λh=>absurd (eq_of_beq h) h10) λ_=>z00 (λ_=>⟨[3,4],hP,sR,⟨rfl,rfl,by decide,rfl,rfl,Gc⟩,rfl,[3,4],hO,sR,⟨rfl,rfl,by decide,rfl,rfl,Gc⟩,rfl,[3,4],hP,sR,⟨rfl,rfl,by decide,rfl,rfl,Gc⟩,rfl,[3,4],hT,sR,⟨rfl,rfl,Gc,rfl,rfl,Gc⟩,rfl,rfl,rfl,by simp;omega,[],hS,SubA.same (SubA.same (SubA.cons (sE (by simp[ints,eInt];exact .inr rfl)) sR)),Gf,rfl,rfl,zj8 (λ_ _=>⟨rfl,λy hy=>by simp[eInt]at hy;subst hy;rfl⟩),by simp;omega,rfl,zj8 (λ_ _=>⟨rfl,λy hy=>by simp[eInt]at hy;subst hy;rfl⟩),by simp;omega,by simp,k0,rfl,z01 rfl oM0,[],hA,SubA.same (SubA.same (SubA.cons (sE (by simp[ints])) (SubA.cons (sP (PSub.agg (And.intro (PSub.refl _) (And.intro (PSub.refl _) (And.intro PSub.nil (And.intro (PSub.refl _) (And.intro (PSub.refl _) trivial))))))) sR))),Gf,rfl,z00 (λh=>absurd (ho.symm.trans (show((x.outs.length:Int)==0)=true by rw[hml]at h;exact h)) dC0) λ_=>⟨[],hC,sR,Gc,rfl,rfl,rfl,by simp;omega,[],hE,SubA.same (SubA.same (SubA.cons (sE (by simp[ints,eInt];exact .inr rfl)) sR)),Gf,rfl,sI,rfl,rfl,Gc⟩⟩) λh=>absurd (As.2 h11) (by rw[h];decide)⟩
  ·have e10:(x.kind==10)=false:=by simpa using h10
   have e11:(x.kind==11)=false:=by simpa using h11
   have no:∀{i:Int},x.kind≠i->(x.kind==i)=true->False:=λh e=>h (eq_of_beq e);rw[z9b u f deep wh seen set hbr e10 e11];exact⟨[],hBare,sR,Gc,rfl,z00 (λh=>(no h10 h).elim) λ_=>z00 (λh=>(no h11 h).elim) λ_=>⟨[],ye9 u f set hs hg x seen wh,sR,Gf,rfl,sI,rfl,rfl,Gc⟩⟩
theorem y7r{hp hp2:Hp}{L:List Nat}(hh:agh hp2 hp L):∀{xs ys:List IV},yb3 (look hp) (· ∈ L) xs ys->yb3 (look hp2) (· ∈ L) xs ys
 |[],[],_=>trivial
 |[],_::_,h=>h.elim
 |_::_,[],h=>h.elim
 |x::xs,y::ys,h=>by
  refine⟨?_,y7r hh h.2⟩
  cases h.1 with
  |same=>exact .same
  |row hL hσ hn he=>exact .row hL (hh.at hσ hL) hn he
theorem yl1{P:Program}{o:Oper}{fr:Fr}{hp:Hp}{Rl:List Nat}(L:List Nat){f:FuncId}{os:Array Operand}{tys:Array TypeId}{xs args:List IV}{pre post:List (Nat×HO)}{R:Nat->Prop}{r:IV}(hsc:SC P f args pre R r post)(hf:z6c P f)
 (ho:o.op=.call { callee:=.value (.func f),args:=os,argTypes:=tys }) (hx:evs fr os.toList=some xs) (hl:yb3 (look hp) (· ∈ L) xs args) (hL:∀k∈L,look (up pre) k=none) (hpre:∀p∈pre,look hp p.1=some p.2) (hdom:pre.map (·.1)=post.map (·.1))
 (hR:∀k∈Rl,look (up pre) k=none∨R k) (hr:∃z,r=.pv (.val z)) (hpost:∀k ob,look (up post) k=some ob->y3y ob=true∨(R k/\look (up pre) k=some ob)):OkF P Rl o fr hp ⟨r,up post,post.map (·.1)++L,[]⟩:=by
 intro c fr2 hp2 hc _ hg hh _;refine ok_lend (· ∈ L) hsc hf ho (hg.evs hx λy hy=>?_) (sRf _ _) (y7r (λk hk=>hh k (Cg _ hk)) hl) hL (λk ob hk=>?_) hdom (λk hk=>hR k (hc k hk)) hr hpost
 ·rw[ho];simp only[Op.operands,Call.operands,Dk];exact Cg _ hy
 ·exact hh.at (hpre (k,ob) (z1k hk)) (Cb _ (by rw[<- hdom];exact D4 (f:=(·.1)) (z1k hk)))
theorem y69(N:Nat):∀(u:Un)(f:Fl)(hg:∀g∈u.flows,0<=g.params/\g.params<=g.types.length)(l:List Nd)(deep:Int)(wh:Wh)(all:List Int)(set:List Bool)(hd:0<=deep/\deep<=101)(hs:set.length=f.types.length)(hb:all.length+lsW l<=34359738368),SizeOf.sizeOf l<N->SC Tryz.prog 48 [.ptr 3 0,.pv (z1m l),.pv (ints all),.pv (whv wh),iInt deep] (ckHp u f 4 set) (λk=>k=3) (iBool (z2l u f deep wh all set l).1) (ckHp u f 4 (z2l u f deep wh all set l).2):=by
 induction N with
 |zero=>intro u f hg l deep wh all set hd hs hb hN;exact absurd hN (Ag _)
 |succ N ih =>
  intro u f hg l deep wh all set hd hs hb hN;refine SC.sameR (SC.vc tb { pb:=[108],an:=[6011],gh:=[(0,[.len 1]),(2,[.grow 11 111 3 1])] } [3] Tryz.func48 rfl rfl ?_) λk _ h=>Ah.2 h;intro hl;simp only[A8]at hl;have hl:l.length<=9223372036854775807:=hl;have ll:(l.map Nd.enc).length=l.length:=A8 _;unfold z2l;refine⟨rfl,zj8 (λ_ _=>⟨rfl,λy hy=>by simp[eInt]at hy;subst hy;rfl⟩),by simp;omega,Nat×List Int×List Bool,λq=>[(12,iInt ((q.1:Nat):Int)),(11,.sl 111 (q.2.1.map eInt).length)],λq=>(111,.row ⟨3,1⟩ (q.2.1.map eInt))::ckHp u f 4 q.2.2,λq=>l.length-q.1,λq=>q.1<=l.length/\q.2.2.length=f.types.length/\r8go u f deep wh all set l=r8go u f deep wh q.2.1 q.2.2 (l.drop q.1)/\q.2.1.length+lsW (l.drop q.1)<=34359738368,[],(0,all,set),⟨A9 _,hs,rfl,hb⟩,⟨rfl,slq (Br _),Gc⟩,Gf,?_⟩;rintro⟨i,al,s⟩ ⟨i1,i2,i3,i4⟩;dsimp only at i1 i2 i3 i4;refine z00 (λhc=>?_) λhc=>?_
  ·have hlt:i<l.length:=z0y (f:=Nd.enc) rfl hc;obtain⟨x,x1,x2,x3,x4⟩:=z0n hlt;have hxe:=z7i x;rw[x3,lsW]at i4;rw[x3,r8go]at i3;have hne:∀r,ne l r=r:=λr=>by unfold ne;rw[if_neg (by rw[Fq];intro e;rw[e]at hlt;exact absurd hlt (Ag _))]
   refine z00 (λh1=>?_) λh1=>?_
   ·have h1:deep > 100:=Aq h1;rw[if_pos h1]at i3;rw[i3,hne];exact⟨sI,rfl,rfl,Gc⟩
   have h1:¬deep > 100:=Am h1;rw[if_neg h1]at i3;have hX:=j2f u f hg x deep ⟨hd.1,by omega⟩ wh al s i2 oM0 λq hq deep w all set hd hs hb=>ih u f hg q deep w all set hd hs hb (B8 (z8i x4 rfl hq) (Bz hN));have hXl:=(z9a u f x deep wh al s).trans i2;have hck:=ck_lend (u:=u) (f:=f) (bt:=4) (set:=s) (z9a u f x deep wh al s);generalize z4v u f deep wh al s x=r at hX hXl hck i3;obtain⟨b,s2⟩:=r;dsimp only at hX hXl hck;have hR:∀k∈[3],look (up (ckHp u f 4 s)) k=none∨k=3:=λk hk=>.inr (Ah.1 hk);have hL:∀k∈[111],look (up (ckHp u f 4 s)) k=none:=λk hk=>by rw[Ah.1 hk];rfl
   have hpre:∀q∈ckHp u f 4 s,look ((111,some (.row ⟨3,1⟩ (al.map eInt)))::up (ckHp u f 4 s)) q.1=some q.2:=λq hq=>by
    simp only[ckHp,Ak,C5,Ga]at hq;rcases hq with rfl|rfl<;>rfl
   cases b
   ·rw[show andT (false,s2) (λs1=>if (z08 x != (l.drop (i+1)).isEmpty)=true then(false,s1)else r8go u f deep wh (al++x.outs) s1 (l.drop (i+1)))=(false,s2)from rfl]at i3;rw[i3,hne];exact⟨z07 x1,rfl,yl1 [111] hX (tb.fok _ rfl) rfl rfl ⟨.same,.same,.row (Ah.2 rfl) rfl rfl rfl,.same,.same,Gc⟩ hL hpre rfl hR ⟨_,rfl⟩ hck,sI,rfl,rfl,Gc⟩
   rw[show andT (true,s2) (λs1=>if (z08 x != (l.drop (i+1)).isEmpty)=true then(false,s1)else r8go u f deep wh (al++x.outs) s1 (l.drop (i+1)))=(if (z08 x != (l.drop (i+1)).isEmpty)=true then(false,s2)else r8go u f deep wh (al++x.outs) s2 (l.drop (i+1)))from rfl]at i3;have hem:(l.drop (i+1)).isEmpty=((i:Int)==((l.map Nd.enc).length:Int)-1):=by
    rw[D6,Fq,List.drop_eq_nil_iff,As,ll];omega
   rw[hem]at i3;refine⟨z07 x1,rfl,yl1 [111] hX (tb.fok _ rfl) rfl rfl ⟨.same,.same,.row (Ah.2 rfl) rfl rfl rfl,.same,.same,Gc⟩ hL hpre rfl hR ⟨_,rfl⟩ hck,z07 x1,rfl,[],zi5 x,sR,Gc,rfl,z49 rfl (by rw[ll];omega),z00 (λh2=>?_) λh2=>?_⟩
   ·have h2:(z08 x != ((i:Int)==((l.map Nd.enc).length:Int)-1))=true:=h2;rw[if_pos h2]at i3;rw[i3,hne];exact⟨sI,rfl,rfl,Gc⟩
   ·rw[if_neg (by rw[show(z08 x != ((i:Int)==((l.map Nd.enc).length:Int)-1))=false from h2];decide)]at i3;have hlen:(al++x.outs).length+lsW (l.drop (i+1))<=34359738368:=by rw[B4];omega
    exact⟨z07 x1,rfl,rfl,zj8 (λ_ _=>⟨rfl,λy hy=>by simp[eInt]at hy;subst hy;rfl⟩),by simp;omega,z01 rfl oM0,(i+1,al++x.outs,s2),z03 hlt,⟨hlt,hXl,i3,hlen⟩,⟨rfl,slq sI0,Gc⟩,⟨rwq sI0,rfl,rfl,Gc⟩,rfl,rfl,rfl,rfl⟩
  ·have hge:l.length<=i:=z0z (f:=Nd.enc) rfl hc;have hgo:r8go u f deep wh all set l=(true,s):=by rw[i3,A7 hge,r8go]
   rw[hgo,show ne l (true,s)=(decide ((l.length:Int) > 0),s) by cases l<;>simp[ne]];exact⟨sE (by rw[ll]),rfl,rfl,Gc⟩
theorem j2e(u:Un)(f:Fl)(hg:∀g∈u.flows,0<=g.params/\g.params<=g.types.length)(l:List Nd)(deep:Int)(wh:Wh)(all:List Int)(set:List Bool)(hd:0<=deep/\deep<=101)(hs:set.length=f.types.length)(hb:all.length+lsW l<=34359738368):SC Tryz.prog 48 [.ptr 3 0,.pv (z1m l),.pv (ints all),.pv (whv wh),iInt deep] (ckHp u f 4 set) (λk=>k=3) (iBool (z2l u f deep wh all set l).1) (ckHp u f 4 (z2l u f deep wh all set l).2):=y69 _ u f hg l deep wh all set hd hs hb (A6 _)
theorem j2c(u:Un)(f:Fl)(hg:∀g∈u.flows,0<=g.params/\g.params<=g.types.length)(hb:lsW f.body<=34000000000):SC Tryz.prog 25 [.pv u.enc,.pv (.agg f.enc)] [] (λ_=>False) (iBool (z5i u f)) []:=by
 refine SC.anyR (SC.vc tb { pb:=[102,103],ids:=[(57,4),(59,3)],gh:=[(10,[.grow 7 107 3 1]),(15,[.fz 7 107])] } [] Tryz.func25 rfl rfl ?_);unfold z5i;have hl:((f.types.map eInt).length:Int)=f.types.length:=by rw[A8]
 refine z00 (λh1=>?_) λh1=>?_
 ·rw[show decide (f.params<0)=true from h1];exact⟨sI,Gc⟩
 rw[show decide (f.params<0)=false from h1];refine z00 (λh2=>?_) λh2=>?_
 ·rw[show decide (f.params > 8)=true from h2];exact⟨sI,Gc⟩
 rw[show decide (f.params > 8)=false from h2];refine z00 (λh3=>?_) λh3=>?_
 ·have h3:decide (f.params > ((f.types.map eInt).length:Int))=true:=h3;rw[hl]at h3;rw[h3];exact⟨sI,Gc⟩
 have h3:decide (f.params > ((f.types.map eInt).length:Int))=false:=h3;rw[hl]at h3;rw[h3];refine z00 (λh4=>?_) λh4=>?_
 ·have h4:decide (((f.types.map eInt).length:Int) > 20000)=true:=h4;rw[hl]at h4;rw[h4];exact⟨sI,Gc⟩
 have h4:decide (((f.types.map eInt).length:Int) > 20000)=false:=h4;rw[hl]at h4;rw[h4];simp only[E4,Ay];have q1:=Am h1;have q3:=Am h3;have q4:=Am h4;have q2:=Am h2;refine⟨Nat,λi=>[(5,iInt ((i:Nat):Int))],λ_=>[],λi=>f.types.length-i,λi=>i<=f.types.length/\f.types.all (λt=>t==1||t==2)=(f.types.drop i).all (λt=>t==1||t==2),[],0,⟨A9 _,rfl⟩,Gd,Gc,?_⟩;rintro i ⟨i1,i2⟩;refine z00 (λhc=>?_) λhc=>?_
 ·have hlt:i<f.types.length:=z0y (f:=eInt) rfl hc;obtain⟨x,x1,x2,x3,x4⟩:=z0n hlt;rw[x3,D0]at i2;refine⟨z02 (f:=eInt) x1,rfl,z00 (λc1=>?_) λc1=>?_⟩
  ·have c1:(x==1)=false:=by simpa using c1
   refine⟨z02 (f:=eInt) x1,rfl,z00 (λc2=>?_) λc2=>?_⟩
   ·have c2:(x==2)=false:=by simpa using c2
    rw[c1,c2]at i2;rw[i2];exact⟨sI,Gc⟩
   ·have c2:(x==2)=true:=by simpa using c2
    rw[c1,c2]at i2;exact⟨z01 rfl oM0,i+1,z03 hlt,⟨hlt,i2⟩,Gd,Gc,rfl,rfl,rfl,rfl⟩
  ·have c1:(x==1)=true:=by simpa using c1
   rw[c1]at i2;exact⟨z01 rfl oM0,i+1,z03 hlt,⟨hlt,i2⟩,Gd,Gc,rfl,rfl,rfl,rfl⟩
 ·have hge:f.types.length<=i:=z0z (f:=eInt) rfl hc;rw[i2,A7 hge,Ft,Ay];have hn:∀k:Nat,((iota k).map eInt).length=k:=λk=>by rw[A8,y0i]
  refine⟨rfl,VNum.mk (n:=f.types.length) hl oM0 ⟨by simp,Nat,λi=>[(8,iInt ((i:Nat):Int)),(7,.sl 107 i)],λi=>(107,.row ⟨3,1⟩ ((iota i).map eInt))::ckHp u f 4 (z6f i f.types.length),λi=>f.params.toNat-i,λi=>(i:Int)<=f.params,[],0,by show((0:Nat):Int)<=_;omega,Ge,⟨rfl,boq (by simp[y51,z6f];rfl),rwq (by simp[z6f,zf1];exact .inr rfl),Gc⟩,?_⟩⟩;intro i hi;have hsl:=z5c (k:=i) (n:=f.types.length) oM0;refine z00 (λhc=>?_) λhc=>?_
  ·have hlt:(i:Int)<f.params:=Aq hc;have hss:=yq6 (k:=i) (n:=f.types.length) oM0;exact⟨rfl,VIdR.mk (i:=i) (by rw[A8];omega) rfl ⟨i,0,_,rfl,rfl,z02 (f:=zf1) (by rw[A5 (show i<(z6f i f.types.length).length by omega)]),by simp[zf1],hn i,z3f rfl,by simp;omega,z01 rfl oM0,i+1,(by show f.params.toNat-(i+1)<f.params.toNat-i;omega),(by show((i+1:Nat):Int)<=f.params;omega),⟨rfl,slq sI0,Gc⟩,⟨rwq (by rw[<- j0e];simp[eInt]),boq (by rw[<- hss];simp[y51]),rwq (by rw[<- hss];simp[zf1,Bq]),Gc⟩,rfl,rfl,rfl,rfl⟩⟩
  ·have hge:¬(i:Int)<f.params:=Am hc;have hi2:i=f.params.toNat:=by omega
   subst hi2;have hL:=j2e u f hg f.body 1 z43 (iota f.params.toNat) (z6f f.params.toNat f.types.length) ⟨by decide,by decide⟩ oM0 (by rw[y0i];omega);exact⟨hn _,[],hL,SubA.same (SubA.same (SubA.same (SubA.cons (sP (z0c _)) (SubA.same SubA.nil)))),Ge,rfl,sI,Gc⟩
inductive Ex where
 |mk (kind op n:Int) (name:ByteArray) (args:List Ex)
inductive St where
 |mk (kind ty:Int) (name:ByteArray) (args:List Ex) (thn els:List St)
structure Pm where
 name:ByteArray
 ty:Int
structure Fu where
 name:ByteArray
 ty:Int
 params:List Pm
 body:List St
structure Pg where
 arrays:List Ar
 funcs:List Fu
structure Tk where
 kind:Int
 text:ByteArray
 line:Int
mutual
def Ex.enc:Ex->List PV
 |.mk kind op n name args=>[vInt kind,vInt op,vInt n,vStr name,.seq (Ex.encL args)]
def Ex.encL:List Ex->List (List PV)
 |[]=>[]
 |x::r=>x.enc::Ex.encL r
end
theorem Ex.encL_eq:∀l,Ex.encL l=l.map Ex.enc
 |[]=>rfl
 |x::r=>by simp[Ex.encL,Ex.encL_eq r]
def exs(l:List Ex):PV:=.seq (l.map Ex.enc)
def Ex.kind:Ex->Int|.mk k _ _ _ _=>k
def Ex.op:Ex->Int|.mk _ o _ _ _=>o
def Ex.n:Ex->Int|.mk _ _ n _ _=>n
def Ex.name:Ex->ByteArray|.mk _ _ _ s _=>s
def Ex.args:Ex->List Ex|.mk _ _ _ _ a=>a
theorem Ex.enc_eq(x:Ex):x.enc=[vInt x.kind,vInt x.op,vInt x.n,vStr x.name,exs x.args]:=by
 cases x
 simp[Ex.enc,Ex.encL_eq,exs,Ex.kind,Ex.op,Ex.n,Ex.name,Ex.args]
theorem z1b{l:List Ex}{i:Nat}{x:Ex}(h:l[i]?=some x):(l.map Ex.enc)[i]?=some [vInt x.kind,vInt x.op,vInt x.n,vStr x.name,exs x.args]:=by
 simp[h,Ex.enc_eq]
def exv(x:Ex):PV:=.agg [vInt x.kind,vInt x.op,vInt x.n,vStr x.name,exs x.args]
mutual
def St.enc:St->List PV
 |.mk kind ty name args thn els=>[vInt kind,vInt ty,vStr name,exs args,.seq (St.encL thn),.seq (St.encL els)]
def St.encL:List St->List (List PV)
 |[]=>[]
 |x::r=>x.enc::St.encL r
end
theorem St.encL_eq:∀l,St.encL l=l.map St.enc
 |[]=>rfl
 |x::r=>by simp[St.encL,St.encL_eq r]
def sts(l:List St):PV:=.seq (l.map St.enc)
def St.kind:St->Int|.mk k _ _ _ _ _=>k
def St.ty:St->Int|.mk _ t _ _ _ _=>t
def St.name:St->ByteArray|.mk _ _ s _ _ _=>s
def St.args:St->List Ex|.mk _ _ _ a _ _=>a
def St.thn:St->List St|.mk _ _ _ _ t _=>t
def St.els:St->List St|.mk _ _ _ _ _ e=>e
theorem St.enc_eq(x:St):x.enc=[vInt x.kind,vInt x.ty,vStr x.name,exs x.args,sts x.thn,sts x.els]:=by
 cases x
 simp[St.enc,St.encL_eq,sts,St.kind,St.ty,St.name,St.args,St.thn,St.els]
theorem zj2{l:List St}{i:Nat}{x:St}(h:l[i]?=some x):(l.map St.enc)[i]?=some [vInt x.kind,vInt x.ty,vStr x.name,exs x.args,sts x.thn,sts x.els]:=by
 simp[h,St.enc_eq]
def stv(x:St):PV:=.agg [vInt x.kind,vInt x.ty,vStr x.name,exs x.args,sts x.thn,sts x.els]
def Pm.enc(p:Pm):List PV:=[vStr p.name,vInt p.ty]
def pms(l:List Pm):PV:=.seq (l.map Pm.enc)
def Fu.enc(f:Fu):List PV:=[vStr f.name,vInt f.ty,pms f.params,sts f.body]
def fus(l:List Fu):PV:=.seq (l.map Fu.enc)
def Pg.enc(p:Pg):PV:=.agg [arrs p.arrays,fus p.funcs]
def Tk.enc(t:Tk):List PV:=[vInt t.kind,vStr t.text,vInt t.line]
def tks(l:List Tk):PV:=.seq (l.map Tk.enc)
mutual
def xz:Ex->Nat
 |.mk _ _ _ _ args=>1+xzL args
def xzL:List Ex->Nat
 |[]=>0
 |x::r=>xz x+xzL r
end
mutual
def sz:St->Nat
 |.mk _ _ _ args thn els=>1+xzL args+szL thn+szL els
def szL:List St->Nat
 |[]=>0
 |x::r=>sz x+szL r
end
theorem j4q:∀a b:List Ex,xzL (a++b)=xzL a+xzL b
 |[],b=>by simp[xzL]
 |x::r,b=>by simp only[Ba,xzL,j4q r b];omega
theorem j3j:∀a b:List St,szL (a++b)=szL a+szL b
 |[],b=>by simp[szL]
 |x::r,b=>by simp only[Ba,szL,j3j r b];omega
theorem xz_pos(x:Ex):1<=xz x:=by cases x;simp only[xz];omega
theorem sz_pos(x:St):1<=sz x:=by cases x;simp only[sz];omega
theorem za9:∀l:List Ex,l.length<=xzL l
 |[]=>Ab _
 |x::r=>by
  have:=xz_pos x;have:=za9 r;simp only[Aj,xzL];omega
theorem z8d:∀l:List St,l.length<=szL l
 |[]=>Ab _
 |x::r=>by
  have:=sz_pos x;have:=z8d r;simp only[Aj,szL];omega
def maxI:Int:=9223372036854775807
def qVal:Int->List UInt8->Int
 |n,[]=>n
 |n,b::r=>if n > (maxI-((b.toNat:Int)-48)).tdiv 10 then -1 else qVal (n*10+((b.toNat:Int)-48)) r
def zg6(s:ByteArray):Int :=
 if qVal 0 s.data.toList = -1 then -1 else if s.data.toList=[]∨(s.data.toList.length > 1/\s.data.toList.head? = some 48)then -1 else qVal 0 s.data.toList
def zk6(s:ByteArray):Bool:=s.data.toList.all (λb=>z3w b.toNat)&&decide (zg6 s≥0)
def sgL:List ByteArray:=[⟨#[62,62,62]⟩,⟨#[60,60]⟩,⟨#[62,62]⟩,⟨#[60,61]⟩,⟨#[62,61]⟩,⟨#[61,61]⟩,⟨#[33,61]⟩,⟨#[38,38]⟩,⟨#[124,124]⟩,⟨#[40]⟩,⟨#[41]⟩,⟨#[123]⟩,⟨#[125]⟩,⟨#[91]⟩,⟨#[93]⟩,⟨#[44]⟩,⟨#[59]⟩,⟨#[61]⟩,⟨#[60]⟩,⟨#[62]⟩,⟨#[43]⟩,⟨#[45]⟩,⟨#[42]⟩,⟨#[47]⟩,⟨#[37]⟩,⟨#[38]⟩,⟨#[124]⟩,⟨#[94]⟩,⟨#[126]⟩,⟨#[33]⟩]
def sgIs(s w:ByteArray):Bool:=decide (w.size<=s.size)&&(s.extract 0 w.size).toList==w.toList
def sgGo(s:ByteArray):List ByteArray->ByteArray
 |[]=>⟨#[]⟩
 |w::r=>if sgIs s w then w else sgGo s r
def sgOf(s:ByteArray):ByteArray:=sgGo s sgL
theorem zz0(s:ByteArray):∀l:List ByteArray,sgGo s l=⟨#[]⟩∨(sgGo s l∈l/\(sgGo s l).size<=s.size)
 |[]=>.inl rfl
 |w::r=>by
  simp only[sgGo];split
  ·rename_i h;simp only[sgIs,A0,Bi]at h;exact .inr ⟨.head _,h.1⟩
  ·rcases zz0 s r with h|h
   ·exact .inl h
   ·exact .inr ⟨.tail _ h.1,h.2⟩
def z4c(s:ByteArray)(at_:Nat):Nat:=((s.data.toList.drop at_).takeWhile isLD).length
def zq3(s:ByteArray)(at_:Nat):Nat:=at_+((s.data.toList.drop at_).takeWhile λb=>b != 10).length
inductive TStep where
 |skip (line at_:Nat)
 |tok (t:Tk) (at_:Nat)
 |bad (line:Nat)
def z39(b:UInt8)(w:ByteArray):Int:=if z1h w then 2 else if z4j b.toNat then 1 else 0
def zs9(s:ByteArray)(line at_:Nat)(b:UInt8):TStep :=
 if b=10 then .skip (line+1) (at_+1)
 else if b=32∨b=9∨b=13 then .skip line (at_+1)
 else if b=47/\s.data.toList[at_+1]?=some 47 then .skip line (zq3 s at_)
 else if z4c s at_ > 0 then
  if (z39 b (s.extract at_ (at_+z4c s at_))=1/\z0k (s.extract at_ (at_+z4c s at_))=false)∨(z39 b (s.extract at_ (at_+z4c s at_))=0/\zk6 (s.extract at_ (at_+z4c s at_))=false)then .bad line
  else .tok ⟨z39 b (s.extract at_ (at_+z4c s at_)),s.extract at_ (at_+z4c s at_),line⟩ (at_+z4c s at_)
 else if (sgOf (s.extract at_ s.size)).size=0 then .bad line
 else .tok ⟨2,sgOf (s.extract at_ s.size),line⟩ (at_+(sgOf (s.extract at_ s.size)).size)
def toks(s:ByteArray):Nat->Nat->Nat->List Tk->List Tk×Int×Int
 |0,_,_,_=>([],0,0)
 |N+1,line,at_,out=>match s.data.toList[at_]? with
  |none=>(out++[⟨3,⟨#[]⟩,line⟩],0,0)
  |some b=>match zs9 s line at_ b with
   |.skip line' at'=>toks s N line' at' out
   |.tok t at'=>toks s N line at' (out++[t])
   |.bad l=>([],20,l)
def z1t(s:ByteArray):List Tk×Int×Int:=if s.size > 100000 then([],2,0)else toks s (s.size+1) 1 0 []
theorem j1v(s:ByteArray)(a:Nat):a+z4c s a<=s.size∨z4c s a=0:=by
 unfold z4c;have h:=Ez (p:=isLD) (l:=s.data.toList.drop a);have h1:=h.length_le;rw[Ei]at h1;have h2:s.data.toList.length=s.size:=Bo;omega
theorem y3l{s:ByteArray}{a:Nat}{b:UInt8}(h:s.data.toList[a]?=some b)(hb:b≠10):a<zq3 s a/\zq3 s a<=s.size:=by
 have hlt:=(A4.1 h).1;have hd:s.data.toList.drop a=b::s.data.toList.drop (a+1):=by
  rw[Cu hlt,(A4.1 h).2]
 have h2:s.data.toList.length=s.size:=Bo;unfold zq3;rw[hd,Dy,if_pos (by simpa using hb)];have h1:=(Ez (p:=λb:UInt8=>b != 10) (l:=s.data.toList.drop (a+1))).length_le;rw[Ei]at h1;simp only[Aj];omega
theorem tStep_at{s:ByteArray}{line a:Nat}{b:UInt8}(h:s.data.toList[a]?=some b) :
 match zs9 s line a b with
 |.skip _ at'=>a<at'/\at'<=s.size
 |.tok t at'=>a<at'/\at'<=s.size/\t.kind≠3/\(t.kind=0->zk6 t.text=true)
 |.bad _=>True:=by
 have hlt:=(A4.1 h).1;have h2:s.data.toList.length=s.size:=Bo;unfold zs9
 by_cases c1:b=10
 ·rw[if_pos c1];exact⟨by omega,by omega⟩
 rw[if_neg c1]
 by_cases c2:b=32∨b=9∨b=13
 ·rw[if_pos c2];exact⟨by omega,by omega⟩
 rw[if_neg c2]
 by_cases c3:b=47/\s.data.toList[a+1]?=some 47
 ·rw[if_pos c3];exact y3l h c1
 rw[if_neg c3]
 by_cases c4:z4c s a > 0
 ·rw[if_pos c4];have h3:=j1v s a;generalize s.extract a (a+z4c s a)=w
  by_cases c5:(z39 b w=1/\z0k w=false)∨(z39 b w=0/\zk6 w=false)
  ·rw[if_pos c5];trivial
  ·rw[if_neg c5];refine⟨by omega,by omega,?_,λe=>?_⟩
   ·show z39 b w≠3;unfold z39;split
    ·decide
    ·split<;>decide
   ·have e':z39 b w=0:=e
    cases hq:zk6 w with
    |true=>rfl
    |false=>exact absurd (.inr ⟨e',hq⟩) c5
 rw[if_neg c4]
 by_cases c6:(sgOf (s.extract a s.size)).size=0
 ·rw[if_pos c6];trivial
 ·rw[if_neg c6];have h3:=zz0 (s.extract a s.size) sgL;have h4:(s.extract a s.size).size=s.size-a:=by simp[Ci]
  refine⟨by omega,?_,by show(2:Int)≠3;decide,λe=>absurd e (by show(2:Int)≠0;decide)⟩;rcases h3 with h3|h3
  ·exact absurd (by unfold sgOf;rw[h3];rfl) c6
  ·have:=h3.2;unfold sgOf;omega
def TkOk(T:List Tk):Prop:=∃init e,T=init++[e]/\e.kind=3/\(∀t∈init,t.kind≠3/\(t.kind=0->zk6 t.text=true))
theorem yg9(s:ByteArray):∀(N line a:Nat)(out:List Tk),s.size<N+a->a<=s.size->out.length<=a->(∀t∈out,t.kind≠3/\(t.kind=0->zk6 t.text=true))->(toks s N line a out).2.1=0->TkOk (toks s N line a out).1/\(toks s N line a out).1.length<=s.size+1
 |0,_,a,_,h,h',_,_,_=>by omega
 |N+1,line,a,out,hN,ha,hl,ho,h0=>by
  unfold toks at h0⊢
  cases hb:s.data.toList[a]? with
  |none =>
   refine⟨⟨out,⟨3,⟨#[]⟩,line⟩,rfl,rfl,ho⟩,?_⟩;show(out++[_]).length<=_;rw[B4];show out.length+1<=_
   omega
  |some b =>
   rw[hb]at h0;have hs:=tStep_at (line:=line) hb;dsimp only at h0⊢;generalize zs9 s line a b=st at hs h0
   cases st with
   |skip l2 a2=>exact yg9 s N l2 a2 out oM0 hs.2 oM0 ho h0
   |tok t a2 =>
    refine yg9 s N line a2 (out++[t]) oM0 hs.2.1 (by rw[B4];show out.length+1<=_;omega) (λt' ht'=>?_) h0;rcases B3.1 ht' with ht'|ht'
    ·exact ho t' ht'
    ·rw[Ah.1 ht'];exact hs.2.2
   |bad l=>exact absurd (show(20:Int)=0 from h0) dC0
theorem y2a{s:ByteArray}(h:(z1t s).2.1=0):TkOk (z1t s).1/\(z1t s).1.length<=100001:=by
 unfold z1t at h⊢
 by_cases hs:s.size > 100000
 ·rw[if_pos hs]at h;exact absurd h dC0
 ·rw[if_neg hs]at h⊢;obtain⟨h1,h2⟩:=yg9 s (s.size+1) 1 0 [] oM0 (A9 _) (A9 _) (λt ht=>by simp at ht) h;exact⟨h1,by omega⟩
theorem z9j(n:Int):SC Tryz.prog 73 [.pv (vU8 n)] [] (λ_=>False) (iBool (z4j n)) []:=by
 refine SC.anyR (SC.vc tb {} [] Tryz.func73 rfl rfl ?_);unfold z4j;refine z00 (λh1=>z00 (λh2=>⟨sE (by rw[h1,h2];rfl),Gc⟩) λh2=>?_) λh1=>?_
 ·refine z00 (λh3=>z00 (λh4=>⟨sE (by rw[h1,h2,h3,h4];rfl),Gc⟩) λh4=>⟨sE (by rw[h1,h2,h3,h4];rfl),Gc⟩) λh3=>⟨sE (by rw[h1,h2,h3];rfl),Gc⟩
 ·refine z00 (λh3=>z00 (λh4=>⟨sE (by rw[h1,h3,h4];rfl),Gc⟩) λh4=>⟨sE (by rw[h1,h3,h4];rfl),Gc⟩) λh3=>⟨sE (by rw[h1,h3];rfl),Gc⟩
theorem zr8(n:Int):SC Tryz.prog 74 [.pv (vU8 n)] [] (λ_=>False) (iBool (z3w n)) []:=by
 refine SC.anyR (SC.vc tb {} [] Tryz.func74 rfl rfl ?_);unfold z3w;exact z00 (λh1=>⟨sE (by rw[h1];rfl),Gc⟩) λh1=>⟨sE (by rw[h1];rfl),Gc⟩
theorem y1q(s:ByteArray):SC Tryz.prog 75 [iStr s] [] (λ_=>False) (iBool (z1h s)) []:=by
 refine SC.anyR (SC.vc tb {} [] Tryz.func75 rfl rfl ?_);have N:∀{b:Bool}{P:Prop},b=true->b=false->P:=λh g=>by rw[h]at g;cases g
 have T:∀{b:Bool},b=true->SubI (iBool true) (iBool b):=λh=>sE (by rw[h]);exact z00 (λh=>z00 (λ_=>⟨T (by unfold z1h;rw[h];simp only[Bg,B6]),Gc⟩) λg=>N h g) λh1=>z00 (λh=>z00 (λ_=>⟨T (by unfold z1h;rw[h];simp only[Bg,B6]),Gc⟩) λg=>N h g) λh2=>z00 (λh=>z00 (λ_=>⟨T (by unfold z1h;rw[h];simp only[Bg,B6]),Gc⟩) λg=>N h g) λh3=>z00 (λh=>z00 (λ_=>⟨T (by unfold z1h;rw[h];simp only[Bg,B6]),Gc⟩) λg=>N h g) λh4=>z00 (λh=>z00 (λ_=>⟨T (by unfold z1h;rw[h];simp only[Bg,B6]),Gc⟩) λg=>N h g) λh5=>z00 (λh=>z00 (λ_=>⟨T (by unfold z1h;rw[h];simp only[Bg,B6]),Gc⟩) λg=>N h g) λh6=>z00 (λh=>z00 (λ_=>⟨T (by unfold z1h;rw[h];simp only[Bg,B6]),Gc⟩) λg=>N h g) λh7=>z00 (λh=>z00 (λ_=>⟨T (by unfold z1h;rw[h];simp only[Bg,B6]),Gc⟩) λg=>N h g) λh8=>z00 (λh=>z00 (λ_=>⟨T (by unfold z1h;rw[h];simp only[Bg,B6]),Gc⟩) λg=>N h g) λh9=>z00 (λh=>z00 (λ_=>⟨T (by unfold z1h;rw[h];simp only[Bg,B6]),Gc⟩) λg=>N h g) λh10=>z00 (λh=>z00 (λ_=>⟨T (by unfold z1h;rw[h];simp only[Bg,B6]),Gc⟩) λg=>N h g) λh11=>z00 (λh=>z00 (λ_=>⟨T (by unfold z1h;rw[h];simp only[Bg,B6]),Gc⟩) λg=>N h g) λh12=>z00 (λh=>z00 (λ_=>⟨T (by unfold z1h;rw[h];simp only[Bg,B6]),Gc⟩) λg=>N h g) λh13=>z00 (λh=>z00 (λ_=>⟨T (by unfold z1h;rw[h];simp only[Bg,B6]),Gc⟩) λg=>N h g) λh14=>z00 (λh=>z00 (λ_=>⟨T (by unfold z1h;rw[h];simp only[Bg,B6]),Gc⟩) λg=>N h g) λh15=>z00 (λh=>z00 (λ_=>⟨T (by unfold z1h;rw[h];simp only[Bg,B6]),Gc⟩) λg=>N h g) λh16=>z00 (λh=>z00 (λ_=>⟨T (by unfold z1h;rw[h];simp only[Bg,B6]),Gc⟩) λg=>N h g) λh17=>z00 (λh=>⟨T (by unfold z1h;rw[h];simp only[Bg,B6]),Gc⟩) λh18=>⟨sE (by unfold z1h;rw[h1,h2,h3,h4,h5,h6,h7,h8,h9,h10,h11,h12,h13,h14,h15,h16,h17,h18];rfl),Gc⟩
theorem q64{m n z:Int}(hn:n≠0)(h:m.tdiv n=z)(h1:-9223372036854775808<=z/\z<=9223372036854775807):z3i .quo .i64 m n=some (.int .i64 z):=by
 subst h;simp only[z3i];rw[if_neg hn,Ct _ h1]
theorem y65(s:ByteArray)(h:s.data.toList.all (λb=>z3w b.toNat)=true)(hs:s.size<=1073741824):SC Tryz.prog 82 [.pv (.val (.string s))] [] (λk=>k∈[]) (iInt (zg6 s)) []:=by
 refine SC.vc tb {} [] Tryz.func82 rfl rfl ?_;refine⟨Int×Nat,λa=>[(3,iInt a.1),(4,iInt (a.2:Nat))],λ_=>[],λa=>s.size-a.2,λa=>a.2<=s.size/\0<=a.1/\a.1<=maxI/\qVal 0 s.data.toList=qVal a.1 (s.data.toList.drop a.2),[],(0,0),⟨A9 _,by decide,by decide,rfl⟩,Ge,Gc,?_⟩;rintro⟨n,k⟩ ⟨hk,hn0,hn1,hq⟩;refine z00 (λhc=>?_) λhc=>?_
 ·obtain⟨b,hb⟩:∃b,s.data.toList[k]?=some b:=⟨s.data.toList[k]'(by simpa using Aq hc),A5 _⟩;have hd:s.data.toList.drop k=b::s.data.toList.drop (k+1):=by
   obtain⟨h1,h2⟩:=A4.1 hb;rw[Cu h1,h2]
  have hdig:=Bc.1 h b (Ae hb);simp only[z3w,A0,Bi]at hdig;have hlt:k<s.size:=by simpa using Aq hc
  rw[hd]at hq;simp only[qVal]at hq;unfold maxI at hn1 hq;have hw:IntKind.i64.wrap (b.toNat:Int)=(b.toNat:Int):=Ct _ oM0;have hb2:s[k]?=some b:=by
   rw[y35 (by rw[z2d];exact(A4.1 hb).1)];simp only[z2d];rw[(A4.1 hb).2]
  generalize hdd:(b.toNat:Int)-48=d at hq;have hd9:0<=d/\d<=9:=by omega
  have hdv:(9223372036854775807-d).tdiv 10=(9223372036854775807-d)/10:=Ed oM0;rw[hdv]at hq;refine⟨hb2,rfl,z49 (z:=d) (by rw[hw];exact hdd) oM0,z49 rfl oM0,q64 (z:=(9223372036854775807-d)/10) dC0 hdv oM0,z00 (λh2=>?_) λh2=>?_⟩
  ·refine⟨sE ?_,Gc⟩;have h2:=Aq h2;unfold zg6;rw[hq,if_pos h2];rfl
  ·have h2:=Am h2;rw[if_neg h2]at hq;refine⟨y57 rfl oM0,z01 (z:=n*10+d) rfl oM0,z01 rfl (by dsimp only;omega),(n*10+d,k+1),z03 hlt,⟨hlt,by show 0<=n*10+d;omega,by show n*10+d<=maxI;unfold maxI;omega,hq⟩,Ge,Gc,rfl,rfl,rfl,rfl⟩
 ·have hge:s.size<=k:=by simpa using Am hc
  have hq2:qVal 0 s.data.toList=n:=by
   rw[hq,show s.data.toList.drop k=[]from A7 (by simpa using hge)];rfl
  refine z00 (λhe=>?_) λhe=>?_
  ·refine⟨sE ?_,Gc⟩;have he:s.toList=[]:=by simpa using he
   rw[z2d]at he;unfold zg6;simp[he]
  ·have he:s.toList≠[]:=by simpa using he
   rw[z2d]at he;have hn:n ≠ -1:=by dsimp only at hn0;omega
   have hl:s.data.toList.length=s.size:=Bo;obtain⟨b0,r0,hs0⟩:=C3 he;have hb0:s[0]?=some b0:=by
    rw[y35 (by rw[z2d,hs0];simp)];simp[z2d,hs0]
   have hval:zg6 s=if s.size > 1/\b0=48 then -1 else n:=by
    unfold zg6;rw[hq2,if_neg hn,hl,hs0];simp
   refine z00 (λh1=>⟨hb0,rfl,z00 (λh2=>?_) λh2=>?_⟩) λh1=>?_
   ·refine⟨sE ?_,Gc⟩;have h3:b0=48:=UInt8.toNat_inj.1 (by have:=eq_of_beq h2;show b0.toNat=48;omega);rw[hval,if_pos ⟨by have:=Aq h1;omega,h3⟩]
   ·refine⟨sE ?_,Gc⟩;have h3:b0≠48:=λe=>by subst e;simp at h2
    rw[hval,if_neg (λh=>h3 h.2)]
   ·refine⟨sE ?_,Gc⟩;rw[hval,if_neg (λh=>by have:=Am h1;omega)]
theorem zt1{s:ByteArray}{k:Nat}(h:decide ((k:Int)<(s.size:Int))=true):∃b,s[k]?=some b/\s.data.toList[k]?=some b/\s.data.toList.drop k=b::s.data.toList.drop (k+1)/\k<s.size/\b∈s.data.toList:=by
 have hlt:k<s.size:=by simpa using Aq h
 obtain⟨b,hb⟩:∃b,s.data.toList[k]?=some b:=⟨s.data.toList[k]'(by simpa using hlt),A5 _⟩;obtain⟨h1,h2⟩:=A4.1 hb;refine⟨b,?_,hb,by rw[Cu h1,h2],hlt,Ae hb⟩;rw[y35 (by rw[z2d];exact h1)];simp only[z2d];rw[h2]
theorem zo1{s:ByteArray}{k:Nat}(h:decide ((k:Int)<(s.size:Int))=false):s.data.toList.drop k=[] :=
 A7 (by have h2:s.data.toList.length=s.size:=Bo;have:=Am h;omega)
theorem j2b(s:ByteArray)(hs:s.size<=1073741824):SC Tryz.prog 76 [.pv (.val (.string s))] [] (λk=>k∈[]) (iBool (zk6 s)) []:=by
 refine SC.vc tb {} [] Tryz.func76 rfl rfl ?_;refine⟨Nat,λk=>[(3,iInt (k:Nat))],λ_=>[],λk=>s.size-k,λk=>k<=s.size/\s.data.toList.all (λb=>z3w b.toNat)=(s.data.toList.drop k).all (λb=>z3w b.toNat),[],0,⟨A9 _,rfl⟩,Gd,Gc,?_⟩;rintro k ⟨hk,hq⟩;refine z00 (λhc=>?_) λhc=>?_
 ·obtain⟨b,h1,h2,h3,h4,h5⟩:=zt1 hc;rw[h3,D0]at hq;refine⟨h1,rfl,[],zr8 _,sR,Gc,rfl,z00 (λhd=>?_) λhd=>?_⟩
  ·have hd:z3w b.toNat=false:=by simpa using hd
   refine⟨sE ?_,Gc⟩;unfold zk6;rw[hq,hd];rfl
  ·have hd:z3w b.toNat=true:=by simpa using hd
   rw[hd]at hq;exact⟨z01 rfl oM0,k+1,z03 h4,⟨h4,hq⟩,Gd,Gc,rfl,rfl,rfl,rfl⟩
 ·rw[zo1 hc]at hq;refine⟨[],y65 s hq hs,sR,Gc,rfl,sE ?_,Gc⟩;unfold zk6;rw[hq];rfl
def sgEls:List (List PV):=sgL.map λw=>[.val (.string w)]
theorem y99:sgEls.length=30:=rfl
theorem sg_at{k:Nat}(h:k<30):∃w,sgEls[k]?=some [.val (.string w)]/\sgL.drop k=w::sgL.drop (k+1)/\w.size<=3:=by
 obtain⟨w,h1,h2,h3,h4⟩:=z0n (l:=sgL) (k:=k) h;refine⟨w,by unfold sgEls;rw[B9,h1];rfl,h3,?_⟩;have:∀w∈sgL,w.size<=3:=by decide
 exact this w h4
theorem sc_sign(s:ByteArray)(hs:s.size<=1073741824):SC Tryz.prog 77 [.pv (.val (.string s))] [] (λk=>k∈[]) (.pv (.val (.string (sgOf s)))) []:=by
 refine SC.vc tb {} [] Tryz.func77 rfl rfl ?_;refine⟨Nat,λk=>[(4,iInt (k:Nat)),(3,.pv (.seq sgEls))],λ_=>[],λk=>30-k,λk=>k<=30/\sgOf s=sgGo s (sgL.drop k),[],0,⟨A9 _,rfl⟩,Ge,Gc,?_⟩;rintro k ⟨hk,hq⟩;refine z00 (λhc=>?_) λhc=>?_
 ·have hlt:k<30:=by have:=Aq hc;rw[y99]at this;omega
  obtain⟨w,h1,h2,h3⟩:=sg_at hlt;rw[h2]at hq;simp only[sgGo]at hq;refine⟨h1,rfl,z00 (λh4=>?_) λh4=>?_⟩
  ·have h5:w.size<=s.size:=by have:=Aq h4;omega
   refine⟨h1,rfl,w.size,rfl,A9 _,h5,h1,rfl,z00 (λh6=>?_) λh6=>?_⟩
   ·exact⟨h1,rfl,sE (by rw[hq,if_pos (by unfold sgIs;rw[h6];simp[h5])]),Gc⟩
   ·rw[if_neg (by unfold sgIs;rw[h6];simp)]at hq;exact⟨z01 rfl oM0,k+1,z03 hlt,⟨hlt,hq⟩,Ge,Gc,rfl,rfl,rfl,rfl⟩
  ·have h5:¬w.size<=s.size:=by have:=Am h4;omega
   rw[if_neg (by unfold sgIs;simp[h5])]at hq;exact⟨z01 rfl oM0,k+1,z03 hlt,⟨hlt,hq⟩,Ge,Gc,rfl,rfl,rfl,rfl⟩
 ·have hge:k=30:=by have:=Am hc;rw[y99]at this;omega
  subst hge;exact⟨sE (by rw[hq];rfl),Gc⟩
theorem z6k(s:ByteArray):SC Tryz.prog 46 [iStr s] [] (λ_=>False) (iBool (z0k s)) []:=by
 refine SC.anyR (SC.vc tb {} [] Tryz.func46 rfl rfl ?_);have hlen:s.toList.length=s.size:=by rw[z2d];exact Bo
 refine z00 (λh1=>⟨sE ?_,Gc⟩) λh1=>?_
 ·have h1:s.toList=[]:=by simpa using h1
  unfold z0k;rw[h1];rfl
 have h1':s.toList≠[]:=by simpa using h1
 have h1:(s.toList==[])=false:=by simpa using h1'
 refine z00 (λh2=>⟨sE ?_,Gc⟩) λh2=>?_
 ·have:¬(s.size:Int)<=20:=by have:=Aq h2;omega
  unfold z0k;rw[h1,Db this];rfl
 have h2:(s.size:Int)<=20:=by have:=Am h2;omega
 obtain⟨b0,r0,hs0⟩:=C3 h1';have hb0:s[0]?=some b0:=by
  rw[y35 (by rw[hs0];simp)];simp[hs0]
 refine⟨hb0,rfl,[],z9j _,sR,Gc,rfl,z00 (λh3=>⟨sE ?_,Gc⟩) λh3=>?_⟩
 ·have h3:z4j b0.toNat=false:=by simpa using h3
  unfold z0k;rw[hs0];simp[h3]
 have h3:z4j b0.toNat=true:=by simpa using h3
 refine⟨[],y1q s,sR,Gc,rfl,z00 (λh4=>⟨sE ?_,Gc⟩) λh4=>?_⟩
 ·unfold z0k;rw[h4];simp
 have hN:z0k s=s.data.toList.all isLD:=by
  unfold z0k;rw[h1,h4,C8 h2];rw[<- z2d];simp[hs0,h3]
 refine⟨Nat,λk=>[(3,iInt (k:Nat))],λ_=>[],λk=>s.size-k,λk=>k<=s.size/\s.data.toList.all isLD=(s.data.toList.drop k).all isLD,[],0,⟨A9 _,rfl⟩,Gd,Gc,?_⟩;rintro k ⟨hk,hq⟩;refine z00 (λhc=>?_) λhc=>?_
 ·obtain⟨b,g1,g2,g3,g4,g5⟩:=zt1 hc;rw[g3,D0]at hq;refine⟨g1,rfl,[],z9j _,sR,Gc,rfl,z00 (λh5=>⟨g1,rfl,[],zr8 _,sR,Gc,rfl,z00 (λh6=>⟨sE ?_,Gc⟩) λh6=>?_⟩) λh5=>?_⟩
  ·rw[hN,hq];unfold isLD;rw[show z4j b.toNat=false by simpa using h5,show z3w b.toNat=false by simpa using h6];rfl
  ·have h7:isLD b=true:=by unfold isLD;rw[show z3w b.toNat=true by simpa using h6];simp
   rw[h7]at hq;exact⟨z01 rfl oM0,k+1,z03 g4,⟨g4,hq⟩,Gd,Gc,rfl,rfl,rfl,rfl⟩
  ·have h7:isLD b=true:=by unfold isLD;rw[show z4j b.toNat=true by simpa using h5];simp
   rw[h7]at hq;exact⟨z01 rfl oM0,k+1,z03 g4,⟨g4,hq⟩,Gd,Gc,rfl,rfl,rfl,rfl⟩
 ·rw[zo1 hc]at hq;exact⟨sE (by rw[hN,hq];rfl),Gc⟩
theorem y8u(u:Un):SC Tryz.prog 24 [.pv u.enc] [] (λ_=>False) (iBool (z1e u)) []:=by
 refine SC.anyR (SC.vc tb { gh:=[(4,[.len 10]),(10,[.len 51])] } [] Tryz.func24 rfl rfl ?_);refine⟨Nat,λk=>[(3,iInt k)],λ_=>[],λk=>u.arrays.length-k,λk=>k<=u.arrays.length/\r8gA u u.arrays 0=r8gA u (u.arrays.drop k) k,[],0,⟨A9 _,rfl⟩,Gd,Gc,?_⟩;rintro k ⟨hk,hA⟩;refine z00 (λhc=>?_) λhc=>?_
 ·have hlt:=z0y (f:=Ar.enc) rfl hc;intro hl;simp only[A8]at hl;obtain⟨a,ha,_,hd,_⟩:=z0n hlt;rw[hd,show r8gA u (a::u.arrays.drop (k+1)) k=(gArr u a k&&r8gA u (u.arrays.drop (k+1)) (k+1))from rfl]at hA;have bad:gArr u a k=false->SubI (iBool false) (iBool (z1e u)):=λh=>sE (by unfold z1e;rw[hA,h];rfl);have hNm:=z6k a.name
  cases hN:z0k a.name with
  |false=>rw[hN]at hNm;exact⟨z02 (f:=Ar.enc) ha,rfl,[],hNm,sR,Gc,rfl,bad (by unfold gArr;rw[hN];rfl),Gc⟩
  |true =>
   rw[hN]at hNm;refine⟨z02 (f:=Ar.enc) ha,rfl,[],hNm,sR,Gc,rfl,z00 (λh1=>⟨bad (by unfold gArr;rw[hN,show decide (a.size<1)=true from h1];rfl),Gc⟩) λh1=>z00 (λh2=>⟨bad (by unfold gArr;rw[hN,show decide (a.size<1)=false from h1,show decide (a.size > 1000)=true from h2];rfl),Gc⟩) λh2=>⟨[],z0d u a.name,sR,Gc,rfl,z00 (λh3=>?_) λh3=>⟨[],z3t u a.name,sR,Gc,rfl,z00 (λh4=>?_) λh4=>?_⟩⟩⟩
   ·have q3:(z0g a.name u.arrays 0==(k:Int))=false:=by simpa using h3
    exact⟨bad (by unfold gArr;rw[hN,show decide (a.size<1)=false from h1,show decide (a.size > 1000)=false from h2,q3];rfl),Gc⟩
   ·have q3:(z0g a.name u.arrays 0==(k:Int))=true:=by simpa using h3
    exact⟨bad (by unfold gArr;rw[hN,show decide (a.size<1)=false from h1,show decide (a.size > 1000)=false from h2,q3,show decide (z05 a.name u.flows 0≥0)=true from h4];rfl),Gc⟩
   ·have q3:(z0g a.name u.arrays 0==(k:Int))=true:=by simpa using h3
    have good:gArr u a k=true:=by unfold gArr;rw[hN,show decide (a.size<1)=false from h1,show decide (a.size > 1000)=false from h2,q3,show decide (z05 a.name u.flows 0≥0)=false from h4];rfl
    exact⟨z01 rfl oM0,k+1,z03 hlt,⟨hlt,by rw[hA,good];rfl⟩,Gd,Gc,rfl,rfl,rfl,rfl⟩
 ·rw[A7 (z0z (f:=Ar.enc) rfl hc),show r8gA u [] k=true from rfl]at hA;refine⟨Nat,λk=>[(5,iInt k)],λ_=>[],λk=>u.flows.length-k,λk=>k<=u.flows.length/\r8gF u u.flows 0=r8gF u (u.flows.drop k) k,[],0,⟨A9 _,rfl⟩,Gd,Gc,?_⟩;rintro k ⟨hk,hF⟩;refine z00 (λhc=>?_) λhc=>?_
  ·have hlt:=z0y (f:=Fl.enc) rfl hc;intro hl;simp only[A8]at hl;obtain⟨f,hf,_,hd,_⟩:=z0n hlt;rw[hd,show r8gF u (f::u.flows.drop (k+1)) k=(gFlw u f k&&r8gF u (u.flows.drop (k+1)) (k+1))from rfl]at hF;have bad:gFlw u f k=false->SubI (iBool false) (iBool (z1e u)):=λh=>sE (by unfold z1e;rw[hA,hF,h];rfl);have hNm:=z6k f.name
   cases hN:z0k f.name with
   |false=>rw[hN]at hNm;exact⟨z02 (f:=Fl.enc) hf,rfl,[],hNm,sR,Gc,rfl,bad (by unfold gFlw;rw[hN];rfl),Gc⟩
   |true =>
    rw[hN]at hNm;have tail:∀(q1:(z05 f.name u.flows 0==(k:Int))=true) (q2:(f.ty==1||f.ty==2)=true),gFlw u f k=(!decide (f.params<0) && !decide (f.params > f.types.length)):=λq1 q2=>by unfold gFlw;rw[hN,q1,q2];rfl
    refine⟨z02 (f:=Fl.enc) hf,rfl,[],hNm,sR,Gc,rfl,[],z3t u f.name,sR,Gc,rfl,z00 (λh1=>?_) λh1=>?_⟩
    ·have q1:(z05 f.name u.flows 0==(k:Int))=false:=by simpa using h1
     exact⟨bad (by unfold gFlw;rw[hN,q1];rfl),Gc⟩
    ·have q1:(z05 f.name u.flows 0==(k:Int))=true:=by simpa using h1
     refine z00 (λh2=>z00 (λh3=>?_) λh3=>?_) λh2=>?_
     ·have e2:(f.ty==1)=false:=by simpa using h2
      have e3:(f.ty==2)=false:=by simpa using h3
      exact⟨bad (by unfold gFlw;rw[hN,q1,e2,e3];rfl),Gc⟩
     ·have e3:(f.ty==2)=true:=by simpa using h3
      have T:=tail q1 (by rw[e3,Bg]);refine z00 (λh4=>⟨bad (by rw[T,show decide (f.params<0)=true from h4];rfl),Gc⟩) λh4=>z00 (λh5=>⟨bad (by rw[T,show decide (f.params<0)=false from h4,show decide (f.params > f.types.length)=true by simpa using h5];rfl),Gc⟩) λh5=>?_;have good:gFlw u f k=true:=by rw[T,show decide (f.params<0)=false from h4,show decide (f.params > f.types.length)=false by simpa using h5];rfl
      exact⟨z01 rfl oM0,k+1,z03 hlt,⟨hlt,by rw[hF,good];rfl⟩,Gd,Gc,rfl,rfl,rfl,rfl⟩
     ·have e2:(f.ty==1)=true:=by simpa using h2
      have T:=tail q1 (by rw[e2,B6]);refine z00 (λh4=>⟨bad (by rw[T,show decide (f.params<0)=true from h4];rfl),Gc⟩) λh4=>z00 (λh5=>⟨bad (by rw[T,show decide (f.params<0)=false from h4,show decide (f.params > f.types.length)=true by simpa using h5];rfl),Gc⟩) λh5=>?_;have good:gFlw u f k=true:=by rw[T,show decide (f.params<0)=false from h4,show decide (f.params > f.types.length)=false by simpa using h5];rfl
      exact⟨z01 rfl oM0,k+1,z03 hlt,⟨hlt,by rw[hF,good];rfl⟩,Gd,Gc,rfl,rfl,rfl,rfl⟩
  ·rw[A7 (z0z (f:=Fl.enc) rfl hc),show r8gF u [] k=true from rfl]at hF;have hG:z1e u=z9x u:=by unfold z1e;rw[hA,hF];rfl
   rw[hG];refine⟨[],z3t u z0r,sR,Gc,rfl,?_⟩
   cases hp:decide (z05 z0r u.flows 0≥0)with
   |false=>exact z00 (λh=>absurd (hp.symm.trans h) dC0) λ_=>⟨sE (by unfold z9x;rw[hp];rfl),Gc⟩
   |true =>
    have h0:z05 z0r u.flows 0≥0:=by simpa using hp
    obtain⟨g,hg,_⟩:=ze0 h0;have hD:u.flows.getD (z05 z0r u.flows 0).toNat y7f=g:=by rw[Ax,hg];rfl
    have hi:=z02 (f:=Fl.enc) hg;refine z00 (λ_=>⟨hi,by omega,z00 (λh1=>⟨hi,by omega,sE ?_,Gc⟩) λh1=>⟨sE ?_,Gc⟩⟩) λh=>absurd (hp.symm.trans h) dC0
    ·unfold z9x;rw[hp,hD,show(g.ty==1)=true from h1];rfl
    ·unfold z9x;rw[hp,hD,show(g.ty==1)=false from h1];rfl
theorem z93{u:Un}{f:Fl}(hf:f∈u.flows):lsW f.body<=z0f u:=by
 have h1:=yh9 hf;have h2:=y7u f.body;unfold z0f z0w at *
 omega
theorem y8d(u:Un)(l:List Fl)(i:Nat){f:Fl}(h:l.drop i=f::l.drop (i+1)):z5j u (l.drop i) i=if z5i u f then z5j u (l.drop (i+1)) ((i+1:Nat):Int)else(80,(i:Int)):=by
 rw[h,z5j];rfl
theorem ze4(u:Un)(hW:z0f u<=34000000000):SC Tryz.prog 9 [.pv u.enc] [] (λ_=>False) (.tup [iInt (z16 u).1,iInt (z16 u).2]) []:=by
 refine SC.anyR (SC.vc tb { pb:=[101] } [] Tryz.func9 rfl rfl ?_);have hG:=y8u u;have hw2:u.flows.length<=z0f u:=by unfold z0f;omega
 unfold z16
 cases hh:z1e u
 ·rw[hh]at hG;exact⟨[],hG,sR,Gc,rfl,sI,Gc⟩
 rw[hh]at hG;have hg:=z6o hh;rw[if_pos rfl];refine⟨[],hG,sR,Gc,rfl,Nat,λi=>[(4,iInt ((i:Nat):Int))],λ_=>[],λi=>u.flows.length-i,λi=>i<=u.flows.length/\z5j u u.flows 0=z5j u (u.flows.drop i) i,[],0,⟨A9 _,rfl⟩,Gd,Gc,?_⟩;rintro i ⟨i1,i2⟩;refine z00 (λhc=>?_) λhc=>?_
 ·have hlt:i<u.flows.length:=z0y (f:=Fl.enc) rfl hc;obtain⟨x,x1,x2,x3,x4⟩:=z0n hlt;have hF:=j2c u x hg (B7 (z93 x4) hW);rw[y8d u u.flows i x3]at i2;generalize z5i u x=b at hF i2
  cases b
  ·rw[if_neg dC0]at i2;rw[i2];exact⟨z02 (f:=Fl.enc) x1,rfl,[],hF,sR,Gc,rfl,sI,Gc⟩
  ·rw[if_pos rfl]at i2;exact⟨z02 (f:=Fl.enc) x1,rfl,[],hF,sR,Gc,rfl,z01 rfl oM0,i+1,z03 hlt,⟨hlt,i2⟩,Gd,Gc,rfl,rfl,rfl,rfl⟩
 ·have hge:u.flows.length<=i:=z0z (f:=Fl.enc) rfl hc;rw[i2,A7 hge];exact⟨sI,Gc⟩
theorem y33(u:Un):∀d,
 (∀l a s r,z1u u d l a s=some r->r.2.2.ar.length=s.ar.length)/\(∀x a p s r,z3g u d x a p s=some r->r.2.2.ar.length=s.ar.length) /\
 (∀k p s r,z3x u d k p s=some r->r.2.ar.length=s.ar.length)/\∀x p s r,mSum u d x p s=some r->r.2.ar.length=s.ar.length
 |0=>⟨λ_ _ _ _ h=>by simp[z1u]at h,λ_ _ _ _ _ h=>by simp[z3g]at h,λ_ _ _ _ h=>by simp[z3x]at h,λ_ _ _ _ h=>by simp[mSum]at h⟩
 |d+1=>by
  obtain⟨i1,i2,i3,i4⟩:=y33 u d;refine⟨λl a s r h=>?_,λx a p s r h=>?_,λk p s r h=>?_,λx p s r h=>?_⟩
  ·cases l with
   |nil=>rw[y3p h]
   |cons x l =>
    obtain⟨d1,e,h2⟩:=z77 rfl h;obtain rfl:d1=d:=by omega
    rcases h2 with⟨_,rfl⟩|⟨_,p,r1,_,h3,h4⟩
    ·exact Aa List.length (zl3 s)
    ·have E1:r1.2.2.ar.length=s.ar.length:=by
      rw[<- zl3 s];unfold z5g at h3;split at h3
      ·simp only[Ai,A1]at h3;obtain⟨o,_,v',_,rfl⟩:=h3;rfl
      split at h3
      ·cases h3;rfl
      split at h3
      ·simp only[Ai]at h3;obtain⟨a0,_,q,_,r2,h5,h6⟩:=h3;have h7:=i1 _ _ _ _ h5;split at h6
       ·simp only[A1]at h6;obtain⟨v',_,rfl⟩:=h6;exact h7
       ·cases h6;exact h7
      split at h3
      ·exact i2 _ _ _ _ _ h3
      ·simp only[Ai]at h3;obtain⟨r2,h5,h6⟩:=h3;have h7:=i4 _ _ _ _ h5;split at h6
       ·simp only[Ai,A1]at h6;obtain⟨o,_,v',_,rfl⟩:=h6;exact h7
       ·cases h6;exact h7
     split at h4
     ·cases h4;exact E1
     ·exact(i1 _ _ _ _ h4).trans E1
  ·obtain⟨d1,v2,q,r1,e,_,_,h3,h4⟩:=z4k h;obtain rfl:d1=d:=by omega
   have E1:=i1 _ _ _ _ h3;split at h4
   ·cases h4;exact E1
   split at h4
   ·simp only[A1]at h4;obtain⟨v',_,rfl⟩:=h4;exact E1
   ·exact(i2 _ _ _ _ _ h4).trans E1
  ·obtain⟨d1,f,r1,e,_,_,_,_,h3,rfl⟩:=z5w h;obtain rfl:d1=d:=by omega
   exact i1 _ _ _ _ h3
  ·have ne:∀{i:Int},x.kind≠i->(x.kind==i)=false:=λh=>Ac.2 h
   by_cases k3:x.kind=3
   ·obtain⟨a0,_,rfl⟩:=zd7 h (As.2 k3);rfl
   by_cases k4:x.kind=4
   ·obtain⟨a0,a1,_,_,rfl⟩:=zd8 h (As.2 k4);dsimp only;split<;>rfl
   by_cases k5:x.kind=5
   ·obtain⟨a0,b,s',_,h2,h3⟩:=z8j h k5;rcases h3 with⟨rfl,rfl⟩|⟨rfl,row,y,_,_,rfl⟩
    ·exact zl2 h2
    ·rfl
   by_cases k6:x.kind=6
   ·obtain⟨a0,b,s',_,h2,h3⟩:=z7f h k6;rcases h3 with⟨rfl,rfl⟩|⟨rfl,row,y,_,_,rfl⟩
    ·exact zl2 h2
    ·simp[z5s]
   by_cases k7:x.kind=7
   ·have:=i3 _ _ _ _ (zb3 h (As.2 k7));exact this
   by_cases k9:x.kind=9
   ·obtain⟨a0,_,_,rfl⟩:=z8k h (As.2 k9);rfl
   by_cases k8:x.kind=8
   ·rcases zb5 h (As.2 k8)with⟨_,rfl⟩|⟨y,q,_,rfl⟩<;>rfl
   ·obtain rfl:=zb4 h (ne k3) (ne k4) (ne k5) (ne k6) (ne k7) (ne k9) (ne k8);rfl
theorem y9x{u:Un}{d:Nat}{k:Int}{p:List Int}{s:Rs}{r:Int×Rs}(h:z3x u d k p s=some r):r.2.ar.length=s.ar.length:=(y33 u d).2.2.1 _ _ _ _ h
theorem ze9(u:Un)(hub:∀f∈u.flows,lsW f.body<=34359738368):∀D,SRC u D/\SRL u D
 |0=>⟨λ_ h=>absurd h (Ag _),λ_ h=>absurd h (Ag _)⟩
 |D+1=>by
  obtain⟨i1,i2⟩:=ze9 u hub D;have a1:∀d l v s r,z1u u d l v s=some r->r.2.2.ar.length=s.ar.length:=λd=>(y33 u d).1;have a2:∀d x v a s r,z3g u d x v a s=some r->r.2.2.ar.length=s.ar.length:=λd=>(y33 u d).2.1;have a3:∀d k a s r,z3x u d k a s=some r->r.2.ar.length=s.ar.length:=λd=>(y33 u d).2.2.1;have a4:∀d x a s r,mSum u d x a s=some r->r.2.ar.length=s.ar.length:=λd=>(y33 u d).2.2.2;refine⟨λd hd k a s r h h1=>?_,λd hd l v s r h hb h1=>?_⟩
  ·obtain⟨ins,ar,st,code,out,cost,fuel,spent⟩:=s;rcases ar with _|⟨row,_|⟨row2,_|⟨row3,t⟩⟩⟩
   ·exact sr_call0 u hub D i2 a1 d (Bz hd) k a ⟨ins,[],st,code,out,cost,fuel,spent⟩ r h
   ·exact sr_call1 u hub D i2 a1 d (Bz hd) k a ⟨ins,[],st,code,out,cost,fuel,spent⟩ row r h
   ·exact sr_call2 u hub D i2 a1 d (Bz hd) k a ⟨ins,[],st,code,out,cost,fuel,spent⟩ row row2 r h
   ·simp at h1
  ·obtain⟨ins,ar,st,code,out,cost,fuel,spent⟩:=s;rcases ar with _|⟨row,_|⟨row2,_|⟨row3,t⟩⟩⟩
   ·exact sr_list0 u D i1 i2 a3 a1 a2 a4 d (Bz hd) l v ⟨ins,[],st,code,out,cost,fuel,spent⟩ r h hb
   ·exact sr_list1 u D i1 i2 a3 a1 a2 a4 d (Bz hd) l v ⟨ins,[],st,code,out,cost,fuel,spent⟩ row r h hb
   ·exact sr_list2 u D i1 i2 a3 a1 a2 a4 d (Bz hd) l v ⟨ins,[],st,code,out,cost,fuel,spent⟩ row row2 r h hb
   ·simp at h1
theorem y7t{k:Nat}{o:HO}{hp:Hp}(h:look hp k=none):look ((k,none)::(k,some o)::hp)=look hp:=by
 funext j
 show(bif Nat.beq k j then none else bif Nat.beq k j then some o else look hp j)=look hp j
 by_cases e:k=j
 ·subst e;rw[show Nat.beq k k=true from D9 k,h];rfl
 ·rw[z48 e];rfl
theorem SC.give3{P:Program}{f:FuncId}{args:List IV}{pre post:List (Nat×HO)}{R:Nat->Prop}{k n:Nat}{s:RT}{els:List (List PV)}{y z:IV}
 (h:SC P f args pre R (.tup [.sl k n,y,z]) ((k,.row s els)::post)) (hn:els.length=n) (hk:look (up post) k=none):SC P f args pre R (.tup [.pv (.seq els),y,z]) post:=by
 intro F ρ w vs hkept hrel hargs;refine(h F ρ w vs hkept hrel hargs).mono ?_;rintro e w' ⟨ρ',v,he,hv,hrel',t⟩
 cases hv with
 |tup cs ws u hl hv hr =>
  have hl:ws.size=3:=hl;have ha:All ⟨F,R,ρ,look (up pre),w,3⟩ ρ' (look (up ((k,.row s els)::post))) w' [(0,.sl k n),(1,y),(2,z)] { tmps:=ws,defers:=[] }:=by
   refine⟨hrel',λt x hx=>?_,t,rfl,hl,hkept⟩
   match t,hx with
   |0,hx=>cases hx;exact⟨u 0,hv 0 _ rfl,hr 0 _ rfl⟩
   |1,hx=>cases hx;exact⟨u 1,hv 1 _ rfl,hr 1 _ rfl⟩
   |2,hx=>cases hx;exact⟨u 2,hv 2 _ rfl,hr 2 _ rfl⟩
   |t+3,hx=>cases hx
  have hb:=ha.freeze (k:=k) (n:=n) (t:=0) (s:=s) (els:=els) z1d hn rfl;have e2:look ((k,none)::up ((k,.row s els)::post))=look (up post):=y7t hk;rw[e2]at hb;refine⟨_,_,he,.tup _ ws u hl (λj c hj=>?_) λj c hj=>?_,hb.rel,hb.tr⟩
  ·match j,hj with
   |0,hj=>exact hv 0 _ rfl
   |1,hj=>exact hv 1 _ rfl
   |2,hj=>exact hv 2 _ rfl
  ·match j,hj with
   |0,hj => 
    cases hj
    obtain⟨v,h1,h2⟩:=hb.fr 0 _ rfl;rw[show ws[0]?=some (u 0)from hv 0 _ rfl]at h1
    cases h1;exact h2
   |1,hj =>
    cases hj
    obtain⟨v,h1,h2⟩:=hb.fr 1 _ rfl;rw[show ws[1]?=some (u 1)from hv 1 _ rfl]at h1
    cases h1;exact h2
   |2,hj =>
    cases hj
    obtain⟨v,h1,h2⟩:=hb.fr 2 _ rfl;rw[show ws[2]?=some (u 2)from hv 2 _ rfl]at h1
    cases h1;exact h2
theorem SC.give{P:Program}{f:FuncId}{args:List IV}{pre post:List (Nat×HO)}{R:Nat->Prop}{k n:Nat}{s:RT}{els:List (List PV)}
 (h:SC P f args pre R (.sl k n) ((k,.row s els)::post)) (hn:els.length=n) (hk:look (up post) k=none):SC P f args pre R (.pv (.seq els)) post:=by
 intro F ρ w vs hkept hrel hargs;refine(h F ρ w vs hkept hrel hargs).mono ?_;rintro e w' ⟨ρ',v,he,hv,hrel',t⟩;have ha:All ⟨F,R,ρ,look (up pre),w,1⟩ ρ' (look (up ((k,.row s els)::post))) w' [(0,.sl k n)] { tmps:=#[v],defers:=[] }:=by
  refine⟨hrel',λt x hx=>?_,t,rfl,rfl,hkept⟩
  match t,hx with
  |0,hx=>cases hx;exact⟨v,rfl,hv⟩
  |t+1,hx=>cases hx
 have hb:=ha.freeze (k:=k) (n:=n) (t:=0) (s:=s) (els:=els) z1d hn rfl;have e2:look ((k,none)::up ((k,.row s els)::post))=look (up post):=y7t hk;rw[e2]at hb;obtain⟨v2,h1,h2⟩:=hb.fr 0 _ rfl
 cases h1
 exact⟨_,v,he,h2,hb.rel,hb.tr⟩
def tkRt:RT:=⟨109,3⟩
theorem sT3{x x' y z:IV}(h:SubI x x'):SubI (.tup [x,y,z]) (.tup [x',y,z]):=λF ρ σ w v hv=>by
 cases hv with
 |tup cs vs u hl hv hr =>
  refine .tup _ vs u hl (λj c hj=>?_) λj c hj=>?_
  ·match j,hj with
   |0,_=>exact hv 0 x rfl
   |j+1,hj=>exact hv (j+1) c hj
  ·match j,hj with
   |0,hj=>cases hj;exact h _ _ _ _ _ (hr 0 x rfl)
   |j+1,hj=>exact hr (j+1) c hj
theorem ym4{s:ByteArray}{a m:Nat}{b:UInt8}(h:s.data.toList.drop (a+m)=b::s.data.toList.drop (a+m+1))(hb:isLD b=true) :
 ((s.data.toList.drop (a+m)).takeWhile isLD).length=1+((s.data.toList.drop (a+m+1)).takeWhile isLD).length:=by
 rw[h,Dy,if_pos hb,Aj];omega
theorem run_stop{s:ByteArray}{a m:Nat}{b:UInt8}(h:s.data.toList.drop (a+m)=b::s.data.toList.drop (a+m+1))(hb:isLD b=false) :
 ((s.data.toList.drop (a+m)).takeWhile isLD).length=0:=by
 rw[h,Dy,if_neg (by simp[hb])];rfl
theorem b_eq{b:UInt8}{n:Int}(h:((b.toNat:Int)==n)=true){c:UInt8}(hc:(c.toNat:Int)=n):b=c:=UInt8.toNat_inj.1 (by have:=eq_of_beq h;omega)
theorem b_ne{b:UInt8}{n:Int}(h:((b.toNat:Int)==n)=false){c:UInt8}(hc:(c.toNat:Int)=n):¬b=c:=λe=>by subst e;simp[hc]at h
def tkR(t:List Tk×Int×Int):IV:=if t.2.1=0 then .sl 1001 (t.1.map Tk.enc).length else .pv (tks t.1)
def tkPost(t:List Tk×Int×Int):List (Nat×HO):=if t.2.1=0 then[(1001,.row tkRt (t.1.map Tk.enc))]else[]
theorem yt8(s:ByteArray)(hs:s.size<=1073741824):SC Tryz.prog 43 [.pv (.val (.string s))] [] (λk=>k∈[]) (.tup [tkR (z1t s),iInt (z1t s).2.1,iInt (z1t s).2.2]) (tkPost (z1t s)):=by
 refine SC.vc tb { gh:=[(4,[.grow 5 1001 109 3])] } [] Tryz.func43 rfl rfl ?_;unfold z1t;refine z00 (λh=>?_) λh=>?_
 ·have h:s.size > 100000:=by have:=Aq h;omega
  rw[if_pos h];exact⟨sT3 sN,Gc⟩
 have h:¬s.size > 100000:=by have:=Am h;omega
 rw[if_neg h];generalize hTK:toks s (s.size+1) 1 0 []=TK;refine⟨Nat×Nat×List Tk,λa=>[(6,iInt (a.1:Nat)),(7,iInt (a.2.1:Nat)),(5,.sl 1001 (a.2.2.map Tk.enc).length)],λa=>[(1001,.row tkRt (a.2.2.map Tk.enc))],λa=>s.size-a.2.1,
  λa=>a.1<=a.2.1+1/\a.2.1<=s.size/\a.2.2.length<=a.2.1/\∃N,s.size<N+a.2.1/\TK=toks s N a.1 a.2.1 a.2.2,[],(1,0,[]),⟨Ab _,A9 _,Ab _,s.size+1,by omega,hTK.symm⟩,Gf,Gd,?_⟩
 rintro⟨line,at_,out⟩ ⟨h1,h2,h3,N,h4,h5⟩;dsimp only at h1 h2 h3 h4 h5;refine z00 (λhc=>?_) λhc=>?_
 ·obtain⟨b,g1,g2,g3,g4,g5⟩:=zt1 hc;dsimp only at g1 g2 g3 g4 hc;obtain⟨M,rfl⟩:∃M,N=M+1:=⟨N-1,by omega⟩;unfold toks at h5;simp only[g2]at h5;refine⟨Nat,λm=>[(9,iInt (m:Nat))],λ_=>[],λm=>s.size-m,λm=>at_+m<=s.size/\z4c s at_=m+((s.data.toList.drop (at_+m)).takeWhile isLD).length,[],0,⟨h2,by unfold z4c;simp⟩,Gd,Gc,?_⟩;rintro m ⟨hm,hr⟩;refine⟨z01 rfl (by dsimp only;omega),z00 (λhc2=>?_) λhc2=>?_⟩
  rotate_left
  have hrun:z4c s at_=m:=by rw[hr,zo1 (k:=at_+m) (by simpa using hc2)];rfl
  clear hr hc2
  rotate_left
  obtain⟨b2,k1,k2,k3,k4,k5⟩:=zt1 (k:=at_+m) (by simpa using hc2);refine⟨z01 rfl (by dsimp only;omega),k1,by dsimp only;omega,[],z9j _,sR,Gc,rfl,z00 (λh6=>?_) λh6=>?_⟩;exact⟨z01 rfl oM0,m+1,by omega,⟨by omega,by rw[hr,ym4 k3 (by unfold isLD;rw[h6];rfl),show at_+(m+1)=at_+m+1 from rfl];omega⟩,Gd,Gc,rfl,rfl,rfl,rfl⟩;refine⟨z01 rfl (by dsimp only;omega),k1,by dsimp only;omega,[],zr8 _,sR,Gc,rfl,z00 (λh7=>?_) λh7=>?_⟩;exact⟨z01 rfl oM0,m+1,by omega,⟨by omega,by rw[hr,ym4 k3 (by unfold isLD;rw[h7];simp),show at_+(m+1)=at_+m+1 from rfl];omega⟩,Gd,Gc,rfl,rfl,rfl,rfl⟩;have hrun:z4c s at_=m:=by rw[hr,run_stop k3 (by unfold isLD;rw[h6,h7];rfl)];rfl
  clear hr k1 k2 k3 k4 k5 h6 h7 hc2
  all_goals
   refine⟨g1,rfl,z00 (λb1=>?_) λb1=>?_⟩
   ·rw[zs9,if_pos (b_eq b1 rfl)]at h5;exact⟨z01 rfl (by dsimp only;omega),z01 rfl (by dsimp only;omega),(line+1,at_+1,out),z03 g4,⟨by show line+1<=at_+1+1;omega,g4,by show out.length<=at_+1;omega,M,by show s.size<M+(at_+1);omega,h5⟩,Gf,Gd,rfl,rfl,rfl,rfl⟩
   rw[zs9,if_neg (b_ne b1 rfl)]at h5;have blank:((b.toNat:Int)==32)=true∨((b.toNat:Int)==9)=true∨((b.toNat:Int)==13)=true->TK=toks s M line (at_+1) out:=λe=>by
    rw[if_pos (e.elim (λe=>.inl (b_eq e rfl)) λe=>.inr (e.elim (λe=>.inl (b_eq e rfl)) λe=>.inr (b_eq e rfl)))]at h5;exact h5
   refine⟨g1,rfl,z00 (λb2=>?_) λb2=>⟨g1,rfl,z00 (λb3=>?_) λb3=>⟨g1,rfl,z00 (λb4=>?_) λb4=>?_⟩⟩⟩
   ·have h5:=blank (.inl b2);exact⟨z01 rfl (by dsimp only;omega),(line,at_+1,out),z03 g4,⟨by show line<=at_+1+1;omega,g4,by show out.length<=at_+1;omega,M,by show s.size<M+(at_+1);omega,h5⟩,Gf,Gd,rfl,rfl,rfl,rfl⟩
   ·have h5:=blank (.inr (.inl b3));exact⟨z01 rfl (by dsimp only;omega),(line,at_+1,out),z03 g4,⟨by show line<=at_+1+1;omega,g4,by show out.length<=at_+1;omega,M,by show s.size<M+(at_+1);omega,h5⟩,Gf,Gd,rfl,rfl,rfl,rfl⟩
   ·have h5:=blank (.inr (.inr b4));exact⟨z01 rfl (by dsimp only;omega),(line,at_+1,out),z03 g4,⟨by show line<=at_+1+1;omega,g4,by show out.length<=at_+1;omega,M,by show s.size<M+(at_+1);omega,h5⟩,Gf,Gd,rfl,rfl,rfl,rfl⟩
   rw[if_neg (λe=>e.elim (b_ne b2 rfl) λe=>e.elim (b_ne b3 rfl) (b_ne b4 rfl))]at h5;clear blank;refine⟨g1,rfl,z00 (λb5=>?_) λb5=>?_⟩
   rotate_left
   have c3:¬(b=47/\s.data.toList[at_+1]?=some 47):=λe=>b_ne b5 rfl e.1;clear b5
   rotate_right
   refine⟨z01 rfl (by dsimp only;omega),z00 (λb6=>?_) λb6=>?_⟩
   rotate_left
   have c3:¬(b=47/\s.data.toList[at_+1]?=some 47):=λe=>by
    have:=Am b6;have h8:=(A4.1 e.2).1;have h9:s.data.toList.length=s.size:=Bo;dsimp only at this;omega
   clear b5 b6
   rotate_right
   obtain⟨q,q1,q2,q3,q4,q5⟩:=zt1 (k:=at_+1) (by simpa using b6);refine⟨z01 rfl (by dsimp only;omega),q1,by dsimp only;omega,z00 (λb7=>?_) λb7=>?_⟩
   rotate_left
   have c3:¬(b=47/\s.data.toList[at_+1]?=some 47):=λe=>by
    rw[q2]at e;exact b_ne b7 rfl (Bv e.2)
   clear b5 b6 b7 q1 q2 q3 q4 q5
   rotate_right
   rw[if_pos ⟨b_eq b5 rfl,by rw[q2,b_eq (c:=47) b7 rfl]⟩]at h5;clear b5 b6 b7 q1 q2 q3 q4 q5
   ·refine⟨Nat,λj=>[(7,iInt (j:Nat))],λ_=>[],λj=>s.size-j,λj=>at_<=j/\j<=s.size/\zq3 s at_=j+((s.data.toList.drop j).takeWhile λb=>b != 10).length,[],at_,⟨Ab _,h2,rfl⟩,Gd,Gc,?_⟩;rintro j ⟨j1,j2,j3⟩;have hend:=y3l g2 (b_ne b1 rfl);have fin:zq3 s at_=j->at_<j/\(line<=j+1/\j<=s.size/\out.length<=j/\∃N,s.size<N+j/\TK=toks s N line j out):=λe=>by
     rw[e]at hend h5;obtain⟨e1,e2⟩:=hend;exact⟨e1,by omega,j2,by omega,M,by omega,h5⟩
    refine z00 (λd1=>?_) λd1=>?_
    ·obtain⟨q,q1,q2,q3,q4,q5⟩:=zt1 (k:=j) d1;refine⟨q1,rfl,z00 (λd2=>?_) λd2=>?_⟩
     ·have d3:q≠10:=λe=>by subst e;simp at d2
      rw[q3,Dy,if_pos (by simpa using d3),Aj]at j3;exact⟨z01 rfl oM0,j+1,z03 q4,⟨by omega,q4,by rw[j3];omega⟩,Gd,Gc,rfl,rfl,rfl,rfl⟩
     ·have d3:q=10:=b_eq (c:=10) (n:=10) (by simpa using d2) rfl;rw[q3,Dy,if_neg (by simp[d3])]at j3;obtain⟨f1,f2⟩:=fin j3;exact⟨(line,j,out),by dsimp only;omega,f2,Gf,Gd,rfl,rfl,rfl,rfl⟩
    ·rw[zo1 d1]at j3;obtain⟨f1,f2⟩:=fin j3;exact⟨(line,j,out),by dsimp only;omega,f2,Gf,Gd,rfl,rfl,rfl,rfl⟩
   all_goals
    rw[if_neg c3,hrun]at h5;clear c3;refine z00 (λd1=>?_) λd1=>?_
    ·have d1:m > 0:=by have:=Aq d1;omega
     rw[if_pos d1]at h5;have hm2:at_+m<=s.size:=hm;generalize hw:s.extract at_ (at_+m)=w at h5;have hws:w.size=m:=by rw[<- hw,Ci];omega
     have nx:∀k:Int,TK=toks s M line (at_+m) (out++[⟨k,w,line⟩])->line<=at_+m+1/\at_+m<=s.size/\(out++[(⟨k,w,line⟩:Tk)]).length<=at_+m/\∃N,s.size<N+(at_+m)/\TK=toks s N line (at_+m) (out++[⟨k,w,line⟩]):=λk e =>
      ⟨by omega,hm2,by rw[B4];show _+1<=_;omega,M,by omega,e⟩
     refine⟨z01 rfl (by dsimp only;omega),at_,rfl,at_+m,by dsimp only;omega,by omega,hm2,?_⟩;rw[hw];refine⟨g1,rfl,[],z9j _,sR,Gc,rfl,z00 (λe1=>?_) λe1=>?_⟩
     ·refine⟨[],y1q w,sR,Gc,rfl,z00 (λe2=>?_) λe2=>?_⟩
      ·rw[show z39 b w=2 by unfold z39;rw[if_pos e2],if_neg sI0]at h5;exact⟨z01 (z:=((at_+m:Nat):Int)) (by rw[hws];rfl) oM0,rfl,z3f rfl,by simp;omega,(line,at_+m,out++[⟨2,w,line⟩]),by dsimp only;omega,nx 2 h5,⟨rfl,rfl,slq sI0,Gc⟩,⟨rwq (by simp[Tk.enc]),Gc⟩,rfl,rfl,rfl,rfl⟩
      ·rw[show z39 b w=1 by unfold z39;rw[if_neg (by simp[e2]),if_pos e1]]at h5;refine⟨[],z6k w,sR,Gc,rfl,z00 (λe3=>?_) λe3=>?_⟩
       ·have e3:z0k w=false:=by simpa using e3
        rw[if_pos (.inl ⟨rfl,e3⟩)]at h5;refine⟨?_,?_⟩<;>rw[h5]
        ·exact sT3 sN
        ·trivial
       ·have e3:z0k w=true:=by simpa using e3
        rw[if_neg (by simp[e3])]at h5;exact⟨z01 (z:=((at_+m:Nat):Int)) (by rw[hws];rfl) oM0,rfl,z3f rfl,by simp;omega,(line,at_+m,out++[⟨1,w,line⟩]),by dsimp only;omega,nx 1 h5,⟨rfl,rfl,slq sI0,Gc⟩,⟨rwq (by simp[Tk.enc]),Gc⟩,rfl,rfl,rfl,rfl⟩
     ·refine⟨[],y1q w,sR,Gc,rfl,z00 (λe2=>?_) λe2=>?_⟩
      ·rw[show z39 b w=2 by unfold z39;rw[if_pos e2],if_neg sI0]at h5;exact⟨z01 (z:=((at_+m:Nat):Int)) (by rw[hws];rfl) oM0,rfl,z3f rfl,by simp;omega,(line,at_+m,out++[⟨2,w,line⟩]),by dsimp only;omega,nx 2 h5,⟨rfl,rfl,slq sI0,Gc⟩,⟨rwq (by simp[Tk.enc]),Gc⟩,rfl,rfl,rfl,rfl⟩
      ·rw[show z39 b w=0 by unfold z39;rw[if_neg (by simp[e2]),if_neg (by simp[e1])]]at h5;refine⟨[],j2b w oM0,sR,Gc,rfl,z00 (λe3=>?_) λe3=>?_⟩
       ·have e3:zk6 w=false:=by simpa using e3
        rw[if_pos (.inr ⟨rfl,e3⟩)]at h5;refine⟨?_,?_⟩<;>rw[h5]
        ·exact sT3 sN
        ·trivial
       ·have e3:zk6 w=true:=by simpa using e3
        rw[if_neg (by simp[e3])]at h5;exact⟨z01 (z:=((at_+m:Nat):Int)) (by rw[hws];rfl) oM0,rfl,z3f rfl,by simp;omega,(line,at_+m,out++[⟨0,w,line⟩]),by dsimp only;omega,nx 0 h5,⟨rfl,rfl,slq sI0,Gc⟩,⟨rwq (by simp[Tk.enc]),Gc⟩,rfl,rfl,rfl,rfl⟩
    ·have d1:¬m > 0:=by have:=Am d1;omega
     rw[if_neg d1]at h5;refine⟨at_,rfl,h2,Ab _,[],sc_sign (s.extract at_ s.size) (by rw[Ci];omega),sR,Gc,rfl,?_⟩;have hgl:=zz0 (s.extract at_ s.size) sgL;have hgs:(s.extract at_ s.size).size=s.size-at_:=by rw[Ci];omega
     rw[hgs]at hgl
     change sgOf (s.extract at_ s.size)=⟨#[]⟩∨(sgOf (s.extract at_ s.size)∈sgL/\(sgOf (s.extract at_ s.size)).size<=s.size-at_)at hgl
     generalize sgOf (s.extract at_ s.size)=w at h5 hgl;refine z00 (λe1=>?_) λe1=>?_
     ·have e1:w.toList=[]:=by simpa using e1
      have e2:w.size=0:=by rw[z2d]at e1;have h9:w.data.toList.length=w.size:=Bo;rw[e1]at h9;exact h9.symm
      rw[if_pos e2]at h5;refine⟨?_,?_⟩<;>rw[h5]
      ·exact sT3 sN
      ·trivial
     ·have e1:w.toList≠[]:=by simpa using e1
      have e2:¬w.size=0:=λe=>e1 (by rw[z2d];have h9:w.data.toList.length=w.size:=Bo;exact List.length_eq_zero_iff.1 (h9.trans e));rw[if_neg e2]at h5;have e3:at_+w.size<=s.size:=by
       rcases hgl with e|e
       ·exact absurd (by rw[e];rfl) e2
       ·have:=e.2;omega
      exact⟨z01 (z:=((at_+w.size:Nat):Int)) rfl oM0,rfl,z3f rfl,by simp;omega,(line,at_+w.size,out++[⟨2,w,line⟩]),by dsimp only;omega,
       ⟨by show line<=at_+w.size+1;omega,e3,by rw[B4];show _+1<=at_+w.size;omega,M,by show s.size<M+(at_+w.size);omega,h5⟩,⟨rfl,rfl,slq sI0,Gc⟩,⟨rwq (by simp[Tk.enc]),Gc⟩,rfl,rfl,rfl,rfl⟩
 ·have hc:=zo1 hc;obtain⟨M,rfl⟩:∃M,N=M+1:=⟨N-1,by omega⟩;unfold toks at h5;have hn:s.data.toList[at_]?=none:=by
   rw[<- List.head?_drop];dsimp only at hc;rw[hc];rfl
  simp only[hn]at h5;refine⟨rfl,z3f rfl,by simp;omega,?_⟩;refine⟨?_,?_⟩<;>rw[h5]
  ·exact sE (by simp[tkR])
  ·exact⟨rwq (by simp[Tk.enc];rfl),Gc⟩
theorem j23(s:ByteArray)(hs:s.size<=1073741824):SC Tryz.prog 43 [.pv (.val (.string s))] [] (λk=>k∈[]) (.tup [.pv (tks (z1t s).1),iInt (z1t s).2.1,iInt (z1t s).2.2]) []:=by
 have h:=yt8 s hs;unfold tkR tkPost at h
 by_cases e:(z1t s).2.1=0
 ·rw[if_pos e,if_pos e]at h;exact h.give3 rfl rfl
 ·rw[if_neg e,if_neg e]at h;exact h
structure Ps where
 at_:Nat
 bad:Bool
 deep:Bool
def Ps.over(s:Ps):Bool:=s.bad||s.deep
def Ps.next(s:Ps):Ps:={ s with at_:=s.at_+1 }
def Ps.setBad(s:Ps):Ps:={ s with bad:=true }
def Ps.setDeep(s:Ps):Ps:={ s with deep:=true }
def s_:ByteArray:=⟨#[]⟩
def tkAt(T:List Tk)(s:Ps):Tk:=T.getD s.at_ ⟨3,s_,0⟩
def pIs(T:List Tk)(w:ByteArray)(s:Ps):Bool:=!s.over&&((tkAt T s).kind==2&&eqS (tkAt T s).text w)
def z8e(T:List Tk)(w:ByteArray)(s:Ps):Bool×Ps:=if pIs T w s then(true,s.next)else(false,s)
def z0o(T:List Tk)(w:ByteArray)(s:Ps):Ps:=if pIs T w s then s.next else if s.deep then s else s.setBad
def z0l(T:List Tk)(k:Int)(s:Ps):ByteArray×Ps:=if s.over then(s_,s)else if (tkAt T s).kind=k then((tkAt T s).text,s.next)else(s_,s.setBad)
def sInt:ByteArray:=⟨#[105,110,116]⟩
def j1w:ByteArray:=⟨#[98,111,111,108]⟩
def sIf:ByteArray:=⟨#[105,102]⟩
def sElse:ByteArray:=⟨#[101,108,115,101]⟩
def ym8:ByteArray:=⟨#[119,104,105,108,101]⟩
def ym5:ByteArray:=⟨#[98,114,101,97,107]⟩
def zm7:ByteArray:=⟨#[99,111,110,116,105,110,117,101]⟩
def y64:ByteArray:=⟨#[114,101,116,117,114,110]⟩
def ym7:ByteArray:=⟨#[112,114,105,110,116]⟩
def sRead:ByteArray:=⟨#[114,101,97,100]⟩
def sTrue:ByteArray:=⟨#[116,114,117,101]⟩
def ym6:ByteArray:=⟨#[102,97,108,115,101]⟩
def sRo:ByteArray:=⟨#[40]⟩
def sRc:ByteArray:=⟨#[41]⟩
def sBo:ByteArray:=⟨#[123]⟩
def sBc:ByteArray:=⟨#[125]⟩
def sSo:ByteArray:=⟨#[91]⟩
def sSc:ByteArray:=⟨#[93]⟩
def zm6:ByteArray:=⟨#[44]⟩
def z5a:ByteArray:=⟨#[59]⟩
def sEq:ByteArray:=⟨#[61]⟩
def z0q(T:List Tk)(s:Ps):Int×Ps:=if pIs T sInt s then(1,s.next)else(2,z0o T j1w s)
def x0:Ex:=.mk 0 0 0 s_ []
def pUn(T:List Tk)(s:Ps):Option Int:=[20,21,22,23,24,25,26,27,28].find? λo=>pIs T (zo8 o) s
def pOp(T:List Tk)(level:Int)(s:Ps):Int:=([1,2,3,4,5,6,7,8,9,10,11,12,13,14,15,16,17,18,19].find? λo=>decide (z4h o=level)&&pIs T (zo8 o) s).getD 0
def z4f(depth:Int)(s:Ps):Ps:=if depth > 100/\s.bad=false then s.setDeep else s
def aGo(T:List Tk)(first:Bool)(s:Ps):Ps:=if first then s else(z8e T zm6 s).2
mutual
def z2z(T:List Tk):Nat->Int->Int->Ps->Ex×Ps
 |0,_,_,s=>(x0,s)
 |N+1,level,depth,s=>if level > 10 then z7g T N depth s else zb2 T N level depth (z2z T N (level+1) depth s)
def zb2(T:List Tk):Nat->Int->Int->Ex×Ps->Ex×Ps
 |0,_,_,r=>r
 |N+1,level,depth,r=>if pOp T level r.2=0 then r else
  zb2 T N level depth (.mk 5 (pOp T level r.2) 0 s_ [r.1,(z2z T N (level+1) depth r.2.next).1],(z2z T N (level+1) depth r.2.next).2)
def z7g(T:List Tk):Nat->Int->Ps->Ex×Ps
 |0,_,s=>(x0,s)
 |N+1,depth,s=>match pUn T (z4f depth s)with
  |none=>y2u T N depth (z4f depth s)
  |some op=>if op≥23 then(.mk 4 op 0 s_ [(z2z T N 1 (depth+1) (z0o T sRo (z4f depth s).next)).1],z0o T sRc (z2z T N 1 (depth+1) (z0o T sRo (z4f depth s).next)).2)
   else(.mk 4 op 0 s_ [(z7g T N (depth+1) (z4f depth s).next).1],(z7g T N (depth+1) (z4f depth s).next).2)
def y2u(T:List Tk):Nat->Int->Ps->Ex×Ps
 |0,_,s=>(x0,s)
 |N+1,depth,s=>if s.over then(x0,s)
  else if pIs T sRo s then((z2z T N 1 (depth+1) s.next).1,z0o T sRc (z2z T N 1 (depth+1) s.next).2)
  else if pIs T sTrue s then(.mk 2 0 1 s_ [],s.next)
  else if pIs T ym6 s then(.mk 2 0 0 s_ [],s.next)
  else if pIs T sRead s then(.mk 8 0 0 s_ [],z0o T sRc (z0o T sRo s.next))
  else if (tkAt T s).kind=0 then(.mk 1 0 (zg6 (tkAt T s).text) s_ [],s.next)
  else if pIs T sRo (z0l T 1 s).2 then(.mk 7 0 0 (z0l T 1 s).1 (z7v T N (depth+1) (z0l T 1 s).2.next).1,(z7v T N (depth+1) (z0l T 1 s).2.next).2)
  else if pIs T sSo (z0l T 1 s).2 then(.mk 6 0 0 (z0l T 1 s).1 [(z2z T N 1 (depth+1) (z0l T 1 s).2.next).1],z0o T sSc (z2z T N 1 (depth+1) (z0l T 1 s).2.next).2)
  else(.mk 3 0 0 (z0l T 1 s).1 [],(z0l T 1 s).2)
def z7v(T:List Tk):Nat->Int->Ps->List Ex×Ps
 |0,_,s=>([],s)
 |N+1,depth,s=>if pIs T sRc s then([],s.next)else((z9v T N depth true [] s).1,z0o T sRc (z9v T N depth true [] s).2)
def z9v(T:List Tk):Nat->Int->Bool->List Ex->Ps->List Ex×Ps
 |0,_,_,out,s=>(out,s)
 |N+1,depth,first,out,s=>if (first||pIs T zm6 s)=true/\(aGo T first s).over=false then
  z9v T N depth false (out++[(z2z T N 1 depth (aGo T first s)).1]) (z2z T N 1 depth (aGo T first s)).2
  else(out,aGo T first s)
end
def big(T:List Tk):Nat:=20*T.length+40
def mE(T:List Tk)(s:Ps):Ex×Ps:=z2z T (big T) 1 1 s
def z1y(T:List Tk)(s:Ps):Ex×Ps:=((mE T (z0o T sRo s)).1,z0o T sRc (mE T (z0o T sRo s)).2)
def z5f(T:List Tk)(s:Ps):St×Ps :=
 if pIs T sRo (z0l T 1 s).2 then(.mk 10 0 s_ [.mk 7 0 0 (z0l T 1 s).1 (z7v T (big T) 2 (z0l T 1 s).2.next).1] [] [],(z7v T (big T) 2 (z0l T 1 s).2.next).2)
 else if pIs T sSo (z0l T 1 s).2 then
  (.mk 3 0 (z0l T 1 s).1 [(mE T (z0l T 1 s).2.next).1,(mE T (z0o T sEq (z0o T sSc (mE T (z0l T 1 s).2.next).2))).1] [] [],(mE T (z0o T sEq (z0o T sSc (mE T (z0l T 1 s).2.next).2))).2)
 else(.mk 2 0 (z0l T 1 s).1 [(mE T (z0o T sEq (z0l T 1 s).2)).1] [] [],(mE T (z0o T sEq (z0l T 1 s).2)).2)
def mLet(T:List Tk)(s:Ps):St×Ps :=
 (.mk 1 (z0q T s).1 (z0l T 1 (z0q T s).2).1 [(mE T (z0o T sEq (z0l T 1 (z0q T s).2).2)).1] [] [],(mE T (z0o T sEq (z0l T 1 (z0q T s).2).2)).2)
def zf6(T:List Tk)(s:Ps):St×Ps :=
 if pIs T ym5 s then(.mk 6 0 s_ [] [] [],s.next)
 else if pIs T zm7 s then(.mk 7 0 s_ [] [] [],s.next)
 else if pIs T y64 s then(.mk 8 0 s_ [(mE T s.next).1] [] [],(mE T s.next).2)
 else if pIs T ym7 s then(.mk 9 0 s_ [(z1y T s.next).1] [] [],(z1y T s.next).2)
 else z5f T s
def z38(depth:Int)(s:Ps):Ps:=if depth > 100 then s.setDeep else s
mutual
def z5y(T:List Tk):Nat->Int->Ps->St×Ps
 |0,_,s=>(.mk 0 0 s_ [] [] [],s.setBad)
 |N+1,depth,s0 =>
  if pIs T sInt (z38 depth s0)||pIs T j1w (z38 depth s0)then((mLet T (z38 depth s0)).1,z0o T z5a (mLet T (z38 depth s0)).2)
  else if pIs T sIf (z38 depth s0)then
   if pIs T sElse (z1z T N (depth+1) (z1y T (z38 depth s0).next).2).2 then
    (.mk 4 0 s_ [(z1y T (z38 depth s0).next).1] (z1z T N (depth+1) (z1y T (z38 depth s0).next).2).1 (z1z T N (depth+1) (z1z T N (depth+1) (z1y T (z38 depth s0).next).2).2.next).1,(z1z T N (depth+1) (z1z T N (depth+1) (z1y T (z38 depth s0).next).2).2.next).2)
   else(.mk 4 0 s_ [(z1y T (z38 depth s0).next).1] (z1z T N (depth+1) (z1y T (z38 depth s0).next).2).1 [],(z1z T N (depth+1) (z1y T (z38 depth s0).next).2).2)
  else if pIs T ym8 (z38 depth s0)then
   (.mk 5 0 s_ [(z1y T (z38 depth s0).next).1] (z1z T N (depth+1) (z1y T (z38 depth s0).next).2).1 [],(z1z T N (depth+1) (z1y T (z38 depth s0).next).2).2)
  else((zf6 T (z38 depth s0)).1,z0o T z5a (zf6 T (z38 depth s0)).2)
def z1z(T:List Tk):Nat->Int->Ps->List St×Ps
 |0,_,s=>([],s)
 |N+1,depth,s=>z7z T N depth [] (z0o T sBo s)
def z7z(T:List Tk):Nat->Int->List St->Ps->List St×Ps
 |0,_,out,s=>(out,s)
 |N+1,depth,out,s=>if s.over then(out,s)else if pIs T sBc s then(out,s.next)else z7z T N depth (out++[(z5y T N depth s).1]) (z5y T N depth s).2
end
def z9w(T:List Tk):Nat->Bool->List Pm->Ps->List Pm×Ps
 |0,_,out,s=>(out,s)
 |N+1,first,out,s=>if (first||pIs T zm6 s)=true/\(aGo T first s).over=false then
  z9w T N false (out++[⟨(z0l T 1 (z0q T (aGo T first s)).2).1,(z0q T (aGo T first s)).1⟩]) (z0l T 1 (z0q T (aGo T first s)).2).2
  else(out,aGo T first s)
def z7e(T:List Tk)(s:Ps):List Pm×Ps:=if pIs T sRc s then([],s.next)else((z9w T (big T) true [] s).1,z0o T sRc (z9w T (big T) true [] s).2)
def z70(T:List Tk)(t:Int)(name:ByteArray)(s:Ps):Fu×Ps :=
 (⟨name,t,(z7e T (z0o T sRo s)).1,(z1z T (big T) 1 (z7e T (z0o T sRo s)).2).1⟩,(z1z T (big T) 1 (z7e T (z0o T sRo s)).2).2)
def qArr(T:List Tk)(fs:List Fu)(t:Int)(s:Ps):Bool:=t==1&&fs.length==0&&pIs T sSo s
def z40(T:List Tk):Nat->Pg->Ps->Pg×Ps
 |0,p,s=>(p,s)
 |N+1,p,s=>if s.over||(tkAt T s).kind==3 then(p,s)
  else if qArr T p.funcs (z0q T s).1 (z0l T 1 (z0q T s).2).2 then
   z40 T N ⟨p.arrays++[⟨(z0l T 1 (z0q T s).2).1,zg6 (z0l T 0 (z0l T 1 (z0q T s).2).2.next).1⟩],p.funcs⟩ (z0o T z5a (z0o T sSc (z0l T 0 (z0l T 1 (z0q T s).2).2.next).2))
  else z40 T N ⟨p.arrays,p.funcs++[(z70 T (z0q T s).1 (z0l T 1 (z0q T s).2).1 (z0l T 1 (z0q T s).2).2).1]⟩ (z70 T (z0q T s).1 (z0l T 1 (z0q T s).2).1 (z0l T 1 (z0q T s).2).2).2
def z96(T:List Tk):Pg×Ps:=z40 T (big T) ⟨[],[]⟩ ⟨0,false,false⟩
section
structure Fw(T:List Tk)(s s':Ps):Prop where
 at_:s.at_<=s'.at_
 ov:s.over=true->s'.over=true
 lt:s.at_<T.length->s'.at_<T.length
variable {T:List Tk}
theorem Fw.rfl{s:Ps}:Fw T s s:=⟨Ab _,id,id⟩
theorem Fw.trans{a b c:Ps}(h:Fw T a b)(k:Fw T b c):Fw T a c:=⟨B7 h.at_ k.at_,λe=>k.ov (h.ov e),λe=>k.lt (h.lt e)⟩
theorem j0s(hT:TkOk T){s:Ps}(h:s.at_<T.length)(hk:(tkAt T s).kind≠3):s.at_+1<T.length:=by
 obtain⟨init,e,rfl,he,_⟩:=hT;rw[B4]at h⊢;rcases Dw (s.at_+1) (init.length+[e].length)with h'|h'
 ·exact h'
 ·refine absurd ?_ hk;have hi:s.at_=init.length:=by simp at h h';omega
  unfold tkAt;rw[hi];simpa using he
theorem z4l{w:ByteArray}{s:Ps}(h:pIs T w s=true):s.over=false/\(tkAt T s).kind=2:=by
 simp only[pIs,A0,Bb,As]at h;exact⟨h.1,h.2.1⟩
theorem j08(hT:TkOk T){s:Ps}(h:s.over=false)(hk:(tkAt T s).kind≠3):Fw T s s.next :=
 ⟨Fa _,λe=>(Bool.noConfusion (h.symm.trans e)),λe=>j0s hT e hk⟩
theorem z11(hT:TkOk T){w:ByteArray}{s:Ps}(h:pIs T w s=true):Fw T s s.next:=by
 have:=z4l h;exact j08 hT this.1 (by rw[this.2];decide)
theorem y0d{s:Ps}:Fw T s s.setBad:=⟨Ab _,λ_=>by simp[Ps.over,Ps.setBad],id⟩
theorem y3e{s:Ps}:Fw T s s.setDeep:=⟨Ab _,λ_=>by simp[Ps.over,Ps.setDeep],id⟩
theorem z0a(hT:TkOk T){w:ByteArray}{s:Ps}:Fw T s (z0o T w s):=by
 unfold z0o;split
 ·rename_i h;exact z11 hT h
 ·split
  ·exact .rfl
  ·exact y0d
theorem z1x(hT:TkOk T){k:Int}(hk:k≠3){s:Ps}:Fw T s (z0l T k s).2:=by
 unfold z0l;split
 ·exact .rfl
 ·split
  ·rename_i h1 h2;exact j08 hT (by simpa using h1) (by rw[h2];exact hk)
  ·exact y0d
theorem z5e(hT:TkOk T){s:Ps}:Fw T s (z0q T s).2:=by
 unfold z0q;split
 ·rename_i h;exact z11 hT h
 ·exact z0a hT
theorem zk0{d:Int}{s:Ps}:Fw T s (z4f d s):=by
 unfold z4f;split
 ·exact y3e
 ·exact .rfl
theorem y7k{d:Int}{s:Ps}:Fw T s (z38 d s):=by
 unfold z38;split
 ·exact y3e
 ·exact .rfl
theorem y3d(hT:TkOk T){b:Bool}{s:Ps}:Fw T s (aGo T b s):=by
 unfold aGo z8e;split
 ·exact .rfl
 ·split
  ·rename_i h;exact z11 hT h
  ·exact .rfl
theorem pUn_is{s:Ps}{o:Int}(h:pUn T s=some o):pIs T (zo8 o) s=true:=by
 unfold pUn at h;have:=List.find?_some h;exact this
theorem pOp_is{l:Int}{s:Ps}(h:pOp T l s≠0):pIs T (zo8 (pOp T l s)) s=true:=by
 unfold pOp at h⊢
 cases hq:List.find? (λo=>decide (z4h o=l)&&pIs T (zo8 o) s) [1,2,3,4,5,6,7,8,9,10,11,12,13,14,15,16,17,18,19]with
 |none=>rw[hq]at h;exact absurd _root_.rfl h
 |some o=>have:=List.find?_some hq;simp only[A0]at this;exact this.2
theorem z4z(hT:TkOk T):∀N,(∀l d s,Fw T s (z2z T N l d s).2)/\(∀l d r,Fw T r.2 (zb2 T N l d r).2)/\(∀d s,Fw T s (z7g T N d s).2)/\(∀d s,Fw T s (y2u T N d s).2)/\(∀d s,Fw T s (z7v T N d s).2)/\(∀d b out s,Fw T s (z9v T N d b out s).2)
 |0=>⟨λ_ _ _=>.rfl,λ_ _ _=>.rfl,λ_ _=>.rfl,λ_ _=>.rfl,λ_ _=>.rfl,λ_ _ _ _=>.rfl⟩
 |N+1=>by
  obtain⟨iE,iL,iU,iP,iA,iG⟩:=z4z hT N;refine⟨λl d s=>?_,λl d r=>?_,λd s=>?_,λd s=>?_,λd s=>?_,λd b out s=>?_⟩
  ·unfold z2z;split
   ·exact iU _ _
   ·exact(iE _ _ _).trans (iL _ _ _)
  ·unfold zb2;split
   ·exact .rfl
   ·rename_i h;exact(z11 hT (pOp_is h)).trans ((iE (l+1) d r.2.next).trans (iL l d (.mk 5 (pOp T l r.2) 0 s_ [r.1,(z2z T N (l+1) d r.2.next).1],(z2z T N (l+1) d r.2.next).2)))
  ·unfold z7g
   cases h:pUn T (z4f d s)with
   |none=>exact zk0.trans (iP _ _)
   |some o =>
    have h1:=(zk0 (T:=T) (d:=d) (s:=s)).trans (z11 hT (pUn_is h));dsimp only;split
    ·exact h1.trans ((z0a hT).trans ((iE _ _ _).trans (z0a hT)))
    ·exact h1.trans (iU _ _)
  ·unfold y2u;split
   ·exact .rfl
   rename_i ho;split
   ·rename_i h;exact(z11 hT h).trans ((iE _ _ _).trans (z0a hT))
   split
   ·rename_i h;exact z11 hT h
   split
   ·rename_i h;exact z11 hT h
   split
   ·rename_i h;exact(z11 hT h).trans ((z0a hT).trans (z0a hT))
   split
   ·rename_i h;exact j08 hT (by simpa using ho) (by rw[h];decide)
   split
   ·rename_i h;exact(z1x hT dC0).trans ((z11 hT h).trans (iA _ _))
   split
   ·rename_i h;exact(z1x hT dC0).trans ((z11 hT h).trans ((iE _ _ _).trans (z0a hT)))
   ·exact z1x hT dC0
  ·unfold z7v;split
   ·rename_i h;exact z11 hT h
   ·exact(iG _ _ _ _).trans (z0a hT)
  ·unfold z9v;split
   ·exact(y3d hT).trans ((iE _ _ _).trans (iG _ _ _ _))
   ·exact y3d hT
theorem z52(hT:TkOk T){s:Ps}:Fw T s (mE T s).2:=by
 unfold mE;exact(z4z hT (big T)).1 1 1 s
attribute [local irreducible] mE z7v
theorem z2r(hT:TkOk T){s:Ps}:Fw T s (z1y T s).2:=by
 unfold z1y;exact(z0a hT).trans ((z52 hT).trans (z0a hT))
theorem yj0(hT:TkOk T){s:Ps}:Fw T s (z5f T s).2:=by
 unfold z5f;split
 ·rename_i h;exact(z1x hT dC0).trans ((z11 hT h).trans ((z4z hT (big T)).2.2.2.2.1 _ _))
 split
 ·rename_i h;exact(z1x hT dC0).trans ((z11 hT h).trans ((z52 hT).trans ((z0a hT (w:=sSc)).trans ((z0a hT (w:=sEq)).trans (z52 hT)))))
 ·exact(z1x hT dC0).trans ((z0a hT).trans (z52 hT))
theorem fw_let(hT:TkOk T){s:Ps}:Fw T s (mLet T s).2:=by
 unfold mLet;exact(z5e hT).trans ((z1x hT dC0).trans ((z0a hT).trans (z52 hT)))
theorem fw_flat(hT:TkOk T){s:Ps}:Fw T s (zf6 T s).2:=by
 unfold zf6;split
 ·rename_i h;exact z11 hT h
 split
 ·rename_i h;exact z11 hT h
 split
 ·rename_i h;exact(z11 hT h).trans (z52 hT)
 split
 ·rename_i h;exact(z11 hT h).trans (z2r hT)
 ·exact yj0 hT
theorem z5d(hT:TkOk T):∀N,(∀d s,Fw T s (z5y T N d s).2)/\(∀d s,Fw T s (z1z T N d s).2)/\(∀d out s,Fw T s (z7z T N d out s).2)
 |0=>⟨λ_ _=>y0d,λ_ _=>.rfl,λ_ _ _=>.rfl⟩
 |N+1=>by
  obtain⟨iS,iB,iL⟩:=z5d hT N;refine⟨λd s=>?_,λd s=>?_,λd out s=>?_⟩
  ·unfold z5y;refine(y7k (d:=d)).trans ?_;split
   ·exact(fw_let hT).trans (z0a hT (w:=z5a))
   split
   ·rename_i h;split
    ·rename_i h2;exact(z11 hT h).trans ((z2r hT).trans ((iB _ _).trans ((z11 hT h2).trans (iB _ _))))
    ·exact(z11 hT h).trans ((z2r hT).trans (iB _ _))
   split
   ·rename_i h;exact(z11 hT h).trans ((z2r hT).trans (iB _ _))
   ·exact(fw_flat hT).trans (z0a hT (w:=z5a))
  ·unfold z1z;exact(z0a hT).trans (iL _ _ _)
  ·unfold z7z;split
   ·exact .rfl
   split
   ·rename_i h;exact z11 hT h
   ·exact(iS _ _).trans (iL _ _ _)
theorem yj1(hT:TkOk T):∀N b out s,Fw T s (z9w T N b out s).2
 |0,_,_,_=>.rfl
 |N+1,b,out,s=>by
  unfold z9w;split
  ·exact(y3d hT).trans ((z5e hT).trans ((z1x hT dC0).trans (yj1 hT N _ _ _)))
  ·exact y3d hT
theorem zj9(hT:TkOk T){s:Ps}:Fw T s (z7e T s).2:=by
 unfold z7e;split
 ·rename_i h;exact z11 hT h
 ·exact(yj1 hT _ _ _ _).trans (z0a hT)
theorem ya5(hT:TkOk T){t:Int}{n:ByteArray}{s:Ps}:Fw T s (z70 T t n s).2:=by
 unfold z70;exact(z0a hT).trans ((zj9 hT).trans ((z5d hT (big T)).2.1 _ _))
def Go1(s s':Ps):Prop:=s'.over=true∨s.at_<s'.at_
theorem Go1.then{a b c:Ps}(h:Go1 a b)(k:Fw T b c):Go1 a c:=h.elim (λe=>.inl (k.ov e)) λe=>.inr (B8 e k.at_)
theorem Go1.after{a b c:Ps}(k:Fw T a b)(h:Go1 b c):Go1 a c:=h.elim .inl λe=>.inr (Nat.lt_of_le_of_lt k.at_ e)
theorem z8b{s:Ps}:Go1 s s.next:=.inr (A6 _)
theorem zh2{w:ByteArray}{s:Ps}:Go1 s (z0o T w s):=by
 unfold z0o;split
 ·exact z8b
 ·split
  ·rename_i h;exact .inl (by simp[Ps.over,h])
  ·exact .inl (by simp[Ps.over,Ps.setBad])
theorem z6m{k:Int}{s:Ps}:Go1 s (z0l T k s).2:=by
 unfold z0l;split
 ·rename_i h;exact .inl h
 ·split
  ·exact z8b
  ·exact .inl (by simp[Ps.over,Ps.setBad])
theorem zk2{s:Ps}:Go1 s (z0q T s).2:=by
 unfold z0q;split
 ·exact z8b
 ·exact zh2
theorem go_named(hT:TkOk T){s:Ps}:Go1 s (z5f T s).2:=by
 unfold z5f;split
 ·rename_i h;exact z6m.then ((z11 hT h).trans ((z4z hT (big T)).2.2.2.2.1 _ _))
 split
 ·rename_i h;exact z6m.then ((z11 hT h).trans ((z52 hT).trans ((z0a hT (w:=sSc)).trans ((z0a hT (w:=sEq)).trans (z52 hT)))))
 ·exact z6m.then ((z0a hT).trans (z52 hT))
theorem go_flat(hT:TkOk T){s:Ps}:Go1 s (zf6 T s).2:=by
 unfold zf6;split
 ·exact z8b
 split
 ·exact z8b
 split
 ·exact z8b.then (z52 hT)
 split
 ·exact z8b.then (z2r hT)
 ·exact go_named hT
theorem go_stmt(hT:TkOk T)(N:Nat){d:Int}{s:Ps}:Go1 s (z5y T N d s).2:=by
 cases N with
 |zero=>exact .inl (by simp[z5y,Ps.over,Ps.setBad])
 |succ N =>
 obtain⟨iS,iB,iL⟩:=z5d hT N;unfold z5y;refine Go1.after (y7k (d:=d) (T:=T)) ?_;split
 ·exact zk2.then ((z1x hT (k:=1) dC0).trans ((z0a hT (w:=sEq)).trans ((z52 hT).trans (z0a hT (w:=z5a)))))
 split
 ·rename_i h;split
  ·rename_i h2;exact z8b.then ((z2r hT).trans ((iB _ _).trans ((z11 hT h2).trans (iB _ _))))
  ·exact z8b.then ((z2r hT).trans (iB _ _))
 split
 ·exact z8b.then ((z2r hT).trans (iB _ _))
 ·exact(go_flat hT).then (z0a hT (w:=z5a))
end
def psO(T:List Tk)(s:Ps):List (Nat×HO):=[(1,.box [.pv (tks T),iInt (s.at_:Nat),iBool s.bad,iBool s.deep])]
theorem yg8{T:List Tk}{s:Ps}(h:s.at_<T.length):(T.map Tk.enc)[s.at_]?=some (tkAt T s).enc:=by
 unfold tkAt;rw[B9,Ax,A5 h];rfl
theorem z73(T:List Tk)(s:Ps):SC Tryz.prog 78 [.ptr 1 0] (psO T s) (λk=>k∈[1]) (iBool s.over) (psO T s):=by
 refine SC.vc tb {} [1] Tryz.func78 rfl rfl ?_;unfold Ps.over;exact z00 (λh=>⟨sE (by rw[h];rfl),rfl,Gc⟩) λh=>⟨sE (by rw[h];rfl),rfl,Gc⟩
theorem yn2(T:List Tk)(s:Ps)(h:s.at_<T.length)(w:ByteArray):SC Tryz.prog 129 [.ptr 1 0,.pv (.val (.string w))] (psO T s) (λk=>k∈[1]) (iBool (pIs T w s)) (psO T s):=by
 refine SC.vc tb {} [1] Tryz.func129 rfl rfl ?_;refine⟨[1],z73 T s,sR,⟨rfl,rfl,.head _,Gc⟩,rfl,z00 (λh1=>⟨yg8 h,rfl,z00 (λh2=>⟨yg8 h,rfl,sE ?_,rfl,Gc⟩) λh2=>⟨sE ?_,rfl,Gc⟩⟩) λh1=>⟨sE ?_,rfl,Gc⟩⟩
 ·unfold pIs eqS;rw[h1,show((tkAt T s).kind==2)=true from h2];rfl
 ·unfold pIs;rw[h1,show((tkAt T s).kind==2)=false from h2];rfl
 ·unfold pIs;rw[h1];rfl
theorem z45(T:List Tk)(s:Ps)(h:s.at_<T.length)(hb:T.length<=1073741824)(w:ByteArray):SC Tryz.prog 81 [.ptr 1 0,.pv (.val (.string w))] (psO T s) (λk=>k∈[]) (iBool (z8e T w s).1) (psO T (z8e T w s).2):=by
 refine SC.vc tb {} [] Tryz.func81 rfl rfl ?_;unfold z8e;refine⟨[1],yn2 T s h w,sR,Ge,rfl,z00 (λh1=>?_) λh1=>?_⟩
 ·rw[if_pos h1];exact⟨z01 rfl oM0,sE (by rw[h1]),rfl,Gc⟩
 ·rw[if_neg (by rw[h1];decide)];exact⟨sE (by rw[h1]),rfl,Gc⟩
theorem z18(T:List Tk)(s:Ps)(h:s.at_<T.length)(hb:T.length<=1073741824)(w:ByteArray):SC Tryz.prog 83 [.ptr 1 0,.pv (.val (.string w))] (psO T s) (λk=>k∈[]) (.tup []) (psO T (z0o T w s)):=by
 have ht:=z45 T s h hb w;unfold z8e at ht;refine SC.vc tb {} [] Tryz.func83 rfl rfl ?_;unfold z0o
 cases h1:pIs T w s with
 |true =>
  rw[h1]at ht
  exact⟨[],ht,sR,Gd,rfl,sI,rfl,Gc⟩
 |false =>
  rw[h1]at ht;refine⟨[],ht,sR,Gd,rfl,?_⟩;obtain⟨at_,bad,deep⟩:=s
  cases deep with
  |true=>exact⟨sI,rfl,Gc⟩
  |false=>exact⟨sI,rfl,Gc⟩
theorem z83(T:List Tk)(s:Ps)(h:s.at_<T.length)(hb:T.length<=1073741824)(k:Int):SC Tryz.prog 80 [.ptr 1 0,.pv (.val (.int .i64 k))] (psO T s) (λk=>k∈[]) (.pv (.val (.string (z0l T k s).1))) (psO T (z0l T k s).2):=by
 refine SC.vc tb {} [] Tryz.func80 rfl rfl ?_;unfold z0l;refine⟨[1],z73 T s,sR,Ge,rfl,z00 (λh1=>?_) λh1=>?_⟩
 ·rw[if_pos h1];exact⟨sI,rfl,Gc⟩
 ·rw[if_neg (by rw[h1];decide)];refine⟨yg8 h,rfl,z00 (λh2=>?_) λh2=>?_⟩
  ·have h2:¬(tkAt T s).kind=k:=by simpa using h2
   rw[if_neg h2];exact⟨sI,rfl,Gc⟩
  ·have h2:(tkAt T s).kind=k:=by simpa using h2
   rw[if_pos h2];exact⟨z01 rfl oM0,sI,rfl,Gc⟩
theorem zn0(T:List Tk)(hT:TkOk T)(s:Ps)(h:s.at_<T.length)(hb:T.length<=1073741824):SC Tryz.prog 79 [.ptr 1 0] (psO T s) (λk=>k∈[]) (iInt (z0q T s).1) (psO T (z0q T s).2):=by
 have ht:=z45 T s h hb sInt;unfold z8e at ht;refine SC.vc tb {} [] Tryz.func79 rfl rfl ?_;unfold z0q
 cases h1:pIs T sInt s with
 |true =>
  rw[h1]at ht
  exact⟨[],ht,sR,Gd,rfl,sI,rfl,Gc⟩
 |false =>
  rw[h1]at ht;exact⟨[],ht,sR,Gd,rfl,[],z18 T s h hb j1w,sR,Gd,rfl,sI,rfl,Gc⟩
def j3a:List (List PV):=wSigns.tail.map λs=>[.val (.string s)]
theorem sc_signs:SC Tryz.prog 265 [] [] (λk=>k∈[]) (.pv (.seq j3a)) []:=by
 refine SC.vc tb {} [] Tryz.func265 rfl rfl ?_;exact⟨sI,Gc⟩
theorem ops28{op:Int}(h0:1<=op)(h1:op<=28):op=1∨op=2∨op=3∨op=4∨op=5∨op=6∨op=7∨op=8∨op=9∨op=10∨op=11∨op=12∨op=13∨op=14∨op=15∨op=16∨op=17∨op=18∨op=19∨op=20∨op=21∨op=22∨op=23∨op=24∨op=25∨op=26∨op=27∨op=28:=by omega
theorem sign_get{op:Int}(h0:1<=op)(h1:op<=28):j3a[(op-1).toNat]?=some [.val (.string (zo8 op))]:=by
 rcases ops28 h0 h1 with rfl|rfl|rfl|rfl|rfl|rfl|rfl|rfl|rfl|rfl|rfl|rfl|rfl|rfl|rfl|rfl|rfl|rfl|rfl|rfl|rfl|rfl|rfl|rfl|rfl|rfl|rfl|rfl<;>rfl
theorem y4d(op:Int)(h0:1<=op)(h1:op<=28):SC Tryz.prog 250 [.pv (.val (.int .i64 op))] [] (λk=>k∈[]) (.pv (.val (.string (zo8 op)))) []:=by
 refine SC.vc tb {} [] Tryz.func250 rfl rfl ?_;refine z00 (λh=>?_) λh=>?_
 ·have:=Aq h;omega
 ·refine z00 (λh2=>?_) λh2=>?_
  ·have:=Aq h2;omega
  ·exact⟨[],sc_signs,sR,Gc,rfl,z49 rfl oM0,sign_get h0 h1,by omega,sI,Gc⟩
theorem y4c(op:Int)(h0:1<=op)(h1:op<=19):SC Tryz.prog 181 [.pv (.val (.int .i64 op))] [] (λk=>k∈[]) (iInt (z4h op)) []:=by
 refine SC.vc tb {} [] Tryz.func181 rfl rfl ?_;rcases(show op=1∨op=2∨op=3∨op=4∨op=5∨op=6∨op=7∨op=8∨op=9∨op=10∨op=11∨op=12∨op=13∨op=14∨op=15∨op=16∨op=17∨op=18∨op=19 by omega)with rfl|rfl|rfl|rfl|rfl|rfl|rfl|rfl|rfl|rfl|rfl|rfl|rfl|rfl|rfl|rfl|rfl|rfl|rfl<;>exact⟨sI,Gc⟩
def y11(k n:Nat):List Int:=(List.range n).map λi=>((k+i:Nat):Int)
theorem zu8(k n:Nat):y11 k (n+1)=(k:Int)::y11 (k+1) n:=by
 unfold y11;rw[List.range_succ_eq_map];simp only[Az,El]
 congr 1
 refine List.map_congr_left λi _=>?_;show((k+(i+1):Nat):Int)=((k+1+i:Nat):Int)
 congr 1
 omega
theorem sc_pop(T:List Tk)(s:Ps)(h:s.at_<T.length)(level:Int):SC Tryz.prog 236 [.ptr 1 0,.pv (.val (.int .i64 level))] (psO T s) (λk=>k∈[1]) (iInt (pOp T level s)) (psO T s):=by
 refine SC.vc tb {} [1] Tryz.func236 rfl rfl ?_;refine⟨Nat,λk=>[(5,iInt ((k:Nat):Int))],λ_=>[],λk=>20-k,λk=>1<=k/\k<=20/\pOp T level s=((y11 k (20-k)).find? λo=>decide (z4h o=level)&&pIs T (zo8 o) s).getD 0,[],1,⟨Ab _,by decide,rfl⟩,Gd,Gc,?_⟩;rintro k ⟨h1,h2,h3⟩;refine z00 (λhc=>?_) λhc=>?_
 ·have hk:k<=19:=by have:=Aq hc;omega
  rw[show 20-k=(19-k)+1 by omega,zu8,List.find?_cons]at h3;refine⟨[],y4c k oM0 oM0,sR,Gc,rfl,z00 (λe1=>?_) λe1=>?_⟩
  ·refine⟨[],y4d k oM0 oM0,sR,Gc,rfl,[1],yn2 T s h _,sR,⟨rfl,rfl,.head _,Gc⟩,rfl,z00 (λe2=>?_) λe2=>?_⟩
   ·rw[C8 (eq_of_beq e1),e2]at h3;exact⟨sE (by rw[h3];rfl),rfl,Gc⟩
   ·rw[e2,Di]at h3;exact⟨z01 rfl oM0,k+1,by omega,⟨by omega,by omega,by rw[h3,show 20-(k+1)=19-k by omega]⟩,Gd,Gc,rfl,rfl,rfl,rfl⟩
  ·rw[Db (λe=>by rw[e]at e1;simp at e1),Cl]at h3;exact⟨z01 rfl oM0,k+1,by omega,⟨by omega,by omega,by rw[h3,show 20-(k+1)=19-k by omega]⟩,Gd,Gc,rfl,rfl,rfl,rfl⟩
 ·have hk:k=20:=by have:=Am hc;omega
  subst hk;exact⟨sE (by rw[h3];rfl),rfl,Gc⟩
section
variable {T:List Tk}
theorem y2r(k o n:Int)(s:ByteArray)(a:List Ex):xz (.mk k o n s a)=1+xzL a:=by simp only[xz]
theorem xz_x0:xz x0=1:=rfl
theorem z6u(a:Ex):xzL [a]=xz a:=by simp[xzL]
theorem j4r(a b:Ex):xzL [a,b]=xz a+xz b:=by simp[xzL]
theorem z0m(s:Ps):s.next.at_=s.at_+1:=rfl
theorem y53(hT:TkOk T):∀N,(∀l d s,xz (z2z T N l d s).1+2*s.at_<=1+2*(z2z T N l d s).2.at_)/\(∀l d r,xz (zb2 T N l d r).1+2*r.2.at_<=xz r.1+2*(zb2 T N l d r).2.at_)/\(∀d s,xz (z7g T N d s).1+2*s.at_<=1+2*(z7g T N d s).2.at_) /\
 (∀d s,xz (y2u T N d s).1+2*s.at_<=1+2*(y2u T N d s).2.at_)/\(∀d s,xzL (z7v T N d s).1+2*s.at_<=1+2*(z7v T N d s).2.at_)/\(∀d b out s,xzL (z9v T N d b out s).1+2*s.at_<=xzL out+(bif b then 1 else 0)+2*(z9v T N d b out s).2.at_)
 |0=>⟨λ_ _ _=>Ab _,λ_ _ _=>Ab _,λ_ _=>Ab _,λ_ _=>Ab _,λ_ s=>by show 0+2*s.at_<=1+2*s.at_;omega,λ_ b out s=>by show xzL out+2*s.at_<=_+2*s.at_;omega⟩
 |N+1=>by
  obtain⟨iE,iL,iU,iP,iA,iG⟩:=y53 hT N;refine⟨λl d s=>?_,λl d r=>?_,λd s=>?_,λd s=>?_,λd s=>?_,λd b out s=>?_⟩
  ·unfold z2z;split
   ·exact iU _ _
   ·have h1:=iE (l+1) d s;have h2:=iL l d (z2z T N (l+1) d s);omega
  ·unfold zb2;split
   ·exact Ab _
   ·have h1:=iE (l+1) d r.2.next;have h2:=iL l d (.mk 5 (pOp T l r.2) 0 s_ [r.1,(z2z T N (l+1) d r.2.next).1],(z2z T N (l+1) d r.2.next).2);simp only[y2r,j4r]at h2;rw[z0m]at h1;omega
  ·unfold z7g;have h0:=(zk0 (T:=T) (d:=d) (s:=s)).at_;have h0':(z4f d s).at_=s.at_:=by unfold z4f;split<;>rfl
   cases h:pUn T (z4f d s)with
   |none =>
    have:=iP d (z4f d s);dsimp only
    omega
   |some o =>
    dsimp only;split
    ·have h1:=iE 1 (d+1) (z0o T sRo (z4f d s).next);have h2:=(z0a hT (w:=sRo) (s:=(z4f d s).next)).at_;have h3:=(z0a hT (w:=sRc) (s:=(z2z T N 1 (d+1) (z0o T sRo (z4f d s).next)).2)).at_;rw[z0m]at h2;simp only[y2r,z6u];omega
    ·have h1:=iU (d+1) (z4f d s).next;rw[z0m]at h1;simp only[y2r,z6u];omega
  ·unfold y2u;split
   ·simp[xz_x0]
   split
   ·have h1:=iE 1 (d+1) s.next;have h3:=(z0a hT (w:=sRc) (s:=(z2z T N 1 (d+1) s.next).2)).at_;rw[z0m]at h1;dsimp only;omega
   split
   ·simp only[y2r,xzL,z0m];omega
   split
   ·simp only[y2r,xzL,z0m];omega
   split
   ·have h2:=(z0a hT (w:=sRo) (s:=s.next)).at_;have h3:=(z0a hT (w:=sRc) (s:=z0o T sRo s.next)).at_;rw[z0m]at h2;simp only[y2r,xzL];omega
   split
   ·simp only[y2r,xzL,z0m];omega
   have hx:=(z1x hT (k:=1) dC0 (s:=s)).at_;split
   ·have h1:=iA (d+1) (z0l T 1 s).2.next;rw[z0m]at h1;simp only[y2r];omega
   split
   ·have h1:=iE 1 (d+1) (z0l T 1 s).2.next;have h3:=(z0a hT (w:=sSc) (s:=(z2z T N 1 (d+1) (z0l T 1 s).2.next).2)).at_;rw[z0m]at h1;simp only[y2r,z6u];omega
   ·simp only[y2r,xzL];omega
  ·unfold z7v;split
   ·simp only[xzL,z0m];omega
   ·have h1:=iG d true [] s;have h3:=(z0a hT (w:=sRc) (s:=(z9v T N d true [] s).2)).at_;simp only[xzL,Dv]at h1;dsimp only;omega
  ·unfold z9v;have h0:=(y3d hT (b:=b) (s:=s)).at_;split
   ·rename_i hc;have h1:=iE 1 d (aGo T b s);have h2:=iG d false (out++[(z2z T N 1 d (aGo T b s)).1]) (z2z T N 1 d (aGo T b s)).2;rw[j4q,z6u]at h2
    cases b with
    |true =>
     simp only[Dv,Cs]at h2⊢
     omega
    |false =>
     have hi:pIs T zm6 s=true:=by simpa using hc.1
     have h3:(aGo T false s).at_=s.at_+1:=by simp[aGo,z8e,hi,z0m]
     simp only[Cs]at h2⊢;omega
   ·dsimp only;omega
theorem yr3(hT:TkOk T)(s:Ps):xz (mE T s).1+2*s.at_<=1+2*(mE T s).2.at_:=(y53 hT (big T)).1 1 1 s
theorem yk4(hT:TkOk T)(d:Int)(s:Ps):xzL (z7v T (big T) d s).1+2*s.at_<=1+2*(z7v T (big T) d s).2.at_:=(y53 hT (big T)).2.2.2.2.1 d s
theorem y0h(hT:TkOk T)(s:Ps):xz (z1y T s).1+2*s.at_<=1+2*(z1y T s).2.at_:=by
 have h1:=yr3 hT (z0o T sRo s);have h2:=(z0a hT (w:=sRo) (s:=s)).at_;have h3:=(z0a hT (w:=sRc) (s:=(mE T (z0o T sRo s)).2)).at_;unfold z1y;dsimp only;omega
end
def rem(T:List Tk)(s:Ps):Nat:=20*(T.length-s.at_)
def exB(x:Ex):HO:=.box [iInt x.kind,iInt x.op,iInt x.n,.pv (vStr x.name),.pv (exs x.args)]
def psB(T:List Tk)(s:Ps):HO:=.box [.pv (tks T),iInt (s.at_:Nat),iBool s.bad,iBool s.deep]
def dOk(T:List Tk)(d:Int)(s:Ps):Prop:=0<=d/\d+(T.length:Int)<=4294967296+(s.at_:Int)
theorem dOk.fw{T:List Tk}{d:Int}{s s':Ps}(h:dOk T d s)(k:s.at_<=s'.at_):dOk T d s':=⟨h.1,by have:=h.2;omega⟩
theorem dOk.up{T:List Tk}{d:Int}{s s':Ps}(h:dOk T d s)(k:s.at_<s'.at_):dOk T (d+1) s':=⟨by have:=h.1;omega,by have:=h.2;omega⟩
def fE(T:List Tk)(l d:Int)(s:Ps)(r:Ex×Ps):Prop:=SC Tryz.prog 208 [.ptr 1 0,.pv (.val (.int .i64 l)),.pv (.val (.int .i64 d))] (psO T s) (λk=>k∈[]) (.pv (exv r.1)) (psO T r.2)
def fU(T:List Tk)(d:Int)(s:Ps)(r:Ex×Ps):Prop:=SC Tryz.prog 235 [.ptr 1 0,.pv (.val (.int .i64 d))] (psO T s) (λk=>k∈[]) (.pv (exv r.1)) (psO T r.2)
def fP(T:List Tk)(d:Int)(s:Ps)(r:Ex×Ps):Prop:=SC Tryz.prog 251 [.ptr 1 0,.pv (.val (.int .i64 d))] (psO T s) (λk=>k∈[]) (.pv (exv r.1)) (psO T r.2)
def fA(T:List Tk)(d:Int)(s:Ps)(r:List Ex×Ps):Prop:=SC Tryz.prog 237 [.ptr 1 0,.pv (.val (.int .i64 d))] (psO T s) (λk=>k∈[]) (.pv (exs r.1)) (psO T r.2)
def SCE(T:List Tk)(N:Nat):Prop:=∀(l d:Int)(s:Ps),1<=l->l<=11->dOk T d s->s.at_<T.length->rem T s+(14-l).toNat<=N->fE T l d s (z2z T N l d s)
def SCU(T:List Tk)(N:Nat):Prop:=∀(d:Int)(s:Ps),dOk T d s->s.at_<T.length->rem T s+2<=N->fU T d s (z7g T N d s)
def SCP(T:List Tk)(N:Nat):Prop:=∀(d:Int)(s:Ps),dOk T d s->s.at_<T.length->rem T s+1<=N->fP T d s (y2u T N d s)
def SCA(T:List Tk)(N:Nat):Prop:=∀(d:Int)(s:Ps),dOk T d s->s.at_<T.length->rem T s+17<=N->fA T d s (z7v T N d s)
theorem ex2(a b:Ex):exs [a,b]=.seq [[vInt a.kind,vInt a.op,vInt a.n,vStr a.name,exs a.args],[vInt b.kind,vInt b.op,vInt b.n,vStr b.name,exs b.args]]:=by
 simp only[exs,Az,Cq,Ex.enc_eq]
theorem ex1(a:Ex):exs [a]=.seq [[vInt a.kind,vInt a.op,vInt a.n,vStr a.name,exs a.args]]:=by
 simp only[exs,Az,Cq,Ex.enc_eq]
theorem y8s(T:List Tk)(hT:TkOk T)(hb:T.length<=1073741824)(N:Nat)(ihE:∀M,M<=N->SCE T M)(ihU:SCU T N):SCE T (N+1):=by
 intro l d s h1 h2 hd h hm;refine SC.vc tb {} [] Tryz.func208 rfl rfl ?_;refine z00 (λh3=>?_) λh3=>?_
 ·have h3:=Aq h3;have e:l=11:=by omega
  subst e;have hu:=ihU d s hd h oM0;rw[show z2z T (N+1) 11 d s=z7g T N d s by rw[z2z,if_pos h3]];exact⟨[],hu,sR,Gd,rfl,sI,rfl,Gc⟩
 ·have h3:=Am h3;have he:=ihE N (Ab _) (l+1) d s oM0 oM0 hd h oM0;have hf:=(z4z hT N).1 (l+1) d s;rw[show z2z T (N+1) l d s=zb2 T N l d (z2z T N (l+1) d s) by rw[z2z,if_neg h3]];have hr:rem T (z2z T N (l+1) d s).2<=rem T s:=by have:=hf.at_;unfold rem;omega
  generalize z2z T N (l+1) d s=r0 at he hf hr;refine⟨z01 rfl oM0,[],he,sR,Gd,rfl,Nat×(Ex×Ps),λ_=>[],λa=>[(107,exB a.2.1),(1,psB T a.2.2)],λa=>a.1,
   λa=>zb2 T N l d r0=zb2 T a.1 l d a.2/\s.at_<=a.2.2.at_/\a.2.2.at_<T.length/\rem T a.2.2+(13-l).toNat<=a.1/\a.1<=N,[],(N,r0),⟨rfl,hf.at_,hf.lt h,by dsimp only;omega,Ab _⟩,Gc,Ge,?_⟩
  rintro⟨n,r⟩ ⟨i1,i0,i2,i3,i4⟩;dsimp only at i1 i0 i2 i3 i4;obtain⟨m,rfl⟩:∃m,n=m+1:=⟨n-1,by unfold rem at i3;omega⟩;rw[zb2]at i1;refine⟨[],sc_pop T r.2 i2 l,sR,Gd,rfl,z00 (λe1=>?_) λe1=>?_⟩
  ·have e1:pOp T l r.2=0:=eq_of_beq e1;rw[if_pos e1]at i1;rw[i1];exact⟨sI,rfl,Gc⟩
  ·have e1:¬pOp T l r.2=0:=by simpa using e1
   rw[if_neg e1]at i1;have hn:=j0s hT i2 (by rw[(z4l (pOp_is e1)).2];decide);have hr2:rem T r.2.next+20<=rem T r.2:=by unfold rem;rw[z0m];omega
   have he2:=ihE m oM0 (l+1) d r.2.next oM0 oM0 (hd.fw (by rw[z0m];omega)) hn oM0;have hf2:=(z4z hT m).1 (l+1) d r.2.next;have hr3:rem T (z2z T m (l+1) d r.2.next).2<=rem T r.2.next:=by have:=hf2.at_;unfold rem;omega
   generalize z2z T m (l+1) d r.2.next=r2 at he2 hf2 hr3 i1;refine⟨z01 rfl oM0,z01 rfl oM0,[],he2,sR,Gd,rfl,(m,(.mk 5 (pOp T l r.2) 0 s_ [r.1,r2.1],r2.2)),A6 _,⟨i1,by have:=hf2.at_;rw[z0m]at this;dsimp only;omega,hf2.lt hn,by dsimp only;omega,by dsimp only;omega⟩,Gc,⟨?_,rfl,Gc⟩,rfl,rfl,rfl,rfl⟩;exact(Aa (λp=>some (HO.box [iInt 5,iInt (pOp T l r.2),iInt 0,.pv (vStr s_),.pv p])) (ex2 r.1 r2.1)).symm
theorem y6g(T:List Tk)(hT:TkOk T)(hb:T.length<=1073741824)(N:Nat)(ihE:SCE T N)(ihU:SCU T N)(ihP:SCP T N):SCU T (N+1):=by
 intro d s hd h hm;refine SC.vc tb {} [] Tryz.func235 rfl rfl ?_;obtain⟨s1,es⟩:∃x,x=z4f d s:=⟨_,rfl⟩;have hf1:Fw T s s1:=by rw[es];exact zk0
 have ha1:s1.at_=s.at_:=by rw[es];unfold z4f;split<;>rfl
 have hM:z7g T (N+1) d s=match pUn T s1 with
  |none=>y2u T N d s1
  |some op=>if op≥23 then(.mk 4 op 0 s_ [(z2z T N 1 (d+1) (z0o T sRo s1.next)).1],z0o T sRc (z2z T N 1 (d+1) (z0o T sRo s1.next)).2)
   else(.mk 4 op 0 s_ [(z7g T N (d+1) s1.next).1],(z7g T N (d+1) s1.next).2):=by rw[es];rfl
 generalize z7g T (N+1) d s=R at hM;have hd1:dOk T d s1:=hd.fw hf1.at_;have hl1:s1.at_<T.length:=by rw[ha1];exact h
 have hm1:rem T s1+2<=N+1:=by unfold rem at hm⊢;rw[ha1];exact hm
 clear hd hm hf1;obtain⟨at_,bad,deep⟩:=s
 cases bad
 all_goals refine z00 (λc1=>?_) λc1=>?_
 have e:s1=⟨at_,false,true⟩:=by rw[es];unfold z4f;rw[if_pos ⟨Aq c1,rfl⟩];rfl
 rotate_left
 have e:s1=⟨at_,false,deep⟩:=by rw[es];unfold z4f;rw[if_neg (λg=>Am c1 g.1)]
 rotate_left
 have e:s1=⟨at_,true,deep⟩:=by rw[es];unfold z4f;rw[if_neg (λg=>by cases g.2)]
 rotate_left
 have e:s1=⟨at_,true,deep⟩:=by rw[es];unfold z4f;rw[if_neg (λg=>by cases g.2)]
 rotate_left
 all_goals
  clear es c1;refine⟨Nat,λk=>[(5,iInt ((k:Nat):Int))],λ_=>[(1,psB T s1)],λk=>29-k,λk=>20<=k/\k<=29/\pUn T s1=(y11 k (29-k)).find? λo=>pIs T (zo8 o) s1,[],20,⟨Ab _,by decide,rfl⟩,Gd,⟨by rw[e];rfl,Gc⟩,?_⟩;rintro k ⟨h1,h2,h3⟩;refine z00 (λhc=>?_) λhc=>?_
  ·have hk:k<=28:=by have:=Aq hc;omega
   rw[show 29-k=(28-k)+1 by omega,zu8,List.find?_cons]at h3;have ht:=z45 T s1 hl1 hb (zo8 k);unfold z8e at ht;refine⟨[],y4d k oM0 oM0,sR,Gc,rfl,?_⟩
   cases hp:pIs T (zo8 k) s1 with
   |false =>
    rw[hp]at ht h3
    exact⟨[],ht,sR,Gd,rfl,z01 rfl oM0,k+1,by omega,⟨by omega,by omega,by rw[h3,show 29-(k+1)=28-k by omega]⟩,Gd,Gd,rfl,rfl,rfl,rfl⟩
   |true =>
    rw[hp]at ht h3;dsimp only at h3;rw[h3]at hM;dsimp only at hM;have hn:=(z11 hT hp).lt hl1;have hr:=show rem T s1.next+20<=rem T s1 by unfold rem;rw[z0m]at hn⊢;omega
    have hd2:dOk T (d+1) s1.next:=hd1.up (A6 _);refine⟨[],ht,sR,Gd,rfl,z00 (λg1=>?_) λg1=>?_⟩
    ·have g1:=Aq g1;rw[if_pos g1]at hM;have hf2:=z0a hT (w:=sRo) (s:=s1.next);have he:=ihE 1 (d+1) (z0o T sRo s1.next) oM0 oM0 (hd2.fw hf2.at_) (hf2.lt hn) (by have:=hf2.at_;unfold rem at hr hm1⊢;omega);have hf3:=((z4z hT N).1 1 (d+1) (z0o T sRo s1.next)).lt (hf2.lt hn);generalize z2z T N 1 (d+1) (z0o T sRo s1.next)=r at he hM hf3;subst hM;refine⟨[],z18 T s1.next hn hb sRo,sR,Gd,rfl,z00 (λ_=>?_) λg2=>absurd g1 (Am g2)⟩;refine⟨z01 rfl (by have:=hd2.1;have:=hd2.2;omega),[],he,sR,Gd,rfl,[],z18 T r.2 hf3 hb sRc,sR,Gd,rfl,?_⟩;exact⟨sE (Aa (λp=>IV.pv (.agg [vInt 4,vInt (k:Int),vInt 0,vStr s_,p])) (ex1 r.1).symm),rfl,Gc⟩
    ·have g1:=Am g1;rw[if_neg g1]at hM;have hu:=ihU (d+1) s1.next hd2 hn oM0;generalize z7g T N (d+1) s1.next=r at hu hM;subst hM;refine z00 (λg2=>absurd (Aq g2) g1) λ_=>?_;refine⟨z01 rfl (by have:=hd2.1;have:=hd2.2;omega),[],hu,sR,Gd,rfl,?_⟩;exact⟨sE (Aa (λp=>IV.pv (.agg [vInt 4,vInt (k:Int),vInt 0,vStr s_,p])) (ex1 r.1).symm),rfl,Gc⟩
  ·have hk:k=29:=by have:=Am hc;omega
   subst hk;rw[show pUn T s1=none from h3]at hM;subst hM;exact⟨[],ihP d s1 hd1 hl1 oM0,sR,Gd,rfl,sI,rfl,Gc⟩
theorem zu2{w:ByteArray}(h:zk6 w=true):w.data.toList.all (λb=>z3w b.toNat)=true:=by
 unfold zk6 at h;simp only[A0]at h;exact h.1
def TkSz(T:List Tk):Prop:=∀t∈T,t.text.size<=1073741824
theorem j3p{T:List Tk}{s:Ps}(h:s.at_<T.length):tkAt T s∈T:=by
 unfold tkAt;rw[Ax,A5 h];exact Cv h
theorem tk_num{T:List Tk}(hT:TkOk T){s:Ps}(h:s.at_<T.length)(hk:(tkAt T s).kind=0):zk6 (tkAt T s).text=true:=by
 have hm:=j3p h;obtain⟨init,e,rfl,he,hi⟩:=hT;rcases B3.1 hm with hm|hm
 ·exact(hi _ hm).2 hk
 ·rw[Ah.1 hm,he]at hk;cases hk
theorem y8t(T:List Tk)(hT:TkOk T)(hS:TkSz T)(hb:T.length<=1073741824)(N:Nat)(ihE:SCE T N)(ihA:SCA T N):SCP T (N+1):=by
 intro d s hd h hm;refine SC.vc tb {} [] Tryz.func251 rfl rfl ?_;generalize hM:y2u T (N+1) d s=R;unfold y2u at hM;have tk:∀w,SC Tryz.prog 81 [.ptr 1 0,.pv (.val (.string w))] (psO T s) (λk=>k∈[]) (iBool (if pIs T w s then(true,s.next)else(false,s)).1) (psO T (if pIs T w s then(true,s.next)else(false,s)).2):=λw=>z45 T s h hb w;have nx:∀{w},pIs T w s=true->s.next.at_<T.length/\rem T s.next+20<=rem T s/\dOk T (d+1) s.next:=λ{w} hp=>by
  have hn:=(z11 hT hp).lt h;exact⟨hn,by unfold rem;rw[z0m]at hn⊢;omega,hd.up (A6 _)⟩
 refine⟨[],z73 T s,sR,Gd,rfl,z00 (λo1=>?_) λo1=>?_⟩
 ·rw[if_pos o1]at hM;subst hM;exact⟨sP (z0c _),rfl,Gc⟩
 rw[if_neg (by rw[o1];decide)]at hM
 cases p1:pIs T sRo s with
 |true =>
  have t:=tk sRo;rw[p1]at t hM;obtain⟨n1,n2,n3⟩:=nx p1;have he:=ihE 1 (d+1) s.next oM0 oM0 n3 n1 oM0;have hf3:=((z4z hT N).1 1 (d+1) s.next).lt n1;rw[if_pos rfl]at hM;generalize z2z T N 1 (d+1) s.next=r at he hM hf3;subst hM
  exact⟨[],t,sR,Gd,rfl,z01 rfl (by have:=n3.1;have:=n3.2;omega),[],he,sR,Gd,rfl,[],z18 T r.2 hf3 hb sRc,sR,Gd,rfl,sI,rfl,Gc⟩
 |false =>
 have t:=tk sRo;rw[p1]at t hM;rw[if_neg dC0]at hM;refine⟨[],t,sR,Gd,rfl,?_⟩
 cases p2:pIs T sTrue s with
 |true =>
  have t:=tk sTrue;rw[p2]at t hM;rw[if_pos rfl]at hM;subst hM
  exact⟨[],t,sR,Gd,rfl,sP (z0c _),rfl,Gc⟩
 |false =>
 have t:=tk sTrue;rw[p2]at t hM;rw[if_neg dC0]at hM;refine⟨[],t,sR,Gd,rfl,?_⟩
 cases p3:pIs T ym6 s with
 |true =>
  have t:=tk ym6;rw[p3]at t hM;rw[if_pos rfl]at hM;subst hM
  exact⟨[],t,sR,Gd,rfl,sP (z0c _),rfl,Gc⟩
 |false =>
 have t:=tk ym6;rw[p3]at t hM;rw[if_neg dC0]at hM;refine⟨[],t,sR,Gd,rfl,?_⟩
 cases p4:pIs T sRead s with
 |true =>
  have t:=tk sRead;rw[p4]at t hM;rw[if_pos rfl]at hM;subst hM;obtain⟨n1,_,_⟩:=nx p4
  exact⟨[],t,sR,Gd,rfl,[],z18 T s.next n1 hb sRo,sR,Gd,rfl,[],z18 T _ ((z0a hT (w:=sRo)).lt n1) hb sRc,sR,Gd,rfl,sP (z0c _),rfl,Gc⟩
 |false =>
 have t:=tk sRead;rw[p4]at t hM;rw[if_neg dC0]at hM;refine⟨[],t,sR,Gd,rfl,yg8 h,rfl,z00 (λk1=>?_) λk1=>?_⟩
 ·have k1:(tkAt T s).kind=0:=eq_of_beq k1;rw[if_pos k1]at hM;subst hM;have hx:=z83 T s h hb 0;have ex:z0l T 0 s=((tkAt T s).text,s.next):=by unfold z0l;rw[if_neg (by rw[o1];decide),if_pos k1]
  rw[ex]at hx;exact⟨[],hx,sR,Gd,rfl,[],y65 _ (zu2 (tk_num hT h k1)) (hS _ (j3p h)),sR,Gc,rfl,sP (z0c _),rfl,Gc⟩
 have k1:¬(tkAt T s).kind=0:=by simpa using k1
 rw[if_neg k1]at hM;have hx:=z83 T s h hb 1;have fx:=z1x hT (k:=1) dC0 (s:=s);generalize z0l T 1 s=x at hx fx hM;have hl:=fx.lt h;have hdx:=hd.fw fx.at_;have hrx:rem T x.2<=rem T s:=by have:=fx.at_;unfold rem;omega
 have tx:∀w,SC Tryz.prog 81 [.ptr 1 0,.pv (.val (.string w))] (psO T x.2) (λk=>k∈[]) (iBool (if pIs T w x.2 then(true,x.2.next)else(false,x.2)).1) (psO T (if pIs T w x.2 then(true,x.2.next)else(false,x.2)).2):=λw=>z45 T x.2 hl hb w;have nx2:∀{w},pIs T w x.2=true->x.2.next.at_<T.length/\rem T x.2.next+20<=rem T x.2/\dOk T (d+1) x.2.next:=λ{w} hp=>by
  have hn:=(z11 hT hp).lt hl;exact⟨hn,by unfold rem;rw[z0m]at hn⊢;omega,hdx.up (A6 _)⟩
 refine⟨[],hx,sR,Gd,rfl,?_⟩
 cases p5:pIs T sRo x.2 with
 |true =>
  have t:=tx sRo;rw[p5]at t hM;obtain⟨n1,n2,n3⟩:=nx2 p5;have ha:=ihA (d+1) x.2.next n3 n1 oM0;rw[if_pos rfl]at hM;generalize z7v T N (d+1) x.2.next=r at ha hM;subst hM
  exact⟨[],t,sR,Gd,rfl,z01 rfl (by have:=n3.1;have:=n3.2;omega),[],ha,sR,Gd,rfl,sI,rfl,Gc⟩
 |false =>
 have t:=tx sRo;rw[p5]at t hM;rw[if_neg dC0]at hM;refine⟨[],t,sR,Gd,rfl,?_⟩
 cases p6:pIs T sSo x.2 with
 |true =>
  have t:=tx sSo;rw[p6]at t hM;obtain⟨n1,n2,n3⟩:=nx2 p6;have he:=ihE 1 (d+1) x.2.next oM0 oM0 n3 n1 oM0;have hf3:=((z4z hT N).1 1 (d+1) x.2.next).lt n1;rw[if_pos rfl]at hM;generalize z2z T N 1 (d+1) x.2.next=r at he hM hf3;subst hM;exact⟨[],t,sR,Gd,rfl,z01 rfl (by have:=n3.1;have:=n3.2;omega),[],he,sR,Gd,rfl,[],z18 T r.2 hf3 hb sSc,sR,Gd,rfl,
   sE (Aa (λp=>IV.pv (.agg [vInt 6,vInt 0,vInt 0,vStr x.1,p])) (ex1 r.1).symm),rfl,Gc⟩
 |false =>
 have t:=tx sSo;rw[p6]at t hM;rw[if_neg dC0]at hM;subst hM;exact⟨[],t,sR,Gd,rfl,sP (z0c _),rfl,Gc⟩
def exRt:RT:=⟨185,5⟩
theorem enc5(out:List Ex)(x:Ex):(out++[x]).map Ex.enc=out.map Ex.enc++[[vInt x.kind,vInt x.op,vInt x.n,vStr x.name,exs x.args]]:=by
 rw[Cf,Az,Cq,Ex.enc_eq]
theorem y8q(T:List Tk)(hT:TkOk T)(hb:T.length<=1073741824)(N:Nat)(ihE:∀M,M<=N->SCE T M):SCA T (N+1):=by
 intro d s hd h hm;refine SC.vc tb { gh:=[(4,[.grow 5 1001 185 5]),(9,[.fz 5 1001])] } [] Tryz.func237 rfl rfl ?_;generalize hM:z7v T (N+1) d s=R;unfold z7v at hM;have t:=z45 T s h hb sRc;unfold z8e at t
 cases p1:pIs T sRc s with
 |true =>
  rw[p1]at t hM;rw[if_pos rfl]at hM;subst hM
  exact⟨[],t,sR,Gd,rfl,sN,rfl,Gc⟩
 |false =>
 rw[p1]at t hM;rw[if_neg dC0]at hM;generalize hL:z9v T N d true [] s=L at hM;refine⟨[],t,sR,Gd,rfl,Nat×Bool×List Ex×Ps,λa=>[(6,iBool a.2.1),(5,.sl 1001 (a.2.2.1.map Ex.enc).length)],λa=>[(1001,.row exRt (a.2.2.1.map Ex.enc)),(1,psB T a.2.2.2)],λa=>a.1,
  λa=>L=z9v T a.1 d a.2.1 a.2.2.1 a.2.2.2/\s.at_<=a.2.2.2.at_/\a.2.2.2.at_<T.length/\rem T a.2.2.2+(bif a.2.1 then 15 else 1)<=a.1/\a.1<=N/\a.2.2.1.length<=a.2.2.2.at_+(bif a.2.1 then 0 else 1),[],(N,true,[],s),
  ⟨hL.symm,Ab _,h,by simp only[Dv];omega,Ab _,A9 _⟩,Ge,Ge,?_⟩
 rintro⟨n,first,out,z⟩ ⟨i1,i2,i3,i4,i5,i6⟩;dsimp only at i1 i2 i3 i4 i5 i6;obtain⟨m,rfl⟩:∃m,n=m+1:=⟨n-1,by cases first<;>simp only[Dv,Cs]at i4<;>omega⟩;rw[z9v]at i1
 cases first with
 |true =>
  simp only[Dv]at i4 i6;rw[show aGo T true z=z from rfl,B6]at i1;refine⟨[],z73 T z,sR,Gd,rfl,z00 (λo1=>?_) λo1=>?_⟩
  ·have o1:z.over=false:=by simpa using o1
   rw[if_pos ⟨rfl,o1⟩]at i1;have he:=ihE m oM0 1 d z oM0 oM0 (hd.fw i2) i3 oM0;have hf:=(z4z hT m).1 1 d z;generalize z2z T m 1 d z=r at he hf i1;have h5:=hf.at_;exact⟨[],he,sR,Gd,rfl,rfl,z3f rfl,by simp;omega,(m,false,out++[r.1],r.2),A6 _,
    ⟨i1,by dsimp only;omega,hf.lt i3,by simp only[Cs];unfold rem at i4⊢;omega,by dsimp only;omega,by simp only[Cs,B4,Aj,B0];omega⟩,⟨rfl,slq sI0,Gc⟩,⟨rwq (by rw[enc5]),rfl,Gc⟩,rfl,rfl,rfl,rfl⟩
  ·have o1:z.over=true:=by simpa using o1
   rw[if_neg (λe=>by rw[o1]at e;cases e.2)]at i1;subst i1;subst hM
   exact⟨[],z18 T z i3 hb sRc,sR,Gd,rfl,rfl,sI,rfl,Gc⟩
 |false =>
  simp only[Cs]at i4 i6;rw[Bt]at i1;have t:=z45 T z i3 hb zm6;unfold z8e at t
  cases p2:pIs T zm6 z with
  |false =>
   rw[p2]at t i1;rw[if_neg (λe=>by cases e.1),show aGo T false z=z by unfold aGo z8e;rw[p2];rfl]at i1;subst i1;subst hM
   exact⟨[],t,sR,Gd,rfl,[],z18 T z i3 hb sRc,sR,Gd,rfl,rfl,sI,rfl,Gc⟩
  |true =>
   rw[p2]at t i1;have hn:=(z11 hT p2).lt i3;have o1:z.next.over=false:=(z4l p2).1;rw[show aGo T false z=z.next by unfold aGo z8e;rw[p2];rfl,if_pos ⟨rfl,o1⟩]at i1;have he:=ihE m oM0 1 d z.next oM0 oM0 (hd.fw (by rw[z0m];omega)) hn (by unfold rem at i4⊢;rw[z0m]at hn⊢;omega);have hf:=(z4z hT m).1 1 d z.next;generalize z2z T m 1 d z.next=r at he hf i1;have h5:=hf.at_;rw[z0m]at h5 hn;have h6:=hf.lt hn;refine⟨[],t,sR,Gd,rfl,[],z73 T z.next,sR,Gd,rfl,z00 (λ_=>?_) λg=>by rw[o1]at g;cases g⟩;exact⟨[],he,sR,Gd,rfl,rfl,z3f rfl,by simp;omega,(m,false,out++[r.1],r.2),A6 _,
    ⟨i1,by dsimp only;omega,h6,by simp only[Cs];unfold rem at i4⊢;omega,by dsimp only;omega,by simp only[Cs,B4,Aj,B0];omega⟩,⟨rfl,slq sI0,Gc⟩,⟨rwq (by rw[enc5]),rfl,Gc⟩,rfl,rfl,rfl,rfl⟩
theorem y67(T:List Tk)(hT:TkOk T)(hS:TkSz T)(hb:T.length<=1073741824):∀N,(∀M,M<=N->SCE T M)/\(∀M,M<=N->SCU T M)/\(∀M,M<=N->SCP T M)/\(∀M,M<=N->SCA T M)
 |0=>by
  refine⟨λM hM l d s h1 h2 hd h hm=>?_,λM hM d s hd h hm=>?_,λM hM d s hd h hm=>?_,λM hM d s hd h hm=>?_⟩<;>exact absurd hm (by unfold rem;omega)
 |N+1=>by
  obtain⟨iE,iU,iP,iA⟩:=y67 T hT hS hb N;refine⟨λM hM=>?_,λM hM=>?_,λM hM=>?_,λM hM=>?_⟩<;>rcases Dw N M with h|h
  ·rw[show M=N+1 by omega];exact y8s T hT hb N iE (iU N (Ab _))
  ·exact iE M h
  ·rw[show M=N+1 by omega];exact y6g T hT hb N (iE N (Ab _)) (iU N (Ab _)) (iP N (Ab _))
  ·exact iU M h
  ·rw[show M=N+1 by omega];exact y8t T hT hS hb N (iE N (Ab _)) (iA N (Ab _))
  ·exact iP M h
  ·rw[show M=N+1 by omega];exact y8q T hT hb N iE
  ·exact iA M h
theorem yu4(T:List Tk)(hT:TkOk T)(hS:TkSz T)(hb:T.length<=1073741824)(s:Ps)(h:s.at_<T.length):fE T 1 1 s (mE T s) :=
 (y67 T hT hS hb (big T)).1 (big T) (Ab _) 1 1 s dC0 dC0 ⟨by decide,by omega⟩ h (by unfold rem big;omega)
theorem sc_mArgs(T:List Tk)(hT:TkOk T)(hS:TkSz T)(hb:T.length<=1073741824)(s:Ps)(h:s.at_<T.length):fA T 2 s (z7v T (big T) 2 s) :=
 (y67 T hT hS hb (big T)).2.2.2 (big T) (Ab _) 2 s ⟨by decide,by omega⟩ h (by unfold rem big;omega)
section
def nilV:PV:=.val (.slice none 0 0)
theorem zs8{k t:Int}{nm:ByteArray}{p:PV}{a:List Ex}(h:exs a=p):SubI (.pv (.agg [vInt k,vInt t,vStr nm,p,nilV,nilV])) (.pv (stv (.mk k t nm a [] []))):=by subst h;exact sP (z0c _)
theorem yo6{k t:Int}{nm:ByteArray}{p:PV}{a:List Ex}{x:List St}(h:exs a=p):SubI (.pv (.agg [vInt k,vInt t,vStr nm,p,sts x,nilV])) (.pv (stv (.mk k t nm a x []))):=by subst h;exact sP (z0c _)
theorem stv_sub2{k t:Int}{nm:ByteArray}{p:PV}{a:List Ex}{x y:List St}(h:exs a=p):SubI (.pv (.agg [vInt k,vInt t,vStr nm,p,sts x,sts y])) (.pv (stv (.mk k t nm a x y))):=by subst h;exact sI
attribute [local irreducible] mE z7v
variable (T:List Tk) (hT:TkOk T) (hS:TkSz T) (hb:T.length<=1073741824)
include hT hS hb
theorem y1o(s:Ps)(h:s.at_<T.length):SC Tryz.prog 209 [.ptr 1 0] (psO T s) (λk=>k∈[]) (.pv (exs [(z1y T s).1])) (psO T (z1y T s).2):=by
 refine SC.vc tb {} [] Tryz.func209 rfl rfl ?_;have h1:=(z0a hT (w:=sRo)).lt h;unfold z1y;have he:=yu4 T hT hS hb _ h1;have h2:=(z52 hT (s:=z0o T sRo s)).lt h1;generalize mE T (z0o T sRo s)=r at he h2;exact⟨[],z18 T s h hb sRo,sR,Gd,rfl,[],he,sR,Gd,rfl,[],z18 T r.2 h2 hb sRc,sR,Gd,rfl,sE (Aa IV.pv (ex1 r.1).symm),rfl,Gc⟩
theorem sc_named(s:Ps)(h:s.at_<T.length):SC Tryz.prog 210 [.ptr 1 0] (psO T s) (λk=>k∈[]) (.pv (stv (z5f T s).1)) (psO T (z5f T s).2):=by
 refine SC.vc tb {} [] Tryz.func210 rfl rfl ?_;generalize hM:z5f T s=R;unfold z5f at hM;have hx:=z83 T s h hb 1;have fx:=z1x hT (k:=1) dC0 (s:=s);generalize z0l T 1 s=x at hx fx hM;have hl:=fx.lt h;have tx:∀w,SC Tryz.prog 81 [.ptr 1 0,.pv (.val (.string w))] (psO T x.2) (λk=>k∈[]) (iBool (if pIs T w x.2 then(true,x.2.next)else(false,x.2)).1) (psO T (if pIs T w x.2 then(true,x.2.next)else(false,x.2)).2):=λw=>z45 T x.2 hl hb w;refine⟨[],hx,sR,Gd,rfl,?_⟩
 cases p5:pIs T sRo x.2 with
 |true =>
  have t:=tx sRo;rw[p5]at t hM;have n1:=(z11 hT p5).lt hl;have ha:=sc_mArgs T hT hS hb x.2.next n1;rw[if_pos rfl]at hM;generalize z7v T (big T) 2 x.2.next=r at ha hM;subst hM
  exact⟨[],t,sR,Gd,rfl,[],ha,sR,Gd,rfl,zs8 (ex1 _),rfl,Gc⟩
 |false =>
 have t:=tx sRo;rw[p5]at t hM;rw[if_neg dC0]at hM;refine⟨[],t,sR,Gd,rfl,?_⟩
 cases p6:pIs T sSo x.2 with
 |true =>
  have t:=tx sSo;rw[p6]at t hM;have n1:=(z11 hT p6).lt hl;have he:=yu4 T hT hS hb x.2.next n1;have n2:=(z52 hT (s:=x.2.next)).lt n1;rw[if_pos rfl]at hM;generalize mE T x.2.next=r at he hM n2;have n3:=(z0a hT (w:=sSc)).lt n2;have n4:=(z0a hT (w:=sEq)).lt n3;have he2:=yu4 T hT hS hb _ n4;generalize mE T (z0o T sEq (z0o T sSc r.2))=r2 at he2 hM;subst hM
  exact⟨[],t,sR,Gd,rfl,[],he,sR,Gd,rfl,[],z18 T r.2 n2 hb sSc,sR,Gd,rfl,[],z18 T _ n3 hb sEq,sR,Gd,rfl,[],he2,sR,Gd,rfl,zs8 (ex2 _ _),rfl,Gc⟩
 |false =>
 have t:=tx sSo;rw[p6]at t hM;rw[if_neg dC0]at hM;have n4:=(z0a hT (w:=sEq)).lt hl;have he2:=yu4 T hT hS hb _ n4;generalize mE T (z0o T sEq x.2)=r2 at he2 hM;subst hM;exact⟨[],t,sR,Gd,rfl,[],z18 T _ hl hb sEq,sR,Gd,rfl,[],he2,sR,Gd,rfl,zs8 (ex1 _),rfl,Gc⟩
end
section
variable {T:List Tk}
theorem y27(k t:Int)(s:ByteArray)(a:List Ex)(x y:List St):sz (.mk k t s a x y)=1+xzL a+szL x+szL y:=by simp only[sz]
theorem szL_one(a:St):szL [a]=sz a:=by simp[szL]
theorem Fw.back{s s':Ps}(h:Fw T s s')(k:s'.over=false):s.over=false:=by
 cases e:s.over with
 |false=>rfl
 |true=>exact absurd (h.ov e) (by rw[k];decide)
theorem Go1.lt{s s':Ps}(h:Go1 s s')(k:s'.over=false):s.at_<s'.at_:=h.elim (λe=>absurd e (by rw[k];decide)) id
attribute [local irreducible] mE z7v
theorem let_sz(hT:TkOk T){s:Ps}(h:(mLet T s).2.over=false):sz (mLet T s).1+3*s.at_<=3*(mLet T s).2.at_:=by
 unfold mLet at h⊢;dsimp only at h⊢;have h1:=yr3 hT (z0o T sEq (z0l T 1 (z0q T s).2).2);have b1:=(z52 hT).back h;have b2:=(z0a hT (w:=sEq)).back b1;have b3:=(z1x hT (k:=1) dC0).back b2;have a1:=(z52 hT (s:=z0o T sEq (z0l T 1 (z0q T s).2).2)).at_;have a2:=zh2.lt b1;have a3:=z6m.lt b2;have a4:=zk2.lt b3;simp only[y27,z6u,szL];omega
theorem named_sz(hT:TkOk T){s:Ps}(h:(z5f T s).2.over=false):sz (z5f T s).1+3*s.at_<=3*(z5f T s).2.at_:=by
 unfold z5f at h⊢;split at h
 ·rename_i h1;rw[if_pos h1];dsimp only at h⊢;have h2:=yk4 hT 2 (z0l T 1 s).2.next;have b1:=(z4l h1).1;have a1:=z6m.lt b1;rw[z0m]at h2;simp only[y27,z6u,y2r,szL];omega
 rename_i h1;rw[if_neg h1];split at h
 ·rename_i h2;rw[if_pos h2];dsimp only at h⊢;have b1:=(z4l h2).1;have a1:=z6m.lt b1;have c1:=yr3 hT (z0l T 1 s).2.next;have d1:=(z52 hT (s:=(z0l T 1 s).2.next)).at_;rw[z0m]at c1 d1;generalize(mE T (z0l T 1 s).2.next)=e at h c1 d1⊢;have d2:=(z0a hT (w:=sSc) (s:=e.2)).at_;have d3:=(z0a hT (w:=sEq) (s:=z0o T sSc e.2)).at_;have c2:=yr3 hT (z0o T sEq (z0o T sSc e.2));have d4:=(z52 hT (s:=z0o T sEq (z0o T sSc e.2))).at_;simp only[y27,j4r,szL];omega
 ·rename_i h2;rw[if_neg h2];dsimp only at h⊢;have b1:=(z52 hT).back h;have b2:=(z0a hT (w:=sEq)).back b1;have a1:=z6m.lt b2;have a2:=zh2.lt b1;have c1:=yr3 hT (z0o T sEq (z0l T 1 s).2);have a3:=(z52 hT (s:=z0o T sEq (z0l T 1 s).2)).at_;simp only[y27,z6u,szL];omega
theorem flat_sz(hT:TkOk T){s:Ps}(h:(zf6 T s).2.over=false):sz (zf6 T s).1+3*s.at_<=3*(zf6 T s).2.at_:=by
 unfold zf6 at h⊢;split at h
 ·rename_i h1;rw[if_pos h1];simp only[y27,xzL,szL,z0m];omega
 rename_i h1;rw[if_neg h1];split at h
 ·rename_i h1;rw[if_pos h1];simp only[y27,xzL,szL,z0m];omega
 rename_i h1;rw[if_neg h1];split at h
 ·rename_i h1;rw[if_pos h1];have c1:=yr3 hT s.next;have a1:=(z52 hT (s:=s.next)).at_;rw[z0m]at c1 a1;simp only[y27,z6u,szL];omega
 rename_i h1;rw[if_neg h1];split at h
 ·rename_i h1;rw[if_pos h1];have c1:=y0h hT s.next;have a1:=(z2r hT (s:=s.next)).at_;rw[z0m]at c1 a1;simp only[y27,z6u,szL];omega
 rename_i h1;rw[if_neg h1];exact named_sz hT h
theorem y25(d:Int)(s:Ps):(z38 d s).at_=s.at_:=by unfold z38;split<;>rfl
theorem stmt_sz(hT:TkOk T)(N:Nat)(iB:∀d s,(z1z T N d s).2.over=false->szL (z1z T N d s).1+3*s.at_<=3*(z1z T N d s).2.at_)(d:Int)(s:Ps)(h:(z5y T (N+1) d s).2.over=false):sz (z5y T (N+1) d s).1+3*s.at_<=3*(z5y T (N+1) d s).2.at_:=by
 have e:=y25 d s;unfold z5y at h⊢;generalize z38 d s=s at e h⊢;rw[<- e];split at h
 ·rename_i h1;rw[if_pos h1];have b1:=(z0a hT (w:=z5a)).back h;have h2:=let_sz hT b1;have h3:=(z0a hT (w:=z5a) (s:=(mLet T s).2)).at_;dsimp only at h3⊢;omega
 rename_i h1;rw[if_neg h1];split at h
 ·rename_i h1;rw[if_pos h1];have c1:=y0h hT s.next;have a1:=(z2r hT (s:=s.next)).at_;rw[z0m]at c1 a1;split at h
  ·rename_i h2;rw[if_pos h2];have b2:=iB _ _ h;have b3:=iB _ _ (z4l h2).1;rw[z0m]at b2;simp only[y27,z6u];omega
  ·rename_i h2;rw[if_neg h2];have b3:=iB _ _ h;simp only[y27,z6u,szL];omega
 rename_i h1;rw[if_neg h1];split at h
 ·rename_i h1;rw[if_pos h1];have c1:=y0h hT s.next;have a1:=(z2r hT (s:=s.next)).at_;rw[z0m]at c1 a1;have b3:=iB _ _ h;simp only[y27,z6u,szL];omega
 rename_i h1;rw[if_neg h1];have b1:=(z0a hT (w:=z5a)).back h;have h2:=flat_sz hT b1;have h3:=(z0a hT (w:=z5a) (s:=(zf6 T s).2)).at_;dsimp only at h3⊢;omega
theorem yo4(hT:TkOk T):∀N,(∀d s,(z5y T N d s).2.over=false->sz (z5y T N d s).1+3*s.at_<=3*(z5y T N d s).2.at_)/\(∀d s,(z1z T N d s).2.over=false->szL (z1z T N d s).1+3*s.at_<=3*(z1z T N d s).2.at_) /\
 (∀d out s,(z7z T N d out s).2.over=false->szL (z7z T N d out s).1+3*s.at_<=szL out+3*(z7z T N d out s).2.at_)
 |0=>⟨λd s h=>absurd h (by simp[z5y,Ps.over,Ps.setBad]),λd s _=>by show 0+3*s.at_<=3*s.at_;omega,λd out s _=>by show szL out+3*s.at_<=szL out+3*s.at_;omega⟩
 |N+1=>by
  obtain⟨iS,iB,iL⟩:=yo4 hT N;refine⟨λd s h=>stmt_sz hT N iB d s h,λd s h=>?_,λd out s h=>?_⟩
  ·unfold z1z at h⊢;have h1:=iL d [] (z0o T sBo s) h;have h2:=(z0a hT (w:=sBo) (s:=s)).at_;simp only[szL]at h1;omega
  ·unfold z7z at h⊢;split at h
   ·rename_i h1;rw[if_pos h1];exact Ab _
   rename_i h1;rw[if_neg h1];split at h
   ·rename_i h1;rw[if_pos h1];simp only[z0m];omega
   rename_i h1;rw[if_neg h1];have b1:=((z5d hT N).2.2 _ _ _).back h;have h2:=iL _ _ _ h;have h3:=iS _ _ b1;rw[j3j,szL_one]at h2;omega
end
def fS(T:List Tk)(d:Int)(s:Ps)(r:St×Ps):Prop:=SC Tryz.prog 179 [.ptr 1 0,.pv (.val (.int .i64 d))] (psO T s) (λk=>k∈[]) (.pv (stv r.1)) (psO T r.2)
def fB(T:List Tk)(d:Int)(s:Ps)(r:List St×Ps):Prop:=SC Tryz.prog 130 [.ptr 1 0,.pv (.val (.int .i64 d))] (psO T s) (λk=>k∈[]) (.pv (sts r.1)) (psO T r.2)
def SCS(T:List Tk)(N:Nat):Prop:=∀(d:Int)(s:Ps),dOk T d s->s.at_<T.length->rem T s+5<=N->fS T d s (z5y T N d s)
def SCB(T:List Tk)(N:Nat):Prop:=∀(d:Int)(s:Ps),dOk T d s->s.at_<T.length->rem T s+8<=N->fB T d s (z1z T N d s)
theorem yo5{k t:Int}{nm:ByteArray}:SubI (.pv (.agg [vInt k,vInt t,vStr nm,nilV,nilV,nilV])) (.pv (stv (.mk k t nm [] [] []))):=sP (z0c _)
attribute [local irreducible] mE z7v z1y z5f
theorem y93(T:List Tk)(hT:TkOk T)(hS:TkSz T)(hb:T.length<=1073741824)(N:Nat)(ihB:SCB T N):SCS T (N+1):=by
 intro d s hd h hm;refine SC.vc tb {} [] Tryz.func179 rfl rfl ?_;generalize hM:z5y T (N+1) d s=R;unfold z5y at hM;have ha1:=y25 d s;obtain⟨z,ez⟩:∃x,x=z38 d s:=⟨_,rfl⟩;rw[<- ez]at hM ha1;have hd1:dOk T d z:=hd.fw oM0;have hl:z.at_<T.length:=by rw[ha1];exact h
 have hm1:rem T z+5<=N+1:=by unfold rem at hm⊢;rw[ha1];exact hm
 refine z00 (λc1=>?_) λc1=>?_;have e:z=⟨s.at_,s.bad,true⟩:=by rw[ez];unfold z38;rw[if_pos (Aq c1)];rfl
 rotate_left
 have e:z=⟨s.at_,s.bad,s.deep⟩:=by rw[ez];unfold z38;rw[if_neg (Am c1)]
 rotate_left
 all_goals
  have hpre:psO T z=psO T z:=rfl;clear ez c1;have tz:∀w,SC Tryz.prog 81 [.ptr 1 0,.pv (.val (.string w))] (psO T z) (λk=>k∈[]) (iBool (if pIs T w z then(true,z.next)else(false,z)).1) (psO T (if pIs T w z then(true,z.next)else(false,z)).2):=λw=>z45 T z hl hb w;have nx:∀{w},pIs T w z=true->z.next.at_<T.length/\rem T z.next+20<=rem T z/\dOk T (d+1) z.next:=λ{w} hp=>by
   have hn:=(z11 hT hp).lt hl;exact⟨hn,by unfold rem;rw[z0m]at hn⊢;omega,hd1.up (A6 _)⟩
  have letc:(pIs T sInt z||pIs T j1w z)=true->((mLet T z).1,z0o T z5a (mLet T z).2)=R:=λq=>by rw[if_pos q]at hM;exact hM
  have lx:=zn0 T hT z hl hb;have lf:=(z5e hT (s:=z)).lt hl;refine⟨[],yn2 T z hl sInt,sR,⟨by rw[e];rfl,Gc⟩,rfl,z00 (λq1=>?_) λq1=>⟨[],yn2 T z hl j1w,sR,Gd,rfl,z00 (λq2=>?_) λq2=>?_⟩⟩;have hM:=letc (by rw[q1];rfl)
  rotate_left
  have hM:=letc (by rw[q2];simp)
  rotate_right
  iterate 2
   unfold mLet at hM;generalize z0q T z=p at lx lf hM;have hx:=z83 T p.2 lf hb 1;have n1:=(z1x hT (k:=1) dC0 (s:=p.2)).lt lf;generalize z0l T 1 p.2=x at hx n1 hM;have n2:=(z0a hT (w:=sEq)).lt n1;have he:=yu4 T hT hS hb _ n2;have n3:=(z52 hT (s:=z0o T sEq x.2)).lt n2;generalize mE T (z0o T sEq x.2)=r at he n3 hM;subst hM;exact⟨[],lx,sR,Gd,rfl,[],hx,sR,Gd,rfl,[],z18 T _ n1 hb sEq,sR,Gd,rfl,[],he,sR,Gd,rfl,[],z18 T _ n3 hb z5a,sR,Gd,rfl,zs8 (ex1 _),rfl,Gc⟩
  clear letc lx lf;rw[q1,q2,if_neg dC0]at hM
  cases q3:pIs T sIf z with
  |true =>
   have t:=tz sIf;rw[q3]at t hM;rw[if_pos rfl]at hM;obtain⟨n1,n2,n3⟩:=nx q3;have hi:=y1o T hT hS hb z.next n1;have fi:=z2r hT (s:=z.next);generalize z1y T z.next=i at hi fi hM;have n4:=fi.lt n1;have n5:rem T i.2<=rem T z.next:=by have:=fi.at_;unfold rem;omega
   have n6:=n3.fw fi.at_;have hB:=ihB (d+1) i.2 n6 n4 oM0;have fb:=(z5d hT N).2.1 (d+1) i.2;generalize z1z T N (d+1) i.2=b at hB fb hM;have n7:=fb.lt n4;have n8:rem T b.2<=rem T i.2:=by have:=fb.at_;unfold rem;omega
   have te:=z45 T b.2 n7 hb sElse;unfold z8e at te
   cases q4:pIs T sElse b.2 with
   |true =>
    rw[q4]at te hM;rw[if_pos rfl]at hM;have m1:=(z11 hT q4).lt n7;have hB2:=ihB (d+1) b.2.next ((n6.fw fb.at_).fw (Fa _)) m1 (by unfold rem at *;rw[z0m]at *;omega);generalize z1z T N (d+1) b.2.next=b2 at hB2 hM;subst hM
    exact⟨[],t,sR,Gd,rfl,[],hi,sR,Gd,rfl,z01 rfl (by have:=n3.1;have:=n3.2;omega),[],hB,sR,Gd,rfl,[],te,sR,Gd,rfl,z01 rfl (by have:=n3.1;have:=n3.2;omega),[],hB2,sR,Gd,rfl,stv_sub2 rfl,rfl,Gc⟩
   |false =>
    rw[q4]at te hM;rw[if_neg dC0]at hM;subst hM
    exact⟨[],t,sR,Gd,rfl,[],hi,sR,Gd,rfl,z01 rfl (by have:=n3.1;have:=n3.2;omega),[],hB,sR,Gd,rfl,[],te,sR,Gd,rfl,yo6 rfl,rfl,Gc⟩
  |false =>
  have t:=tz sIf;rw[q3]at t hM;rw[if_neg dC0]at hM;refine⟨[],t,sR,Gd,rfl,?_⟩;clear t
  cases q5:pIs T ym8 z with
  |true =>
   have t:=tz ym8;rw[q5]at t hM;rw[if_pos rfl]at hM;obtain⟨n1,n2,n3⟩:=nx q5;have hi:=y1o T hT hS hb z.next n1;have fi:=z2r hT (s:=z.next);generalize z1y T z.next=i at hi fi hM;have n4:=fi.lt n1;have n5:rem T i.2<=rem T z.next:=by have:=fi.at_;unfold rem;omega
   have n6:=n3.fw fi.at_;have hB:=ihB (d+1) i.2 n6 n4 oM0;generalize z1z T N (d+1) i.2=b at hB hM;subst hM
   exact⟨[],t,sR,Gd,rfl,[],hi,sR,Gd,rfl,z01 rfl (by have:=n3.1;have:=n3.2;omega),[],hB,sR,Gd,rfl,yo6 rfl,rfl,Gc⟩
  |false =>
  have t:=tz ym8;rw[q5]at t hM;rw[if_neg dC0]at hM;refine⟨[],t,sR,Gd,rfl,?_⟩;clear t;unfold zf6 at hM
  cases q6:pIs T ym5 z with
  |true =>
   have t:=tz ym5;rw[q6]at t hM;rw[if_pos rfl]at hM;obtain⟨n1,_,_⟩:=nx q6;subst hM
   exact⟨[],t,sR,Gd,rfl,[],z18 T _ n1 hb z5a,sR,Gd,rfl,yo5,rfl,Gc⟩
  |false =>
  have t:=tz ym5;rw[q6]at t hM;rw[if_neg dC0]at hM;refine⟨[],t,sR,Gd,rfl,?_⟩;clear t
  cases q7:pIs T zm7 z with
  |true =>
   have t:=tz zm7;rw[q7]at t hM;rw[if_pos rfl]at hM;obtain⟨n1,_,_⟩:=nx q7;subst hM
   exact⟨[],t,sR,Gd,rfl,[],z18 T _ n1 hb z5a,sR,Gd,rfl,yo5,rfl,Gc⟩
  |false =>
  have t:=tz zm7;rw[q7]at t hM;rw[if_neg dC0]at hM;refine⟨[],t,sR,Gd,rfl,?_⟩;clear t
  cases q8:pIs T y64 z with
  |true =>
   have t:=tz y64;rw[q8]at t hM;rw[if_pos rfl]at hM;obtain⟨n1,_,_⟩:=nx q8;have he:=yu4 T hT hS hb _ n1;have n2:=(z52 hT (s:=z.next)).lt n1;generalize mE T z.next=r at he n2 hM;subst hM
   exact⟨[],t,sR,Gd,rfl,[],he,sR,Gd,rfl,[],z18 T _ n2 hb z5a,sR,Gd,rfl,zs8 (ex1 _),rfl,Gc⟩
  |false =>
  have t:=tz y64;rw[q8]at t hM;rw[if_neg dC0]at hM;refine⟨[],t,sR,Gd,rfl,?_⟩;clear t
  cases q9:pIs T ym7 z with
  |true =>
   have t:=tz ym7;rw[q9]at t hM;rw[if_pos rfl]at hM;obtain⟨n1,_,_⟩:=nx q9;have hi:=y1o T hT hS hb z.next n1;have n2:=(z2r hT (s:=z.next)).lt n1;generalize z1y T z.next=i at hi n2 hM;subst hM
   exact⟨[],t,sR,Gd,rfl,[],hi,sR,Gd,rfl,[],z18 T _ n2 hb z5a,sR,Gd,rfl,zs8 rfl,rfl,Gc⟩
  |false =>
  have t:=tz ym7;rw[q9]at t hM;rw[if_neg dC0]at hM;have hn:=sc_named T hT hS hb z hl;have n2:=(yj0 hT (s:=z)).lt hl;generalize z5f T z=r at hn n2 hM;subst hM;exact⟨[],t,sR,Gd,rfl,[],hn,sR,Gd,rfl,[],z18 T _ n2 hb z5a,sR,Gd,rfl,sI,rfl,Gc⟩
def stRt:RT:=⟨152,6⟩
theorem enc6(out:List St)(x:St):(out++[x]).map St.enc=out.map St.enc++[[vInt x.kind,vInt x.ty,vStr x.name,exs x.args,sts x.thn,sts x.els]]:=by
 rw[Cf,Az,Cq,St.enc_eq]
theorem y66(T:List Tk)(hT:TkOk T)(hb:T.length<=1073741824)(N:Nat)(ihS:∀M,M<=N->SCS T M):SCB T (N+1):=by
 intro d s hd h hm;refine SC.vc tb { gh:=[(2,[.grow 5 1001 152 6]),(5,[.fz 5 1001])] } [] Tryz.func130 rfl rfl ?_;have hf0:=z0a hT (w:=sBo) (s:=s);have hl0:=hf0.lt h;have hr0:rem T (z0o T sBo s)<=rem T s:=by have:=hf0.at_;unfold rem;omega
 generalize hM:z1z T (N+1) d s=R;unfold z1z at hM;refine⟨[],z18 T s h hb sBo,sR,Gd,rfl,Nat×List St×Ps,λa=>[(5,.sl 1001 (a.2.1.map St.enc).length)],λa=>[(1001,.row stRt (a.2.1.map St.enc)),(1,psB T a.2.2)],λa=>a.1,
  λa=>R=z7z T a.1 d a.2.1 a.2.2/\s.at_<=a.2.2.at_/\a.2.2.at_<T.length/\(a.2.2.over=true∨rem T a.2.2+6<=a.1)/\1<=a.1/\a.1<=N/\(a.2.1.length<=a.2.2.at_∨(a.2.2.over=true/\a.2.1.length<=a.2.2.at_+1)),[],(N,[],z0o T sBo s),
  ⟨hM.symm,hf0.at_,hl0,.inr (by dsimp only;omega),by dsimp only;omega,Ab _,.inl (A9 _)⟩,Gd,Ge,?_⟩
 rintro⟨n,out,z⟩ ⟨i1,i2,i3,i4,i5,i6,i7⟩;dsimp only at i1 i2 i3 i4 i5 i6 i7;obtain⟨m,rfl⟩:∃m,n=m+1:=⟨n-1,by omega⟩;rw[z7z]at i1;have t:=z45 T z i3 hb sBc;unfold z8e at t;refine⟨[],z73 T z,sR,Gd,rfl,z00 (λo1=>?_) λo1=>?_⟩
 ·have o1:z.over=false:=by simpa using o1
  rw[if_neg (by rw[o1];decide)]at i1
  cases p2:pIs T sBc z with
  |true =>
   rw[p2]at t i1;rw[if_pos rfl]at i1;subst i1
   exact⟨[],t,sR,Gd,rfl,rfl,sI,rfl,Gc⟩
  |false =>
   rw[p2]at t i1;rw[if_neg dC0]at i1;have i4:rem T z+6<=m+1:=i4.resolve_left (by rw[o1];decide);have i7:out.length<=z.at_:=i7.resolve_right (λe=>by rw[o1]at e;cases e.1);have hs:=ihS m oM0 d z (hd.fw i2) i3 oM0;have hf:=(z5d hT m).1 d z;have hg:=go_stmt hT m (d:=d) (s:=z);generalize z5y T m d z=r at hs hf hg i1;have h5:=hf.at_;refine⟨[],t,sR,Gd,rfl,[],hs,sR,Gd,rfl,rfl,z3f rfl,by simp;omega,(m,out++[r.1],r.2),A6 _,⟨i1,by dsimp only;omega,hf.lt i3,?_,?_,by dsimp only;omega,?_⟩,⟨slq sI0,Gc⟩,⟨rwq (by rw[enc6]),rfl,Gc⟩,rfl,rfl,rfl,rfl⟩
   ·rcases hg with g|g
    ·exact .inl g
    ·exact .inr (by dsimp only;unfold rem at i4⊢;omega)
   ·dsimp only;unfold rem at i4;omega
   ·dsimp only;rw[B4];rcases hg with g|g
    ·exact .inr ⟨g,by show _+1<=_;omega⟩
    ·exact .inl (by show _+1<=_;omega)
 ·have o1:z.over=true:=by simpa using o1
  rw[if_pos o1]at i1;subst i1;exact⟨rfl,sI,rfl,Gc⟩
theorem yn9(T:List Tk)(hT:TkOk T)(hS:TkSz T)(hb:T.length<=1073741824):∀N,(∀M,M<=N->SCS T M)/\(∀M,M<=N->SCB T M)
 |0=>by
  refine⟨λM hM d s hd h hm=>?_,λM hM d s hd h hm=>?_⟩<;>exact absurd hm (by unfold rem;omega)
 |N+1=>by
  obtain⟨iS,iB⟩:=yn9 T hT hS hb N;refine⟨λM hM=>?_,λM hM=>?_⟩<;>rcases Dw N M with h|h
  ·rw[show M=N+1 by omega];exact y93 T hT hS hb N (iB N (Ab _))
  ·exact iS M h
  ·rw[show M=N+1 by omega];exact y66 T hT hb N iS
  ·exact iB M h
theorem j2a(T:List Tk)(hT:TkOk T)(hS:TkSz T)(hb:T.length<=1073741824)(s:Ps)(h:s.at_<T.length):fB T 1 s (z1z T (big T) 1 s) :=
 (yn9 T hT hS hb (big T)).2 (big T) (Ab _) 1 s ⟨by decide,by omega⟩ h (by unfold rem big;omega)
def pmRt:RT:=⟨98,2⟩
def fuv(f:Fu):PV:=.agg f.enc
theorem j16(out:List Pm)(x:Pm):(out++[x]).map Pm.enc=out.map Pm.enc++[[vStr x.name,vInt x.ty]]:=by rw[Cf];rfl
attribute [local irreducible] z1z
theorem ye5(T:List Tk)(hT:TkOk T)(hS:TkSz T)(hb:T.length<=1073741824)(t:Int)(name:ByteArray)(s:Ps)(h:s.at_<T.length) :
 SC Tryz.prog 84 [.ptr 1 0,.pv (.val (.int .i64 t)),.pv (.val (.string name))] (psO T s) (λk=>k∈[]) (.pv (fuv (z70 T t name s).1)) (psO T (z70 T t name s).2):=by
 refine SC.vc tb { gh:=[(4,[.growC 107 2 1001 98 2]),(9,[.fzC 107 2 1001])] } [] Tryz.func84 rfl rfl ?_;generalize hM:z70 T t name s=R;unfold z70 at hM;have h1:=(z0a hT (w:=sRo)).lt h;refine⟨[],z18 T s h hb sRo,sR,Gd,rfl,?_⟩;generalize z0o T sRo s=y at h1 hM;have hp:=(zj9 hT (s:=y)).lt h1;have hB:=j2a T hT hS hb _ hp;generalize hP:z7e T y=P at hp hB hM;unfold z7e at hP;generalize z1z T (big T) 1 P.2=B at hB hM;have tk:=z45 T y h1 hb sRc;unfold z8e at tk
 cases p1:pIs T sRc y with
 |true =>
  rw[p1]at tk hP;rw[if_pos rfl]at hP;subst hP;subst hM
  exact⟨[],tk,sR,Gd,rfl,[],hB,sR,Gd,rfl,sP (z0c _),rfl,Gc⟩
 |false =>
 rw[p1]at tk hP;rw[if_neg dC0]at hP;refine⟨[],tk,sR,Gd,rfl,?_⟩;generalize hL:z9w T (big T) true [] y=L at hP;refine⟨Nat×Bool×List Pm×Ps,λa=>[(8,iBool a.2.1)],λa=>[(1001,.row pmRt (a.2.2.1.map Pm.enc)),(107,.box [.pv (vStr name),iInt t,.sl 1001 (a.2.2.1.map Pm.enc).length,.pv (.val (.slice none 0 0))]),(1,psB T a.2.2.2)],λa=>a.1,
  λa=>L=z9w T a.1 a.2.1 a.2.2.1 a.2.2.2/\a.2.2.2.at_<T.length/\rem T a.2.2.2+(bif a.2.1 then 15 else 1)<=a.1/\a.2.2.1.length<=a.2.2.2.at_+(bif a.2.1 then 0 else 1),[],(big T,true,[],y),
  ⟨hL.symm,h1,by simp only[Dv];unfold rem big;omega,A9 _⟩,Gd,Gf,?_⟩
 rintro⟨n,first,out,z⟩ ⟨i1,i3,i4,i6⟩;dsimp only at i1 i3 i4 i6;obtain⟨m,rfl⟩:∃m,n=m+1:=⟨n-1,by cases first<;>simp only[Dv,Cs]at i4<;>omega⟩;rw[z9w]at i1;have exit_:L=(out,z)->P=(out,z0o T sRc z):=λe=>by rw[<- hP,e]
 cases first with
 |true =>
  simp only[Dv]at i4 i6;rw[show aGo T true z=z from rfl,B6]at i1;refine⟨[],z73 T z,sR,Gd,rfl,z00 (λo1=>?_) λo1=>?_⟩
  ·have o1:z.over=false:=by simpa using o1
   rw[if_pos ⟨rfl,o1⟩]at i1;have lx:=zn0 T hT z i3 hb;have lf:=z5e hT (s:=z);generalize z0q T z=p at lx lf i1;have hx:=z83 T p.2 (lf.lt i3) hb 1;have fx:=z1x hT (k:=1) dC0 (s:=p.2);generalize z0l T 1 p.2=x at hx fx i1;have f1:=lf.at_;have f2:=fx.at_;exact⟨[],lx,sR,Gd,rfl,[],hx,sR,Gd,rfl,rfl,z3f rfl,by simp;omega,by simp,(m,false,out++[⟨x.1,p.1⟩],x.2),A6 _,
    ⟨i1,fx.lt (lf.lt i3),by simp only[Cs];unfold rem at i4⊢;omega,by simp only[Cs,B4,Aj,B0];omega⟩,Gd,⟨rwq (by rw[j16]),boq sI0,rfl,Gc⟩,rfl,rfl,rfl,rfl⟩
  ·have o1:z.over=true:=by simpa using o1
   rw[if_neg (λe=>by rw[o1]at e;cases e.2)]at i1;have e:=exit_ i1;subst e;subst hM
   exact⟨rfl,[],z18 T z i3 hb sRc,sR,Gd,rfl,[],hB,sR,Gd,rfl,sI,rfl,Gc⟩
 |false =>
  simp only[Cs]at i4 i6;rw[Bt]at i1;have tk:=z45 T z i3 hb zm6;unfold z8e at tk
  cases p2:pIs T zm6 z with
  |false =>
   rw[p2]at tk i1;rw[if_neg (λe=>by cases e.1),show aGo T false z=z by unfold aGo z8e;rw[p2];rfl]at i1;have e:=exit_ i1;subst e;subst hM
   exact⟨[],tk,sR,Gd,rfl,rfl,[],z18 T z i3 hb sRc,sR,Gd,rfl,[],hB,sR,Gd,rfl,sI,rfl,Gc⟩
  |true =>
   rw[p2]at tk i1;have hn:=(z11 hT p2).lt i3;have o1:z.next.over=false:=(z4l p2).1;rw[show aGo T false z=z.next by unfold aGo z8e;rw[p2];rfl,if_pos ⟨rfl,o1⟩]at i1;have lx:=zn0 T hT z.next hn hb;have lf:=z5e hT (s:=z.next);generalize z0q T z.next=p at lx lf i1;have hx:=z83 T p.2 (lf.lt hn) hb 1;have fx:=z1x hT (k:=1) dC0 (s:=p.2);generalize z0l T 1 p.2=x at hx fx i1;have f1:=lf.at_;have f2:=fx.at_;have f3:=fx.lt (lf.lt hn);rw[z0m]at f1 hn;refine⟨[],tk,sR,Gd,rfl,[],z73 T z.next,sR,Gd,rfl,z00 (λ_=>?_) λg=>by rw[o1]at g;cases g⟩;exact⟨[],lx,sR,Gd,rfl,[],hx,sR,Gd,rfl,rfl,z3f rfl,by simp;omega,by simp,(m,false,out++[⟨x.1,p.1⟩],x.2),A6 _,
    ⟨i1,f3,by simp only[Cs];unfold rem at i4⊢;omega,by simp only[Cs,B4,Aj,B0];omega⟩,Gd,⟨rwq (by rw[j16]),boq sI0,rfl,Gc⟩,rfl,rfl,rfl,rfl⟩
def arRt:RT:=⟨80,2⟩
def fuRt:RT:=⟨57,4⟩
theorem ar_snoc(out:List Ar)(x:Ar):(out++[x]).map Ar.enc=out.map Ar.enc++[[vStr x.name,vInt x.size]]:=by rw[Cf];rfl
theorem fu_snoc(out:List Fu)(x:Fu):(out++[x]).map Fu.enc=out.map Fu.enc++[[vStr x.name,vInt x.ty,pms x.params,sts x.body]]:=by rw[Cf];rfl
theorem text_num{T:List Tk}(hT:TkOk T)(hS:TkSz T){s:Ps}(h:s.at_<T.length):(z0l T 0 s).1.data.toList.all (λb=>z3w b.toNat)=true/\(z0l T 0 s).1.size<=1073741824:=by
 unfold z0l;split
 ·exact⟨rfl,A9 _⟩
 ·split
  ·rename_i hk;exact⟨zu2 (tk_num hT h hk),hS _ (j3p h)⟩
  ·exact⟨rfl,A9 _⟩
attribute [local irreducible] z70
theorem sc_prog(T:List Tk)(hT:TkOk T)(hS:TkSz T)(hb:T.length<=1073741824)(h:0<T.length) :
 SC Tryz.prog 44 [.ptr 1 0] (psO T ⟨0,false,false⟩) (λk=>k∈[]) (.pv (z96 T).1.enc) (psO T (z96 T).2):=by
 refine SC.vc tb { gh:=[(2000000,[.growC 103 0 1001 80 2,.growC 103 1 1002 57 4]),(11,[.fzC 103 0 1001,.fzC 103 1 1002])] } [] Tryz.func44 rfl rfl ?_;generalize hM:z96 T=R;unfold z96 at hM;refine⟨Nat×Pg×Ps,λ_=>[],λa=>[(1001,.row arRt (a.2.1.arrays.map Ar.enc)),(1002,.row fuRt (a.2.1.funcs.map Fu.enc)),(103,.box [.sl 1001 (a.2.1.arrays.map Ar.enc).length,.sl 1002 (a.2.1.funcs.map Fu.enc).length]),(1,psB T a.2.2)],λa=>a.1,
  λa=>R=z40 T a.1 a.2.1 a.2.2/\a.2.2.at_<T.length/\(a.2.2.over=true∨rem T a.2.2+6<=a.1)/\1<=a.1/\a.2.1.arrays.length<=a.2.2.at_+1/\a.2.1.funcs.length<=a.2.2.at_+1/\(a.2.2.over=true∨(a.2.1.arrays.length<=a.2.2.at_/\a.2.1.funcs.length<=a.2.2.at_)),[],(big T,⟨[],[]⟩,⟨0,false,false⟩),
  ⟨hM.symm,h,.inr (by dsimp only;unfold rem big;omega),by unfold big;dsimp only;omega,A9 _,A9 _,.inr ⟨A9 _,A9 _⟩⟩,Gc,Gg,?_⟩
 rintro⟨n,p,z⟩ ⟨i1,i3,i4,i5,i6,i7,i8⟩;dsimp only at i1 i3 i4 i5 i6 i7 i8;obtain⟨m,rfl⟩:∃m,n=m+1:=⟨n-1,by omega⟩;rw[z40]at i1;refine⟨[],z73 T z,sR,Gd,rfl,z00 (λo1=>?_) λo1=>?_⟩
 ·have o1:z.over=false:=by simpa using o1
  refine⟨yg8 i3,rfl,z00 (λk1=>?_) λk1=>?_⟩
  ·have k1:((tkAt T z).kind==3)=false:=by simpa using k1
   rw[o1,k1,if_neg dC0]at i1;have i4:rem T z+6<=m+1:=i4.resolve_left (by rw[o1];decide);have i8:=i8.resolve_left (by rw[o1];decide);have lx:=zn0 T hT z i3 hb;have lf:=z5e hT (s:=z);have lg:=zk2 (T:=T) (s:=z);generalize z0q T z=t at lx lf lg i1;have hx:=z83 T t.2 (lf.lt i3) hb 1;have fx:=z1x hT (k:=1) dC0 (s:=t.2);generalize z0l T 1 t.2=x at hx fx i1;have lt1:=fx.lt (lf.lt i3);have lg1:=lg.then fx;refine⟨[],lx,sR,Gd,rfl,[],hx,sR,Gd,rfl,?_⟩;have lg2:=lg1;have fnc:qArr T p.funcs t.1 x.2=false->R=z40 T m ⟨p.arrays,p.funcs++[(z70 T t.1 x.1 x.2).1]⟩ (z70 T t.1 x.1 x.2).2:=λe=>by rw[i1,e,if_neg dC0]
   have hF:=ye5 T hT hS hb t.1 x.1 x.2 lt1;have fF:=ya5 hT (t:=t.1) (n:=x.1) (s:=x.2);refine z00 (λc1=>?_) λc1=>?_
   rotate_left
   have i1:=fnc (by unfold qArr;rw[c1];rfl)
   rotate_left
   refine⟨rfl,z00 (λc2=>?_) λc2=>?_⟩
   rotate_left
   have i1:=fnc (by unfold qArr;rw[show(p.funcs.length==0)=false by(have:=(Ac).1 c2;simp at this⊢;exact this)];simp)
   rotate_right
   have tk:=z45 T x.2 lt1 hb sSo;unfold z8e at tk
   cases c3:pIs T sSo x.2
   rw[c3]at tk;have i1:=fnc (by unfold qArr;rw[c3];simp);refine⟨[],tk,sR,Gd,rfl,?_⟩
   rotate_left
   ·rw[c3]at tk;have hc:qArr T p.funcs t.1 x.2=true:=by
     unfold qArr;rw[c1,c3,show(p.funcs.length==0)=true by(have:=eq_of_beq c2;simp at this⊢;exact this)];rfl
    rw[hc,if_pos rfl]at i1;clear fnc hF fF;have n1:=(z11 hT c3).lt lt1;have hv:=text_num hT hS n1;have hy:=z83 T x.2.next n1 hb 0;have fy:=z1x hT (k:=0) dC0 (s:=x.2.next);generalize z0l T 0 x.2.next=y at hv hy fy i1;have n2:=fy.lt n1;have f3:=z0a hT (w:=sSc) (s:=y.2);have n3:=f3.lt n2;have f4:=z0a hT (w:=z5a) (s:=z0o T sSc y.2);have n4:=f4.lt n3;have lg3:=lg1.then ((z11 hT c3).trans (fy.trans (f3.trans f4)));have at4:z.at_<=(z0o T z5a (z0o T sSc y.2)).at_:=by have a1:=lf.at_;have a2:=fx.at_;have a3:=fy.at_;have a4:=f3.at_;have a5:=f4.at_;rw[z0m]at a3;omega
    have h3:=z18 T y.2 n2 hb sSc;have h4:=z18 T _ n3 hb z5a;generalize z0o T z5a (z0o T sSc y.2)=w at h4 n4 lg3 at4 i1;refine⟨[],tk,sR,Gd,rfl,[],hy,sR,Gd,rfl,[],y65 y.1 hv.1 hv.2,sR,Gc,rfl,[],h3,sR,Gd,rfl,[],h4,sR,Gd,rfl,rfl,z3f rfl,by simp;omega,by simp,
     (m,⟨p.arrays++[⟨x.1,zg6 y.1⟩],p.funcs⟩,w),A6 _,⟨i1,n4,?_,by dsimp only;unfold rem at i4;omega,by simp;omega,by dsimp only;omega,?_⟩,Gc,⟨rwq (by rw[ar_snoc]),rfl,boq sI0,rfl,Gc⟩,rfl,rfl,rfl,rfl⟩
    ·exact lg3.elim .inl λg=>.inr (by dsimp only;unfold rem at i4⊢;omega)
    ·exact lg3.elim .inl λg=>.inr ⟨by simp;omega,by dsimp only;omega⟩
   iterate 3
    have lg3:=lg2.then fF;have lt2:=fF.lt lt1;have at2:z.at_<=(z70 T t.1 x.1 x.2).2.at_:=by have a1:=lf.at_;have a2:=fx.at_;have a3:=fF.at_;omega
    generalize z70 T t.1 x.1 x.2=f at hF lg3 lt2 at2 i1;refine⟨[],hF,sR,Gd,rfl,rfl,z3f rfl,by simp;omega,by simp,(m,⟨p.arrays,p.funcs++[f.1]⟩,f.2),A6 _,⟨i1,lt2,?_,by dsimp only;unfold rem at i4;omega,by dsimp only;omega,by simp;omega,?_⟩,Gc,⟨rfl,rwq (by rw[fu_snoc]),boq sI0,rfl,Gc⟩,rfl,rfl,rfl,rfl⟩
    ·exact lg3.elim .inl λg=>.inr (by dsimp only;unfold rem at i4⊢;omega)
    ·exact lg3.elim .inl λg=>.inr ⟨by dsimp only;omega,by simp;omega⟩
  ·have k1:((tkAt T z).kind==3)=true:=by simpa using k1
   rw[o1,k1,if_pos dC0]at i1;subst i1;exact⟨rfl,rfl,sI,rfl,Gc⟩
 ·have o1:z.over=true:=by simpa using o1
  rw[o1,B6,if_pos rfl]at i1;subst i1;exact⟨rfl,rfl,sI,rfl,Gc⟩
theorem zn1(op:Int):SC Tryz.prog 181 [.pv (.val (.int .i64 op))] [] (λk=>k∈[]) (iInt (z4h op)) []:=by
 by_cases h:1<=op/\op<=19
 ·exact y4c op h.1 h.2
 refine SC.vc tb {} [] Tryz.func181 rfl rfl ?_;have hz:z4h op=0:=by
  unfold z4h;split
  ·rfl
  ·rename_i g;simp only[Bp,Bi,not_or]at g;rcases(show op=0∨op=20∨op=21∨op=22∨op=23∨op=24∨op=25∨op=26∨op=27∨op=28 by omega)with rfl|rfl|rfl|rfl|rfl|rfl|rfl|rfl|rfl|rfl<;>rfl
 exact z00 (λh=>absurd (eq_of_beq h) oM0) λ_=>z00 (λh=>absurd (eq_of_beq h) oM0) λ_=>z00 (λh=>absurd (eq_of_beq h) oM0) λ_=>z00 (λh=>absurd (eq_of_beq h) oM0) λ_=>z00 (λh=>absurd (eq_of_beq h) oM0) λ_=>z00 (λh=>absurd (eq_of_beq h) oM0) λ_=>z00 (λh=>absurd (eq_of_beq h) oM0) λ_=>z00 (λh=>absurd (eq_of_beq h) oM0) λ_=>z00 (λh=>absurd (eq_of_beq h) oM0) λ_=>z00 (λh=>absurd (eq_of_beq h) oM0) λ_=>z00 (λh=>absurd (eq_of_beq h) oM0) λ_=>z00 (λh=>absurd (eq_of_beq h) oM0) λ_=>z00 (λh=>absurd (eq_of_beq h) oM0) λ_=>z00 (λh=>absurd (eq_of_beq h) oM0) λ_=>z00 (λh=>absurd (eq_of_beq h) oM0) λ_=>z00 (λh=>absurd (eq_of_beq h) oM0) λ_=>z00 (λh=>absurd (eq_of_beq h) oM0) λ_=>z00 (λh=>absurd (eq_of_beq h) oM0) λ_=>z00 (λh=>absurd (eq_of_beq h) oM0) λ_=>⟨sE (by rw[hz]),Gc⟩
def rOwn(k o n:Int)(nm:ByteArray)(len:Nat):Bool :=
 if k=1 then o==0&&decide (n≥0)&&nm.toList==[]&&len==0
 else if k=2 then o==0&&(n==0||n==1)&&nm.toList==[]&&len==0
 else if k=3 then o==0&&n==0&&z0k nm&&len==0
 else if k=4 then z2v o&&n==0&&nm.toList==[]&&len==1
 else if k=5 then decide (z4h o > 0)&&n==0&&nm.toList==[]&&len==2
 else if k=6 then o==0&&n==0&&z0k nm&&len==1
 else if k=7 then o==0&&n==0&&z0k nm&&decide (len<=8)
 else if k=8 then o==0&&n==0&&nm.toList==[]&&len==0
 else false
mutual
def rx:Ex->Int->Bool
 |.mk k o n nm args,most=>rxL args most&&rOwn k o n nm args.length
def rxL:List Ex->Int->Bool
 |[],_=>true
 |x::r,most=>(!decide (most<2)&&rx x (most-1))&&rxL r most
end
theorem y1p(op:Int):SC Tryz.prog 180 [.pv (.val (.int .i64 op))] [] (λk=>k∈[]) (iBool (z2v op)) []:=by
 refine SC.vc tb {} [] Tryz.func180 rfl rfl ?_;unfold z2v;exact z00 (λh=>⟨sE (by rw[h];rfl),Gc⟩) λh=>⟨sE (by rw[h];rfl),Gc⟩
theorem zg7{x:Ex}:∀{l:List Ex},x∈l->xz x<=xzL l
 |y::r,h=>by
  simp only[xzL];rcases Ak.1 h with rfl|h
  ·omega
  ·have:=zg7 h;omega
theorem zf2(l:Nat):((l:Int)==0)=(l==0):=by rw[D6];simp
theorem zf3(l:Nat):((l:Int)==1)=(l==1):=by rw[D6];simp;omega
theorem zf4(l:Nat):((l:Int)==2)=(l==2):=by rw[D6];simp;omega
theorem zf5(l:Nat):decide ((l:Int)<=8)=decide (l<=8):=by rw[D6];simp;omega
theorem sc_rx:∀(N:Nat)(e:Ex),SizeOf.sizeOf e<N->xz e<=1073741824->∀most:Int,0<=most->most<=100->SC Tryz.prog 132 [.pv (exv e),.pv (.val (.int .i64 most))] [] (λk=>k∈[]) (iBool (rx e most)) []
 |0,_,h,_,_,_,_=>absurd h (Ag _)
 |N+1,.mk k o n nm args,hN,hx,most,h0,h1=>by
  refine SC.vc tb { pb:=[102] } [] Tryz.func132 rfl rfl ?_;have hl:=za9 args;simp only[xz]at hx;refine⟨Nat,λi=>[(5,iInt ((i:Nat):Int))],λ_=>[],λi=>args.length-i,λi=>i<=args.length/\rxL args most=rxL (args.drop i) most,[],0,⟨A9 _,rfl⟩,Gd,Gc,?_⟩;rintro i ⟨i1,i2⟩;refine z00 (λhc=>?_) λhc=>?_
  ·have hlt:i<args.length:=z0y (f:=Ex.enc) rfl hc;obtain⟨x,x1,x2,x3,x4⟩:=z0n hlt;rw[x3]at i2;simp only[rxL]at i2;refine z00 (λc1=>?_) λc1=>?_
   ·rw[c1]at i2;exact⟨sE (by rw[rx,i2];rfl),Gc⟩
   ·rw[c1]at i2;have hxx:=zg7 x4;have hsz:SizeOf.sizeOf x<N:=by have:=Bl x4;simp at hN;omega
    have c2:=Am c1;refine⟨z1b x1,rfl,z49 rfl oM0,[],sc_rx N x hsz oM0 (most-1) oM0 oM0,sR,Gc,rfl,z00 (λc3=>?_) λc3=>?_⟩
    ·rw[show rx x (most-1)=false by simpa using c3]at i2;exact⟨sE (by rw[rx,i2];rfl),Gc⟩
    ·rw[show rx x (most-1)=true by simpa using c3]at i2;exact⟨z01 rfl oM0,i+1,z03 hlt,⟨hlt,i2⟩,Gd,Gc,rfl,rfl,rfl,rfl⟩
  ·have hge:args.length<=i:=z0z (f:=Ex.enc) rfl hc;rw[A7 hge]at i2;have hR:rx (.mk k o n nm args) most=rOwn k o n nm args.length:=by rw[rx,i2];rfl
   generalize rx (.mk k o n nm args) most=R at hR;clear i1 i2 hc hge hN hx h0 h1;have nl:(nm.toList==ByteArray.toList ⟨#[]⟩)=(nm.toList==[]):=by simp
   have hnm:=z6k nm;have hcase:k=1∨k=2∨k=3∨k=4∨k=5∨k=6∨k=7∨k=8∨(k≠1/\k≠2/\k≠3/\k≠4/\k≠5/\k≠6/\k≠7/\k≠8):=by omega
   by_cases ho:o=0
   ·subst ho;have e0:z2v 0=false:=rfl;have e1:z4h 0=0:=rfl;refine⟨[],hnm,sR,Gc,rfl,?_⟩;rcases hcase with rfl|rfl|rfl|rfl|rfl|rfl|rfl|rfl|hk
    ·repeat' (first|exact⟨sE (Aa iBool (by rw[hR];simp_all[rOwn,zf2,zf3,zf4,zf5,Ex.op,Ex.n,Ex.name,Ex.args]<;>first|done|omega|(intro h;omega))),Gc⟩|refine z00 (λ_=>?_) λ_=>?_)
    ·repeat' (first|exact⟨sE (Aa iBool (by rw[hR];simp_all[rOwn,zf2,zf3,zf4,zf5,Ex.op,Ex.n,Ex.name,Ex.args]<;>first|done|omega|(intro h;omega))),Gc⟩|refine z00 (λ_=>?_) λ_=>?_)
    ·repeat' (first|exact⟨sE (Aa iBool (by rw[hR];simp_all[rOwn,zf2,zf3,zf4,zf5,Ex.op,Ex.n,Ex.name,Ex.args]<;>first|done|omega|(intro h;omega))),Gc⟩|refine z00 (λ_=>?_) λ_=>?_)
    ·refine⟨[],y1p 0,sR,Gc,rfl,?_⟩
     repeat' (first|exact⟨sE (Aa iBool (by rw[hR];simp_all[rOwn,zf2,zf3,zf4,zf5,Ex.op,Ex.n,Ex.name,Ex.args]<;>first|done|omega|(intro h;omega))),Gc⟩|refine z00 (λ_=>?_) λ_=>?_)
    ·refine⟨[],zn1 0,sR,Gc,rfl,?_⟩
     repeat' (first|exact⟨sE (Aa iBool (by rw[hR];simp_all[rOwn,zf2,zf3,zf4,zf5,Ex.op,Ex.n,Ex.name,Ex.args]<;>first|done|omega|(intro h;omega))),Gc⟩|refine z00 (λ_=>?_) λ_=>?_)
    ·repeat' (first|exact⟨sE (Aa iBool (by rw[hR];simp_all[rOwn,zf2,zf3,zf4,zf5,Ex.op,Ex.n,Ex.name,Ex.args]<;>first|done|omega|(intro h;omega))),Gc⟩|refine z00 (λ_=>?_) λ_=>?_)
    ·repeat' (first|exact⟨sE (Aa iBool (by rw[hR];simp_all[rOwn,zf2,zf3,zf4,zf5,Ex.op,Ex.n,Ex.name,Ex.args]<;>first|done|omega|(intro h;omega))),Gc⟩|refine z00 (λ_=>?_) λ_=>?_)
    ·repeat' (first|exact⟨sE (Aa iBool (by rw[hR];simp_all[rOwn,zf2,zf3,zf4,zf5,Ex.op,Ex.n,Ex.name,Ex.args]<;>first|done|omega|(intro h;omega))),Gc⟩|refine z00 (λ_=>?_) λ_=>?_)
    ·refine z00 (λh=>absurd (eq_of_beq h) hk.1) λ_=>z00 (λh=>absurd (eq_of_beq h) hk.2.1) λ_=>z00 (λh=>absurd (eq_of_beq h) hk.2.2.1) λ_=>z00 (λh=>absurd (eq_of_beq h) hk.2.2.2.1) λ_=>z00 (λh=>absurd (eq_of_beq h) hk.2.2.2.2.1) λ_=>z00 (λh=>absurd (eq_of_beq h) hk.2.2.2.2.2.1) λ_=>z00 (λh=>absurd (eq_of_beq h) hk.2.2.2.2.2.2.1) λ_=>z00 (λh=>absurd (eq_of_beq h) hk.2.2.2.2.2.2.2) λ_=>?_;exact⟨sE (Aa iBool (by rw[hR];unfold rOwn;obtain⟨g1,g2,g3,g4,g5,g6,g7,g8⟩:=hk;rw[if_neg g1,if_neg g2,if_neg g3,if_neg g4,if_neg g5,if_neg g6,if_neg g7,if_neg g8])),Gc⟩
   ·refine z00 (λh=>absurd (eq_of_beq h) ho) λ_=>⟨[],hnm,sR,Gc,rfl,?_⟩;rcases hcase with rfl|rfl|rfl|rfl|rfl|rfl|rfl|rfl|hk
    ·repeat' (first|exact⟨sE (Aa iBool (by rw[hR];simp_all[rOwn,zf2,zf3,zf4,zf5,Ex.op,Ex.n,Ex.name,Ex.args]<;>first|done|omega|(intro h;omega))),Gc⟩|refine z00 (λ_=>?_) λ_=>?_)
    ·repeat' (first|exact⟨sE (Aa iBool (by rw[hR];simp_all[rOwn,zf2,zf3,zf4,zf5,Ex.op,Ex.n,Ex.name,Ex.args]<;>first|done|omega|(intro h;omega))),Gc⟩|refine z00 (λ_=>?_) λ_=>?_)
    ·repeat' (first|exact⟨sE (Aa iBool (by rw[hR];simp_all[rOwn,zf2,zf3,zf4,zf5,Ex.op,Ex.n,Ex.name,Ex.args]<;>first|done|omega|(intro h;omega))),Gc⟩|refine z00 (λ_=>?_) λ_=>?_)
    ·refine⟨[],y1p o,sR,Gc,rfl,?_⟩
     repeat' (first|exact⟨sE (Aa iBool (by rw[hR];simp_all[rOwn,zf2,zf3,zf4,zf5,Ex.op,Ex.n,Ex.name,Ex.args]<;>first|done|omega|(intro h;omega))),Gc⟩|refine z00 (λ_=>?_) λ_=>?_)
    ·refine⟨[],zn1 o,sR,Gc,rfl,?_⟩
     repeat' (first|exact⟨sE (Aa iBool (by rw[hR];simp_all[rOwn,zf2,zf3,zf4,zf5,Ex.op,Ex.n,Ex.name,Ex.args]<;>first|done|omega|(intro h;omega))),Gc⟩|refine z00 (λ_=>?_) λ_=>?_)
    ·repeat' (first|exact⟨sE (Aa iBool (by rw[hR];simp_all[rOwn,zf2,zf3,zf4,zf5,Ex.op,Ex.n,Ex.name,Ex.args]<;>first|done|omega|(intro h;omega))),Gc⟩|refine z00 (λ_=>?_) λ_=>?_)
    ·repeat' (first|exact⟨sE (Aa iBool (by rw[hR];simp_all[rOwn,zf2,zf3,zf4,zf5,Ex.op,Ex.n,Ex.name,Ex.args]<;>first|done|omega|(intro h;omega))),Gc⟩|refine z00 (λ_=>?_) λ_=>?_)
    ·repeat' (first|exact⟨sE (Aa iBool (by rw[hR];simp_all[rOwn,zf2,zf3,zf4,zf5,Ex.op,Ex.n,Ex.name,Ex.args]<;>first|done|omega|(intro h;omega))),Gc⟩|refine z00 (λ_=>?_) λ_=>?_)
    ·refine z00 (λh=>absurd (eq_of_beq h) hk.1) λ_=>z00 (λh=>absurd (eq_of_beq h) hk.2.1) λ_=>z00 (λh=>absurd (eq_of_beq h) hk.2.2.1) λ_=>z00 (λh=>absurd (eq_of_beq h) hk.2.2.2.1) λ_=>z00 (λh=>absurd (eq_of_beq h) hk.2.2.2.2.1) λ_=>z00 (λh=>absurd (eq_of_beq h) hk.2.2.2.2.2.1) λ_=>z00 (λh=>absurd (eq_of_beq h) hk.2.2.2.2.2.2.1) λ_=>z00 (λh=>absurd (eq_of_beq h) hk.2.2.2.2.2.2.2) λ_=>?_;exact⟨sE (Aa iBool (by rw[hR];unfold rOwn;obtain⟨g1,g2,g3,g4,g5,g6,g7,g8⟩:=hk;rw[if_neg g1,if_neg g2,if_neg g3,if_neg g4,if_neg g5,if_neg g6,if_neg g7,if_neg g8])),Gc⟩
def shp(k:Int):Bool×Bool×Int×Bool×Bool :=
 if k=1 then(true,true,1,false,false)else if k=2 then(false,true,1,false,false)else if k=3 then(false,true,2,false,false)
 else if k=4 then(false,false,1,true,true)else if k=5 then(false,false,1,true,false)else if k=6∨k=7 then(false,false,0,false,false)
 else if k=8∨k=9∨k=10 then(false,false,1,false,false)else(false,false,-1,false,false)
def shpV(s:Bool×Bool×Int×Bool×Bool):IV:=.tup [iBool s.1,iBool s.2.1,iInt s.2.2.1,iBool s.2.2.2.1,iBool s.2.2.2.2]
theorem sc_shape(k:Int):SC Tryz.prog 131 [.pv (.val (.int .i64 k))] [] (λk=>k∈[]) (shpV (shp k)) []:=by
 refine SC.vc tb {} [] Tryz.func131 rfl rfl ?_;have hcase:k=1∨k=2∨k=3∨k=4∨k=5∨k=6∨k=7∨k=8∨k=9∨k=10∨(k≠1/\k≠2/\k≠3/\k≠4/\k≠5/\k≠6/\k≠7/\k≠8/\k≠9/\k≠10):=by omega
 rcases hcase with rfl|rfl|rfl|rfl|rfl|rfl|rfl|rfl|rfl|rfl|hk
 iterate 10 exact⟨sI,Gc⟩
 have hs:shp k=(false,false,-1,false,false):=by
  unfold shp;rw[if_neg oM0,if_neg oM0,if_neg oM0,if_neg oM0,if_neg oM0,if_neg oM0,if_neg oM0]
 rw[hs]
 repeat' (first|exact⟨sI,Gc⟩|refine z00 (λh=>absurd (eq_of_beq h) oM0) λ_=>?_)
theorem y4b(t:Int):SC Tryz.prog 85 [.pv (.val (.int .i64 t))] [] (λk=>k∈[]) (iBool (t==1||t==2)) []:=by
 refine SC.vc tb {} [] Tryz.func85 rfl rfl ?_;exact z00 (λh=>⟨sE (by rw[h];rfl),Gc⟩) λh=>⟨sE (by rw[h];rfl),Gc⟩
def ys5(k ty:Int)(nm:ByteArray)(len:Nat)(most:Int):Bool :=
 decide (most<1)||(len:Int) != (shp k).2.2.1||(shp k).1 != (ty==1||ty==2)||(!(shp k).1&&ty != 0)||(shp k).2.1 != z0k nm||(!(shp k).2.1 && !(nm.toList==[]))
def j18(k:Int)(args:List Ex)(a b:Nat):Bool :=
 (k==10&&((args.head?.map Ex.kind).getD 0) != 7)||(!(shp k).2.2.2.1&&decide (0<a))||(!(shp k).2.2.2.2&&decide (0<b))
mutual
def rst:St->Int->Bool
 |.mk k ty nm args thn els,most=>!ys5 k ty nm args.length most&&args.all (λe=>rx e 100) && !j18 k args thn.length els.length&&rsL thn (most-1)&&rsL els (most-1)
def rsL:List St->Int->Bool
 |[],_=>true
 |x::r,most=>rst x most&&rsL r most
end
def rTy(t:Int):Bool:=t==1||t==2
def rFu(f:Fu):Bool:=z0k f.name&&rTy f.ty&&decide (f.params.length<=8)&&rsL f.body 100&&f.params.all λp=>z0k p.name&&rTy p.ty
def rPg(p:Pg):Bool:=(p.arrays.all λa=>z0k a.name&&decide (1<=a.size)&&decide (a.size<=1000))&&p.funcs.all rFu
theorem y47(x:St)(most:Int):rst x most=(!ys5 x.kind x.ty x.name x.args.length most&&x.args.all (λe=>rx e 100) && !j18 x.kind x.args x.thn.length x.els.length&&rsL x.thn (most-1)&&rsL x.els (most-1)):=by
 cases x;rw[rst];rfl
theorem y31(x:St):sz x=1+xzL x.args+szL x.thn+szL x.els:=by cases x;rw[sz];rfl
theorem zw5{x:St}:∀{l:List St},x∈l->sz x<=szL l
 |y::r,h=>by
  simp only[szL];rcases Ak.1 h with rfl|h
  ·omega
  ·have:=zw5 h;omega
theorem zs6(x:St):SizeOf.sizeOf x.thn<SizeOf.sizeOf x/\SizeOf.sizeOf x.els<SizeOf.sizeOf x:=by
 cases x;simp[St.thn,St.els];omega
theorem j2h:∀(N:Nat)(l:List St),SizeOf.sizeOf l<N->szL l<=1073741824->∀most:Int,0<=most->most<=100->SC Tryz.prog 86 [.pv (sts l),.pv (.val (.int .i64 most))] [] (λk=>k∈[]) (iBool (rsL l most)) []
 |0,_,h,_,_,_,_=>absurd h (Ag _)
 |N+1,l,hN,hx,most,h0,h1=>by
  refine SC.vc tb { pb:=[106],jn:=[8,3] } [] Tryz.func86 rfl rfl ?_;have hl:=z8d l;refine⟨Nat,λi=>[(5,iInt ((i:Nat):Int))],λ_=>[],λi=>l.length-i,λi=>i<=l.length/\rsL l most=rsL (l.drop i) most,[],0,⟨A9 _,rfl⟩,Gd,Gc,?_⟩;rintro i ⟨i1,i2⟩;refine z00 (λhc=>?_) λhc=>?_
  ·have hlt:i<l.length:=z0y (f:=St.enc) rfl hc;obtain⟨x,x1,x2,x3,x4⟩:=z0n hlt;rw[x3]at i2;rw[rsL,y47]at i2;have hxx:=zw5 x4;rw[y31]at hxx;have hal:=za9 x.args;have hsz:SizeOf.sizeOf x.thn<N/\SizeOf.sizeOf x.els<N:=by have:=Bl x4;have:=zs6 x;omega
   refine⟨Unit,λ_=>[],λ_=>[],λ_=>rsL l most=rsL (l.drop (i+1)) most,[],?_,?_⟩
   ·have hS:=sc_shape x.kind;have h10:x.kind=10->(shp x.kind).2.2.1=1:=λe=>by rw[e];rfl
    unfold ys5 j18 at i2;generalize shp x.kind=s at hS i2 h10;obtain⟨s1,s2,s3,s4,s5⟩:=s;dsimp only at hS i2 h10;generalize hT:((x.kind==10&&((x.args.head?.map Ex.kind).getD 0) != 7)||(!s4&&decide (0<x.thn.length))||(!s5&&decide (0<x.els.length)))=tl at i2;refine⟨zj2 x1,rfl,[],hS,sR,Gc,rfl,Unit,λ_=>[],λ_=>[],λ_=>¬most<1/\(x.args.length:Int)=s3/\rsL l most=(x.args.all (λe=>rx e 100) && !tl&&rsL x.thn (most-1)&&rsL x.els (most-1)&&rsL (l.drop (i+1)) most),[],?_,?_⟩
    ·have nl:(x.name.toList==ByteArray.toList ⟨#[]⟩)=(x.name.toList==[]):=by simp
     have hnm:=z6k x.name;clear hT hS h10 hxx hal hsz x2 x3 x4 hl hx hN;refine z00 (λc1=>⟨sE (Aa iBool (by rw[i2,c1];rfl)),Gc⟩) λc1=>z00 (λc2=>?_) λc2=>?_
     ·have c2:((x.args.length:Int) != s3)=true:=by simpa using c2
      exact⟨sE (Aa iBool (by rw[i2,c2];simp)),Gc⟩
     ·have c2:((x.args.length:Int) != s3)=false:=by simpa using c2
      have fin:=i2;rw[c1,c2]at fin;have d1:=Am c1;have d2:(x.args.length:Int)=s3:=by simpa using c2
      clear i2 c1 c2
      cases s1<;>cases s2 <;>
      repeat' (first|exact⟨sE (Aa iBool (by rw[fin];simp_all)),Gc⟩|exact⟨(),⟨d1,d2,by rw[fin];simp_all⟩,Gc,Gc,rfl,rfl,rfl,rfl⟩|refine z00 (λ_=>?_) λ_=>?_|refine⟨[],hnm,sR,Gc,rfl,?_⟩)
    ·rintro _ ⟨d1,d2,hA⟩;clear i2;refine⟨Nat,λj=>[(12,iInt ((j:Nat):Int))],λ_=>[],λj=>x.args.length-j,λj=>j<=x.args.length/\x.args.all (λe=>rx e 100)=(x.args.drop j).all (λe=>rx e 100),[],0,⟨A9 _,rfl⟩,Gd,Gc,?_⟩;rintro j ⟨j1,j2⟩;refine z00 (λc1=>?_) λc1=>?_
     ·have c1:(j:Int)<s3:=Aq c1;have hlj:j<x.args.length:=by omega
      obtain⟨e,e1,e2,e3,e4⟩:=z0n hlj;have:=zg7 e4;rw[e3,D0]at j2;refine⟨z1b e1,rfl,[],sc_rx _ e (A6 _) oM0 100 dC0 dC0,sR,Gc,rfl,z00 (λc2=>?_) λc2=>?_⟩
      ·exact⟨sE (Aa iBool (by rw[hA,j2,show rx e 100=false by simpa using c2];rfl)),Gc⟩
      ·rw[show rx e 100=true by simpa using c2,Ay]at j2;exact⟨z01 rfl oM0,j+1,z03 hlj,⟨hlj,j2⟩,Gd,Gc,rfl,rfl,rfl,rfl⟩
     ·have c1:¬(j:Int)<s3:=Am c1;rw[A7 oM0]at j2;rw[j2,show List.all [] (λe=>rx e 100)=true from rfl,Ay]at hA;have r1:=j2h N x.thn hsz.1 oM0 (most-1) oM0 oM0;have r2:=j2h N x.els hsz.2 oM0 (most-1) oM0 oM0;have s1:z3i .sub .i64 most 1=some (.int .i64 (most-1)):=z49 rfl oM0;have ha:x.kind=10->∃e,x.args[0]?=some e/\((x.args.head?.map Ex.kind).getD 0)=e.kind:=λe=>by
       have:=h10 e
       match hx:x.args with
       |[]=>rw[hx]at d2;simp at d2;omega
       |e0::r=>exact⟨e0,rfl,rfl⟩
      clear h10 j1 j2 hS hxx hal hsz x2 x3 x4 hl hx hN i1;subst hT;generalize rsL x.thn (most-1)=q1 at hA r1;generalize rsL x.els (most-1)=q2 at hA r2;refine z00 (λk1=>?_) λk1=>?_
      ·obtain⟨e0,e1,e2⟩:=ha (eq_of_beq k1);rw[e2]at hA;refine⟨z1b (i:=0) e1,rfl,?_⟩
       cases s4<;>cases s5 <;>
       repeat' (first|exact⟨sE (Aa iBool (by rw[hA];simp_all)),Gc⟩|exact⟨(),by rw[hA];simp_all,Gc,Gc,rfl,rfl,rfl,rfl⟩|refine z00 (λ_=>?_) λ_=>?_|refine⟨s1,[],r1,sR,Gc,rfl,?_⟩|refine⟨s1,[],r2,sR,Gc,rfl,?_⟩)
      ·cases s4<;>cases s5 <;>
       repeat' (first|exact⟨sE (Aa iBool (by rw[hA];simp_all)),Gc⟩|exact⟨(),by rw[hA];simp_all,Gc,Gc,rfl,rfl,rfl,rfl⟩|refine z00 (λ_=>?_) λ_=>?_|refine⟨s1,[],r1,sR,Gc,rfl,?_⟩|refine⟨s1,[],r2,sR,Gc,rfl,?_⟩)
   ·intro _ hA;exact⟨z01 rfl oM0,i+1,z03 hlt,⟨hlt,hA⟩,Gd,Gc,rfl,rfl,rfl,rfl⟩
  ·have hge:l.length<=i:=z0z (f:=St.enc) rfl hc;rw[A7 hge]at i2;exact⟨sE (by rw[i2];rfl),Gc⟩
section
theorem tStep_sz{s:ByteArray}{line a:Nat}{b:UInt8}{t:Tk}{a2:Nat}(h:zs9 s line a b=.tok t a2):t.text.size<=s.size:=by
 unfold zs9 at h;split at h
 ·cases h
 split at h
 ·cases h
 split at h
 ·cases h
 split at h
 ·split at h
  ·cases h
  ·cases h
   show(s.extract a (a+z4c s a)).size<=s.size;rw[Ci];omega
 ·split at h
  ·cases h
  ·cases h
   show(sgOf (s.extract a s.size)).size<=s.size;rcases zz0 (s.extract a s.size) sgL with h|h
   ·unfold sgOf;rw[h];exact A9 _
   ·have:=h.2;rw[Ci]at this;unfold sgOf;omega
theorem yh0(s:ByteArray):∀(N line a:Nat)(out:List Tk),(∀t∈out,t.text.size<=s.size)->∀t∈(toks s N line a out).1,t.text.size<=s.size
 |0,_,_,_,_,t,ht=>by simp[toks]at ht
 |N+1,line,a,out,ho,t,ht=>by
  unfold toks at ht
  cases hb:s.data.toList[a]? with
  |none =>
   rw[hb]at ht;rcases B3.1 ht with ht|ht
   ·exact ho t ht
   ·rw[Ah.1 ht];exact A9 _
  |some b =>
   rw[hb]at ht;dsimp only at ht
   cases hst:zs9 s line a b with
   |skip l2 a2=>rw[hst]at ht;exact yh0 s N l2 a2 out ho t ht
   |tok t2 a2 =>
    rw[hst]at ht;refine yh0 s N line a2 (out++[t2]) (λt' ht'=>?_) t ht;rcases B3.1 ht' with ht'|ht'
    ·exact ho t' ht'
    ·rw[Ah.1 ht'];exact tStep_sz hst
   |bad l=>rw[hst]at ht;cases ht
theorem j3q(s:ByteArray):∀t∈(z1t s).1,t.text.size<=s.size:=by
 unfold z1t;split
 ·intro t ht;cases ht
 ·exact yh0 s _ _ _ [] (λt ht=>by cases ht)
def pz:List Fu->Nat
 |[]=>0
 |f::r=>1+f.params.length+szL f.body+pz r
theorem pz_app:∀a b:List Fu,pz (a++b)=pz a+pz b
 |[],b=>by simp[pz]
 |x::r,b=>by simp only[Ba,pz,pz_app r b];omega
variable {T:List Tk}
theorem y8c(hT:TkOk T):∀N b out s,(z9w T N b out s).1.length+s.at_<=out.length+(bif b then 1 else 0)+(z9w T N b out s).2.at_
 |0,b,out,s=>by show out.length+s.at_<=_+_+s.at_;omega
 |N+1,b,out,s=>by
  unfold z9w;split
  ·rename_i hc;have h1:=y8c hT N false (out++[⟨(z0l T 1 (z0q T (aGo T b s)).2).1,(z0q T (aGo T b s)).1⟩]) (z0l T 1 (z0q T (aGo T b s)).2).2;rw[B4]at h1;have h2:=(z5e hT (s:=aGo T b s)).at_;have h3:=(z1x hT (k:=1) dC0 (s:=(z0q T (aGo T b s)).2)).at_;simp only[Aj,B0,Cs]at h1
   cases b with
   |true =>
    have h4:(aGo T true s).at_=s.at_:=rfl;simp only[Dv]
    omega
   |false =>
    have hi:pIs T zm6 s=true:=by simpa using hc.1
    have h4:(aGo T false s).at_=s.at_+1:=by simp[aGo,z8e,hi,z0m]
    simp only[Cs];omega
  ·have:=(y3d hT (b:=b) (s:=s)).at_;dsimp only;omega
theorem func_sz(hT:TkOk T){t:Int}{n:ByteArray}{s:Ps}(h:(z70 T t n s).2.over=false):(z70 T t n s).1.params.length+szL (z70 T t n s).1.body+3*s.at_<=3*(z70 T t n s).2.at_+1:=by
 unfold z70 at h⊢;dsimp only at h⊢;have h1:=(yo4 hT (big T)).2.1 1 _ h;have h2:=(z0a hT (w:=sRo) (s:=s)).at_;have h6:=(zj9 hT (s:=z0o T sRo s)).at_;have h3:=((z5d hT (big T)).2.1 1 (z7e T (z0o T sRo s)).2).at_;have h4:(z7e T (z0o T sRo s)).1.length+(z0o T sRo s).at_<=1+(z7e T (z0o T sRo s)).2.at_:=by
  unfold z7e;split
  ·simp only[B0,z0m];omega
  ·have:=y8c hT (big T) true [] (z0o T sRo s);have h5:=(z0a hT (w:=sRc) (s:=(z9w T (big T) true [] (z0o T sRo s)).2)).at_;simp only[B0,Dv]at this;dsimp only;omega
 omega
theorem z94(hT:TkOk T):∀N p s,Fw T s (z40 T N p s).2
 |0,_,_=>.rfl
 |N+1,p,s=>by
  unfold z40;split
  ·exact .rfl
  split
  ·rename_i c2;have hc:pIs T sSo (z0l T 1 (z0q T s).2).2=true:=by unfold qArr at c2;simp only[A0]at c2;exact c2.2
   exact(z5e hT).trans ((z1x hT (k:=1) dC0).trans ((z11 hT hc).trans ((z1x hT (k:=0) dC0).trans ((z0a hT (w:=sSc)).trans ((z0a hT (w:=z5a)).trans (z94 hT N _ _))))))
  ·exact(z5e hT).trans ((z1x hT (k:=1) dC0).trans ((ya5 hT).trans (z94 hT N _ _)))
theorem y5u(hT:TkOk T):∀N p s,(z40 T N p s).2.over=false->pz (z40 T N p s).1.funcs+(z40 T N p s).1.arrays.length+3*s.at_<=pz p.funcs+p.arrays.length+3*(z40 T N p s).2.at_
 |0,_,_,_=>Ab _
 |N+1,p,s,h=>by
  unfold z40 at h⊢;split
  ·exact Ab _
  rename_i c1;rw[if_neg c1]at h;have a1:=(z5e hT (s:=s)).at_;have a2:=(z1x hT (k:=1) dC0 (s:=(z0q T s).2)).at_;split
  ·rename_i c2;rw[if_pos c2]at h;have h1:=y5u hT N _ _ h;have hc:pIs T sSo (z0l T 1 (z0q T s).2).2=true:=by unfold qArr at c2;simp only[A0]at c2;exact c2.2
   have a3:=(z1x hT (k:=0) dC0 (s:=(z0l T 1 (z0q T s).2).2.next)).at_;have a4:=(z0a hT (w:=sSc) (s:=(z0l T 0 (z0l T 1 (z0q T s).2).2.next).2)).at_;have a5:=(z0a hT (w:=z5a) (s:=z0o T sSc (z0l T 0 (z0l T 1 (z0q T s).2).2.next).2)).at_;rw[z0m]at a3;simp only[B4,Aj,B0]at h1;omega
  ·rename_i c2;rw[if_neg c2]at h;have h1:=y5u hT N _ _ h;have b1:(z70 T (z0q T s).1 (z0l T 1 (z0q T s).2).1 (z0l T 1 (z0q T s).2).2).2.over=false:=(z94 hT N _ _).back h;have h2:=func_sz hT b1;have b2:=(ya5 hT).back b1;have a3:=z6m.lt b2;have a4:=zk2.lt ((z1x hT (k:=1) dC0).back b2);rw[pz_app]at h1;simp only[pz]at h1;omega
end
theorem zv0{f:Fu}:∀{l:List Fu},f∈l->1+f.params.length+szL f.body<=pz l
 |y::r,h=>by
  simp only[pz];rcases Ak.1 h with rfl|h
  ·omega
  ·have:=zv0 h;omega
theorem y34{l:List Ar}{i:Nat}{x:Ar}(h:l[i]?=some x):(l.map Ar.enc)[i]?=some [vStr x.name,vInt x.size]:=by simp[h,Ar.enc]
theorem z9t{l:List Fu}{i:Nat}{x:Fu}(h:l[i]?=some x):(l.map Fu.enc)[i]?=some [vStr x.name,vInt x.ty,pms x.params,sts x.body]:=by simp[h,Fu.enc]
theorem zu9{l:List Pm}{i:Nat}{x:Pm}(h:l[i]?=some x):(l.map Pm.enc)[i]?=some [vStr x.name,vInt x.ty]:=by simp[h,Pm.enc]
theorem zl0:∀l:List Fu,l.length<=pz l
 |[]=>Ab _
 |x::r=>by have:=zl0 r;simp only[Aj,pz];omega
theorem sc_Right(p:Pg)(hb:pz p.funcs<=1073741824)(ha:p.arrays.length<=1073741824):SC Tryz.prog 45 [.pv p.enc] [] (λk=>k∈[]) (iBool (rPg p)) []:=by
 refine SC.vc tb {} [] Tryz.func45 rfl rfl ?_;have hfl:=zl0 p.funcs;refine⟨Nat,λi=>[(3,iInt ((i:Nat):Int))],λ_=>[],λi=>p.arrays.length-i,λi=>i<=p.arrays.length/\(p.arrays.all λa=>z0k a.name&&decide (1<=a.size)&&decide (a.size<=1000))=((p.arrays.drop i).all λa=>z0k a.name&&decide (1<=a.size)&&decide (a.size<=1000)),[],0,⟨A9 _,rfl⟩,Gd,Gc,?_⟩;rintro i ⟨i1,i2⟩;refine z00 (λhc=>?_) λhc=>?_
 ·have hlt:i<p.arrays.length:=z0y (f:=Ar.enc) rfl hc;obtain⟨x,x1,x2,x3,x4⟩:=z0n hlt;rw[x3,D0]at i2;refine⟨y34 x1,rfl,[],z6k x.name,sR,Gc,rfl,z00 (λc1=>?_) λc1=>⟨y34 x1,rfl,z00 (λc2=>?_) λc2=>⟨y34 x1,rfl,z00 (λc3=>?_) λc3=>?_⟩⟩⟩
  ·exact⟨sE (Aa iBool (by unfold rPg;rw[i2,show z0k x.name=false by simpa using c1];rfl)),Gc⟩
  ·exact⟨sE (Aa iBool (by unfold rPg;have:=Aq c2;rw[i2,show decide (1<=x.size)=false by simpa using this];simp)),Gc⟩
  ·exact⟨sE (Aa iBool (by unfold rPg;have:=Aq c3;rw[i2,show decide (x.size<=1000)=false by simpa using this];simp)),Gc⟩
  ·have d2:=Am c2;have d3:=Am c3;rw[show z0k x.name=true by simpa using c1,show decide (1<=x.size)=true by simpa using d2,show decide (x.size<=1000)=true by simpa using d3,Ay,Ay,Ay]at i2;exact⟨z01 rfl oM0,i+1,z03 hlt,⟨hlt,i2⟩,Gd,Gc,rfl,rfl,rfl,rfl⟩
 ·have hge:p.arrays.length<=i:=z0z (f:=Ar.enc) rfl hc;rw[A7 hge,Ft]at i2;have hR:rPg p=p.funcs.all rFu:=by unfold rPg;rw[i2,Ay]
  clear i1 i2 hc hge;refine⟨Nat,λi=>[(4,iInt ((i:Nat):Int))],λ_=>[],λi=>p.funcs.length-i,λi=>i<=p.funcs.length/\rPg p=(p.funcs.drop i).all rFu,[],0,⟨A9 _,hR⟩,Gd,Gc,?_⟩;rintro i ⟨i1,i2⟩;refine z00 (λhc=>?_) λhc=>?_
  ·have hlt:i<p.funcs.length:=z0y (f:=Fu.enc) rfl hc;obtain⟨x,x1,x2,x3,x4⟩:=z0n hlt;have hpz:=zv0 x4;rw[x3,D0]at i2;refine⟨z9t x1,rfl,[],z6k x.name,sR,Gc,rfl,z00 (λc1=>?_) λc1=>⟨[],y4b x.ty,sR,Gc,rfl,z00 (λc2=>?_) λc2=>z00 (λc3=>?_) λc3=>⟨[],j2h _ x.body (A6 _) oM0 100 dC0 dC0,sR,Gc,rfl,z00 (λc4=>?_) λc4=>?_⟩⟩⟩
   ·exact⟨sE (Aa iBool (by unfold rFu at i2;rw[i2,show z0k x.name=false by simpa using c1];rfl)),Gc⟩
   ·exact⟨sE (Aa iBool (by unfold rFu at i2;rw[i2,show rTy x.ty=false by simpa[rTy]using c2];simp)),Gc⟩
   ·exact⟨sE (Aa iBool (by unfold rFu at i2;have:=Aq c3;rw[i2,show decide (x.params.length<=8)=false by simp at this⊢;omega];simp)),Gc⟩
   ·exact⟨sE (Aa iBool (by unfold rFu at i2;rw[i2,show rsL x.body 100=false by simpa using c4];simp)),Gc⟩
   ·have hF:rFu x=x.params.all λp=>z0k p.name&&rTy p.ty:=by
     unfold rFu;have:=Am c3;rw[show z0k x.name=true by simpa using c1,show rTy x.ty=true by unfold rTy;simpa only[Bool.not_eq_false']using c2,show decide (x.params.length<=8)=true by simp at this⊢;omega,show rsL x.body 100=true by simpa using c4];rfl
    rw[hF]at i2;refine⟨Nat,λj=>[(6,iInt ((j:Nat):Int))],λ_=>[],λj=>x.params.length-j,λj=>j<=x.params.length/\(x.params.all λp=>z0k p.name&&rTy p.ty)=(x.params.drop j).all λp=>z0k p.name&&rTy p.ty,[],0,⟨A9 _,rfl⟩,Gd,Gc,?_⟩;rintro j ⟨j1,j2⟩;refine z00 (λhd=>?_) λhd=>?_
    ·have hlj:j<x.params.length:=z0y (f:=Pm.enc) rfl hd;obtain⟨y,y1,y2,y3,y4⟩:=z0n hlj;rw[y3,D0]at j2;refine⟨zu9 y1,rfl,[],z6k y.name,sR,Gc,rfl,z00 (λk1=>?_) λk1=>⟨zu9 y1,rfl,[],y4b y.ty,sR,Gc,rfl,z00 (λk2=>?_) λk2=>?_⟩⟩
     ·exact⟨sE (Aa iBool (by rw[i2,j2,show z0k y.name=false by simpa using k1];rfl)),Gc⟩
     ·exact⟨sE (Aa iBool (by rw[i2,j2,show rTy y.ty=false by simpa[rTy]using k2];simp)),Gc⟩
     ·rw[show z0k y.name=true by simpa using k1,show rTy y.ty=true by unfold rTy;simpa only[Bool.not_eq_false']using k2,Ay,Ay]at j2;exact⟨z01 rfl oM0,j+1,z03 hlj,⟨hlj,j2⟩,Gd,Gc,rfl,rfl,rfl,rfl⟩
    ·have hge:x.params.length<=j:=z0z (f:=Pm.enc) rfl hd;rw[A7 hge,Ft]at j2;rw[j2,Ay]at i2;exact⟨z01 rfl oM0,i+1,z03 hlt,⟨hlt,i2⟩,Gd,Gc,rfl,rfl,rfl,rfl⟩
  ·have hge:p.funcs.length<=i:=z0z (f:=Fu.enc) rfl hc;rw[A7 hge,Ft]at i2;exact⟨sE (by rw[i2]),Gc⟩
theorem z50{b:Bool}{A:Prop}(h:b=true)(a:A):z2c b A:=by rw[h];exact a
theorem z1c{α:Type}(p:α -> Bool):∀(l:List α)(j:Int){i:Nat},(∀x∈l.take i,p x=false)->idxP p l j=idxP p (l.drop i) (j+i)
 |l,j,0,_=>by simp
 |[],j,i+1,_=>by simp[idxP]
 |x::r,j,i+1,h=>by
  have h1:=h x sI0;rw[idxP,if_neg (by simp[h1]),z1c p r (j+1) (i:=i) (λy hy=>h y (by simp[hy])),F8]
  congr 1;omega
theorem sc_idxSt(fq:FuncId)(ws:List IV)(hent:tb.fn fq=true)(p:St->Bool)(l:List St)(hl:l.length<=4611686018427387904)(h:∀x∈l,SC Tryz.prog fq (.pv (stv x)::ws) [] (λk=>k∈[]) (iBool (p x)) []):SC Tryz.prog 113 [.pv (sts l),.fn (.func fq) [] ws] [] (λk=>k∈[]) (iInt (idxP p l 0)) []:=by
 refine SC.vc tb {} [] Tryz.func113 rfl rfl ?_;refine⟨Nat,λi=>[(8,iInt ((i:Nat):Int))],λ_=>[],λi=>l.length-i,λi=>i<=l.length/\∀x∈l.take i,p x=false,[],0,⟨A9 _,λx hx=>by simp at hx⟩,Gd,Gc,?_⟩;rintro i ⟨i1,i2⟩;refine z00 (λhc=>?_) λhc=>?_
 ·have hlt:i<l.length:=z0y (f:=St.enc) rfl hc;obtain⟨x,x1,x2,x3,x4⟩:=z0n hlt;refine⟨zj2 x1,rfl,z50 (b:=tb.fn fq) hent ⟨h x x4,sR,Gc,λk hk=>hk,rfl,rfl,z00 (λc=>?_) λc=>?_⟩⟩
  ·exact⟨sE (by rw[z1c p l 0 i2,x3,idxP,if_pos c,Dr]),Gc⟩
  ·exact⟨z01 rfl oM0,i+1,z03 hlt,⟨hlt,λy hy=>by rw[x2]at hy;rcases B3.1 hy with g|g;exact i2 y g;rw[Ah.1 g];exact c⟩,Gd,Gc,rfl,rfl,rfl,rfl⟩
 ·have hge:l.length<=i:=z0z (f:=St.enc) rfl hc;exact⟨sE (by rw[z1c p l 0 i2,A7 hge];rfl),Gc⟩
theorem y68(fq:FuncId)(ws:List IV)(hent:tb.fn fq=true)(p:St->Bool)(l:List St)(hl:l.length<=4611686018427387904)(h:∀x∈l,SC Tryz.prog fq (.pv (stv x)::ws) [] (λk=>k∈[]) (iBool (p x)) []):SC Tryz.prog 65 [.pv (sts l),.fn (.func fq) [] ws] [] (λk=>k∈[]) (iBool (l.any p)) []:=by
 refine SC.vc tb {} [] Tryz.func65 rfl rfl ?_;exact⟨[],sc_idxSt fq ws hent p l hl h,sR,Gc,rfl,sE (Aa iBool (z68 p l 0 dC0)),Gc⟩
theorem sc_idxEx(fq:FuncId)(ws:List IV)(hent:tb.fn fq=true)(p:Ex->Bool)(l:List Ex)(hl:l.length<=4611686018427387904)(h:∀x∈l,SC Tryz.prog fq (.pv (exv x)::ws) [] (λk=>k∈[]) (iBool (p x)) []):SC Tryz.prog 238 [.pv (exs l),.fn (.func fq) [] ws] [] (λk=>k∈[]) (iInt (idxP p l 0)) []:=by
 refine SC.vc tb {} [] Tryz.func238 rfl rfl ?_;refine⟨Nat,λi=>[(8,iInt ((i:Nat):Int))],λ_=>[],λi=>l.length-i,λi=>i<=l.length/\∀x∈l.take i,p x=false,[],0,⟨A9 _,λx hx=>by simp at hx⟩,Gd,Gc,?_⟩;rintro i ⟨i1,i2⟩;refine z00 (λhc=>?_) λhc=>?_
 ·have hlt:i<l.length:=z0y (f:=Ex.enc) rfl hc;obtain⟨x,x1,x2,x3,x4⟩:=z0n hlt;refine⟨z1b x1,rfl,z50 (b:=tb.fn fq) hent ⟨h x x4,sR,Gc,λk hk=>hk,rfl,rfl,z00 (λc=>?_) λc=>?_⟩⟩
  ·exact⟨sE (by rw[z1c p l 0 i2,x3,idxP,if_pos c,Dr]),Gc⟩
  ·exact⟨z01 rfl oM0,i+1,z03 hlt,⟨hlt,λy hy=>by rw[x2]at hy;rcases B3.1 hy with g|g;exact i2 y g;rw[Ah.1 g];exact c⟩,Gd,Gc,rfl,rfl,rfl,rfl⟩
 ·have hge:l.length<=i:=z0z (f:=Ex.enc) rfl hc;exact⟨sE (by rw[z1c p l 0 i2,A7 hge];rfl),Gc⟩
theorem ym9(fq:FuncId)(ws:List IV)(hent:tb.fn fq=true)(p:Ex->Bool)(l:List Ex)(hl:l.length<=4611686018427387904)(h:∀x∈l,SC Tryz.prog fq (.pv (exv x)::ws) [] (λk=>k∈[]) (iBool (p x)) []):SC Tryz.prog 212 [.pv (exs l),.fn (.func fq) [] ws] [] (λk=>k∈[]) (iBool (l.any p)) []:=by
 refine SC.vc tb {} [] Tryz.func212 rfl rfl ?_;exact⟨[],sc_idxEx fq ws hent p l hl h,sR,Gc,rfl,sE (Aa iBool (z68 p l 0 dC0)),Gc⟩
theorem sc_idxPm(fq:FuncId)(ws:List IV)(hent:tb.fn fq=true)(p:Pm->Bool)(l:List Pm)(hl:l.length<=4611686018427387904)(h:∀x∈l,SC Tryz.prog fq (.pv (.agg x.enc)::ws) [] (λk=>k∈[]) (iBool (p x)) []):SC Tryz.prog 186 [.pv (pms l),.fn (.func fq) [] ws] [] (λk=>k∈[]) (iInt (idxP p l 0)) []:=by
 refine SC.vc tb {} [] Tryz.func186 rfl rfl ?_;refine⟨Nat,λi=>[(8,iInt ((i:Nat):Int))],λ_=>[],λi=>l.length-i,λi=>i<=l.length/\∀x∈l.take i,p x=false,[],0,⟨A9 _,λx hx=>by simp at hx⟩,Gd,Gc,?_⟩;rintro i ⟨i1,i2⟩;refine z00 (λhc=>?_) λhc=>?_
 ·have hlt:i<l.length:=z0y (f:=Pm.enc) rfl hc;obtain⟨x,x1,x2,x3,x4⟩:=z0n hlt;refine⟨zu9 x1,rfl,z50 (b:=tb.fn fq) hent ⟨h x x4,sR,Gc,λk hk=>hk,rfl,rfl,z00 (λc=>?_) λc=>?_⟩⟩
  ·exact⟨sE (by rw[z1c p l 0 i2,x3,idxP,if_pos c,Dr]),Gc⟩
  ·exact⟨z01 rfl oM0,i+1,z03 hlt,⟨hlt,λy hy=>by rw[x2]at hy;rcases B3.1 hy with g|g;exact i2 y g;rw[Ah.1 g];exact c⟩,Gd,Gc,rfl,rfl,rfl,rfl⟩
 ·have hge:l.length<=i:=z0z (f:=Pm.enc) rfl hc;exact⟨sE (by rw[z1c p l 0 i2,A7 hge];rfl),Gc⟩
theorem sc_hasPm(fq:FuncId)(ws:List IV)(hent:tb.fn fq=true)(p:Pm->Bool)(l:List Pm)(hl:l.length<=4611686018427387904)(h:∀x∈l,SC Tryz.prog fq (.pv (.agg x.enc)::ws) [] (λk=>k∈[]) (iBool (p x)) []):SC Tryz.prog 150 [.pv (pms l),.fn (.func fq) [] ws] [] (λk=>k∈[]) (iBool (l.any p)) []:=by
 refine SC.vc tb {} [] Tryz.func150 rfl rfl ?_;exact⟨[],sc_idxPm fq ws hent p l hl h,sR,Gc,rfl,sE (Aa iBool (z68 p l 0 dC0)),Gc⟩
theorem yn1(fq:FuncId)(ws:List IV)(hent:tb.fn fq=true)(p:Fu->Bool)(l:List Fu)(hl:l.length<=4611686018427387904)(h:∀x∈l,SC Tryz.prog fq (.pv (.agg x.enc)::ws) [] (λk=>k∈[]) (iBool (p x)) []):SC Tryz.prog 147 [.pv (fus l),.fn (.func fq) [] ws] [] (λk=>k∈[]) (iInt (idxP p l 0)) []:=by
 refine SC.vc tb {} [] Tryz.func147 rfl rfl ?_;refine⟨Nat,λi=>[(8,iInt ((i:Nat):Int))],λ_=>[],λi=>l.length-i,λi=>i<=l.length/\∀x∈l.take i,p x=false,[],0,⟨A9 _,λx hx=>by simp at hx⟩,Gd,Gc,?_⟩;rintro i ⟨i1,i2⟩;refine z00 (λhc=>?_) λhc=>?_
 ·have hlt:i<l.length:=z0y (f:=Fu.enc) rfl hc;obtain⟨x,x1,x2,x3,x4⟩:=z0n hlt;refine⟨z9t x1,rfl,z50 (b:=tb.fn fq) hent ⟨h x x4,sR,Gc,λk hk=>hk,rfl,rfl,z00 (λc=>?_) λc=>?_⟩⟩
  ·exact⟨sE (by rw[z1c p l 0 i2,x3,idxP,if_pos c,Dr]),Gc⟩
  ·exact⟨z01 rfl oM0,i+1,z03 hlt,⟨hlt,λy hy=>by rw[x2]at hy;rcases B3.1 hy with g|g;exact i2 y g;rw[Ah.1 g];exact c⟩,Gd,Gc,rfl,rfl,rfl,rfl⟩
 ·have hge:l.length<=i:=z0z (f:=Fu.enc) rfl hc;exact⟨sE (by rw[z1c p l 0 i2,A7 hge];rfl),Gc⟩
theorem sc_hasFu(fq:FuncId)(ws:List IV)(hent:tb.fn fq=true)(p:Fu->Bool)(l:List Fu)(hl:l.length<=4611686018427387904)(h:∀x∈l,SC Tryz.prog fq (.pv (.agg x.enc)::ws) [] (λk=>k∈[]) (iBool (p x)) []):SC Tryz.prog 100 [.pv (fus l),.fn (.func fq) [] ws] [] (λk=>k∈[]) (iBool (l.any p)) []:=by
 refine SC.vc tb {} [] Tryz.func100 rfl rfl ?_;exact⟨[],yn1 fq ws hent p l hl h,sR,Gc,rfl,sE (Aa iBool (z68 p l 0 dC0)),Gc⟩
theorem yn0(fq:FuncId)(ws:List IV)(hent:tb.fn fq=true)(p:Ar->Bool)(l:List Ar)(hl:l.length<=4611686018427387904)(h:∀x∈l,SC Tryz.prog fq (.pv (.agg x.enc)::ws) [] (λk=>k∈[]) (iBool (p x)) []):SC Tryz.prog 146 [.pv (arrs l),.fn (.func fq) [] ws] [] (λk=>k∈[]) (iInt (idxP p l 0)) []:=by
 refine SC.vc tb {} [] Tryz.func146 rfl rfl ?_;refine⟨Nat,λi=>[(8,iInt ((i:Nat):Int))],λ_=>[],λi=>l.length-i,λi=>i<=l.length/\∀x∈l.take i,p x=false,[],0,⟨A9 _,λx hx=>by simp at hx⟩,Gd,Gc,?_⟩;rintro i ⟨i1,i2⟩;refine z00 (λhc=>?_) λhc=>?_
 ·have hlt:i<l.length:=z0y (f:=Ar.enc) rfl hc;obtain⟨x,x1,x2,x3,x4⟩:=z0n hlt;refine⟨y34 x1,rfl,z50 (b:=tb.fn fq) hent ⟨h x x4,sR,Gc,λk hk=>hk,rfl,rfl,z00 (λc=>?_) λc=>?_⟩⟩
  ·exact⟨sE (by rw[z1c p l 0 i2,x3,idxP,if_pos c,Dr]),Gc⟩
  ·exact⟨z01 rfl oM0,i+1,z03 hlt,⟨hlt,λy hy=>by rw[x2]at hy;rcases B3.1 hy with g|g;exact i2 y g;rw[Ah.1 g];exact c⟩,Gd,Gc,rfl,rfl,rfl,rfl⟩
 ·have hge:l.length<=i:=z0z (f:=Ar.enc) rfl hc;exact⟨sE (by rw[z1c p l 0 i2,A7 hge];rfl),Gc⟩
theorem sc_hasAr(fq:FuncId)(ws:List IV)(hent:tb.fn fq=true)(p:Ar->Bool)(l:List Ar)(hl:l.length<=4611686018427387904)(h:∀x∈l,SC Tryz.prog fq (.pv (.agg x.enc)::ws) [] (λk=>k∈[]) (iBool (p x)) []):SC Tryz.prog 99 [.pv (arrs l),.fn (.func fq) [] ws] [] (λk=>k∈[]) (iBool (l.any p)) []:=by
 refine SC.vc tb {} [] Tryz.func99 rfl rfl ?_;exact⟨[],yn0 fq ws hent p l hl h,sR,Gc,rfl,sE (Aa iBool (z68 p l 0 dC0)),Gc⟩
theorem sc_rowOf(op:Int):SC Tryz.prog 249 [iInt op] [] (λk=>k∈[]) (.pv (.agg [vStr (zo8 op),vInt (z4h op)])) []:=by
 refine SC.vc tb {} [] Tryz.func249 rfl rfl ?_;refine z00 (λc=>?_) λc=>z00 (λc2=>?_) λc2=>?_
 ·have h:op<0:=Aq c;exact⟨sE (by simp[zo8,z4h,h];exact⟨rfl,rfl⟩),Gc⟩
 ·have h:op≥29:=Aq c2;exact⟨sE (by simp[zo8,z4h,h];exact⟨rfl,rfl⟩),Gc⟩
 ·have h1:=Am c;have h2:=Am c2;rcases yy6 (op:=op) oM0 oM0 with rfl|rfl|rfl|rfl|rfl|rfl|rfl|rfl|rfl|rfl|rfl|rfl|rfl|rfl|rfl|rfl|rfl|rfl|rfl|rfl|rfl|rfl|rfl|rfl|rfl|rfl|rfl|rfl|rfl
  ·exact⟨(by decide:(0:Nat)<29),rfl,sI,Gc⟩
  ·exact⟨(by decide:(1:Nat)<29),rfl,sI,Gc⟩
  ·exact⟨(by decide:(2:Nat)<29),rfl,sI,Gc⟩
  ·exact⟨(by decide:(3:Nat)<29),rfl,sI,Gc⟩
  ·exact⟨(by decide:(4:Nat)<29),rfl,sI,Gc⟩
  ·exact⟨(by decide:(5:Nat)<29),rfl,sI,Gc⟩
  ·exact⟨(by decide:(6:Nat)<29),rfl,sI,Gc⟩
  ·exact⟨(by decide:(7:Nat)<29),rfl,sI,Gc⟩
  ·exact⟨(by decide:(8:Nat)<29),rfl,sI,Gc⟩
  ·exact⟨(by decide:(9:Nat)<29),rfl,sI,Gc⟩
  ·exact⟨(by decide:(10:Nat)<29),rfl,sI,Gc⟩
  ·exact⟨(by decide:(11:Nat)<29),rfl,sI,Gc⟩
  ·exact⟨(by decide:(12:Nat)<29),rfl,sI,Gc⟩
  ·exact⟨(by decide:(13:Nat)<29),rfl,sI,Gc⟩
  ·exact⟨(by decide:(14:Nat)<29),rfl,sI,Gc⟩
  ·exact⟨(by decide:(15:Nat)<29),rfl,sI,Gc⟩
  ·exact⟨(by decide:(16:Nat)<29),rfl,sI,Gc⟩
  ·exact⟨(by decide:(17:Nat)<29),rfl,sI,Gc⟩
  ·exact⟨(by decide:(18:Nat)<29),rfl,sI,Gc⟩
  ·exact⟨(by decide:(19:Nat)<29),rfl,sI,Gc⟩
  ·exact⟨(by decide:(20:Nat)<29),rfl,sI,Gc⟩
  ·exact⟨(by decide:(21:Nat)<29),rfl,sI,Gc⟩
  ·exact⟨(by decide:(22:Nat)<29),rfl,sI,Gc⟩
  ·exact⟨(by decide:(23:Nat)<29),rfl,sI,Gc⟩
  ·exact⟨(by decide:(24:Nat)<29),rfl,sI,Gc⟩
  ·exact⟨(by decide:(25:Nat)<29),rfl,sI,Gc⟩
  ·exact⟨(by decide:(26:Nat)<29),rfl,sI,Gc⟩
  ·exact⟨(by decide:(27:Nat)<29),rfl,sI,Gc⟩
  ·exact⟨(by decide:(28:Nat)<29),rfl,sI,Gc⟩
theorem y97(op:Int):SC Tryz.prog 231 [iInt op] [] (λk=>k∈[]) (iInt (z4h op)) []:=by
 refine SC.vc tb {} [] Tryz.func231 rfl rfl ?_;exact⟨[],sc_rowOf op,sR,Gc,rfl,sI,Gc⟩
theorem y1t(n:Int):SC Tryz.prog 120 [.pv (.val (.int .i32 n))] [] (λ_=>False) (iBool (z4j n)) []:=by
 refine SC.anyR (SC.vc tb {} [] Tryz.func120 rfl rfl ?_);unfold z4j;refine z00 (λh1=>z00 (λh2=>⟨sE (by rw[h1,h2];rfl),Gc⟩) λh2=>?_) λh1=>?_
 ·refine z00 (λh3=>z00 (λh4=>⟨sE (by rw[h1,h2,h3,h4];rfl),Gc⟩) λh4=>⟨sE (by rw[h1,h2,h3,h4];rfl),Gc⟩) λh3=>⟨sE (by rw[h1,h2,h3];rfl),Gc⟩
 ·refine z00 (λh3=>z00 (λh4=>⟨sE (by rw[h1,h3,h4];rfl),Gc⟩) λh4=>⟨sE (by rw[h1,h3,h4];rfl),Gc⟩) λh3=>⟨sE (by rw[h1,h3];rfl),Gc⟩
theorem yv1(n:Int):SC Tryz.prog 170 [.pv (.val (.int .i32 n))] [] (λ_=>False) (iBool (z3w n)) []:=by
 refine SC.anyR (SC.vc tb {} [] Tryz.func170 rfl rfl ?_);unfold z3w;exact z00 (λh1=>⟨sE (by rw[h1];rfl),Gc⟩) λh1=>⟨sE (by rw[h1];rfl),Gc⟩
theorem j2u(s:ByteArray):SC Tryz.prog 122 [iStr s] [] (λ_=>False) (iBool (z1h s)) []:=by
 refine SC.anyR (SC.vc tb {} [] Tryz.func122 rfl rfl ?_);have N:∀{b:Bool}{P:Prop},b=true->b=false->P:=λh g=>by rw[h]at g;cases g
 have T:∀{b:Bool},b=true->SubI (iBool true) (iBool b):=λh=>sE (by rw[h]);exact z00 (λh=>z00 (λ_=>⟨T (by unfold z1h;rw[h];simp only[Bg,B6]),Gc⟩) λg=>N h g) λh1=>z00 (λh=>z00 (λ_=>⟨T (by unfold z1h;rw[h];simp only[Bg,B6]),Gc⟩) λg=>N h g) λh2=>z00 (λh=>z00 (λ_=>⟨T (by unfold z1h;rw[h];simp only[Bg,B6]),Gc⟩) λg=>N h g) λh3=>z00 (λh=>z00 (λ_=>⟨T (by unfold z1h;rw[h];simp only[Bg,B6]),Gc⟩) λg=>N h g) λh4=>z00 (λh=>z00 (λ_=>⟨T (by unfold z1h;rw[h];simp only[Bg,B6]),Gc⟩) λg=>N h g) λh5=>z00 (λh=>z00 (λ_=>⟨T (by unfold z1h;rw[h];simp only[Bg,B6]),Gc⟩) λg=>N h g) λh6=>z00 (λh=>z00 (λ_=>⟨T (by unfold z1h;rw[h];simp only[Bg,B6]),Gc⟩) λg=>N h g) λh7=>z00 (λh=>z00 (λ_=>⟨T (by unfold z1h;rw[h];simp only[Bg,B6]),Gc⟩) λg=>N h g) λh8=>z00 (λh=>z00 (λ_=>⟨T (by unfold z1h;rw[h];simp only[Bg,B6]),Gc⟩) λg=>N h g) λh9=>z00 (λh=>z00 (λ_=>⟨T (by unfold z1h;rw[h];simp only[Bg,B6]),Gc⟩) λg=>N h g) λh10=>z00 (λh=>z00 (λ_=>⟨T (by unfold z1h;rw[h];simp only[Bg,B6]),Gc⟩) λg=>N h g) λh11=>z00 (λh=>z00 (λ_=>⟨T (by unfold z1h;rw[h];simp only[Bg,B6]),Gc⟩) λg=>N h g) λh12=>z00 (λh=>z00 (λ_=>⟨T (by unfold z1h;rw[h];simp only[Bg,B6]),Gc⟩) λg=>N h g) λh13=>z00 (λh=>z00 (λ_=>⟨T (by unfold z1h;rw[h];simp only[Bg,B6]),Gc⟩) λg=>N h g) λh14=>z00 (λh=>z00 (λ_=>⟨T (by unfold z1h;rw[h];simp only[Bg,B6]),Gc⟩) λg=>N h g) λh15=>z00 (λh=>z00 (λ_=>⟨T (by unfold z1h;rw[h];simp only[Bg,B6]),Gc⟩) λg=>N h g) λh16=>z00 (λh=>z00 (λ_=>⟨T (by unfold z1h;rw[h];simp only[Bg,B6]),Gc⟩) λg=>N h g) λh17=>z00 (λh=>⟨T (by unfold z1h;rw[h];simp only[Bg,B6]),Gc⟩) λh18=>⟨sE (by unfold z1h;rw[h1,h2,h3,h4,h5,h6,h7,h8,h9,h10,h11,h12,h13,h14,h15,h16,h17,h18];rfl),Gc⟩
theorem sc_tkRun(s:ByteArray):SC Tryz.prog 121 [iStr s] [] (λ_=>False) (iStr (yt3 s)) []:=by
 refine SC.of Tryz.func121 rfl (Av rfl) λF ρ w=>?_;refine Tr.seq ?_;refine Tr.region rfl ?_;refine WL.consV rfl rfl rfl (z3r rfl rfl) ?_;refine WL.nil ?_;refine Tr.seq ?_;refine Tr.strRange rfl rfl rfl rfl rfl rfl rfl rfl Tryz.underlying9 rfl rfl rfl rfl rfl rfl rfl rfl rfl rfl rfl (λ_ h=>h) (λk fr=>(k<=s.toList.length/\(s.toList.take k).all isLD=true)/\fr=[(0,iStr s)]) ⟨[(0,iStr s)],Sub.of Gd,⟨A9 _,rfl⟩,rfl⟩ ?_ ?_
 ·skip;rintro b0 k _ hk ⟨hI,rfl⟩;refine Tr.seq ?_;refine Tr.region rfl ?_;refine WL.consV rfl rfl rfl (z2n rfl rfl) ?_;refine WL.consV rfl rfl rfl (z3r rfl rfl) ?_;refine WL.nil ?_;refine tRt ?_;refine rOk rfl ?_ nPo;have hall:s.toList.all isLD=true:=by
   have:=hI.2
   rwa [At (by rw[y00];exact hk)]at this
  simp[yt3,hall]
 ·skip;rintro ρ2 w2 b0 k _ hk ⟨hI,rfl⟩;have hlt:k<s.toList.length:=by rw[y00];exact hk
  refine tBk ?_;refine Tr.seq ?_;refine Tr.region rfl ?_;refine WL.consV rfl rfl rfl (z8m rfl rfl rfl) ?_;refine WL.consV rfl rfl rfl (z8m rfl rfl rfl) ?_;refine WL.consV rfl rfl rfl (z3r rfl rfl) ?_;refine WL.consV rfl rfl rfl (z3r rfl rfl) ?_;refine WL.nil ?_;refine Tr.seq ?_;refine Tr.region rfl ?_;refine WL.consV rfl rfl rfl (z2n rfl rfl) ?_;refine WL.cons rfl rfl rfl (zl7 (y1t _) ent120 rfl rfl (sRf _ _) rfl) ?_;refine WL.consV rfl rfl rfl (yl0 rfl rfl) ?_;refine WL.consV rfl rfl rfl (z2n rfl rfl) ?_;refine WL.split (t:=14) rfl (λhb14=>?_) (λhb14=>?_)
  ·skip;refine WL.yesV rfl rfl rfl rfl rfl rfl (z2n rfl rfl) ?_;refine WL.yes rfl rfl rfl rfl rfl rfl (zl7 (yv1 _) ent170 rfl rfl (sRf _ _) rfl) ?_;refine WL.yesV rfl rfl rfl rfl rfl rfl (yl0 rfl rfl) ?_;refine WL.consV rfl rfl rfl (z58 rfl rfl rfl) ?_;refine WL.nil ?_;refine Tr.cond rfl (λhc18=>?_) (λhc18=>?_)
   ·skip;refine Tr.seq ?_;refine Tr.region rfl ?_;refine WL.consV rfl rfl rfl (z2n rfl rfl) ?_;refine WL.consV rfl rfl rfl (z2n rfl rfl) ?_;refine WL.consV rfl rfl rfl (zu7 rfl rfl Tryz.underlying9 (.inl ⟨rfl,rfl⟩) (.inr ⟨_,_,rfl,rfl⟩) oM0 (Fv (by assumption))) ?_;refine WL.consV rfl rfl rfl (z3r rfl rfl) ?_;refine WL.nil ?_;refine tRt ?_;refine rOk rfl ?_ nPo;have hld:y2t (Utf8.decode s k).1=false:=by
     simp only[y2t]
     first
     |(simp_all;done)
     |(clear hI;simp_all)
    rw[runOf_at hI.2 (A5 hlt) ((y05 hlt).2 hld)]
   ·skip;refine tSk ?_;refine⟨rfl,[(0,iStr s)],Sub.of Ge,?_,rfl⟩;have hld:y2t (Utf8.decode s k).1=true:=by
     simp only[y2t]
     first
     |(simp_all;done)
     |(clear hI;simp_all)
    obtain⟨hw1,hb1⟩:=(y05 hlt).1 hld;rw[hw1];exact⟨by omega,by rw[List.take_succ_eq_append_getElem hlt,List.all_append,hI.2];simp[hb1]⟩
  ·skip;refine WL.no (b:=false) rfl rfl rfl rfl rfl rfl ?_;refine WL.no (b:=false) rfl rfl rfl rfl rfl rfl ?_;refine WL.no (b:=false) rfl rfl rfl rfl rfl rfl ?_;refine WL.consV rfl rfl rfl (z1f rfl rfl rfl) ?_;refine WL.nil ?_;refine Tr.condF rfl ?_;refine tSk ?_;refine⟨rfl,[(0,iStr s)],Sub.of Ge,?_,rfl⟩;have hld:y2t (Utf8.decode s k).1=true:=by
    simp only[y2t]
    first
    |(simp_all;done)
    |(clear hI;simp_all)
   obtain⟨hw1,hb1⟩:=(y05 hlt).1 hld;rw[hw1];exact⟨by omega,by rw[List.take_succ_eq_append_getElem hlt,List.all_append,hI.2];simp[hb1]⟩
theorem z7s(s:ByteArray):SC Tryz.prog 67 [iStr s] [] (λ_=>False) (iBool (z0k s)) []:=by
 refine SC.of Tryz.func67 rfl (Av rfl) λF ρ w=>?_;refine Tr.seq ?_;refine Tr.region rfl ?_;refine WL.consV rfl rfl rfl (z3r rfl rfl) ?_;refine WL.nil ?_;refine Tr.seq ?_;refine Tr.region rfl ?_;refine WL.consV rfl rfl rfl (z2n rfl rfl) ?_;refine WL.consV rfl rfl rfl (bSt rfl rfl rfl rfl) ?_;refine WL.consV rfl rfl rfl (z2n rfl rfl) ?_;refine WL.split (t:=5) rfl (λhb5=>?_) (λhb5=>?_)
 ·skip;have hne:s.toList≠[]:=by simpa using hb5
  obtain⟨b0,r0,hs0⟩:=C3 hne;have hi0:s[0]?=some b0:=by rw[y35 (i:=0) (by rw[hs0];simp)];simp[hs0]
  have hw0:IntKind.i32.wrap (b0.toNat:Int)=b0.toNat:=by
   have:b0.toNat<256:=b0.toNat_lt;simp[IntKind.wrap,IntKind.bits,IntKind.signed];omega
  have hre:=runOf_eq s;refine WL.yesV rfl rfl rfl rfl rfl rfl (z2n rfl rfl) ?_;refine WL.yesV rfl rfl rfl rfl rfl rfl (zu5 rfl rfl rfl Tryz.underlying9 (by assumption) (by first|rfl|omega)) ?_;refine WL.yesV rfl rfl rfl rfl rfl rfl (y0v rfl rfl ⟨_,Tryz.underlying5⟩ Tryz.underlying21) ?_;refine WL.yes rfl rfl rfl rfl rfl rfl (zl7 (y1t _) ent120 rfl rfl (sRf _ _) rfl) ?_;refine WL.consV rfl rfl rfl (z58 rfl rfl rfl) ?_;refine WL.consV rfl rfl rfl (z2n rfl rfl) ?_;refine WL.split (t:=11) rfl (λhb11=>?_) (λhb11=>?_)
  ·skip;refine WL.yesV rfl rfl rfl rfl rfl rfl (z2n rfl rfl) ?_;refine WL.yes rfl rfl rfl rfl rfl rfl (zl7 (sc_tkRun s) ent121 rfl rfl (sRf _ _) rfl) ?_;refine WL.yesV rfl rfl rfl rfl rfl rfl (z2n rfl rfl) ?_;refine WL.yesV rfl rfl rfl rfl rfl rfl (bSt rfl rfl rfl rfl) ?_;refine WL.consV rfl rfl rfl (z58 rfl rfl rfl) ?_;refine WL.consV rfl rfl rfl (z2n rfl rfl) ?_;refine WL.split (t:=17) rfl (λhb17=>?_) (λhb17=>?_)
   ·skip;refine WL.yesV rfl rfl rfl rfl rfl rfl (z2n rfl rfl) ?_;refine WL.yesV rfl rfl rfl rfl rfl rfl (y3u rfl rfl Tryz.underlying9) ?_;refine WL.yesV rfl rfl rfl rfl rfl rfl (zq6 rfl rfl rfl rfl) ?_;refine WL.consV rfl rfl rfl (z58 rfl rfl rfl) ?_;refine WL.consV rfl rfl rfl (z2n rfl rfl) ?_;refine WL.split (t:=22) rfl (λhb22=>?_) (λhb22=>?_)
    ·skip;refine WL.yesV rfl rfl rfl rfl rfl rfl (z2n rfl rfl) ?_;refine WL.yes rfl rfl rfl rfl rfl rfl (zl7 (j2u s) ent122 rfl rfl (sRf _ _) rfl) ?_;refine WL.yesV rfl rfl rfl rfl rfl rfl (yl0 rfl rfl) ?_;refine WL.consV rfl rfl rfl (z58 rfl rfl rfl) ?_;refine WL.consV rfl rfl rfl (z3r rfl rfl) ?_;refine WL.nil ?_;refine tRt ?_;refine rOk rfl ?_ nPo;refine Aa (λb=>iBool b) ?_
     first
     |(simp_all[z0k];done)
     |(simp_all[z0k]<;>omega)
    ·skip;refine WL.no (b:=false) rfl rfl rfl rfl rfl rfl ?_;refine WL.no (b:=false) rfl rfl rfl rfl rfl rfl ?_;refine WL.no (b:=false) rfl rfl rfl rfl rfl rfl ?_;refine WL.consV rfl rfl rfl (z1f rfl rfl rfl) ?_;refine WL.consV rfl rfl rfl (z3r rfl rfl) ?_;refine WL.nil ?_;refine tRt ?_;refine rOk rfl ?_ nPo;refine Aa (λb=>iBool b) ?_
     first
     |(simp_all[z0k];done)
     |(simp_all[z0k]<;>omega)
   ·skip;refine WL.no (b:=false) rfl rfl rfl rfl rfl rfl ?_;refine WL.no (b:=false) rfl rfl rfl rfl rfl rfl ?_;refine WL.no (b:=false) rfl rfl rfl rfl rfl rfl ?_;refine WL.consV rfl rfl rfl (z1f rfl rfl rfl) ?_;refine WL.consV rfl rfl rfl (z2n rfl rfl) ?_;refine WL.no (b:=false) rfl rfl rfl rfl rfl rfl ?_;refine WL.no (b:=false) rfl rfl rfl rfl rfl rfl ?_;refine WL.no (b:=false) rfl rfl rfl rfl rfl rfl ?_;refine WL.consV rfl rfl rfl (z1f rfl rfl rfl) ?_;refine WL.consV rfl rfl rfl (z3r rfl rfl) ?_;refine WL.nil ?_;refine tRt ?_;refine rOk rfl ?_ nPo;refine Aa (λb=>iBool b) ?_
    first
    |(simp_all[z0k];done)
    |(simp_all[z0k]<;>omega)
  ·skip;refine WL.no (b:=false) rfl rfl rfl rfl rfl rfl ?_;refine WL.no (b:=false) rfl rfl rfl rfl rfl rfl ?_;refine WL.no (b:=false) rfl rfl rfl rfl rfl rfl ?_;refine WL.no (b:=false) rfl rfl rfl rfl rfl rfl ?_;refine WL.consV rfl rfl rfl (z1f rfl rfl rfl) ?_;refine WL.consV rfl rfl rfl (z2n rfl rfl) ?_;refine WL.no (b:=false) rfl rfl rfl rfl rfl rfl ?_;refine WL.no (b:=false) rfl rfl rfl rfl rfl rfl ?_;refine WL.no (b:=false) rfl rfl rfl rfl rfl rfl ?_;refine WL.consV rfl rfl rfl (z1f rfl rfl rfl) ?_;refine WL.consV rfl rfl rfl (z2n rfl rfl) ?_;refine WL.no (b:=false) rfl rfl rfl rfl rfl rfl ?_;refine WL.no (b:=false) rfl rfl rfl rfl rfl rfl ?_;refine WL.no (b:=false) rfl rfl rfl rfl rfl rfl ?_;refine WL.consV rfl rfl rfl (z1f rfl rfl rfl) ?_;refine WL.consV rfl rfl rfl (z3r rfl rfl) ?_;refine WL.nil ?_;refine tRt ?_;refine rOk rfl ?_ nPo;refine Aa (λb=>iBool b) ?_
   first
   |(simp_all[z0k];done)
   |(simp_all[z0k]<;>omega)
 ·skip;refine WL.no (b:=false) rfl rfl rfl rfl rfl rfl ?_;refine WL.no (b:=false) rfl rfl rfl rfl rfl rfl ?_;refine WL.no (b:=false) rfl rfl rfl rfl rfl rfl ?_;refine WL.no (b:=false) rfl rfl rfl rfl rfl rfl ?_;refine WL.consV rfl rfl rfl (z1f rfl rfl rfl) ?_;refine WL.consV rfl rfl rfl (z2n rfl rfl) ?_;refine WL.no (b:=false) rfl rfl rfl rfl rfl rfl ?_;refine WL.no (b:=false) rfl rfl rfl rfl rfl rfl ?_;refine WL.no (b:=false) rfl rfl rfl rfl rfl rfl ?_;refine WL.no (b:=false) rfl rfl rfl rfl rfl rfl ?_;refine WL.consV rfl rfl rfl (z1f rfl rfl rfl) ?_;refine WL.consV rfl rfl rfl (z2n rfl rfl) ?_;refine WL.no (b:=false) rfl rfl rfl rfl rfl rfl ?_;refine WL.no (b:=false) rfl rfl rfl rfl rfl rfl ?_;refine WL.no (b:=false) rfl rfl rfl rfl rfl rfl ?_;refine WL.consV rfl rfl rfl (z1f rfl rfl rfl) ?_;refine WL.consV rfl rfl rfl (z2n rfl rfl) ?_;refine WL.no (b:=false) rfl rfl rfl rfl rfl rfl ?_;refine WL.no (b:=false) rfl rfl rfl rfl rfl rfl ?_;refine WL.no (b:=false) rfl rfl rfl rfl rfl rfl ?_;refine WL.consV rfl rfl rfl (z1f rfl rfl rfl) ?_;refine WL.consV rfl rfl rfl (z3r rfl rfl) ?_;refine WL.nil ?_;refine tRt ?_;refine rOk rfl ?_ nPo;refine Aa (λb=>iBool b) ?_
  first
  |(simp_all[z0k];done)
  |(simp_all[z0k]<;>omega)
end Go.Proofs.YtdhllinkobindaaGreatDoor
