/- PART 5 of 9 of a proof: see the last part. -/
import Derived.Test.YtdhllinkobindaaGreatDoorWp4
set_option maxRecDepth 20000
set_option maxHeartbeats 8000000
set_option linter.unusedSimpArgs false
set_option linter.unusedVariables false
set_option linter.unusedSectionVars false
namespace Go.Proofs.YtdhllinkobindaaGreatDoor
open Go
theorem ye7{u:Un}{f:Fl}{set:List Bool}{x:Nd}{seen:List Int}{g:Fl}(h:z05 x.name u.flows 0≥0)(hg:u.flows[(z05 x.name u.flows 0).toNat]?=some g) :
 zc7 u f set x seen=andS (z06 f.types seen x.args (g.types.take g.params.toNat)) set (z1t f.types set x.outs [g.ty]):=by
 unfold zc7;rw[if_pos (C9 h),hg]
theorem ye6{u:Un}{f:Fl}{set:List Bool}{x:Nd}{seen:List Int}(h:decide (z05 x.name u.flows 0≥0)=false):zc7 u f set x seen=(false,set):=by
 unfold zc7;rw[h];rfl
theorem yg5(u:Un)(f:Fl)(set:List Bool)(hs:set.length=f.types.length)(hg:∀g∈u.flows,0<=g.params/\g.params<=g.types.length)(x:Nd)(seen:List Int)(wh:Wh):SC Tryz.prog 137 [.ptr 3 0,.pv (ndv x),.pv (ints seen),.pv (whv wh)] (ckHp u f 4 set) (λk=>k=3) (iBool (z1h u f set x seen wh).1) (ckHp u f 4 (z1h u f set x seen wh).2):=by
 refine SC.sameR (SC.vc tb {} [3] Tryz.func137 rfl rfl ?_) λk _ h=>Ak.2 h;obtain⟨kind,op,n,name,args,outs,params,kids⟩:=x;rcases(show kind=1∨kind=2∨kind=3∨kind=4∨kind=5∨kind=6∨kind=7∨kind=9∨kind=8∨kind=12∨kind=13∨kind=14∨kind=15∨(kind≠1/\kind≠2/\kind≠3/\kind≠4/\kind≠5/\kind≠6/\kind≠7/\kind≠8/\kind≠9/\kind≠12/\kind≠13/\kind≠14/\kind≠15) by omega)with rfl|rfl|rfl|rfl|rfl|rfl|rfl|rfl|rfl|rfl|rfl|rfl|rfl|hk
 ·have hT:=z2k u f set args seen [];have hS:=z4z u f set outs [1] hs;rw[show z1h u f set ⟨1,op,n,name,args,outs,params,kids⟩ seen wh=andS (z06 f.types seen args []) set (z1t f.types set outs [1])from rfl];generalize z06 f.types seen args []=b at hT⊢
  cases b with
  |true=>exact⟨[3,4],hT,SubA.same (SubA.same (SubA.same (SubA.cons sN sR))),⟨rfl,rfl,Gb,rfl,rfl,Gb⟩,rfl,[],hS,sR,Ge,rfl,sI,rfl,rfl,Gb⟩
  |false=>exact⟨[3,4],hT,SubA.same (SubA.same (SubA.same (SubA.cons sN sR))),⟨rfl,rfl,Gb,rfl,rfl,Gb⟩,rfl,sI,rfl,rfl,Gb⟩
 ·have hT:=z2k u f set args seen [];have hS:=z4z u f set outs [2] hs;rw[show z1h u f set ⟨2,op,n,name,args,outs,params,kids⟩ seen wh=andS ((n==0||n==1)&&z06 f.types seen args []) set (z1t f.types set outs [2])from rfl];generalize z06 f.types seen args []=b at hT⊢;refine z00 (λh0=>?_) λh0=>?_
  ·rw[show(n==0)=true from h0]
   cases b with
   |true=>exact⟨[3,4],hT,SubA.same (SubA.same (SubA.same (SubA.cons sN sR))),⟨rfl,rfl,Gb,rfl,rfl,Gb⟩,rfl,[],hS,sR,Ge,rfl,sI,rfl,rfl,Gb⟩
   |false=>exact⟨[3,4],hT,SubA.same (SubA.same (SubA.same (SubA.cons sN sR))),⟨rfl,rfl,Gb,rfl,rfl,Gb⟩,rfl,sI,rfl,rfl,Gb⟩
  ·rw[show(n==0)=false from h0];refine z00 (λh1=>?_) λh1=>?_
   ·rw[show(n==1)=true from h1]
    cases b with
    |true=>exact⟨[3,4],hT,SubA.same (SubA.same (SubA.same (SubA.cons sN sR))),⟨rfl,rfl,Gb,rfl,rfl,Gb⟩,rfl,[],hS,sR,Ge,rfl,sI,rfl,rfl,Gb⟩
    |false=>exact⟨[3,4],hT,SubA.same (SubA.same (SubA.same (SubA.cons sN sR))),⟨rfl,rfl,Gb,rfl,rfl,Gb⟩,rfl,sI,rfl,rfl,Gb⟩
   ·rw[show(n==1)=false from h1];exact⟨sI,rfl,rfl,Gb⟩
 ·have hO:=zw8 op;have hT:=z2k u f set args seen [(z0q op).1];have hS:=z4z u f set outs [(z0q op).2] hs;have hI:=yw4 op;rw[show z1h u f set ⟨3,op,n,name,args,outs,params,kids⟩ seen wh=andS (z2w op&&z06 f.types seen args [(z0q op).1]) set (z1t f.types set outs [(z0q op).2])from rfl];generalize z06 f.types seen args [(z0q op).1]=b at hT⊢;generalize z2w op=q at hI⊢
  cases q with
  |true =>
   cases b with
   |true=>exact⟨[],hO,sR,Gb,rfl,[],hI,sR,Gb,rfl,[3,4],hT,sR,⟨rfl,rfl,Gb,rfl,rfl,Gb⟩,rfl,[],hS,sR,Ge,rfl,sI,rfl,rfl,Gb⟩
   |false=>exact⟨[],hO,sR,Gb,rfl,[],hI,sR,Gb,rfl,[3,4],hT,sR,⟨rfl,rfl,Gb,rfl,rfl,Gb⟩,rfl,sI,rfl,rfl,Gb⟩
  |false=>exact⟨[],hO,sR,Gb,rfl,[],hI,sR,Gb,rfl,sI,rfl,rfl,Gb⟩
 ·have hO:=zw8 op;have hT:=z2k u f set args seen [(z0q op).1,(z0q op).1];have hS:=z4z u f set outs [(z0q op).2] hs;have hI:=yw5 op;rw[show z1h u f set ⟨4,op,n,name,args,outs,params,kids⟩ seen wh=andS (z40 op&&z06 f.types seen args [(z0q op).1,(z0q op).1]&&f.types.getD (args.getD 0 0).toNat 0==f.types.getD (args.getD 1 0).toNat 0) set (z1t f.types set outs [(z0q op).2])from rfl]
  cases hb:z06 f.types seen args [(z0q op).1,(z0q op).1]with
  |false =>
   rw[hb]at hT;generalize z40 op=q at hI⊢
   cases q with
   |true=>exact⟨[],hO,sR,Gb,rfl,[],hI,sR,Gb,rfl,[3,4],hT,sR,⟨rfl,rfl,Gb,rfl,rfl,Gb⟩,rfl,sI,rfl,rfl,Gb⟩
   |false=>exact⟨[],hO,sR,Gb,rfl,[],hI,sR,Gb,rfl,sI,rfl,rfl,Gb⟩
  |true =>
   rw[hb]at hT;obtain⟨a,b,rfl,a0,a1,b0,b1⟩:=ye9 hb;have ga:f.types[a.toNat]?=some (f.types.getD a.toNat 0):=by rw[Ax,A8 a1];rfl
   have gb:f.types[b.toNat]?=some (f.types.getD b.toNat 0):=by rw[Ax,A8 b1];rfl
   generalize z40 op=q at hI⊢
   cases q with
   |false=>exact⟨[],hO,sR,Gb,rfl,[],hI,sR,Gb,rfl,sI,rfl,rfl,Gb⟩
   |true =>
    rw[show([a,b].getD 0 0:Int)=a from rfl,show([a,b].getD 1 0:Int)=b from rfl];refine⟨[],hO,sR,Gb,rfl,[],hI,sR,Gb,rfl,[3,4],hT,sR,⟨rfl,rfl,Gb,rfl,rfl,Gb⟩,rfl,at0 (a:=eInt a),rfl,z02 (f:=eInt) ga,by omega,at1 (b:=eInt b),rfl,z02 (f:=eInt) gb,by omega,z00 (λh=>?_) λh=>?_⟩
    ·rw[show(f.types.getD a.toNat 0==f.types.getD b.toNat 0)=true from h];exact⟨[],hS,sR,Ge,rfl,sI,rfl,rfl,Gb⟩
    ·rw[show(f.types.getD a.toNat 0==f.types.getD b.toNat 0)=false from h];exact⟨sI,rfl,rfl,Gb⟩
 ·have hA:=z0e u name;have hT:=z2k u f set args seen [1];have hS:=z4z u f set outs [1] hs;rw[show z1h u f set ⟨5,op,n,name,args,outs,params,kids⟩ seen wh=andS (decide (z0h name u.arrays 0≥0)&&z06 f.types seen args [1]) set (z1t f.types set outs [1])from rfl];generalize z06 f.types seen args [1]=b at hT⊢;refine⟨[],hA,sR,Gb,rfl,z00 (λh=>?_) λh=>?_⟩
  ·rw[show decide (z0h name u.arrays 0≥0)=true from h]
   cases b with
   |true=>exact⟨[3,4],hT,sR,⟨rfl,rfl,Gb,rfl,rfl,Gb⟩,rfl,[],hS,sR,Ge,rfl,sI,rfl,rfl,Gb⟩
   |false=>exact⟨[3,4],hT,sR,⟨rfl,rfl,Gb,rfl,rfl,Gb⟩,rfl,sI,rfl,rfl,Gb⟩
  ·rw[show decide (z0h name u.arrays 0≥0)=false from h];exact⟨sI,rfl,rfl,Gb⟩
 ·have hA:=z0e u name;have hT:=z2k u f set args seen [1,1];rw[show z1h u f set ⟨6,op,n,name,args,outs,params,kids⟩ seen wh=(decide (z0h name u.arrays 0≥0)&&z06 f.types seen args [1,1]&&(outs.length:Int)==0,set)from rfl];generalize z06 f.types seen args [1,1]=b at hT⊢;refine⟨[],hA,sR,Gb,rfl,z00 (λh=>?_) λh=>?_⟩
  ·rw[show decide (z0h name u.arrays 0≥0)=true from h]
   cases b with
   |true=>exact⟨[3,4],hT,sR,⟨rfl,rfl,Gb,rfl,rfl,Gb⟩,rfl,sE (by simp[Nd.outs]),rfl,rfl,Gb⟩
   |false=>exact⟨[3,4],hT,sR,⟨rfl,rfl,Gb,rfl,rfl,Gb⟩,rfl,sI,rfl,rfl,Gb⟩
  ·rw[show decide (z0h name u.arrays 0≥0)=false from h];exact⟨sI,rfl,rfl,Gb⟩
 ·have hP:=z3v u name;rw[show z1h u f set ⟨7,op,n,name,args,outs,params,kids⟩ seen wh=zc7 u f set ⟨7,op,n,name,args,outs,params,kids⟩ seen from rfl]
  cases hp:decide (z05 name u.flows 0≥0)with
  |true =>
   have h0:z05 name u.flows 0≥0:=by simpa using hp
   obtain⟨g,hgk,_⟩:=ze6 h0;rw[show zc7 u f set ⟨7,op,n,name,args,outs,params,kids⟩ seen=andS (z06 f.types seen args (g.types.take g.params.toNat)) set (z1t f.types set outs [g.ty])from ye7 h0 hgk];obtain⟨g0,g1⟩:=hg g (Ag hgk);have hT:=z2k u f set args seen (g.types.take g.params.toNat);have hS:=z4z u f set outs [g.ty] hs;have hi:=z02 (f:=Fl.enc) hgk;generalize z06 f.types seen args (g.types.take g.params.toNat)=b at hT⊢
   cases b with
   |true=>exact⟨[],hP,sR,Gb,rfl,z00 (λ_=>⟨hi,by omega,hi,by omega,g.params.toNat,by omega,by omega,by simp;omega,zl2,[3,4],hT,SubA.same (SubA.same (SubA.same (SubA.cons (sE (by simp[ints])) sR))),⟨rfl,rfl,Gb,rfl,rfl,Gb⟩,rfl,hi,by omega,[],hS,sR,Ge,rfl,sI,rfl,rfl,Gb⟩) λh=>absurd (hp.symm.trans h) dC0⟩
   |false=>exact⟨[],hP,sR,Gb,rfl,z00 (λ_=>⟨hi,by omega,hi,by omega,g.params.toNat,by omega,by omega,by simp;omega,zl2,[3,4],hT,SubA.same (SubA.same (SubA.same (SubA.cons (sE (by simp[ints])) sR))),⟨rfl,rfl,Gb,rfl,rfl,Gb⟩,rfl,sI,rfl,rfl,Gb⟩) λh=>absurd (hp.symm.trans h) dC0⟩
  |false =>
   rw[show zc7 u f set ⟨7,op,n,name,args,outs,params,kids⟩ seen=(false,set)from ye6 hp];exact⟨[],hP,sR,Gb,rfl,z00 (λh=>absurd (hp.symm.trans h) dC0) λ_=>⟨sI,rfl,rfl,Gb⟩⟩
 ·have hT:=z2k u f set args seen [1];rw[show z1h u f set ⟨9,op,n,name,args,outs,params,kids⟩ seen wh=(z06 f.types seen args [1]&&(outs.length:Int)==0,set)from rfl];generalize z06 f.types seen args [1]=b at hT⊢
  cases b with
  |true=>exact⟨[3,4],hT,sR,⟨rfl,rfl,Gb,rfl,rfl,Gb⟩,rfl,sE (by simp[Nd.outs]),rfl,rfl,Gb⟩
  |false=>exact⟨[3,4],hT,sR,⟨rfl,rfl,Gb,rfl,rfl,Gb⟩,rfl,sI,rfl,rfl,Gb⟩
 ·have hS:=z4z u f set outs [1] hs;rw[show z1h u f set ⟨8,op,n,name,args,outs,params,kids⟩ seen wh=andS ((args.length:Int)==0) set (z1t f.types set outs [1])from rfl];refine z00 (λh=>?_) λh=>?_
  ·rw[show((args.length:Int)==0)=true by simpa[Nd.args]using h];exact⟨[],hS,sR,Ge,rfl,sI,rfl,rfl,Gb⟩
  ·rw[show((args.length:Int)==0)=false by simpa[Nd.args]using h];exact⟨sI,rfl,rfl,Gb⟩
 ·obtain⟨If,Loop,Yield,Next,Left⟩:=wh;have hT:=z2k u f set args seen Yield;rw[show z1h u f set ⟨12,op,n,name,args,outs,params,kids⟩ seen ⟨If,Loop,Yield,Next,Left⟩=(If&&z06 f.types seen args Yield&&(outs.length:Int)==0,set)from rfl];generalize z06 f.types seen args Yield=b at hT⊢
  cases If with
  |true =>
   cases b with
   |true=>exact⟨[3,4],hT,sR,⟨rfl,rfl,Gb,rfl,rfl,Gb⟩,rfl,sE (by simp[Nd.outs]),rfl,rfl,Gb⟩
   |false=>exact⟨[3,4],hT,sR,⟨rfl,rfl,Gb,rfl,rfl,Gb⟩,rfl,sI,rfl,rfl,Gb⟩
  |false=>exact⟨sI,rfl,rfl,Gb⟩
 ·obtain⟨If,Loop,Yield,Next,Left⟩:=wh;have hT:=z2k u f set args seen Next;rw[show z1h u f set ⟨13,op,n,name,args,outs,params,kids⟩ seen ⟨If,Loop,Yield,Next,Left⟩=(Loop&&z06 f.types seen args Next&&(outs.length:Int)==0,set)from rfl];generalize z06 f.types seen args Next=b at hT⊢
  cases Loop with
  |true =>
   cases b with
   |true=>exact⟨[3,4],hT,sR,⟨rfl,rfl,Gb,rfl,rfl,Gb⟩,rfl,sE (by simp[Nd.outs]),rfl,rfl,Gb⟩
   |false=>exact⟨[3,4],hT,sR,⟨rfl,rfl,Gb,rfl,rfl,Gb⟩,rfl,sI,rfl,rfl,Gb⟩
  |false=>exact⟨sI,rfl,rfl,Gb⟩
 ·obtain⟨If,Loop,Yield,Next,Left⟩:=wh;have hT:=z2k u f set args seen Left;rw[show z1h u f set ⟨14,op,n,name,args,outs,params,kids⟩ seen ⟨If,Loop,Yield,Next,Left⟩=(Loop&&z06 f.types seen args Left&&(outs.length:Int)==0,set)from rfl];generalize z06 f.types seen args Left=b at hT⊢
  cases Loop with
  |true =>
   cases b with
   |true=>exact⟨[3,4],hT,sR,⟨rfl,rfl,Gb,rfl,rfl,Gb⟩,rfl,sE (by simp[Nd.outs]),rfl,rfl,Gb⟩
   |false=>exact⟨[3,4],hT,sR,⟨rfl,rfl,Gb,rfl,rfl,Gb⟩,rfl,sI,rfl,rfl,Gb⟩
  |false=>exact⟨sI,rfl,rfl,Gb⟩
 ·have hT:=z2k u f set args seen [f.ty];rw[show z1h u f set ⟨15,op,n,name,args,outs,params,kids⟩ seen wh=(z06 f.types seen args [f.ty]&&(outs.length:Int)==0,set)from rfl];generalize z06 f.types seen args [f.ty]=b at hT⊢
  cases b with
  |true=>exact⟨[3,4],hT,sR,⟨rfl,rfl,Gb,rfl,rfl,Gb⟩,rfl,sE (by simp[Nd.outs]),rfl,rfl,Gb⟩
  |false=>exact⟨[3,4],hT,sR,⟨rfl,rfl,Gb,rfl,rfl,Gb⟩,rfl,sI,rfl,rfl,Gb⟩
 ·obtain⟨k1,k2,k3,k4,k5,k6,k7,k8,k9,k12,k13,k14,k15⟩:=hk;have no:∀{i:Int},kind≠i->(kind==i)=true->False:=λh e=>h (eq_of_beq e);have ne:∀{i:Int},kind≠i->(kind==i)=false:=λh=>A9.2 h;rw[show z1h u f set ⟨kind,op,n,name,args,outs,params,kids⟩ seen wh=(false,set) by unfold z1h;simp only[Nd.kind,ne k1,ne k2,ne k3,ne k4,ne k5,ne k6,ne k7,ne k8,ne k9,ne k12,ne k13,ne k14,ne k15];rfl];exact z00 (λh=>(no k1 h).elim) λ_=>z00 (λh=>(no k2 h).elim) λ_=>z00 (λh=>(no k3 h).elim) λ_=>z00 (λh=>(no k4 h).elim) λ_=>z00 (λh=>(no k5 h).elim) λ_=>z00 (λh=>(no k6 h).elim) λ_=>z00 (λh=>(no k7 h).elim) λ_=>z00 (λh=>(no k8 h).elim) λ_=>z00 (λh=>(no k9 h).elim) λ_=>z00 (λh=>(no k12 h).elim) λ_=>z00 (λh=>(no k13 h).elim) λ_=>z00 (λh=>(no k14 h).elim) λ_=>z00 (λh=>(no k15 h).elim) λ_=>⟨sI,rfl,rfl,Gb⟩
theorem j33(u:Un)(f:Fl)(hg:∀g∈u.flows,0<=g.params/\g.params<=g.types.length)(x:Nd)(deep:Int)(hd:0<=deep/\deep<=100)(wh:Wh)(seen:List Int)(set:List Bool)(hs:set.length=f.types.length)(hb:seen.length+ndW x<=34359738368)(ih:∀q∈x.kids,∀(deep:Int)(w:Wh)(all:List Int)(set:List Bool),0<=deep/\deep<=101->set.length=f.types.length->all.length+lsW q<=34359738368->SC Tryz.prog 48 [.ptr 3 0,.pv (z1n q),.pv (ints all),.pv (whv w),iInt deep] (ckHp u f 4 set) (λk=>k=3) (iBool (z2o u f deep w all set q).1) (ckHp u f 4 (z2o u f deep w all set q).2)):SC Tryz.prog 87 [.ptr 3 0,.pv (ndv x),.pv (ints seen),.pv (whv wh),iInt deep] (ckHp u f 4 set) (λk=>k=3) (iBool (z4y u f deep wh seen set x).1) (ckHp u f 4 (z4y u f deep wh seen set x).2):=by
 refine SC.sameR (SC.vc tb { pb:=[182,213,252],gh:=[(15,[.fz 14 219])] } [3] Tryz.func87 rfl rfl ?_) λk _ h=>Ak.2 h;have hbW:=z7o x;have hbo:x.outs.length<=34359738368:=by omega
 have hbp:x.params.length<=34359738368:=by omega
 have hml:((x.outs.map eInt).length:Int)=x.outs.length:=by simp
 have hBare:=j31 x
 cases hbr:z1j x with
 |false =>
  rw[hbr]at hBare;rw[zi5 u f deep wh seen set hbr]
  exact⟨[],hBare,sR,Gb,rfl,sI,rfl,rfl,Gb⟩
 |true =>
  rw[hbr]at hBare
  by_cases h10:x.kind=10
  ·obtain⟨a,b,hk⟩:=z3u hbr h10;rw[y1g u f deep wh seen set hbr h10 hk];have k0:(x.kids.map eKid)[0]?=some [z1n a]:=by rw[hk];rfl
   have k1:(x.kids.map eKid)[1]?=some [z1n b]:=by rw[hk];rfl
   have hkw:kdW x.kids=1+lsW a+(1+lsW b+0):=by rw[hk];rfl
   have hO:=yg4 u f set x.outs hbo;have hT:=z2k u f set x.args seen [2];generalize z06 f.types seen x.args [2]=tb at hT⊢
   cases tb with
   |false=>exact⟨[],hBare,sR,Gb,rfl,z00 (λ_=>⟨[3,4],hO,sR,⟨rfl,rfl,by decide,rfl,rfl,Gb⟩,rfl,[3,4],hT,sR,⟨rfl,rfl,Gb,rfl,rfl,Gb⟩,rfl,sI,rfl,rfl,Gb⟩) λh=>absurd (Au.2 h10) (by rw[h];decide)⟩
   |true =>
    rw[if_pos rfl];have hA:=ih a (by rw[hk];exact .head _) (deep+1) ⟨true,wh.Loop,r8of f.types x.outs,wh.Next,wh.Left⟩ seen set oM0 hs oM0;have hl1:=(z9f u f (deep+1) ⟨true,wh.Loop,r8of f.types x.outs,wh.Next,wh.Left⟩ seen set a).trans hs;generalize z2o u f (deep+1) ⟨true,wh.Loop,r8of f.types x.outs,wh.Next,wh.Left⟩ seen set a=ra at hA hl1⊢;obtain⟨ba,s1⟩:=ra
    cases ba with
    |false=>exact⟨[],hBare,sR,Gb,rfl,z00 (λ_=>⟨[3,4],hO,sR,⟨rfl,rfl,by decide,rfl,rfl,Gb⟩,rfl,[3,4],hT,sR,⟨rfl,rfl,Gb,rfl,rfl,Gb⟩,rfl,k0,rfl,z01 rfl oM0,[],hA,sR,Ge,rfl,sI,rfl,rfl,Gb⟩) λh=>absurd (Au.2 h10) (by rw[h];decide)⟩
    |true =>
     unfold andT;rw[if_pos rfl];dsimp only at hl1;have hB:=ih b (by rw[hk];exact .tail _ (.head _)) (deep+1) ⟨true,wh.Loop,r8of f.types x.outs,wh.Next,wh.Left⟩ seen s1 oM0 hl1 oM0;have hl2:=(z9f u f (deep+1) ⟨true,wh.Loop,r8of f.types x.outs,wh.Next,wh.Left⟩ seen s1 b).trans hl1;dsimp only;generalize z2o u f (deep+1) ⟨true,wh.Loop,r8of f.types x.outs,wh.Next,wh.Left⟩ seen s1 b=rb at hB hl2⊢;obtain⟨bb,s2⟩:=rb
     cases bb with
     |false=>exact⟨[],hBare,sR,Gb,rfl,z00 (λ_=>⟨[3,4],hO,sR,⟨rfl,rfl,by decide,rfl,rfl,Gb⟩,rfl,[3,4],hT,sR,⟨rfl,rfl,Gb,rfl,rfl,Gb⟩,rfl,k0,rfl,z01 rfl oM0,[],hA,sR,Ge,rfl,k1,rfl,z01 rfl oM0,[],hB,sR,Ge,rfl,sI,rfl,rfl,Gb⟩) λh=>absurd (Au.2 h10) (by rw[h];decide)⟩
     |true =>
      rw[if_pos rfl];dsimp only at hl2⊢;have hE:=z4z u f s2 x.outs (List.replicate x.outs.length 0) hl2;have hC:=zj2 x;unfold zg3;generalize z08 x=cl at hC⊢
      cases ho:((x.outs.length:Int)==0)with
      |true=>exact⟨[],hBare,sR,Gb,rfl,z00 (λ_=>⟨[3,4],hO,sR,⟨rfl,rfl,by decide,rfl,rfl,Gb⟩,rfl,[3,4],hT,sR,⟨rfl,rfl,Gb,rfl,rfl,Gb⟩,rfl,k0,rfl,z01 rfl oM0,[],hA,sR,Ge,rfl,k1,rfl,z01 rfl oM0,[],hB,sR,Ge,rfl,z00 (λ_=>⟨rfl,rfl,by simp;omega,[],hE,SubA.same (SubA.same (SubA.cons (sE (by simp[ints,eInt];exact .inr rfl)) sR)),Ge,rfl,sI,rfl,rfl,Gb⟩) λh=>absurd (ho.symm.trans (show((x.outs.length:Int)==0)=false by rw[hml]at h;exact h)) dC0⟩) λh=>absurd (Au.2 h10) (by rw[h];decide)⟩
      |false =>
       cases cl with
       |true=>exact⟨[],hBare,sR,Gb,rfl,z00 (λ_=>⟨[3,4],hO,sR,⟨rfl,rfl,by decide,rfl,rfl,Gb⟩,rfl,[3,4],hT,sR,⟨rfl,rfl,Gb,rfl,rfl,Gb⟩,rfl,k0,rfl,z01 rfl oM0,[],hA,sR,Ge,rfl,k1,rfl,z01 rfl oM0,[],hB,sR,Ge,rfl,z00 (λh=>absurd (ho.symm.trans (show((x.outs.length:Int)==0)=true by rw[hml]at h;exact h)) dC0) λ_=>⟨[],hC,sR,Gb,rfl,sI,rfl,rfl,Gb⟩⟩) λh=>absurd (Au.2 h10) (by rw[h];decide)⟩
       |false=>exact⟨[],hBare,sR,Gb,rfl,z00 (λ_=>⟨[3,4],hO,sR,⟨rfl,rfl,by decide,rfl,rfl,Gb⟩,rfl,[3,4],hT,sR,⟨rfl,rfl,Gb,rfl,rfl,Gb⟩,rfl,k0,rfl,z01 rfl oM0,[],hA,sR,Ge,rfl,k1,rfl,z01 rfl oM0,[],hB,sR,Ge,rfl,z00 (λh=>absurd (ho.symm.trans (show((x.outs.length:Int)==0)=true by rw[hml]at h;exact h)) dC0) λ_=>⟨[],hC,sR,Gb,rfl,rfl,rfl,by simp;omega,[],hE,SubA.same (SubA.same (SubA.cons (sE (by simp[ints,eInt];exact .inr rfl)) sR)),Ge,rfl,sI,rfl,rfl,Gb⟩⟩) λh=>absurd (Au.2 h10) (by rw[h];decide)⟩
  by_cases h11:x.kind=11
  ·obtain⟨a,hk⟩:=z2a hbr h11;rw[zi6 u f deep wh seen set hbr h11 hk];have k0:(x.kids.map eKid)[0]?=some [z1n a]:=by rw[hk];rfl
   have hkw:kdW x.kids=1+lsW a+0:=by rw[hk];rfl
   have hP:=yg4 u f set x.params hbp;have hO:=yg4 u f set x.outs hbo;have hT:=z2k u f set x.args seen (r8of f.types x.params);generalize z06 f.types seen x.args (r8of f.types x.params)=tb at hT⊢
   cases tb with
   |false=>exact⟨[],hBare,sR,Gb,rfl,z00 (λh=>absurd (eq_of_beq h) h10) λ_=>z00 (λ_=>⟨[3,4],hP,sR,⟨rfl,rfl,by decide,rfl,rfl,Gb⟩,rfl,[3,4],hO,sR,⟨rfl,rfl,by decide,rfl,rfl,Gb⟩,rfl,[3,4],hP,sR,⟨rfl,rfl,by decide,rfl,rfl,Gb⟩,rfl,[3,4],hT,sR,⟨rfl,rfl,Gb,rfl,rfl,Gb⟩,rfl,sI,rfl,rfl,Gb⟩) λh=>absurd (Au.2 h11) (by rw[h];decide)⟩
   |true =>
    rw[if_pos rfl];have hS:=z4z u f set x.params (List.replicate x.params.length 0) hs;have hl1:=(z76 f.types set x.params (List.replicate x.params.length 0)).trans hs;generalize z1t f.types set x.params (List.replicate x.params.length 0)=rs at hS hl1⊢;obtain⟨bs,s1⟩:=rs
    cases bs with
    |false=>exact⟨[],hBare,sR,Gb,rfl,z00 (λh=>absurd (eq_of_beq h) h10) λ_=>z00 (λ_=>⟨[3,4],hP,sR,⟨rfl,rfl,by decide,rfl,rfl,Gb⟩,rfl,[3,4],hO,sR,⟨rfl,rfl,by decide,rfl,rfl,Gb⟩,rfl,[3,4],hP,sR,⟨rfl,rfl,by decide,rfl,rfl,Gb⟩,rfl,[3,4],hT,sR,⟨rfl,rfl,Gb,rfl,rfl,Gb⟩,rfl,rfl,rfl,by simp;omega,[],hS,SubA.same (SubA.same (SubA.cons (sE (by simp[ints,eInt];exact .inr rfl)) sR)),Ge,rfl,sI,rfl,rfl,Gb⟩) λh=>absurd (Au.2 h11) (by rw[h];decide)⟩
    |true =>
     unfold andT;rw[if_pos rfl];dsimp only at hl1;have hA:=ih a (by rw[hk];exact .head _) (deep+1) ⟨false,true,[],r8of f.types x.params,r8of f.types x.outs⟩ (seen++x.params) s1 oM0 hl1 (by simp;omega);have hl2:=(z9f u f (deep+1) ⟨false,true,[],r8of f.types x.params,r8of f.types x.outs⟩ (seen++x.params) s1 a).trans hl1;dsimp only;generalize z2o u f (deep+1) ⟨false,true,[],r8of f.types x.params,r8of f.types x.outs⟩ (seen++x.params) s1 a=ra at hA hl2⊢;obtain⟨ba,s2⟩:=ra
     cases ba with
     |false=>exact⟨[],hBare,sR,Gb,rfl,z00 (λh=>absurd (eq_of_beq h) h10) λ_=>z00 (λ_=>⟨[3,4],hP,sR,⟨rfl,rfl,by decide,rfl,rfl,Gb⟩,rfl,[3,4],hO,sR,⟨rfl,rfl,by decide,rfl,rfl,Gb⟩,rfl,[3,4],hP,sR,⟨rfl,rfl,by decide,rfl,rfl,Gb⟩,rfl,[3,4],hT,sR,⟨rfl,rfl,Gb,rfl,rfl,Gb⟩,rfl,rfl,rfl,by simp;omega,[],hS,SubA.same (SubA.same (SubA.cons (sE (by simp[ints,eInt];exact .inr rfl)) sR)),Ge,rfl,rfl,zk6 (λ_ _=>⟨rfl,λy hy=>by simp[eInt]at hy;subst hy;rfl⟩),by simp;omega,rfl,zk6 (λ_ _=>⟨rfl,λy hy=>by simp[eInt]at hy;subst hy;rfl⟩),by simp;omega,by simp,k0,rfl,z01 rfl oM0,[],hA,SubA.same (SubA.same (SubA.cons (sE (by simp[ints])) (SubA.cons (sP (PSub.agg (And.intro (PSub.refl _) (And.intro (PSub.refl _) (And.intro PSub.nil (And.intro (PSub.refl _) (And.intro (PSub.refl _) trivial))))))) sR))),Ge,rfl,sI,rfl,rfl,Gb⟩) λh=>absurd (Au.2 h11) (by rw[h];decide)⟩
     |true =>
      rw[if_pos rfl];dsimp only at hl2⊢;have hE:=z4z u f s2 x.outs (List.replicate x.outs.length 0) hl2;have hC:=zj2 x;unfold zg3;generalize z08 x=cl at hC⊢
      cases ho:((x.outs.length:Int)==0)with
      |true=>exact⟨[],hBare,sR,Gb,rfl,z00 (λh=>absurd (eq_of_beq h) h10) λ_=>z00 (λ_=>⟨[3,4],hP,sR,⟨rfl,rfl,by decide,rfl,rfl,Gb⟩,rfl,[3,4],hO,sR,⟨rfl,rfl,by decide,rfl,rfl,Gb⟩,rfl,[3,4],hP,sR,⟨rfl,rfl,by decide,rfl,rfl,Gb⟩,rfl,[3,4],hT,sR,⟨rfl,rfl,Gb,rfl,rfl,Gb⟩,rfl,rfl,rfl,by simp;omega,[],hS,SubA.same (SubA.same (SubA.cons (sE (by simp[ints,eInt];exact .inr rfl)) sR)),Ge,rfl,rfl,zk6 (λ_ _=>⟨rfl,λy hy=>by simp[eInt]at hy;subst hy;rfl⟩),by simp;omega,rfl,zk6 (λ_ _=>⟨rfl,λy hy=>by simp[eInt]at hy;subst hy;rfl⟩),by simp;omega,by simp,k0,rfl,z01 rfl oM0,[],hA,SubA.same (SubA.same (SubA.cons (sE (by simp[ints])) (SubA.cons (sP (PSub.agg (And.intro (PSub.refl _) (And.intro (PSub.refl _) (And.intro PSub.nil (And.intro (PSub.refl _) (And.intro (PSub.refl _) trivial))))))) sR))),Ge,rfl,z00 (λ_=>⟨rfl,rfl,by simp;omega,[],hE,SubA.same (SubA.same (SubA.cons (sE (by simp[ints,eInt];exact .inr rfl)) sR)),Ge,rfl,sI,rfl,rfl,Gb⟩) λh=>absurd (ho.symm.trans (show((x.outs.length:Int)==0)=false by rw[hml]at h;exact h)) dC0⟩) λh=>absurd (Au.2 h11) (by rw[h];decide)⟩
      |false =>
       cases cl with
       |true=>exact⟨[],hBare,sR,Gb,rfl,z00 (λh=>absurd (eq_of_beq h) h10) λ_=>z00 (λ_=>⟨[3,4],hP,sR,⟨rfl,rfl,by decide,rfl,rfl,Gb⟩,rfl,[3,4],hO,sR,⟨rfl,rfl,by decide,rfl,rfl,Gb⟩,rfl,[3,4],hP,sR,⟨rfl,rfl,by decide,rfl,rfl,Gb⟩,rfl,[3,4],hT,sR,⟨rfl,rfl,Gb,rfl,rfl,Gb⟩,rfl,rfl,rfl,by simp;omega,[],hS,SubA.same (SubA.same (SubA.cons (sE (by simp[ints,eInt];exact .inr rfl)) sR)),Ge,rfl,rfl,zk6 (λ_ _=>⟨rfl,λy hy=>by simp[eInt]at hy;subst hy;rfl⟩),by simp;omega,rfl,zk6 (λ_ _=>⟨rfl,λy hy=>by simp[eInt]at hy;subst hy;rfl⟩),by simp;omega,by simp,k0,rfl,z01 rfl oM0,[],hA,SubA.same (SubA.same (SubA.cons (sE (by simp[ints])) (SubA.cons (sP (PSub.agg (And.intro (PSub.refl _) (And.intro (PSub.refl _) (And.intro PSub.nil (And.intro (PSub.refl _) (And.intro (PSub.refl _) trivial))))))) sR))),Ge,rfl,z00 (λh=>absurd (ho.symm.trans (show((x.outs.length:Int)==0)=true by rw[hml]at h;exact h)) dC0) λ_=>⟨[],hC,sR,Gb,rfl,sI,rfl,rfl,Gb⟩⟩) λh=>absurd (Au.2 h11) (by rw[h];decide)⟩
       |false=>exact⟨[],hBare,sR,Gb,rfl,z00 (λh=>absurd (eq_of_beq h) h10) λ_=>z00 (λ_=>⟨[3,4],hP,sR,⟨rfl,rfl,by decide,rfl,rfl,Gb⟩,rfl,[3,4],hO,sR,⟨rfl,rfl,by decide,rfl,rfl,Gb⟩,rfl,[3,4],hP,sR,⟨rfl,rfl,by decide,rfl,rfl,Gb⟩,rfl,[3,4],hT,sR,⟨rfl,rfl,Gb,rfl,rfl,Gb⟩,rfl,rfl,rfl,by simp;omega,[],hS,SubA.same (SubA.same (SubA.cons (sE (by simp[ints,eInt];exact .inr rfl)) sR)),Ge,rfl,rfl,zk6 (λ_ _=>⟨rfl,λy hy=>by simp[eInt]at hy;subst hy;rfl⟩),by simp;omega,rfl,zk6 (λ_ _=>⟨rfl,λy hy=>by simp[eInt]at hy;subst hy;rfl⟩),by simp;omega,by simp,k0,rfl,z01 rfl oM0,[],hA,SubA.same (SubA.same (SubA.cons (sE (by simp[ints])) (SubA.cons (sP (PSub.agg (And.intro (PSub.refl _) (And.intro (PSub.refl _) (And.intro PSub.nil (And.intro (PSub.refl _) (And.intro (PSub.refl _) trivial))))))) sR))),Ge,rfl,z00 (λh=>absurd (ho.symm.trans (show((x.outs.length:Int)==0)=true by rw[hml]at h;exact h)) dC0) λ_=>⟨[],hC,sR,Gb,rfl,rfl,rfl,by simp;omega,[],hE,SubA.same (SubA.same (SubA.cons (sE (by simp[ints,eInt];exact .inr rfl)) sR)),Ge,rfl,sI,rfl,rfl,Gb⟩⟩) λh=>absurd (Au.2 h11) (by rw[h];decide)⟩
  ·have e10:(x.kind==10)=false:=by simpa using h10
   have e11:(x.kind==11)=false:=by simpa using h11
   have no:∀{i:Int},x.kind≠i->(x.kind==i)=true->False:=λh e=>h (eq_of_beq e);rw[z9h u f deep wh seen set hbr e10 e11];exact⟨[],hBare,sR,Gb,rfl,z00 (λh=>(no h10 h).elim) λ_=>z00 (λh=>(no h11 h).elim) λ_=>⟨[],yg5 u f set hs hg x seen wh,sR,Ge,rfl,sI,rfl,rfl,Gb⟩⟩
theorem y86{hp hp2:Hp}{L:List Nat}(hh:agh hp2 hp L):∀{xs ys:List IV},yc9 (look hp) (· ∈ L) xs ys->yc9 (look hp2) (· ∈ L) xs ys
 |[],[],_=>trivial
 |[],_::_,h=>h.elim
 |_::_,[],h=>h.elim
 |x::xs,y::ys,h=>by
  refine⟨?_,y86 hh h.2⟩
  cases h.1 with
  |same=>exact .same
  |row hL hσ hn he=>exact .row hL (hh.at hσ hL) hn he
theorem ym9{P:Program}{o:Oper}{fr:Fr}{hp:Hp}{Rl:List Nat}(L:List Nat){f:FuncId}{os:Array Operand}{tys:Array TypeId}{xs args:List IV}{pre post:List (Nat×HO)}{R:Nat->Prop}{r:IV}(hsc:SC P f args pre R r post)(hf:z6g P f)
 (ho:o.op=.call { callee:=.value (.func f),args:=os,argTypes:=tys }) (hx:evs fr os.toList=some xs) (hl:yc9 (look hp) (· ∈ L) xs args) (hL:∀k∈L,look (up pre) k=none) (hpre:∀p∈pre,look hp p.1=some p.2) (hdom:pre.map (·.1)=post.map (·.1))
 (hR:∀k∈Rl,look (up pre) k=none∨R k) (hr:∃z,r=.pv (.val z)) (hpost:∀k ob,look (up post) k=some ob->y4a ob=true∨(R k/\look (up pre) k=some ob)):OkF P Rl o fr hp ⟨r,up post,post.map (·.1)++L,[]⟩:=by
 intro c fr2 hp2 hc _ hg hh _;refine ok_lend (· ∈ L) hsc hf ho (hg.evs hx λy hy=>?_) (sRf _ _) (y86 (λk hk=>hh k (Ch _ hk)) hl) hL (λk ob hk=>?_) hdom (λk hk=>hR k (hc k hk)) hr hpost
 ·rw[ho];simp only[Op.operands,Call.operands,Dk];exact Ch _ hy
 ·exact hh.at (hpre (k,ob) (z1l hk)) (Cc _ (by rw[<- hdom];exact D7 (f:=(·.1)) (z1l hk)))
theorem y6q(N:Nat):∀(u:Un)(f:Fl)(hg:∀g∈u.flows,0<=g.params/\g.params<=g.types.length)(l:List Nd)(deep:Int)(wh:Wh)(all:List Int)(set:List Bool)(hd:0<=deep/\deep<=101)(hs:set.length=f.types.length)(hb:all.length+lsW l<=34359738368),SizeOf.sizeOf l<N->SC Tryz.prog 48 [.ptr 3 0,.pv (z1n l),.pv (ints all),.pv (whv wh),iInt deep] (ckHp u f 4 set) (λk=>k=3) (iBool (z2o u f deep wh all set l).1) (ckHp u f 4 (z2o u f deep wh all set l).2):=by
 induction N with
 |zero=>intro u f hg l deep wh all set hd hs hb hN;exact absurd hN (Aj _)
 |succ N ih =>
  intro u f hg l deep wh all set hd hs hb hN;refine SC.sameR (SC.vc tb { pb:=[108],an:=[6011],gh:=[(0,[.len 1]),(2,[.grow 11 111 3 1])] } [3] Tryz.func48 rfl rfl ?_) λk _ h=>Ak.2 h;intro hl;simp only[Ac]at hl;have hl:l.length<=9223372036854775807:=hl;have ll:(l.map Nd.enc).length=l.length:=Ac _;unfold z2o;refine⟨rfl,zk6 (λ_ _=>⟨rfl,λy hy=>by simp[eInt]at hy;subst hy;rfl⟩),by simp;omega,Nat×List Int×List Bool,λq=>[(12,iInt ((q.1:Nat):Int)),(11,.sl 111 (q.2.1.map eInt).length)],λq=>(111,.row ⟨3,1⟩ (q.2.1.map eInt))::ckHp u f 4 q.2.2,λq=>l.length-q.1,λq=>q.1<=l.length/\q.2.2.length=f.types.length/\r8go u f deep wh all set l=r8go u f deep wh q.2.1 q.2.2 (l.drop q.1)/\q.2.1.length+lsW (l.drop q.1)<=34359738368,[],(0,all,set),⟨Ad _,hs,rfl,hb⟩,⟨rfl,slq (Bt _),Gb⟩,Ge,?_⟩;rintro⟨i,al,s⟩ ⟨i1,i2,i3,i4⟩;dsimp only at i1 i2 i3 i4;refine z00 (λhc=>?_) λhc=>?_
  ·have hlt:i<l.length:=z0z (f:=Nd.enc) rfl hc;obtain⟨x,x1,x2,x3,x4⟩:=z0p hlt;have hxe:=z7o x;rw[x3,lsW]at i4;rw[x3,r8go]at i3;have hne:∀r,ne l r=r:=λr=>by unfold ne;rw[if_neg (by rw[Fq];intro e;rw[e]at hlt;exact absurd hlt (Aj _))]
   refine z00 (λh1=>?_) λh1=>?_
   ·have h1:deep > 100:=An h1;rw[if_pos h1]at i3;rw[i3,hne];exact⟨sI,rfl,rfl,Gb⟩
   have h1:¬deep > 100:=Al h1;rw[if_neg h1]at i3;have hX:=j33 u f hg x deep ⟨hd.1,by omega⟩ wh al s i2 oM0 λq hq deep w all set hd hs hb=>ih u f hg q deep w all set hd hs hb (B8 (z8o x4 rfl hq) (Bp hN));have hXl:=(z9g u f x deep wh al s).trans i2;have hck:=ck_lend (u:=u) (f:=f) (bt:=4) (set:=s) (z9g u f x deep wh al s);generalize z4y u f deep wh al s x=r at hX hXl hck i3;obtain⟨b,s2⟩:=r;dsimp only at hX hXl hck;have hR:∀k∈[3],look (up (ckHp u f 4 s)) k=none∨k=3:=λk hk=>.inr (Ak.1 hk);have hL:∀k∈[111],look (up (ckHp u f 4 s)) k=none:=λk hk=>by rw[Ak.1 hk];rfl
   have hpre:∀q∈ckHp u f 4 s,look ((111,some (.row ⟨3,1⟩ (al.map eInt)))::up (ckHp u f 4 s)) q.1=some q.2:=λq hq=>by
    simp only[ckHp,Ao,Bz,Fh]at hq;rcases hq with rfl|rfl<;>rfl
   cases b
   ·rw[show andT (false,s2) (λs1=>if (z08 x != (l.drop (i+1)).isEmpty)=true then(false,s1)else r8go u f deep wh (al++x.outs) s1 (l.drop (i+1)))=(false,s2)from rfl]at i3;rw[i3,hne];exact⟨z07 x1,rfl,ym9 [111] hX (tb.fok _ rfl) rfl rfl ⟨.same,.same,.row (Ak.2 rfl) rfl rfl rfl,.same,.same,Gb⟩ hL hpre rfl hR ⟨_,rfl⟩ hck,sI,rfl,rfl,Gb⟩
   rw[show andT (true,s2) (λs1=>if (z08 x != (l.drop (i+1)).isEmpty)=true then(false,s1)else r8go u f deep wh (al++x.outs) s1 (l.drop (i+1)))=(if (z08 x != (l.drop (i+1)).isEmpty)=true then(false,s2)else r8go u f deep wh (al++x.outs) s2 (l.drop (i+1)))from rfl]at i3;have hem:(l.drop (i+1)).isEmpty=((i:Int)==((l.map Nd.enc).length:Int)-1):=by
    rw[Cl,Fq,List.drop_eq_nil_iff,Au,ll];omega
   rw[hem]at i3;refine⟨z07 x1,rfl,ym9 [111] hX (tb.fok _ rfl) rfl rfl ⟨.same,.same,.row (Ak.2 rfl) rfl rfl rfl,.same,.same,Gb⟩ hL hpre rfl hR ⟨_,rfl⟩ hck,z07 x1,rfl,[],zj2 x,sR,Gb,rfl,z3b rfl (by rw[ll];omega),z00 (λh2=>?_) λh2=>?_⟩
   ·have h2:(z08 x != ((i:Int)==((l.map Nd.enc).length:Int)-1))=true:=h2;rw[if_pos h2]at i3;rw[i3,hne];exact⟨sI,rfl,rfl,Gb⟩
   ·rw[if_neg (by rw[show(z08 x != ((i:Int)==((l.map Nd.enc).length:Int)-1))=false from h2];decide)]at i3;have hlen:(al++x.outs).length+lsW (l.drop (i+1))<=34359738368:=by rw[B5];omega
    exact⟨z07 x1,rfl,rfl,zk6 (λ_ _=>⟨rfl,λy hy=>by simp[eInt]at hy;subst hy;rfl⟩),by simp;omega,z01 rfl oM0,(i+1,al++x.outs,s2),z03 hlt,⟨hlt,hXl,i3,hlen⟩,⟨rfl,slq sI0,Gb⟩,⟨rwq sI0,rfl,rfl,Gb⟩,rfl,rfl,rfl,rfl⟩
  ·have hge:l.length<=i:=z10 (f:=Nd.enc) rfl hc;have hgo:r8go u f deep wh all set l=(true,s):=by rw[i3,Ab hge,r8go]
   rw[hgo,show ne l (true,s)=(decide ((l.length:Int) > 0),s) by cases l<;>simp[ne]];exact⟨sE (by rw[ll]),rfl,rfl,Gb⟩
theorem j32(u:Un)(f:Fl)(hg:∀g∈u.flows,0<=g.params/\g.params<=g.types.length)(l:List Nd)(deep:Int)(wh:Wh)(all:List Int)(set:List Bool)(hd:0<=deep/\deep<=101)(hs:set.length=f.types.length)(hb:all.length+lsW l<=34359738368):SC Tryz.prog 48 [.ptr 3 0,.pv (z1n l),.pv (ints all),.pv (whv wh),iInt deep] (ckHp u f 4 set) (λk=>k=3) (iBool (z2o u f deep wh all set l).1) (ckHp u f 4 (z2o u f deep wh all set l).2):=y6q _ u f hg l deep wh all set hd hs hb (Aa _)
theorem j30(u:Un)(f:Fl)(hg:∀g∈u.flows,0<=g.params/\g.params<=g.types.length)(hb:lsW f.body<=34000000000):SC Tryz.prog 25 [.pv u.enc,.pv (.agg f.enc)] [] (λ_=>False) (iBool (z5m u f)) []:=by
 refine SC.anyR (SC.vc tb { pb:=[102,103],ids:=[(57,4),(59,3)],gh:=[(10,[.grow 7 107 3 1]),(15,[.fz 7 107])] } [] Tryz.func25 rfl rfl ?_);unfold z5m;have hl:((f.types.map eInt).length:Int)=f.types.length:=by rw[Ac]
 refine z00 (λh1=>?_) λh1=>?_
 ·rw[show decide (f.params<0)=true from h1];exact⟨sI,Gb⟩
 rw[show decide (f.params<0)=false from h1];refine z00 (λh2=>?_) λh2=>?_
 ·rw[show decide (f.params > 8)=true from h2];exact⟨sI,Gb⟩
 rw[show decide (f.params > 8)=false from h2];refine z00 (λh3=>?_) λh3=>?_
 ·have h3:decide (f.params > ((f.types.map eInt).length:Int))=true:=h3;rw[hl]at h3;rw[h3];exact⟨sI,Gb⟩
 have h3:decide (f.params > ((f.types.map eInt).length:Int))=false:=h3;rw[hl]at h3;rw[h3];refine z00 (λh4=>?_) λh4=>?_
 ·have h4:decide (((f.types.map eInt).length:Int) > 20000)=true:=h4;rw[hl]at h4;rw[h4];exact⟨sI,Gb⟩
 have h4:decide (((f.types.map eInt).length:Int) > 20000)=false:=h4;rw[hl]at h4;rw[h4];simp only[E4,B0];have q1:=Al h1;have q3:=Al h3;have q4:=Al h4;have q2:=Al h2;refine⟨Nat,λi=>[(5,iInt ((i:Nat):Int))],λ_=>[],λi=>f.types.length-i,λi=>i<=f.types.length/\f.types.all (λt=>t==1||t==2)=(f.types.drop i).all (λt=>t==1||t==2),[],0,⟨Ad _,rfl⟩,Gc,Gb,?_⟩;rintro i ⟨i1,i2⟩;refine z00 (λhc=>?_) λhc=>?_
 ·have hlt:i<f.types.length:=z0z (f:=eInt) rfl hc;obtain⟨x,x1,x2,x3,x4⟩:=z0p hlt;rw[x3,D2]at i2;refine⟨z02 (f:=eInt) x1,rfl,z00 (λc1=>?_) λc1=>?_⟩
  ·have c1:(x==1)=false:=by simpa using c1
   refine⟨z02 (f:=eInt) x1,rfl,z00 (λc2=>?_) λc2=>?_⟩
   ·have c2:(x==2)=false:=by simpa using c2
    rw[c1,c2]at i2;rw[i2];exact⟨sI,Gb⟩
   ·have c2:(x==2)=true:=by simpa using c2
    rw[c1,c2]at i2;exact⟨z01 rfl oM0,i+1,z03 hlt,⟨hlt,i2⟩,Gc,Gb,rfl,rfl,rfl,rfl⟩
  ·have c1:(x==1)=true:=by simpa using c1
   rw[c1]at i2;exact⟨z01 rfl oM0,i+1,z03 hlt,⟨hlt,i2⟩,Gc,Gb,rfl,rfl,rfl,rfl⟩
 ·have hge:f.types.length<=i:=z10 (f:=eInt) rfl hc;rw[i2,Ab hge,Ft,B0];have hn:∀k:Nat,((iota k).map eInt).length=k:=λk=>by rw[Ac,y0r]
  refine⟨rfl,VNum.mk (n:=f.types.length) hl oM0 ⟨by simp,Nat,λi=>[(8,iInt ((i:Nat):Int)),(7,.sl 107 i)],λi=>(107,.row ⟨3,1⟩ ((iota i).map eInt))::ckHp u f 4 (z6j i f.types.length),λi=>f.params.toNat-i,λi=>(i:Int)<=f.params,[],0,by show((0:Nat):Int)<=_;omega,Gd,⟨rfl,boq (by simp[y5f,z6j];rfl),rwq (by simp[z6j,zf7];exact .inr rfl),Gb⟩,?_⟩⟩;intro i hi;have hsl:=z5f (k:=i) (n:=f.types.length) oM0;refine z00 (λhc=>?_) λhc=>?_
  ·have hlt:(i:Int)<f.params:=An hc;have hss:=ys4 (k:=i) (n:=f.types.length) oM0;exact⟨rfl,VIdR.mk (i:=i) (by rw[Ac];omega) rfl ⟨i,0,_,rfl,rfl,z02 (f:=zf7) (by rw[A8 (show i<(z6j i f.types.length).length by omega)]),by simp[zf7],hn i,z3i rfl,by simp;omega,z01 rfl oM0,i+1,(by show f.params.toNat-(i+1)<f.params.toNat-i;omega),(by show((i+1:Nat):Int)<=f.params;omega),⟨rfl,slq sI0,Gb⟩,⟨rwq (by rw[<- j11];simp[eInt]),boq (by rw[<- hss];simp[y5f]),rwq (by rw[<- hss];simp[zf7,Bs]),Gb⟩,rfl,rfl,rfl,rfl⟩⟩
  ·have hge:¬(i:Int)<f.params:=Al hc;have hi2:i=f.params.toNat:=by omega
   subst hi2;have hL:=j32 u f hg f.body 1 z47 (iota f.params.toNat) (z6j f.params.toNat f.types.length) ⟨by decide,by decide⟩ oM0 (by rw[y0r];omega);exact⟨hn _,[],hL,SubA.same (SubA.same (SubA.same (SubA.cons (sP (z0c _)) (SubA.same SubA.nil)))),Gd,rfl,sI,Gb⟩
inductive Ex where
 |mk (kind op n:Int) (name:ByteArray) (args:List Ex)
inductive St where
 |mk (kind ty:Int) (name:ByteArray) (args:List Ex) (thn els:List St)
structure Pm where
 name:ByteArray
 ty:Int
structure Fu where
 name:ByteArray
 ty:Int
 params:List Pm
 body:List St
structure Pg where
 arrays:List Ar
 funcs:List Fu
structure Tk where
 kind:Int
 text:ByteArray
 line:Int
mutual
def Ex.enc:Ex->List PV
 |.mk kind op n name args=>[vInt kind,vInt op,vInt n,vStr name,.seq (Ex.encL args)]
def Ex.encL:List Ex->List (List PV)
 |[]=>[]
 |x::r=>x.enc::Ex.encL r
end
theorem Ex.encL_eq:∀l,Ex.encL l=l.map Ex.enc
 |[]=>rfl
 |x::r=>by simp[Ex.encL,Ex.encL_eq r]
def exs(l:List Ex):PV:=.seq (l.map Ex.enc)
def Ex.kind:Ex->Int|.mk k _ _ _ _=>k
def Ex.op:Ex->Int|.mk _ o _ _ _=>o
def Ex.n:Ex->Int|.mk _ _ n _ _=>n
def Ex.name:Ex->ByteArray|.mk _ _ _ s _=>s
def Ex.args:Ex->List Ex|.mk _ _ _ _ a=>a
theorem Ex.enc_eq(x:Ex):x.enc=[vInt x.kind,vInt x.op,vInt x.n,vStr x.name,exs x.args]:=by
 cases x
 simp[Ex.enc,Ex.encL_eq,exs,Ex.kind,Ex.op,Ex.n,Ex.name,Ex.args]
theorem z1c{l:List Ex}{i:Nat}{x:Ex}(h:l[i]?=some x):(l.map Ex.enc)[i]?=some [vInt x.kind,vInt x.op,vInt x.n,vStr x.name,exs x.args]:=by
 simp[h,Ex.enc_eq]
def exv(x:Ex):PV:=.agg [vInt x.kind,vInt x.op,vInt x.n,vStr x.name,exs x.args]
mutual
def St.enc:St->List PV
 |.mk kind ty name args thn els=>[vInt kind,vInt ty,vStr name,exs args,.seq (St.encL thn),.seq (St.encL els)]
def St.encL:List St->List (List PV)
 |[]=>[]
 |x::r=>x.enc::St.encL r
end
theorem St.encL_eq:∀l,St.encL l=l.map St.enc
 |[]=>rfl
 |x::r=>by simp[St.encL,St.encL_eq r]
def sts(l:List St):PV:=.seq (l.map St.enc)
def St.kind:St->Int|.mk k _ _ _ _ _=>k
def St.ty:St->Int|.mk _ t _ _ _ _=>t
def St.name:St->ByteArray|.mk _ _ s _ _ _=>s
def St.args:St->List Ex|.mk _ _ _ a _ _=>a
def St.thn:St->List St|.mk _ _ _ _ t _=>t
def St.els:St->List St|.mk _ _ _ _ _ e=>e
theorem St.enc_eq(x:St):x.enc=[vInt x.kind,vInt x.ty,vStr x.name,exs x.args,sts x.thn,sts x.els]:=by
 cases x
 simp[St.enc,St.encL_eq,sts,St.kind,St.ty,St.name,St.args,St.thn,St.els]
theorem zj9{l:List St}{i:Nat}{x:St}(h:l[i]?=some x):(l.map St.enc)[i]?=some [vInt x.kind,vInt x.ty,vStr x.name,exs x.args,sts x.thn,sts x.els]:=by
 simp[h,St.enc_eq]
def stv(x:St):PV:=.agg [vInt x.kind,vInt x.ty,vStr x.name,exs x.args,sts x.thn,sts x.els]
def Pm.enc(p:Pm):List PV:=[vStr p.name,vInt p.ty]
def pms(l:List Pm):PV:=.seq (l.map Pm.enc)
def Fu.enc(f:Fu):List PV:=[vStr f.name,vInt f.ty,pms f.params,sts f.body]
def fus(l:List Fu):PV:=.seq (l.map Fu.enc)
def Pg.enc(p:Pg):PV:=.agg [arrs p.arrays,fus p.funcs]
def Tk.enc(t:Tk):List PV:=[vInt t.kind,vStr t.text,vInt t.line]
def tks(l:List Tk):PV:=.seq (l.map Tk.enc)
mutual
def xz:Ex->Nat
 |.mk _ _ _ _ args=>1+xzL args
def xzL:List Ex->Nat
 |[]=>0
 |x::r=>xz x+xzL r
end
mutual
def sz:St->Nat
 |.mk _ _ _ args thn els=>1+xzL args+szL thn+szL els
def szL:List St->Nat
 |[]=>0
 |x::r=>sz x+szL r
end
theorem j5e:∀a b:List Ex,xzL (a++b)=xzL a+xzL b
 |[],b=>by simp[xzL]
 |x::r,b=>by simp only[Bb,xzL,j5e r b];omega
theorem j47:∀a b:List St,szL (a++b)=szL a+szL b
 |[],b=>by simp[szL]
 |x::r,b=>by simp only[Bb,szL,j47 r b];omega
theorem xz_pos(x:Ex):1<=xz x:=by cases x;simp only[xz];omega
theorem sz_pos(x:St):1<=sz x:=by cases x;simp only[sz];omega
theorem zb5:∀l:List Ex,l.length<=xzL l
 |[]=>Ae _
 |x::r=>by
  have:=xz_pos x;have:=zb5 r;simp only[A1,xzL];omega
theorem z8j:∀l:List St,l.length<=szL l
 |[]=>Ae _
 |x::r=>by
  have:=sz_pos x;have:=z8j r;simp only[A1,szL];omega
def maxI:Int:=9223372036854775807
def qVal:Int->List UInt8->Int
 |n,[]=>n
 |n,b::r=>if n > (maxI-((b.toNat:Int)-48)).tdiv 10 then -1 else qVal (n*10+((b.toNat:Int)-48)) r
def zh3(s:ByteArray):Int :=
 if qVal 0 s.data.toList = -1 then -1 else if s.data.toList=[]∨(s.data.toList.length > 1/\s.data.toList.head? = some 48)then -1 else qVal 0 s.data.toList
def zl4(s:ByteArray):Bool:=s.data.toList.all (λb=>z3y b.toNat)&&decide (zh3 s≥0)
def sgL:List ByteArray:=[⟨#[62,62,62]⟩,⟨#[60,60]⟩,⟨#[62,62]⟩,⟨#[60,61]⟩,⟨#[62,61]⟩,⟨#[61,61]⟩,⟨#[33,61]⟩,⟨#[38,38]⟩,⟨#[124,124]⟩,⟨#[40]⟩,⟨#[41]⟩,⟨#[123]⟩,⟨#[125]⟩,⟨#[91]⟩,⟨#[93]⟩,⟨#[44]⟩,⟨#[59]⟩,⟨#[61]⟩,⟨#[60]⟩,⟨#[62]⟩,⟨#[43]⟩,⟨#[45]⟩,⟨#[42]⟩,⟨#[47]⟩,⟨#[37]⟩,⟨#[38]⟩,⟨#[124]⟩,⟨#[94]⟩,⟨#[126]⟩,⟨#[33]⟩]
def sgIs(s w:ByteArray):Bool:=decide (w.size<=s.size)&&(s.extract 0 w.size).toList==w.toList
def sgGo(s:ByteArray):List ByteArray->ByteArray
 |[]=>⟨#[]⟩
 |w::r=>if sgIs s w then w else sgGo s r
def sgOf(s:ByteArray):ByteArray:=sgGo s sgL
theorem zz9(s:ByteArray):∀l:List ByteArray,sgGo s l=⟨#[]⟩∨(sgGo s l∈l/\(sgGo s l).size<=s.size)
 |[]=>.inl rfl
 |w::r=>by
  simp only[sgGo];split
  ·rename_i h;simp only[sgIs,A0,Bj]at h;exact .inr ⟨.head _,h.1⟩
  ·rcases zz9 s r with h|h
   ·exact .inl h
   ·exact .inr ⟨.tail _ h.1,h.2⟩
def z4e(s:ByteArray)(at_:Nat):Nat:=((s.data.toList.drop at_).takeWhile isLD).length
def zr3(s:ByteArray)(at_:Nat):Nat:=at_+((s.data.toList.drop at_).takeWhile λb=>b != 10).length
inductive TStep where
 |skip (line at_:Nat)
 |tok (t:Tk) (at_:Nat)
 |bad (line:Nat)
def z3a(b:UInt8)(w:ByteArray):Int:=if z1i w then 2 else if z4l b.toNat then 1 else 0
def zt9(s:ByteArray)(line at_:Nat)(b:UInt8):TStep :=
 if b=10 then .skip (line+1) (at_+1)
 else if b=32∨b=9∨b=13 then .skip line (at_+1)
 else if b=47/\s.data.toList[at_+1]?=some 47 then .skip line (zr3 s at_)
 else if z4e s at_ > 0 then
  if (z3a b (s.extract at_ (at_+z4e s at_))=1/\z0l (s.extract at_ (at_+z4e s at_))=false)∨(z3a b (s.extract at_ (at_+z4e s at_))=0/\zl4 (s.extract at_ (at_+z4e s at_))=false)then .bad line
  else .tok ⟨z3a b (s.extract at_ (at_+z4e s at_)),s.extract at_ (at_+z4e s at_),line⟩ (at_+z4e s at_)
 else if (sgOf (s.extract at_ s.size)).size=0 then .bad line
 else .tok ⟨2,sgOf (s.extract at_ s.size),line⟩ (at_+(sgOf (s.extract at_ s.size)).size)
def toks(s:ByteArray):Nat->Nat->Nat->List Tk->List Tk×Int×Int
 |0,_,_,_=>([],0,0)
 |N+1,line,at_,out=>match s.data.toList[at_]? with
  |none=>(out++[⟨3,⟨#[]⟩,line⟩],0,0)
  |some b=>match zt9 s line at_ b with
   |.skip line' at'=>toks s N line' at' out
   |.tok t at'=>toks s N line at' (out++[t])
   |.bad l=>([],20,l)
def z1u(s:ByteArray):List Tk×Int×Int:=if s.size > 100000 then([],2,0)else toks s (s.size+1) 1 0 []
theorem j2k(s:ByteArray)(a:Nat):a+z4e s a<=s.size∨z4e s a=0:=by
 unfold z4e;have h:=Ey (p:=isLD) (l:=s.data.toList.drop a);have h1:=h.length_le;rw[Ei]at h1;have h2:s.data.toList.length=s.size:=Bq;omega
theorem y3y{s:ByteArray}{a:Nat}{b:UInt8}(h:s.data.toList[a]?=some b)(hb:b≠10):a<zr3 s a/\zr3 s a<=s.size:=by
 have hlt:=(A7.1 h).1;have hd:s.data.toList.drop a=b::s.data.toList.drop (a+1):=by
  rw[Cy hlt,(A7.1 h).2]
 have h2:s.data.toList.length=s.size:=Bq;unfold zr3;rw[hd,Dy,if_pos (by simpa using hb)];have h1:=(Ey (p:=λb:UInt8=>b != 10) (l:=s.data.toList.drop (a+1))).length_le;rw[Ei]at h1;simp only[A1];omega
theorem tStep_at{s:ByteArray}{line a:Nat}{b:UInt8}(h:s.data.toList[a]?=some b) :
 match zt9 s line a b with
 |.skip _ at'=>a<at'/\at'<=s.size
 |.tok t at'=>a<at'/\at'<=s.size/\t.kind≠3/\(t.kind=0->zl4 t.text=true)
 |.bad _=>True:=by
 have hlt:=(A7.1 h).1;have h2:s.data.toList.length=s.size:=Bq;unfold zt9
 by_cases c1:b=10
 ·rw[if_pos c1];exact⟨by omega,by omega⟩
 rw[if_neg c1]
 by_cases c2:b=32∨b=9∨b=13
 ·rw[if_pos c2];exact⟨by omega,by omega⟩
 rw[if_neg c2]
 by_cases c3:b=47/\s.data.toList[a+1]?=some 47
 ·rw[if_pos c3];exact y3y h c1
 rw[if_neg c3]
 by_cases c4:z4e s a > 0
 ·rw[if_pos c4];have h3:=j2k s a;generalize s.extract a (a+z4e s a)=w
  by_cases c5:(z3a b w=1/\z0l w=false)∨(z3a b w=0/\zl4 w=false)
  ·rw[if_pos c5];trivial
  ·rw[if_neg c5];refine⟨by omega,by omega,?_,λe=>?_⟩
   ·show z3a b w≠3;unfold z3a;split
    ·decide
    ·split<;>decide
   ·have e':z3a b w=0:=e
    cases hq:zl4 w with
    |true=>rfl
    |false=>exact absurd (.inr ⟨e',hq⟩) c5
 rw[if_neg c4]
 by_cases c6:(sgOf (s.extract a s.size)).size=0
 ·rw[if_pos c6];trivial
 ·rw[if_neg c6];have h3:=zz9 (s.extract a s.size) sgL;have h4:(s.extract a s.size).size=s.size-a:=by simp[Cj]
  refine⟨by omega,?_,by show(2:Int)≠3;decide,λe=>absurd e (by show(2:Int)≠0;decide)⟩;rcases h3 with h3|h3
  ·exact absurd (by unfold sgOf;rw[h3];rfl) c6
  ·have:=h3.2;unfold sgOf;omega
def TkOk(T:List Tk):Prop:=∃init e,T=init++[e]/\e.kind=3/\(∀t∈init,t.kind≠3/\(t.kind=0->zl4 t.text=true))
theorem yi5(s:ByteArray):∀(N line a:Nat)(out:List Tk),s.size<N+a->a<=s.size->out.length<=a->(∀t∈out,t.kind≠3/\(t.kind=0->zl4 t.text=true))->(toks s N line a out).2.1=0->TkOk (toks s N line a out).1/\(toks s N line a out).1.length<=s.size+1
 |0,_,a,_,h,h',_,_,_=>by omega
 |N+1,line,a,out,hN,ha,hl,ho,h0=>by
  unfold toks at h0⊢
  cases hb:s.data.toList[a]? with
  |none =>
   refine⟨⟨out,⟨3,⟨#[]⟩,line⟩,rfl,rfl,ho⟩,?_⟩;show(out++[_]).length<=_;rw[B5];show out.length+1<=_
   omega
  |some b =>
   rw[hb]at h0;have hs:=tStep_at (line:=line) hb;dsimp only at h0⊢;generalize zt9 s line a b=st at hs h0
   cases st with
   |skip l2 a2=>exact yi5 s N l2 a2 out oM0 hs.2 oM0 ho h0
   |tok t a2 =>
    refine yi5 s N line a2 (out++[t]) oM0 hs.2.1 (by rw[B5];show out.length+1<=_;omega) (λt' ht'=>?_) h0;rcases B4.1 ht' with ht'|ht'
    ·exact ho t' ht'
    ·rw[Ak.1 ht'];exact hs.2.2
   |bad l=>exact absurd (show(20:Int)=0 from h0) dC0
theorem y2l{s:ByteArray}(h:(z1u s).2.1=0):TkOk (z1u s).1/\(z1u s).1.length<=100001:=by
 unfold z1u at h⊢
 by_cases hs:s.size > 100000
 ·rw[if_pos hs]at h;exact absurd h dC0
 ·rw[if_neg hs]at h⊢;obtain⟨h1,h2⟩:=yi5 s (s.size+1) 1 0 [] oM0 (Ad _) (Ad _) (λt ht=>by simp at ht) h;exact⟨h1,by omega⟩
theorem z9p(n:Int):SC Tryz.prog 73 [.pv (vU8 n)] [] (λ_=>False) (iBool (z4l n)) []:=by
 refine SC.anyR (SC.vc tb {} [] Tryz.func73 rfl rfl ?_);unfold z4l;refine z00 (λh1=>z00 (λh2=>⟨sE (by rw[h1,h2];rfl),Gb⟩) λh2=>?_) λh1=>?_
 ·refine z00 (λh3=>z00 (λh4=>⟨sE (by rw[h1,h2,h3,h4];rfl),Gb⟩) λh4=>⟨sE (by rw[h1,h2,h3,h4];rfl),Gb⟩) λh3=>⟨sE (by rw[h1,h2,h3];rfl),Gb⟩
 ·refine z00 (λh3=>z00 (λh4=>⟨sE (by rw[h1,h3,h4];rfl),Gb⟩) λh4=>⟨sE (by rw[h1,h3,h4];rfl),Gb⟩) λh3=>⟨sE (by rw[h1,h3];rfl),Gb⟩
theorem zs8(n:Int):SC Tryz.prog 74 [.pv (vU8 n)] [] (λ_=>False) (iBool (z3y n)) []:=by
 refine SC.anyR (SC.vc tb {} [] Tryz.func74 rfl rfl ?_);unfold z3y;exact z00 (λh1=>⟨sE (by rw[h1];rfl),Gb⟩) λh1=>⟨sE (by rw[h1];rfl),Gb⟩
theorem y22(s:ByteArray):SC Tryz.prog 75 [iStr s] [] (λ_=>False) (iBool (z1i s)) []:=by
 refine SC.anyR (SC.vc tb {} [] Tryz.func75 rfl rfl ?_);have N:∀{b:Bool}{P:Prop},b=true->b=false->P:=λh g=>by rw[h]at g;cases g
 have T:∀{b:Bool},b=true->SubI (iBool true) (iBool b):=λh=>sE (by rw[h]);exact z00 (λh=>z00 (λ_=>⟨T (by unfold z1i;rw[h];simp only[Bh,B7]),Gb⟩) λg=>N h g) λh1=>z00 (λh=>z00 (λ_=>⟨T (by unfold z1i;rw[h];simp only[Bh,B7]),Gb⟩) λg=>N h g) λh2=>z00 (λh=>z00 (λ_=>⟨T (by unfold z1i;rw[h];simp only[Bh,B7]),Gb⟩) λg=>N h g) λh3=>z00 (λh=>z00 (λ_=>⟨T (by unfold z1i;rw[h];simp only[Bh,B7]),Gb⟩) λg=>N h g) λh4=>z00 (λh=>z00 (λ_=>⟨T (by unfold z1i;rw[h];simp only[Bh,B7]),Gb⟩) λg=>N h g) λh5=>z00 (λh=>z00 (λ_=>⟨T (by unfold z1i;rw[h];simp only[Bh,B7]),Gb⟩) λg=>N h g) λh6=>z00 (λh=>z00 (λ_=>⟨T (by unfold z1i;rw[h];simp only[Bh,B7]),Gb⟩) λg=>N h g) λh7=>z00 (λh=>z00 (λ_=>⟨T (by unfold z1i;rw[h];simp only[Bh,B7]),Gb⟩) λg=>N h g) λh8=>z00 (λh=>z00 (λ_=>⟨T (by unfold z1i;rw[h];simp only[Bh,B7]),Gb⟩) λg=>N h g) λh9=>z00 (λh=>z00 (λ_=>⟨T (by unfold z1i;rw[h];simp only[Bh,B7]),Gb⟩) λg=>N h g) λh10=>z00 (λh=>z00 (λ_=>⟨T (by unfold z1i;rw[h];simp only[Bh,B7]),Gb⟩) λg=>N h g) λh11=>z00 (λh=>z00 (λ_=>⟨T (by unfold z1i;rw[h];simp only[Bh,B7]),Gb⟩) λg=>N h g) λh12=>z00 (λh=>z00 (λ_=>⟨T (by unfold z1i;rw[h];simp only[Bh,B7]),Gb⟩) λg=>N h g) λh13=>z00 (λh=>z00 (λ_=>⟨T (by unfold z1i;rw[h];simp only[Bh,B7]),Gb⟩) λg=>N h g) λh14=>z00 (λh=>z00 (λ_=>⟨T (by unfold z1i;rw[h];simp only[Bh,B7]),Gb⟩) λg=>N h g) λh15=>z00 (λh=>z00 (λ_=>⟨T (by unfold z1i;rw[h];simp only[Bh,B7]),Gb⟩) λg=>N h g) λh16=>z00 (λh=>z00 (λ_=>⟨T (by unfold z1i;rw[h];simp only[Bh,B7]),Gb⟩) λg=>N h g) λh17=>z00 (λh=>⟨T (by unfold z1i;rw[h];simp only[Bh,B7]),Gb⟩) λh18=>⟨sE (by unfold z1i;rw[h1,h2,h3,h4,h5,h6,h7,h8,h9,h10,h11,h12,h13,h14,h15,h16,h17,h18];rfl),Gb⟩
theorem q64{m n z:Int}(hn:n≠0)(h:m.tdiv n=z)(h1:-9223372036854775808<=z/\z<=9223372036854775807):z3c .quo .i64 m n=some (.int .i64 z):=by
 subst h;simp only[z3c];rw[if_neg hn,Cw _ h1]
theorem y6l(s:ByteArray)(h:s.data.toList.all (λb=>z3y b.toNat)=true)(hs:s.size<=1073741824):SC Tryz.prog 82 [.pv (.val (.string s))] [] (λk=>k∈[]) (iInt (zh3 s)) []:=by
 refine SC.vc tb {} [] Tryz.func82 rfl rfl ?_;refine⟨Int×Nat,λa=>[(3,iInt a.1),(4,iInt (a.2:Nat))],λ_=>[],λa=>s.size-a.2,λa=>a.2<=s.size/\0<=a.1/\a.1<=maxI/\qVal 0 s.data.toList=qVal a.1 (s.data.toList.drop a.2),[],(0,0),⟨Ad _,by decide,by decide,rfl⟩,Gd,Gb,?_⟩;rintro⟨n,k⟩ ⟨hk,hn0,hn1,hq⟩;refine z00 (λhc=>?_) λhc=>?_
 ·obtain⟨b,hb⟩:∃b,s.data.toList[k]?=some b:=⟨s.data.toList[k]'(by simpa using An hc),A8 _⟩;have hd:s.data.toList.drop k=b::s.data.toList.drop (k+1):=by
   obtain⟨h1,h2⟩:=A7.1 hb;rw[Cy h1,h2]
  have hdig:=Be.1 h b (Ag hb);simp only[z3y,A0,Bj]at hdig;have hlt:k<s.size:=by simpa using An hc
  rw[hd]at hq;simp only[qVal]at hq;unfold maxI at hn1 hq;have hw:IntKind.i64.wrap (b.toNat:Int)=(b.toNat:Int):=Cw _ oM0;have hb2:s[k]?=some b:=by
   rw[y3i (by rw[z2f];exact(A7.1 hb).1)];simp only[z2f];rw[(A7.1 hb).2]
  generalize hdd:(b.toNat:Int)-48=d at hq;have hd9:0<=d/\d<=9:=by omega
  have hdv:(9223372036854775807-d).tdiv 10=(9223372036854775807-d)/10:=Ed oM0;rw[hdv]at hq;refine⟨hb2,rfl,z3b (z:=d) (by rw[hw];exact hdd) oM0,z3b rfl oM0,q64 (z:=(9223372036854775807-d)/10) dC0 hdv oM0,z00 (λh2=>?_) λh2=>?_⟩
  ·refine⟨sE ?_,Gb⟩;have h2:=An h2;unfold zh3;rw[hq,if_pos h2];rfl
  ·have h2:=Al h2;rw[if_neg h2]at hq;refine⟨y5n rfl oM0,z01 (z:=n*10+d) rfl oM0,z01 rfl (by dsimp only;omega),(n*10+d,k+1),z03 hlt,⟨hlt,by show 0<=n*10+d;omega,by show n*10+d<=maxI;unfold maxI;omega,hq⟩,Gd,Gb,rfl,rfl,rfl,rfl⟩
 ·have hge:s.size<=k:=by simpa using Al hc
  have hq2:qVal 0 s.data.toList=n:=by
   rw[hq,show s.data.toList.drop k=[]from Ab (by simpa using hge)];rfl
  refine z00 (λhe=>?_) λhe=>?_
  ·refine⟨sE ?_,Gb⟩;have he:s.toList=[]:=by simpa using he
   rw[z2f]at he;unfold zh3;simp[he]
  ·have he:s.toList≠[]:=by simpa using he
   rw[z2f]at he;have hn:n ≠ -1:=by dsimp only at hn0;omega
   have hl:s.data.toList.length=s.size:=Bq;obtain⟨b0,r0,hs0⟩:=C6 he;have hb0:s[0]?=some b0:=by
    rw[y3i (by rw[z2f,hs0];simp)];simp[z2f,hs0]
   have hval:zh3 s=if s.size > 1/\b0=48 then -1 else n:=by
    unfold zh3;rw[hq2,if_neg hn,hl,hs0];simp
   refine z00 (λh1=>⟨hb0,rfl,z00 (λh2=>?_) λh2=>?_⟩) λh1=>?_
   ·refine⟨sE ?_,Gb⟩;have h3:b0=48:=UInt8.toNat_inj.1 (by have:=eq_of_beq h2;show b0.toNat=48;omega);rw[hval,if_pos ⟨by have:=An h1;omega,h3⟩]
   ·refine⟨sE ?_,Gb⟩;have h3:b0≠48:=λe=>by subst e;simp at h2
    rw[hval,if_neg (λh=>h3 h.2)]
   ·refine⟨sE ?_,Gb⟩;rw[hval,if_neg (λh=>by have:=Al h1;omega)]
theorem zu1{s:ByteArray}{k:Nat}(h:decide ((k:Int)<(s.size:Int))=true):∃b,s[k]?=some b/\s.data.toList[k]?=some b/\s.data.toList.drop k=b::s.data.toList.drop (k+1)/\k<s.size/\b∈s.data.toList:=by
 have hlt:k<s.size:=by simpa using An h
 obtain⟨b,hb⟩:∃b,s.data.toList[k]?=some b:=⟨s.data.toList[k]'(by simpa using hlt),A8 _⟩;obtain⟨h1,h2⟩:=A7.1 hb;refine⟨b,?_,hb,by rw[Cy h1,h2],hlt,Ag hb⟩;rw[y3i (by rw[z2f];exact h1)];simp only[z2f];rw[h2]
theorem zp0{s:ByteArray}{k:Nat}(h:decide ((k:Int)<(s.size:Int))=false):s.data.toList.drop k=[] :=
 Ab (by have h2:s.data.toList.length=s.size:=Bq;have:=Al h;omega)
theorem j2z(s:ByteArray)(hs:s.size<=1073741824):SC Tryz.prog 76 [.pv (.val (.string s))] [] (λk=>k∈[]) (iBool (zl4 s)) []:=by
 refine SC.vc tb {} [] Tryz.func76 rfl rfl ?_;refine⟨Nat,λk=>[(3,iInt (k:Nat))],λ_=>[],λk=>s.size-k,λk=>k<=s.size/\s.data.toList.all (λb=>z3y b.toNat)=(s.data.toList.drop k).all (λb=>z3y b.toNat),[],0,⟨Ad _,rfl⟩,Gc,Gb,?_⟩;rintro k ⟨hk,hq⟩;refine z00 (λhc=>?_) λhc=>?_
 ·obtain⟨b,h1,h2,h3,h4,h5⟩:=zu1 hc;rw[h3,D2]at hq;refine⟨h1,rfl,[],zs8 _,sR,Gb,rfl,z00 (λhd=>?_) λhd=>?_⟩
  ·have hd:z3y b.toNat=false:=by simpa using hd
   refine⟨sE ?_,Gb⟩;unfold zl4;rw[hq,hd];rfl
  ·have hd:z3y b.toNat=true:=by simpa using hd
   rw[hd]at hq;exact⟨z01 rfl oM0,k+1,z03 h4,⟨h4,hq⟩,Gc,Gb,rfl,rfl,rfl,rfl⟩
 ·rw[zp0 hc]at hq;refine⟨[],y6l s hq hs,sR,Gb,rfl,sE ?_,Gb⟩;unfold zl4;rw[hq];rfl
def sgEls:List (List PV):=sgL.map λw=>[.val (.string w)]
theorem y9p:sgEls.length=30:=rfl
theorem sg_at{k:Nat}(h:k<30):∃w,sgEls[k]?=some [.val (.string w)]/\sgL.drop k=w::sgL.drop (k+1)/\w.size<=3:=by
 obtain⟨w,h1,h2,h3,h4⟩:=z0p (l:=sgL) (k:=k) h;refine⟨w,by unfold sgEls;rw[Ba,h1];rfl,h3,?_⟩;have:∀w∈sgL,w.size<=3:=by decide
 exact this w h4
theorem sc_sign(s:ByteArray)(hs:s.size<=1073741824):SC Tryz.prog 77 [.pv (.val (.string s))] [] (λk=>k∈[]) (.pv (.val (.string (sgOf s)))) []:=by
 refine SC.vc tb {} [] Tryz.func77 rfl rfl ?_;refine⟨Nat,λk=>[(4,iInt (k:Nat)),(3,.pv (.seq sgEls))],λ_=>[],λk=>30-k,λk=>k<=30/\sgOf s=sgGo s (sgL.drop k),[],0,⟨Ad _,rfl⟩,Gd,Gb,?_⟩;rintro k ⟨hk,hq⟩;refine z00 (λhc=>?_) λhc=>?_
 ·have hlt:k<30:=by have:=An hc;rw[y9p]at this;omega
  obtain⟨w,h1,h2,h3⟩:=sg_at hlt;rw[h2]at hq;simp only[sgGo]at hq;refine⟨h1,rfl,z00 (λh4=>?_) λh4=>?_⟩
  ·have h5:w.size<=s.size:=by have:=An h4;omega
   refine⟨h1,rfl,w.size,rfl,Ad _,h5,h1,rfl,z00 (λh6=>?_) λh6=>?_⟩
   ·exact⟨h1,rfl,sE (by rw[hq,if_pos (by unfold sgIs;rw[h6];simp[h5])]),Gb⟩
   ·rw[if_neg (by unfold sgIs;rw[h6];simp)]at hq;exact⟨z01 rfl oM0,k+1,z03 hlt,⟨hlt,hq⟩,Gd,Gb,rfl,rfl,rfl,rfl⟩
  ·have h5:¬w.size<=s.size:=by have:=Al h4;omega
   rw[if_neg (by unfold sgIs;simp[h5])]at hq;exact⟨z01 rfl oM0,k+1,z03 hlt,⟨hlt,hq⟩,Gd,Gb,rfl,rfl,rfl,rfl⟩
 ·have hge:k=30:=by have:=Al hc;rw[y9p]at this;omega
  subst hge;exact⟨sE (by rw[hq];rfl),Gb⟩
theorem z6o(s:ByteArray):SC Tryz.prog 46 [iStr s] [] (λ_=>False) (iBool (z0l s)) []:=by
 refine SC.anyR (SC.vc tb {} [] Tryz.func46 rfl rfl ?_);have hlen:s.toList.length=s.size:=by rw[z2f];exact Bq
 refine z00 (λh1=>⟨sE ?_,Gb⟩) λh1=>?_
 ·have h1:s.toList=[]:=by simpa using h1
  unfold z0l;rw[h1];rfl
 have h1':s.toList≠[]:=by simpa using h1
 have h1:(s.toList==[])=false:=by simpa using h1'
 refine z00 (λh2=>⟨sE ?_,Gb⟩) λh2=>?_
 ·have:¬(s.size:Int)<=20:=by have:=An h2;omega
  unfold z0l;rw[h1,Dc this];rfl
 have h2:(s.size:Int)<=20:=by have:=Al h2;omega
 obtain⟨b0,r0,hs0⟩:=C6 h1';have hb0:s[0]?=some b0:=by
  rw[y3i (by rw[hs0];simp)];simp[hs0]
 refine⟨hb0,rfl,[],z9p _,sR,Gb,rfl,z00 (λh3=>⟨sE ?_,Gb⟩) λh3=>?_⟩
 ·have h3:z4l b0.toNat=false:=by simpa using h3
  unfold z0l;rw[hs0];simp[h3]
 have h3:z4l b0.toNat=true:=by simpa using h3
 refine⟨[],y22 s,sR,Gb,rfl,z00 (λh4=>⟨sE ?_,Gb⟩) λh4=>?_⟩
 ·unfold z0l;rw[h4];simp
 have hN:z0l s=s.data.toList.all isLD:=by
  unfold z0l;rw[h1,h4,C9 h2];rw[<- z2f];simp[hs0,h3]
 refine⟨Nat,λk=>[(3,iInt (k:Nat))],λ_=>[],λk=>s.size-k,λk=>k<=s.size/\s.data.toList.all isLD=(s.data.toList.drop k).all isLD,[],0,⟨Ad _,rfl⟩,Gc,Gb,?_⟩;rintro k ⟨hk,hq⟩;refine z00 (λhc=>?_) λhc=>?_
 ·obtain⟨b,g1,g2,g3,g4,g5⟩:=zu1 hc;rw[g3,D2]at hq;refine⟨g1,rfl,[],z9p _,sR,Gb,rfl,z00 (λh5=>⟨g1,rfl,[],zs8 _,sR,Gb,rfl,z00 (λh6=>⟨sE ?_,Gb⟩) λh6=>?_⟩) λh5=>?_⟩
  ·rw[hN,hq];unfold isLD;rw[show z4l b.toNat=false by simpa using h5,show z3y b.toNat=false by simpa using h6];rfl
  ·have h7:isLD b=true:=by unfold isLD;rw[show z3y b.toNat=true by simpa using h6];simp
   rw[h7]at hq;exact⟨z01 rfl oM0,k+1,z03 g4,⟨g4,hq⟩,Gc,Gb,rfl,rfl,rfl,rfl⟩
  ·have h7:isLD b=true:=by unfold isLD;rw[show z4l b.toNat=true by simpa using h5];simp
   rw[h7]at hq;exact⟨z01 rfl oM0,k+1,z03 g4,⟨g4,hq⟩,Gc,Gb,rfl,rfl,rfl,rfl⟩
 ·rw[zp0 hc]at hq;exact⟨sE (by rw[hN,hq];rfl),Gb⟩
theorem y9a(u:Un):SC Tryz.prog 24 [.pv u.enc] [] (λ_=>False) (iBool (z1f u)) []:=by
 refine SC.anyR (SC.vc tb { gh:=[(4,[.len 10]),(10,[.len 51])] } [] Tryz.func24 rfl rfl ?_);refine⟨Nat,λk=>[(3,iInt k)],λ_=>[],λk=>u.arrays.length-k,λk=>k<=u.arrays.length/\r8gA u u.arrays 0=r8gA u (u.arrays.drop k) k,[],0,⟨Ad _,rfl⟩,Gc,Gb,?_⟩;rintro k ⟨hk,hA⟩;refine z00 (λhc=>?_) λhc=>?_
 ·have hlt:=z0z (f:=Ar.enc) rfl hc;intro hl;simp only[Ac]at hl;obtain⟨a,ha,_,hd,_⟩:=z0p hlt;rw[hd,show r8gA u (a::u.arrays.drop (k+1)) k=(gArr u a k&&r8gA u (u.arrays.drop (k+1)) (k+1))from rfl]at hA;have bad:gArr u a k=false->SubI (iBool false) (iBool (z1f u)):=λh=>sE (by unfold z1f;rw[hA,h];rfl);have hNm:=z6o a.name
  cases hN:z0l a.name with
  |false=>rw[hN]at hNm;exact⟨z02 (f:=Ar.enc) ha,rfl,[],hNm,sR,Gb,rfl,bad (by unfold gArr;rw[hN];rfl),Gb⟩
  |true =>
   rw[hN]at hNm;refine⟨z02 (f:=Ar.enc) ha,rfl,[],hNm,sR,Gb,rfl,z00 (λh1=>⟨bad (by unfold gArr;rw[hN,show decide (a.size<1)=true from h1];rfl),Gb⟩) λh1=>z00 (λh2=>⟨bad (by unfold gArr;rw[hN,show decide (a.size<1)=false from h1,show decide (a.size > 1000)=true from h2];rfl),Gb⟩) λh2=>⟨[],z0e u a.name,sR,Gb,rfl,z00 (λh3=>?_) λh3=>⟨[],z3v u a.name,sR,Gb,rfl,z00 (λh4=>?_) λh4=>?_⟩⟩⟩
   ·have q3:(z0h a.name u.arrays 0==(k:Int))=false:=by simpa using h3
    exact⟨bad (by unfold gArr;rw[hN,show decide (a.size<1)=false from h1,show decide (a.size > 1000)=false from h2,q3];rfl),Gb⟩
   ·have q3:(z0h a.name u.arrays 0==(k:Int))=true:=by simpa using h3
    exact⟨bad (by unfold gArr;rw[hN,show decide (a.size<1)=false from h1,show decide (a.size > 1000)=false from h2,q3,show decide (z05 a.name u.flows 0≥0)=true from h4];rfl),Gb⟩
   ·have q3:(z0h a.name u.arrays 0==(k:Int))=true:=by simpa using h3
    have good:gArr u a k=true:=by unfold gArr;rw[hN,show decide (a.size<1)=false from h1,show decide (a.size > 1000)=false from h2,q3,show decide (z05 a.name u.flows 0≥0)=false from h4];rfl
    exact⟨z01 rfl oM0,k+1,z03 hlt,⟨hlt,by rw[hA,good];rfl⟩,Gc,Gb,rfl,rfl,rfl,rfl⟩
 ·rw[Ab (z10 (f:=Ar.enc) rfl hc),show r8gA u [] k=true from rfl]at hA;refine⟨Nat,λk=>[(5,iInt k)],λ_=>[],λk=>u.flows.length-k,λk=>k<=u.flows.length/\r8gF u u.flows 0=r8gF u (u.flows.drop k) k,[],0,⟨Ad _,rfl⟩,Gc,Gb,?_⟩;rintro k ⟨hk,hF⟩;refine z00 (λhc=>?_) λhc=>?_
  ·have hlt:=z0z (f:=Fl.enc) rfl hc;intro hl;simp only[Ac]at hl;obtain⟨f,hf,_,hd,_⟩:=z0p hlt;rw[hd,show r8gF u (f::u.flows.drop (k+1)) k=(gFlw u f k&&r8gF u (u.flows.drop (k+1)) (k+1))from rfl]at hF;have bad:gFlw u f k=false->SubI (iBool false) (iBool (z1f u)):=λh=>sE (by unfold z1f;rw[hA,hF,h];rfl);have hNm:=z6o f.name
   cases hN:z0l f.name with
   |false=>rw[hN]at hNm;exact⟨z02 (f:=Fl.enc) hf,rfl,[],hNm,sR,Gb,rfl,bad (by unfold gFlw;rw[hN];rfl),Gb⟩
   |true =>
    rw[hN]at hNm;have tail:∀(q1:(z05 f.name u.flows 0==(k:Int))=true) (q2:(f.ty==1||f.ty==2)=true),gFlw u f k=(!decide (f.params<0) && !decide (f.params > f.types.length)):=λq1 q2=>by unfold gFlw;rw[hN,q1,q2];rfl
    refine⟨z02 (f:=Fl.enc) hf,rfl,[],hNm,sR,Gb,rfl,[],z3v u f.name,sR,Gb,rfl,z00 (λh1=>?_) λh1=>?_⟩
    ·have q1:(z05 f.name u.flows 0==(k:Int))=false:=by simpa using h1
     exact⟨bad (by unfold gFlw;rw[hN,q1];rfl),Gb⟩
    ·have q1:(z05 f.name u.flows 0==(k:Int))=true:=by simpa using h1
     refine z00 (λh2=>z00 (λh3=>?_) λh3=>?_) λh2=>?_
     ·have e2:(f.ty==1)=false:=by simpa using h2
      have e3:(f.ty==2)=false:=by simpa using h3
      exact⟨bad (by unfold gFlw;rw[hN,q1,e2,e3];rfl),Gb⟩
     ·have e3:(f.ty==2)=true:=by simpa using h3
      have T:=tail q1 (by rw[e3,Bh]);refine z00 (λh4=>⟨bad (by rw[T,show decide (f.params<0)=true from h4];rfl),Gb⟩) λh4=>z00 (λh5=>⟨bad (by rw[T,show decide (f.params<0)=false from h4,show decide (f.params > f.types.length)=true by simpa using h5];rfl),Gb⟩) λh5=>?_;have good:gFlw u f k=true:=by rw[T,show decide (f.params<0)=false from h4,show decide (f.params > f.types.length)=false by simpa using h5];rfl
      exact⟨z01 rfl oM0,k+1,z03 hlt,⟨hlt,by rw[hF,good];rfl⟩,Gc,Gb,rfl,rfl,rfl,rfl⟩
     ·have e2:(f.ty==1)=true:=by simpa using h2
      have T:=tail q1 (by rw[e2,B7]);refine z00 (λh4=>⟨bad (by rw[T,show decide (f.params<0)=true from h4];rfl),Gb⟩) λh4=>z00 (λh5=>⟨bad (by rw[T,show decide (f.params<0)=false from h4,show decide (f.params > f.types.length)=true by simpa using h5];rfl),Gb⟩) λh5=>?_;have good:gFlw u f k=true:=by rw[T,show decide (f.params<0)=false from h4,show decide (f.params > f.types.length)=false by simpa using h5];rfl
      exact⟨z01 rfl oM0,k+1,z03 hlt,⟨hlt,by rw[hF,good];rfl⟩,Gc,Gb,rfl,rfl,rfl,rfl⟩
  ·rw[Ab (z10 (f:=Fl.enc) rfl hc),show r8gF u [] k=true from rfl]at hF;have hG:z1f u=za3 u:=by unfold z1f;rw[hA,hF];rfl
   rw[hG];refine⟨[],z3v u z0s,sR,Gb,rfl,?_⟩
   cases hp:decide (z05 z0s u.flows 0≥0)with
   |false=>exact z00 (λh=>absurd (hp.symm.trans h) dC0) λ_=>⟨sE (by unfold za3;rw[hp];rfl),Gb⟩
   |true =>
    have h0:z05 z0s u.flows 0≥0:=by simpa using hp
    obtain⟨g,hg,_⟩:=ze6 h0;have hD:u.flows.getD (z05 z0s u.flows 0).toNat y7t=g:=by rw[Ax,hg];rfl
    have hi:=z02 (f:=Fl.enc) hg;refine z00 (λ_=>⟨hi,by omega,z00 (λh1=>⟨hi,by omega,sE ?_,Gb⟩) λh1=>⟨sE ?_,Gb⟩⟩) λh=>absurd (hp.symm.trans h) dC0
    ·unfold za3;rw[hp,hD,show(g.ty==1)=true from h1];rfl
    ·unfold za3;rw[hp,hD,show(g.ty==1)=false from h1];rfl
theorem z99{u:Un}{f:Fl}(hf:f∈u.flows):lsW f.body<=z0g u:=by
 have h1:=yj5 hf;have h2:=y89 f.body;unfold z0g z0x at *
 omega
theorem y8s(u:Un)(l:List Fl)(i:Nat){f:Fl}(h:l.drop i=f::l.drop (i+1)):z5n u (l.drop i) i=if z5m u f then z5n u (l.drop (i+1)) ((i+1:Nat):Int)else(80,(i:Int)):=by
 rw[h,z5n];rfl
theorem zf0(u:Un)(hW:z0g u<=34000000000):SC Tryz.prog 9 [.pv u.enc] [] (λ_=>False) (.tup [iInt (z17 u).1,iInt (z17 u).2]) []:=by
 refine SC.anyR (SC.vc tb { pb:=[101] } [] Tryz.func9 rfl rfl ?_);have hG:=y9a u;have hw2:u.flows.length<=z0g u:=by unfold z0g;omega
 unfold z17
 cases hh:z1f u
 ·rw[hh]at hG;exact⟨[],hG,sR,Gb,rfl,sI,Gb⟩
 rw[hh]at hG;have hg:=z6t hh;rw[if_pos rfl];refine⟨[],hG,sR,Gb,rfl,Nat,λi=>[(4,iInt ((i:Nat):Int))],λ_=>[],λi=>u.flows.length-i,λi=>i<=u.flows.length/\z5n u u.flows 0=z5n u (u.flows.drop i) i,[],0,⟨Ad _,rfl⟩,Gc,Gb,?_⟩;rintro i ⟨i1,i2⟩;refine z00 (λhc=>?_) λhc=>?_
 ·have hlt:i<u.flows.length:=z0z (f:=Fl.enc) rfl hc;obtain⟨x,x1,x2,x3,x4⟩:=z0p hlt;have hF:=j30 u x hg (B9 (z99 x4) hW);rw[y8s u u.flows i x3]at i2;generalize z5m u x=b at hF i2
  cases b
  ·rw[if_neg dC0]at i2;rw[i2];exact⟨z02 (f:=Fl.enc) x1,rfl,[],hF,sR,Gb,rfl,sI,Gb⟩
  ·rw[if_pos rfl]at i2;exact⟨z02 (f:=Fl.enc) x1,rfl,[],hF,sR,Gb,rfl,z01 rfl oM0,i+1,z03 hlt,⟨hlt,i2⟩,Gc,Gb,rfl,rfl,rfl,rfl⟩
 ·have hge:u.flows.length<=i:=z10 (f:=Fl.enc) rfl hc;rw[i2,Ab hge];exact⟨sI,Gb⟩
theorem y3g(u:Un):∀d,
 (∀l a s r,z1v u d l a s=some r->r.2.2.ar.length=s.ar.length)/\(∀x a p s r,z3j u d x a p s=some r->r.2.2.ar.length=s.ar.length) /\
 (∀k p s r,z3z u d k p s=some r->r.2.ar.length=s.ar.length)/\∀x p s r,mSum u d x p s=some r->r.2.ar.length=s.ar.length
 |0=>⟨λ_ _ _ _ h=>by simp[z1v]at h,λ_ _ _ _ _ h=>by simp[z3j]at h,λ_ _ _ _ h=>by simp[z3z]at h,λ_ _ _ _ h=>by simp[mSum]at h⟩
 |d+1=>by
  obtain⟨i1,i2,i3,i4⟩:=y3g u d;refine⟨λl a s r h=>?_,λx a p s r h=>?_,λk p s r h=>?_,λx p s r h=>?_⟩
  ·cases l with
   |nil=>rw[y41 h]
   |cons x l =>
    obtain⟨d1,e,h2⟩:=z7c rfl h;obtain rfl:d1=d:=by omega
    rcases h2 with⟨_,rfl⟩|⟨_,p,r1,_,h3,h4⟩
    ·exact Af List.length (zm1 s)
    ·have E1:r1.2.2.ar.length=s.ar.length:=by
      rw[<- zm1 s];unfold z5k at h3;split at h3
      ·simp only[Am,A5]at h3;obtain⟨o,_,v',_,rfl⟩:=h3;rfl
      split at h3
      ·cases h3;rfl
      split at h3
      ·simp only[Am]at h3;obtain⟨a0,_,q,_,r2,h5,h6⟩:=h3;have h7:=i1 _ _ _ _ h5;split at h6
       ·simp only[A5]at h6;obtain⟨v',_,rfl⟩:=h6;exact h7
       ·cases h6;exact h7
      split at h3
      ·exact i2 _ _ _ _ _ h3
      ·simp only[Am]at h3;obtain⟨r2,h5,h6⟩:=h3;have h7:=i4 _ _ _ _ h5;split at h6
       ·simp only[Am,A5]at h6;obtain⟨o,_,v',_,rfl⟩:=h6;exact h7
       ·cases h6;exact h7
     split at h4
     ·cases h4;exact E1
     ·exact(i1 _ _ _ _ h4).trans E1
  ·obtain⟨d1,v2,q,r1,e,_,_,h3,h4⟩:=z4m h;obtain rfl:d1=d:=by omega
   have E1:=i1 _ _ _ _ h3;split at h4
   ·cases h4;exact E1
   split at h4
   ·simp only[A5]at h4;obtain⟨v',_,rfl⟩:=h4;exact E1
   ·exact(i2 _ _ _ _ _ h4).trans E1
  ·obtain⟨d1,f,r1,e,_,_,_,_,h3,rfl⟩:=z60 h;obtain rfl:d1=d:=by omega
   exact i1 _ _ _ _ h3
  ·have ne:∀{i:Int},x.kind≠i->(x.kind==i)=false:=λh=>A9.2 h
   by_cases k3:x.kind=3
   ·obtain⟨a0,_,rfl⟩:=ze3 h (Au.2 k3);rfl
   by_cases k4:x.kind=4
   ·obtain⟨a0,a1,_,_,rfl⟩:=ze4 h (Au.2 k4);dsimp only;split<;>rfl
   by_cases k5:x.kind=5
   ·obtain⟨a0,b,s',_,h2,h3⟩:=z8p h k5;rcases h3 with⟨rfl,rfl⟩|⟨rfl,row,y,_,_,rfl⟩
    ·exact zm0 h2
    ·rfl
   by_cases k6:x.kind=6
   ·obtain⟨a0,b,s',_,h2,h3⟩:=z7l h k6;rcases h3 with⟨rfl,rfl⟩|⟨rfl,row,y,_,_,rfl⟩
    ·exact zm0 h2
    ·simp[z5w]
   by_cases k7:x.kind=7
   ·have:=i3 _ _ _ _ (zb9 h (Au.2 k7));exact this
   by_cases k9:x.kind=9
   ·obtain⟨a0,_,_,rfl⟩:=z8q h (Au.2 k9);rfl
   by_cases k8:x.kind=8
   ·rcases zc1 h (Au.2 k8)with⟨_,rfl⟩|⟨y,q,_,rfl⟩<;>rfl
   ·obtain rfl:=zc0 h (ne k3) (ne k4) (ne k5) (ne k6) (ne k7) (ne k9) (ne k8);rfl
theorem yb2{u:Un}{d:Nat}{k:Int}{p:List Int}{s:Rs}{r:Int×Rs}(h:z3z u d k p s=some r):r.2.ar.length=s.ar.length:=(y3g u d).2.2.1 _ _ _ _ h
theorem zf5(u:Un)(hub:∀f∈u.flows,lsW f.body<=34359738368):∀D,SRC u D/\SRL u D
 |0=>⟨λ_ h=>absurd h (Aj _),λ_ h=>absurd h (Aj _)⟩
 |D+1=>by
  obtain⟨i1,i2⟩:=zf5 u hub D;have a1:∀d l v s r,z1v u d l v s=some r->r.2.2.ar.length=s.ar.length:=λd=>(y3g u d).1;have a2:∀d x v a s r,z3j u d x v a s=some r->r.2.2.ar.length=s.ar.length:=λd=>(y3g u d).2.1;have a3:∀d k a s r,z3z u d k a s=some r->r.2.ar.length=s.ar.length:=λd=>(y3g u d).2.2.1;have a4:∀d x a s r,mSum u d x a s=some r->r.2.ar.length=s.ar.length:=λd=>(y3g u d).2.2.2;refine⟨λd hd k a s r h h1=>?_,λd hd l v s r h hb h1=>?_⟩
  ·obtain⟨ins,ar,st,code,out,cost,fuel,spent⟩:=s;rcases ar with _|⟨row,_|⟨row2,_|⟨row3,t⟩⟩⟩
   ·exact sr_call0 u hub D i2 a1 d (Bp hd) k a ⟨ins,[],st,code,out,cost,fuel,spent⟩ r h
   ·exact sr_call1 u hub D i2 a1 d (Bp hd) k a ⟨ins,[],st,code,out,cost,fuel,spent⟩ row r h
   ·exact sr_call2 u hub D i2 a1 d (Bp hd) k a ⟨ins,[],st,code,out,cost,fuel,spent⟩ row row2 r h
   ·simp at h1
  ·obtain⟨ins,ar,st,code,out,cost,fuel,spent⟩:=s;rcases ar with _|⟨row,_|⟨row2,_|⟨row3,t⟩⟩⟩
   ·exact sr_list0 u D i1 i2 a3 a1 a2 a4 d (Bp hd) l v ⟨ins,[],st,code,out,cost,fuel,spent⟩ r h hb
   ·exact sr_list1 u D i1 i2 a3 a1 a2 a4 d (Bp hd) l v ⟨ins,[],st,code,out,cost,fuel,spent⟩ row r h hb
   ·exact sr_list2 u D i1 i2 a3 a1 a2 a4 d (Bp hd) l v ⟨ins,[],st,code,out,cost,fuel,spent⟩ row row2 r h hb
   ·simp at h1
theorem y88{k:Nat}{o:HO}{hp:Hp}(h:look hp k=none):look ((k,none)::(k,some o)::hp)=look hp:=by
 funext j
 show(bif Nat.beq k j then none else bif Nat.beq k j then some o else look hp j)=look hp j
 by_cases e:k=j
 ·subst e;rw[show Nat.beq k k=true from Da k,h];rfl
 ·rw[z4a e];rfl
theorem SC.give3{P:Program}{f:FuncId}{args:List IV}{pre post:List (Nat×HO)}{R:Nat->Prop}{k n:Nat}{s:RT}{els:List (List PV)}{y z:IV}
 (h:SC P f args pre R (.tup [.sl k n,y,z]) ((k,.row s els)::post)) (hn:els.length=n) (hk:look (up post) k=none):SC P f args pre R (.tup [.pv (.seq els),y,z]) post:=by
 intro F ρ w vs hkept hrel hargs;refine(h F ρ w vs hkept hrel hargs).mono ?_;rintro e w' ⟨ρ',v,he,hv,hrel',t⟩
 cases hv with
 |tup cs ws u hl hv hr =>
  have hl:ws.size=3:=hl;have ha:All ⟨F,R,ρ,look (up pre),w,3⟩ ρ' (look (up ((k,.row s els)::post))) w' [(0,.sl k n),(1,y),(2,z)] { tmps:=ws,defers:=[] }:=by
   refine⟨hrel',λt x hx=>?_,t,rfl,hl,hkept⟩
   match t,hx with
   |0,hx=>cases hx;exact⟨u 0,hv 0 _ rfl,hr 0 _ rfl⟩
   |1,hx=>cases hx;exact⟨u 1,hv 1 _ rfl,hr 1 _ rfl⟩
   |2,hx=>cases hx;exact⟨u 2,hv 2 _ rfl,hr 2 _ rfl⟩
   |t+3,hx=>cases hx
  have hb:=ha.freeze (k:=k) (n:=n) (t:=0) (s:=s) (els:=els) z1e hn rfl;have e2:look ((k,none)::up ((k,.row s els)::post))=look (up post):=y88 hk;rw[e2]at hb;refine⟨_,_,he,.tup _ ws u hl (λj c hj=>?_) λj c hj=>?_,hb.rel,hb.tr⟩
  ·match j,hj with
   |0,hj=>exact hv 0 _ rfl
   |1,hj=>exact hv 1 _ rfl
   |2,hj=>exact hv 2 _ rfl
  ·match j,hj with
   |0,hj => 
    cases hj
    obtain⟨v,h1,h2⟩:=hb.fr 0 _ rfl;rw[show ws[0]?=some (u 0)from hv 0 _ rfl]at h1
    cases h1;exact h2
   |1,hj =>
    cases hj
    obtain⟨v,h1,h2⟩:=hb.fr 1 _ rfl;rw[show ws[1]?=some (u 1)from hv 1 _ rfl]at h1
    cases h1;exact h2
   |2,hj =>
    cases hj
    obtain⟨v,h1,h2⟩:=hb.fr 2 _ rfl;rw[show ws[2]?=some (u 2)from hv 2 _ rfl]at h1
    cases h1;exact h2
theorem SC.give{P:Program}{f:FuncId}{args:List IV}{pre post:List (Nat×HO)}{R:Nat->Prop}{k n:Nat}{s:RT}{els:List (List PV)}
 (h:SC P f args pre R (.sl k n) ((k,.row s els)::post)) (hn:els.length=n) (hk:look (up post) k=none):SC P f args pre R (.pv (.seq els)) post:=by
 intro F ρ w vs hkept hrel hargs;refine(h F ρ w vs hkept hrel hargs).mono ?_;rintro e w' ⟨ρ',v,he,hv,hrel',t⟩;have ha:All ⟨F,R,ρ,look (up pre),w,1⟩ ρ' (look (up ((k,.row s els)::post))) w' [(0,.sl k n)] { tmps:=#[v],defers:=[] }:=by
  refine⟨hrel',λt x hx=>?_,t,rfl,rfl,hkept⟩
  match t,hx with
  |0,hx=>cases hx;exact⟨v,rfl,hv⟩
  |t+1,hx=>cases hx
 have hb:=ha.freeze (k:=k) (n:=n) (t:=0) (s:=s) (els:=els) z1e hn rfl;have e2:look ((k,none)::up ((k,.row s els)::post))=look (up post):=y88 hk;rw[e2]at hb;obtain⟨v2,h1,h2⟩:=hb.fr 0 _ rfl
 cases h1
 exact⟨_,v,he,h2,hb.rel,hb.tr⟩
def tkRt:RT:=⟨109,3⟩
theorem sT3{x x' y z:IV}(h:SubI x x'):SubI (.tup [x,y,z]) (.tup [x',y,z]):=λF ρ σ w v hv=>by
 cases hv with
 |tup cs vs u hl hv hr =>
  refine .tup _ vs u hl (λj c hj=>?_) λj c hj=>?_
  ·match j,hj with
   |0,_=>exact hv 0 x rfl
   |j+1,hj=>exact hv (j+1) c hj
  ·match j,hj with
   |0,hj=>cases hj;exact h _ _ _ _ _ (hr 0 x rfl)
   |j+1,hj=>exact hr (j+1) c hj
theorem yo2{s:ByteArray}{a m:Nat}{b:UInt8}(h:s.data.toList.drop (a+m)=b::s.data.toList.drop (a+m+1))(hb:isLD b=true) :
 ((s.data.toList.drop (a+m)).takeWhile isLD).length=1+((s.data.toList.drop (a+m+1)).takeWhile isLD).length:=by
 rw[h,Dy,if_pos hb,A1];omega
theorem run_stop{s:ByteArray}{a m:Nat}{b:UInt8}(h:s.data.toList.drop (a+m)=b::s.data.toList.drop (a+m+1))(hb:isLD b=false) :
 ((s.data.toList.drop (a+m)).takeWhile isLD).length=0:=by
 rw[h,Dy,if_neg (by simp[hb])];rfl
theorem b_eq{b:UInt8}{n:Int}(h:((b.toNat:Int)==n)=true){c:UInt8}(hc:(c.toNat:Int)=n):b=c:=UInt8.toNat_inj.1 (by have:=eq_of_beq h;omega)
theorem b_ne{b:UInt8}{n:Int}(h:((b.toNat:Int)==n)=false){c:UInt8}(hc:(c.toNat:Int)=n):¬b=c:=λe=>by subst e;simp[hc]at h
def tkR(t:List Tk×Int×Int):IV:=if t.2.1=0 then .sl 1001 (t.1.map Tk.enc).length else .pv (tks t.1)
def tkPost(t:List Tk×Int×Int):List (Nat×HO):=if t.2.1=0 then[(1001,.row tkRt (t.1.map Tk.enc))]else[]
theorem yv7(s:ByteArray)(hs:s.size<=1073741824):SC Tryz.prog 43 [.pv (.val (.string s))] [] (λk=>k∈[]) (.tup [tkR (z1u s),iInt (z1u s).2.1,iInt (z1u s).2.2]) (tkPost (z1u s)):=by
 refine SC.vc tb { gh:=[(4,[.grow 5 1001 109 3])] } [] Tryz.func43 rfl rfl ?_;unfold z1u;refine z00 (λh=>?_) λh=>?_
 ·have h:s.size > 100000:=by have:=An h;omega
  rw[if_pos h];exact⟨sT3 sN,Gb⟩
 have h:¬s.size > 100000:=by have:=Al h;omega
 rw[if_neg h];generalize hTK:toks s (s.size+1) 1 0 []=TK;refine⟨Nat×Nat×List Tk,λa=>[(6,iInt (a.1:Nat)),(7,iInt (a.2.1:Nat)),(5,.sl 1001 (a.2.2.map Tk.enc).length)],λa=>[(1001,.row tkRt (a.2.2.map Tk.enc))],λa=>s.size-a.2.1,
  λa=>a.1<=a.2.1+1/\a.2.1<=s.size/\a.2.2.length<=a.2.1/\∃N,s.size<N+a.2.1/\TK=toks s N a.1 a.2.1 a.2.2,[],(1,0,[]),⟨Ae _,Ad _,Ae _,s.size+1,by omega,hTK.symm⟩,Ge,Gc,?_⟩
 rintro⟨line,at_,out⟩ ⟨h1,h2,h3,N,h4,h5⟩;dsimp only at h1 h2 h3 h4 h5;refine z00 (λhc=>?_) λhc=>?_
 ·obtain⟨b,g1,g2,g3,g4,g5⟩:=zu1 hc;dsimp only at g1 g2 g3 g4 hc;obtain⟨M,rfl⟩:∃M,N=M+1:=⟨N-1,by omega⟩;unfold toks at h5;simp only[g2]at h5;refine⟨Nat,λm=>[(9,iInt (m:Nat))],λ_=>[],λm=>s.size-m,λm=>at_+m<=s.size/\z4e s at_=m+((s.data.toList.drop (at_+m)).takeWhile isLD).length,[],0,⟨h2,by unfold z4e;simp⟩,Gc,Gb,?_⟩;rintro m ⟨hm,hr⟩;refine⟨z01 rfl (by dsimp only;omega),z00 (λhc2=>?_) λhc2=>?_⟩
  rotate_left
  have hrun:z4e s at_=m:=by rw[hr,zp0 (k:=at_+m) (by simpa using hc2)];rfl
  clear hr hc2
  rotate_left
  obtain⟨b2,k1,k2,k3,k4,k5⟩:=zu1 (k:=at_+m) (by simpa using hc2);refine⟨z01 rfl (by dsimp only;omega),k1,by dsimp only;omega,[],z9p _,sR,Gb,rfl,z00 (λh6=>?_) λh6=>?_⟩;exact⟨z01 rfl oM0,m+1,by omega,⟨by omega,by rw[hr,yo2 k3 (by unfold isLD;rw[h6];rfl),show at_+(m+1)=at_+m+1 from rfl];omega⟩,Gc,Gb,rfl,rfl,rfl,rfl⟩;refine⟨z01 rfl (by dsimp only;omega),k1,by dsimp only;omega,[],zs8 _,sR,Gb,rfl,z00 (λh7=>?_) λh7=>?_⟩;exact⟨z01 rfl oM0,m+1,by omega,⟨by omega,by rw[hr,yo2 k3 (by unfold isLD;rw[h7];simp),show at_+(m+1)=at_+m+1 from rfl];omega⟩,Gc,Gb,rfl,rfl,rfl,rfl⟩;have hrun:z4e s at_=m:=by rw[hr,run_stop k3 (by unfold isLD;rw[h6,h7];rfl)];rfl
  clear hr k1 k2 k3 k4 k5 h6 h7 hc2
  all_goals
   refine⟨g1,rfl,z00 (λb1=>?_) λb1=>?_⟩
   ·rw[zt9,if_pos (b_eq b1 rfl)]at h5;exact⟨z01 rfl (by dsimp only;omega),z01 rfl (by dsimp only;omega),(line+1,at_+1,out),z03 g4,⟨by show line+1<=at_+1+1;omega,g4,by show out.length<=at_+1;omega,M,by show s.size<M+(at_+1);omega,h5⟩,Ge,Gc,rfl,rfl,rfl,rfl⟩
   rw[zt9,if_neg (b_ne b1 rfl)]at h5;have blank:((b.toNat:Int)==32)=true∨((b.toNat:Int)==9)=true∨((b.toNat:Int)==13)=true->TK=toks s M line (at_+1) out:=λe=>by
    rw[if_pos (e.elim (λe=>.inl (b_eq e rfl)) λe=>.inr (e.elim (λe=>.inl (b_eq e rfl)) λe=>.inr (b_eq e rfl)))]at h5;exact h5
   refine⟨g1,rfl,z00 (λb2=>?_) λb2=>⟨g1,rfl,z00 (λb3=>?_) λb3=>⟨g1,rfl,z00 (λb4=>?_) λb4=>?_⟩⟩⟩
   ·have h5:=blank (.inl b2);exact⟨z01 rfl (by dsimp only;omega),(line,at_+1,out),z03 g4,⟨by show line<=at_+1+1;omega,g4,by show out.length<=at_+1;omega,M,by show s.size<M+(at_+1);omega,h5⟩,Ge,Gc,rfl,rfl,rfl,rfl⟩
   ·have h5:=blank (.inr (.inl b3));exact⟨z01 rfl (by dsimp only;omega),(line,at_+1,out),z03 g4,⟨by show line<=at_+1+1;omega,g4,by show out.length<=at_+1;omega,M,by show s.size<M+(at_+1);omega,h5⟩,Ge,Gc,rfl,rfl,rfl,rfl⟩
   ·have h5:=blank (.inr (.inr b4));exact⟨z01 rfl (by dsimp only;omega),(line,at_+1,out),z03 g4,⟨by show line<=at_+1+1;omega,g4,by show out.length<=at_+1;omega,M,by show s.size<M+(at_+1);omega,h5⟩,Ge,Gc,rfl,rfl,rfl,rfl⟩
   rw[if_neg (λe=>e.elim (b_ne b2 rfl) λe=>e.elim (b_ne b3 rfl) (b_ne b4 rfl))]at h5;clear blank;refine⟨g1,rfl,z00 (λb5=>?_) λb5=>?_⟩
   rotate_left
   have c3:¬(b=47/\s.data.toList[at_+1]?=some 47):=λe=>b_ne b5 rfl e.1;clear b5
   rotate_right
   refine⟨z01 rfl (by dsimp only;omega),z00 (λb6=>?_) λb6=>?_⟩
   rotate_left
   have c3:¬(b=47/\s.data.toList[at_+1]?=some 47):=λe=>by
    have:=Al b6;have h8:=(A7.1 e.2).1;have h9:s.data.toList.length=s.size:=Bq;dsimp only at this;omega
   clear b5 b6
   rotate_right
   obtain⟨q,q1,q2,q3,q4,q5⟩:=zu1 (k:=at_+1) (by simpa using b6);refine⟨z01 rfl (by dsimp only;omega),q1,by dsimp only;omega,z00 (λb7=>?_) λb7=>?_⟩
   rotate_left
   have c3:¬(b=47/\s.data.toList[at_+1]?=some 47):=λe=>by
    rw[q2]at e;exact b_ne b7 rfl (Bx e.2)
   clear b5 b6 b7 q1 q2 q3 q4 q5
   rotate_right
   rw[if_pos ⟨b_eq b5 rfl,by rw[q2,b_eq (c:=47) b7 rfl]⟩]at h5;clear b5 b6 b7 q1 q2 q3 q4 q5
   ·refine⟨Nat,λj=>[(7,iInt (j:Nat))],λ_=>[],λj=>s.size-j,λj=>at_<=j/\j<=s.size/\zr3 s at_=j+((s.data.toList.drop j).takeWhile λb=>b != 10).length,[],at_,⟨Ae _,h2,rfl⟩,Gc,Gb,?_⟩;rintro j ⟨j1,j2,j3⟩;have hend:=y3y g2 (b_ne b1 rfl);have fin:zr3 s at_=j->at_<j/\(line<=j+1/\j<=s.size/\out.length<=j/\∃N,s.size<N+j/\TK=toks s N line j out):=λe=>by
     rw[e]at hend h5;obtain⟨e1,e2⟩:=hend;exact⟨e1,by omega,j2,by omega,M,by omega,h5⟩
    refine z00 (λd1=>?_) λd1=>?_
    ·obtain⟨q,q1,q2,q3,q4,q5⟩:=zu1 (k:=j) d1;refine⟨q1,rfl,z00 (λd2=>?_) λd2=>?_⟩
     ·have d3:q≠10:=λe=>by subst e;simp at d2
      rw[q3,Dy,if_pos (by simpa using d3),A1]at j3;exact⟨z01 rfl oM0,j+1,z03 q4,⟨by omega,q4,by rw[j3];omega⟩,Gc,Gb,rfl,rfl,rfl,rfl⟩
     ·have d3:q=10:=b_eq (c:=10) (n:=10) (by simpa using d2) rfl;rw[q3,Dy,if_neg (by simp[d3])]at j3;obtain⟨f1,f2⟩:=fin j3;exact⟨(line,j,out),by dsimp only;omega,f2,Ge,Gc,rfl,rfl,rfl,rfl⟩
    ·rw[zp0 d1]at j3;obtain⟨f1,f2⟩:=fin j3;exact⟨(line,j,out),by dsimp only;omega,f2,Ge,Gc,rfl,rfl,rfl,rfl⟩
   all_goals
    rw[if_neg c3,hrun]at h5;clear c3;refine z00 (λd1=>?_) λd1=>?_
    ·have d1:m > 0:=by have:=An d1;omega
     rw[if_pos d1]at h5;have hm2:at_+m<=s.size:=hm;generalize hw:s.extract at_ (at_+m)=w at h5;have hws:w.size=m:=by rw[<- hw,Cj];omega
     have nx:∀k:Int,TK=toks s M line (at_+m) (out++[⟨k,w,line⟩])->line<=at_+m+1/\at_+m<=s.size/\(out++[(⟨k,w,line⟩:Tk)]).length<=at_+m/\∃N,s.size<N+(at_+m)/\TK=toks s N line (at_+m) (out++[⟨k,w,line⟩]):=λk e =>
      ⟨by omega,hm2,by rw[B5];show _+1<=_;omega,M,by omega,e⟩
     refine⟨z01 rfl (by dsimp only;omega),at_,rfl,at_+m,by dsimp only;omega,by omega,hm2,?_⟩;rw[hw];refine⟨g1,rfl,[],z9p _,sR,Gb,rfl,z00 (λe1=>?_) λe1=>?_⟩
     ·refine⟨[],y22 w,sR,Gb,rfl,z00 (λe2=>?_) λe2=>?_⟩
      ·rw[show z3a b w=2 by unfold z3a;rw[if_pos e2],if_neg sI0]at h5;exact⟨z01 (z:=((at_+m:Nat):Int)) (by rw[hws];rfl) oM0,rfl,z3i rfl,by simp;omega,(line,at_+m,out++[⟨2,w,line⟩]),by dsimp only;omega,nx 2 h5,⟨rfl,rfl,slq sI0,Gb⟩,⟨rwq (by simp[Tk.enc]),Gb⟩,rfl,rfl,rfl,rfl⟩
      ·rw[show z3a b w=1 by unfold z3a;rw[if_neg (by simp[e2]),if_pos e1]]at h5;refine⟨[],z6o w,sR,Gb,rfl,z00 (λe3=>?_) λe3=>?_⟩
       ·have e3:z0l w=false:=by simpa using e3
        rw[if_pos (.inl ⟨rfl,e3⟩)]at h5;refine⟨?_,?_⟩<;>rw[h5]
        ·exact sT3 sN
        ·trivial
       ·have e3:z0l w=true:=by simpa using e3
        rw[if_neg (by simp[e3])]at h5;exact⟨z01 (z:=((at_+m:Nat):Int)) (by rw[hws];rfl) oM0,rfl,z3i rfl,by simp;omega,(line,at_+m,out++[⟨1,w,line⟩]),by dsimp only;omega,nx 1 h5,⟨rfl,rfl,slq sI0,Gb⟩,⟨rwq (by simp[Tk.enc]),Gb⟩,rfl,rfl,rfl,rfl⟩
     ·refine⟨[],y22 w,sR,Gb,rfl,z00 (λe2=>?_) λe2=>?_⟩
      ·rw[show z3a b w=2 by unfold z3a;rw[if_pos e2],if_neg sI0]at h5;exact⟨z01 (z:=((at_+m:Nat):Int)) (by rw[hws];rfl) oM0,rfl,z3i rfl,by simp;omega,(line,at_+m,out++[⟨2,w,line⟩]),by dsimp only;omega,nx 2 h5,⟨rfl,rfl,slq sI0,Gb⟩,⟨rwq (by simp[Tk.enc]),Gb⟩,rfl,rfl,rfl,rfl⟩
      ·rw[show z3a b w=0 by unfold z3a;rw[if_neg (by simp[e2]),if_neg (by simp[e1])]]at h5;refine⟨[],j2z w oM0,sR,Gb,rfl,z00 (λe3=>?_) λe3=>?_⟩
       ·have e3:zl4 w=false:=by simpa using e3
        rw[if_pos (.inr ⟨rfl,e3⟩)]at h5;refine⟨?_,?_⟩<;>rw[h5]
        ·exact sT3 sN
        ·trivial
       ·have e3:zl4 w=true:=by simpa using e3
        rw[if_neg (by simp[e3])]at h5;exact⟨z01 (z:=((at_+m:Nat):Int)) (by rw[hws];rfl) oM0,rfl,z3i rfl,by simp;omega,(line,at_+m,out++[⟨0,w,line⟩]),by dsimp only;omega,nx 0 h5,⟨rfl,rfl,slq sI0,Gb⟩,⟨rwq (by simp[Tk.enc]),Gb⟩,rfl,rfl,rfl,rfl⟩
    ·have d1:¬m > 0:=by have:=Al d1;omega
     rw[if_neg d1]at h5;refine⟨at_,rfl,h2,Ae _,[],sc_sign (s.extract at_ s.size) (by rw[Cj];omega),sR,Gb,rfl,?_⟩;have hgl:=zz9 (s.extract at_ s.size) sgL;have hgs:(s.extract at_ s.size).size=s.size-at_:=by rw[Cj];omega
     rw[hgs]at hgl
     change sgOf (s.extract at_ s.size)=⟨#[]⟩∨(sgOf (s.extract at_ s.size)∈sgL/\(sgOf (s.extract at_ s.size)).size<=s.size-at_)at hgl
     generalize sgOf (s.extract at_ s.size)=w at h5 hgl;refine z00 (λe1=>?_) λe1=>?_
     ·have e1:w.toList=[]:=by simpa using e1
      have e2:w.size=0:=by rw[z2f]at e1;have h9:w.data.toList.length=w.size:=Bq;rw[e1]at h9;exact h9.symm
      rw[if_pos e2]at h5;refine⟨?_,?_⟩<;>rw[h5]
      ·exact sT3 sN
      ·trivial
     ·have e1:w.toList≠[]:=by simpa using e1
      have e2:¬w.size=0:=λe=>e1 (by rw[z2f];have h9:w.data.toList.length=w.size:=Bq;exact List.length_eq_zero_iff.1 (h9.trans e));rw[if_neg e2]at h5;have e3:at_+w.size<=s.size:=by
       rcases hgl with e|e
       ·exact absurd (by rw[e];rfl) e2
       ·have:=e.2;omega
      exact⟨z01 (z:=((at_+w.size:Nat):Int)) rfl oM0,rfl,z3i rfl,by simp;omega,(line,at_+w.size,out++[⟨2,w,line⟩]),by dsimp only;omega,
       ⟨by show line<=at_+w.size+1;omega,e3,by rw[B5];show _+1<=at_+w.size;omega,M,by show s.size<M+(at_+w.size);omega,h5⟩,⟨rfl,rfl,slq sI0,Gb⟩,⟨rwq (by simp[Tk.enc]),Gb⟩,rfl,rfl,rfl,rfl⟩
 ·have hc:=zp0 hc;obtain⟨M,rfl⟩:∃M,N=M+1:=⟨N-1,by omega⟩;unfold toks at h5;have hn:s.data.toList[at_]?=none:=by
   rw[<- List.head?_drop];dsimp only at hc;rw[hc];rfl
  simp only[hn]at h5;refine⟨rfl,z3i rfl,by simp;omega,?_⟩;refine⟨?_,?_⟩<;>rw[h5]
  ·exact sE (by simp[tkR])
  ·exact⟨rwq (by simp[Tk.enc];rfl),Gb⟩
theorem j2r(s:ByteArray)(hs:s.size<=1073741824):SC Tryz.prog 43 [.pv (.val (.string s))] [] (λk=>k∈[]) (.tup [.pv (tks (z1u s).1),iInt (z1u s).2.1,iInt (z1u s).2.2]) []:=by
 have h:=yv7 s hs;unfold tkR tkPost at h
 by_cases e:(z1u s).2.1=0
 ·rw[if_pos e,if_pos e]at h;exact h.give3 rfl rfl
 ·rw[if_neg e,if_neg e]at h;exact h
structure Ps where
 at_:Nat
 bad:Bool
 deep:Bool
def Ps.over(s:Ps):Bool:=s.bad||s.deep
def Ps.next(s:Ps):Ps:={ s with at_:=s.at_+1 }
def Ps.setBad(s:Ps):Ps:={ s with bad:=true }
def Ps.setDeep(s:Ps):Ps:={ s with deep:=true }
def s_:ByteArray:=⟨#[]⟩
def tkAt(T:List Tk)(s:Ps):Tk:=T.getD s.at_ ⟨3,s_,0⟩
def pIs(T:List Tk)(w:ByteArray)(s:Ps):Bool:=!s.over&&((tkAt T s).kind==2&&eqS (tkAt T s).text w)
def z8k(T:List Tk)(w:ByteArray)(s:Ps):Bool×Ps:=if pIs T w s then(true,s.next)else(false,s)
def z0o(T:List Tk)(w:ByteArray)(s:Ps):Ps:=if pIs T w s then s.next else if s.deep then s else s.setBad
def z0m(T:List Tk)(k:Int)(s:Ps):ByteArray×Ps:=if s.over then(s_,s)else if (tkAt T s).kind=k then((tkAt T s).text,s.next)else(s_,s.setBad)
def sInt:ByteArray:=⟨#[105,110,116]⟩
def j2l:ByteArray:=⟨#[98,111,111,108]⟩
def sIf:ByteArray:=⟨#[105,102]⟩
def sElse:ByteArray:=⟨#[101,108,115,101]⟩
def yo6:ByteArray:=⟨#[119,104,105,108,101]⟩
def yo3:ByteArray:=⟨#[98,114,101,97,107]⟩
def zn5:ByteArray:=⟨#[99,111,110,116,105,110,117,101]⟩
def y6k:ByteArray:=⟨#[114,101,116,117,114,110]⟩
def yo5:ByteArray:=⟨#[112,114,105,110,116]⟩
def sRead:ByteArray:=⟨#[114,101,97,100]⟩
def sTrue:ByteArray:=⟨#[116,114,117,101]⟩
def yo4:ByteArray:=⟨#[102,97,108,115,101]⟩
def sRo:ByteArray:=⟨#[40]⟩
def sRc:ByteArray:=⟨#[41]⟩
def sBo:ByteArray:=⟨#[123]⟩
def sBc:ByteArray:=⟨#[125]⟩
def sSo:ByteArray:=⟨#[91]⟩
def sSc:ByteArray:=⟨#[93]⟩
def zn4:ByteArray:=⟨#[44]⟩
def z5d:ByteArray:=⟨#[59]⟩
def sEq:ByteArray:=⟨#[61]⟩
def z0r(T:List Tk)(s:Ps):Int×Ps:=if pIs T sInt s then(1,s.next)else(2,z0o T j2l s)
def x0:Ex:=.mk 0 0 0 s_ []
def pUn(T:List Tk)(s:Ps):Option Int:=[20,21,22,23,24,25,26,27,28].find? λo=>pIs T (zp7 o) s
def pOp(T:List Tk)(level:Int)(s:Ps):Int:=([1,2,3,4,5,6,7,8,9,10,11,12,13,14,15,16,17,18,19].find? λo=>decide (z4j o=level)&&pIs T (zp7 o) s).getD 0
def z4h(depth:Int)(s:Ps):Ps:=if depth > 100/\s.bad=false then s.setDeep else s
def aGo(T:List Tk)(first:Bool)(s:Ps):Ps:=if first then s else(z8k T zn4 s).2
mutual
def z30(T:List Tk):Nat->Int->Int->Ps->Ex×Ps
 |0,_,_,s=>(x0,s)
 |N+1,level,depth,s=>if level > 10 then z7m T N depth s else zb8 T N level depth (z30 T N (level+1) depth s)
def zb8(T:List Tk):Nat->Int->Int->Ex×Ps->Ex×Ps
 |0,_,_,r=>r
 |N+1,level,depth,r=>if pOp T level r.2=0 then r else
  zb8 T N level depth (.mk 5 (pOp T level r.2) 0 s_ [r.1,(z30 T N (level+1) depth r.2.next).1],(z30 T N (level+1) depth r.2.next).2)
def z7m(T:List Tk):Nat->Int->Ps->Ex×Ps
 |0,_,s=>(x0,s)
 |N+1,depth,s=>match pUn T (z4h depth s)with
  |none=>y37 T N depth (z4h depth s)
  |some op=>if op≥23 then(.mk 4 op 0 s_ [(z30 T N 1 (depth+1) (z0o T sRo (z4h depth s).next)).1],z0o T sRc (z30 T N 1 (depth+1) (z0o T sRo (z4h depth s).next)).2)
   else(.mk 4 op 0 s_ [(z7m T N (depth+1) (z4h depth s).next).1],(z7m T N (depth+1) (z4h depth s).next).2)
def y37(T:List Tk):Nat->Int->Ps->Ex×Ps
 |0,_,s=>(x0,s)
 |N+1,depth,s=>if s.over then(x0,s)
  else if pIs T sRo s then((z30 T N 1 (depth+1) s.next).1,z0o T sRc (z30 T N 1 (depth+1) s.next).2)
  else if pIs T sTrue s then(.mk 2 0 1 s_ [],s.next)
  else if pIs T yo4 s then(.mk 2 0 0 s_ [],s.next)
  else if pIs T sRead s then(.mk 8 0 0 s_ [],z0o T sRc (z0o T sRo s.next))
  else if (tkAt T s).kind=0 then(.mk 1 0 (zh3 (tkAt T s).text) s_ [],s.next)
  else if pIs T sRo (z0m T 1 s).2 then(.mk 7 0 0 (z0m T 1 s).1 (z81 T N (depth+1) (z0m T 1 s).2.next).1,(z81 T N (depth+1) (z0m T 1 s).2.next).2)
  else if pIs T sSo (z0m T 1 s).2 then(.mk 6 0 0 (z0m T 1 s).1 [(z30 T N 1 (depth+1) (z0m T 1 s).2.next).1],z0o T sSc (z30 T N 1 (depth+1) (z0m T 1 s).2.next).2)
  else(.mk 3 0 0 (z0m T 1 s).1 [],(z0m T 1 s).2)
def z81(T:List Tk):Nat->Int->Ps->List Ex×Ps
 |0,_,s=>([],s)
 |N+1,depth,s=>if pIs T sRc s then([],s.next)else((za1 T N depth true [] s).1,z0o T sRc (za1 T N depth true [] s).2)
def za1(T:List Tk):Nat->Int->Bool->List Ex->Ps->List Ex×Ps
 |0,_,_,out,s=>(out,s)
 |N+1,depth,first,out,s=>if (first||pIs T zn4 s)=true/\(aGo T first s).over=false then
  za1 T N depth false (out++[(z30 T N 1 depth (aGo T first s)).1]) (z30 T N 1 depth (aGo T first s)).2
  else(out,aGo T first s)
end
def big(T:List Tk):Nat:=20*T.length+40
def mE(T:List Tk)(s:Ps):Ex×Ps:=z30 T (big T) 1 1 s
def z1z(T:List Tk)(s:Ps):Ex×Ps:=((mE T (z0o T sRo s)).1,z0o T sRc (mE T (z0o T sRo s)).2)
def z5j(T:List Tk)(s:Ps):St×Ps :=
 if pIs T sRo (z0m T 1 s).2 then(.mk 10 0 s_ [.mk 7 0 0 (z0m T 1 s).1 (z81 T (big T) 2 (z0m T 1 s).2.next).1] [] [],(z81 T (big T) 2 (z0m T 1 s).2.next).2)
 else if pIs T sSo (z0m T 1 s).2 then
  (.mk 3 0 (z0m T 1 s).1 [(mE T (z0m T 1 s).2.next).1,(mE T (z0o T sEq (z0o T sSc (mE T (z0m T 1 s).2.next).2))).1] [] [],(mE T (z0o T sEq (z0o T sSc (mE T (z0m T 1 s).2.next).2))).2)
 else(.mk 2 0 (z0m T 1 s).1 [(mE T (z0o T sEq (z0m T 1 s).2)).1] [] [],(mE T (z0o T sEq (z0m T 1 s).2)).2)
def mLet(T:List Tk)(s:Ps):St×Ps :=
 (.mk 1 (z0r T s).1 (z0m T 1 (z0r T s).2).1 [(mE T (z0o T sEq (z0m T 1 (z0r T s).2).2)).1] [] [],(mE T (z0o T sEq (z0m T 1 (z0r T s).2).2)).2)
def zg2(T:List Tk)(s:Ps):St×Ps :=
 if pIs T yo3 s then(.mk 6 0 s_ [] [] [],s.next)
 else if pIs T zn5 s then(.mk 7 0 s_ [] [] [],s.next)
 else if pIs T y6k s then(.mk 8 0 s_ [(mE T s.next).1] [] [],(mE T s.next).2)
 else if pIs T yo5 s then(.mk 9 0 s_ [(z1z T s.next).1] [] [],(z1z T s.next).2)
 else z5j T s
def z39(depth:Int)(s:Ps):Ps:=if depth > 100 then s.setDeep else s
mutual
def z62(T:List Tk):Nat->Int->Ps->St×Ps
 |0,_,s=>(.mk 0 0 s_ [] [] [],s.setBad)
 |N+1,depth,s0 =>
  if pIs T sInt (z39 depth s0)||pIs T j2l (z39 depth s0)then((mLet T (z39 depth s0)).1,z0o T z5d (mLet T (z39 depth s0)).2)
  else if pIs T sIf (z39 depth s0)then
   if pIs T sElse (z21 T N (depth+1) (z1z T (z39 depth s0).next).2).2 then
    (.mk 4 0 s_ [(z1z T (z39 depth s0).next).1] (z21 T N (depth+1) (z1z T (z39 depth s0).next).2).1 (z21 T N (depth+1) (z21 T N (depth+1) (z1z T (z39 depth s0).next).2).2.next).1,(z21 T N (depth+1) (z21 T N (depth+1) (z1z T (z39 depth s0).next).2).2.next).2)
   else(.mk 4 0 s_ [(z1z T (z39 depth s0).next).1] (z21 T N (depth+1) (z1z T (z39 depth s0).next).2).1 [],(z21 T N (depth+1) (z1z T (z39 depth s0).next).2).2)
  else if pIs T yo6 (z39 depth s0)then
   (.mk 5 0 s_ [(z1z T (z39 depth s0).next).1] (z21 T N (depth+1) (z1z T (z39 depth s0).next).2).1 [],(z21 T N (depth+1) (z1z T (z39 depth s0).next).2).2)
  else((zg2 T (z39 depth s0)).1,z0o T z5d (zg2 T (z39 depth s0)).2)
def z21(T:List Tk):Nat->Int->Ps->List St×Ps
 |0,_,s=>([],s)
 |N+1,depth,s=>z85 T N depth [] (z0o T sBo s)
def z85(T:List Tk):Nat->Int->List St->Ps->List St×Ps
 |0,_,out,s=>(out,s)
 |N+1,depth,out,s=>if s.over then(out,s)else if pIs T sBc s then(out,s.next)else z85 T N depth (out++[(z62 T N depth s).1]) (z62 T N depth s).2
end
def za2(T:List Tk):Nat->Bool->List Pm->Ps->List Pm×Ps
 |0,_,out,s=>(out,s)
 |N+1,first,out,s=>if (first||pIs T zn4 s)=true/\(aGo T first s).over=false then
  za2 T N false (out++[⟨(z0m T 1 (z0r T (aGo T first s)).2).1,(z0r T (aGo T first s)).1⟩]) (z0m T 1 (z0r T (aGo T first s)).2).2
  else(out,aGo T first s)
def z7k(T:List Tk)(s:Ps):List Pm×Ps:=if pIs T sRc s then([],s.next)else((za2 T (big T) true [] s).1,z0o T sRc (za2 T (big T) true [] s).2)
def z75(T:List Tk)(t:Int)(name:ByteArray)(s:Ps):Fu×Ps :=
 (⟨name,t,(z7k T (z0o T sRo s)).1,(z21 T (big T) 1 (z7k T (z0o T sRo s)).2).1⟩,(z21 T (big T) 1 (z7k T (z0o T sRo s)).2).2)
def qArr(T:List Tk)(fs:List Fu)(t:Int)(s:Ps):Bool:=t==1&&fs.length==0&&pIs T sSo s
def z43(T:List Tk):Nat->Pg->Ps->Pg×Ps
 |0,p,s=>(p,s)
 |N+1,p,s=>if s.over||(tkAt T s).kind==3 then(p,s)
  else if qArr T p.funcs (z0r T s).1 (z0m T 1 (z0r T s).2).2 then
   z43 T N ⟨p.arrays++[⟨(z0m T 1 (z0r T s).2).1,zh3 (z0m T 0 (z0m T 1 (z0r T s).2).2.next).1⟩],p.funcs⟩ (z0o T z5d (z0o T sSc (z0m T 0 (z0m T 1 (z0r T s).2).2.next).2))
  else z43 T N ⟨p.arrays,p.funcs++[(z75 T (z0r T s).1 (z0m T 1 (z0r T s).2).1 (z0m T 1 (z0r T s).2).2).1]⟩ (z75 T (z0r T s).1 (z0m T 1 (z0r T s).2).1 (z0m T 1 (z0r T s).2).2).2
def z9c(T:List Tk):Pg×Ps:=z43 T (big T) ⟨[],[]⟩ ⟨0,false,false⟩
section
structure Fw(T:List Tk)(s s':Ps):Prop where
 at_:s.at_<=s'.at_
 ov:s.over=true->s'.over=true
 lt:s.at_<T.length->s'.at_<T.length
variable {T:List Tk}
theorem Fw.rfl{s:Ps}:Fw T s s:=⟨Ae _,id,id⟩
theorem Fw.trans{a b c:Ps}(h:Fw T a b)(k:Fw T b c):Fw T a c:=⟨B9 h.at_ k.at_,λe=>k.ov (h.ov e),λe=>k.lt (h.lt e)⟩
theorem j1h(hT:TkOk T){s:Ps}(h:s.at_<T.length)(hk:(tkAt T s).kind≠3):s.at_+1<T.length:=by
 obtain⟨init,e,rfl,he,_⟩:=hT;rw[B5]at h⊢;rcases Dj (s.at_+1) (init.length+[e].length)with h'|h'
 ·exact h'
 ·refine absurd ?_ hk;have hi:s.at_=init.length:=by simp at h h';omega
  unfold tkAt;rw[hi];simpa using he
theorem z4n{w:ByteArray}{s:Ps}(h:pIs T w s=true):s.over=false/\(tkAt T s).kind=2:=by
 simp only[pIs,A0,Bc,Au]at h;exact⟨h.1,h.2.1⟩
theorem j0r(hT:TkOk T){s:Ps}(h:s.over=false)(hk:(tkAt T s).kind≠3):Fw T s s.next :=
 ⟨F9 _,λe=>(Bool.noConfusion (h.symm.trans e)),λe=>j1h hT e hk⟩
theorem z12(hT:TkOk T){w:ByteArray}{s:Ps}(h:pIs T w s=true):Fw T s s.next:=by
 have:=z4n h;exact j0r hT this.1 (by rw[this.2];decide)
theorem y0l{s:Ps}:Fw T s s.setBad:=⟨Ae _,λ_=>by simp[Ps.over,Ps.setBad],id⟩
theorem y3r{s:Ps}:Fw T s s.setDeep:=⟨Ae _,λ_=>by simp[Ps.over,Ps.setDeep],id⟩
theorem z0b(hT:TkOk T){w:ByteArray}{s:Ps}:Fw T s (z0o T w s):=by
 unfold z0o;split
 ·rename_i h;exact z12 hT h
 ·split
  ·exact .rfl
  ·exact y0l
theorem z1y(hT:TkOk T){k:Int}(hk:k≠3){s:Ps}:Fw T s (z0m T k s).2:=by
 unfold z0m;split
 ·exact .rfl
 ·split
  ·rename_i h1 h2;exact j0r hT (by simpa using h1) (by rw[h2];exact hk)
  ·exact y0l
theorem z5h(hT:TkOk T){s:Ps}:Fw T s (z0r T s).2:=by
 unfold z0r;split
 ·rename_i h;exact z12 hT h
 ·exact z0b hT
theorem zk8{d:Int}{s:Ps}:Fw T s (z4h d s):=by
 unfold z4h;split
 ·exact y3r
 ·exact .rfl
theorem y7y{d:Int}{s:Ps}:Fw T s (z39 d s):=by
 unfold z39;split
 ·exact y3r
 ·exact .rfl
theorem y3q(hT:TkOk T){b:Bool}{s:Ps}:Fw T s (aGo T b s):=by
 unfold aGo z8k;split
 ·exact .rfl
 ·split
  ·rename_i h;exact z12 hT h
  ·exact .rfl
theorem pUn_is{s:Ps}{o:Int}(h:pUn T s=some o):pIs T (zp7 o) s=true:=by
 unfold pUn at h;have:=List.find?_some h;exact this
theorem pOp_is{l:Int}{s:Ps}(h:pOp T l s≠0):pIs T (zp7 (pOp T l s)) s=true:=by
 unfold pOp at h⊢
 cases hq:List.find? (λo=>decide (z4j o=l)&&pIs T (zp7 o) s) [1,2,3,4,5,6,7,8,9,10,11,12,13,14,15,16,17,18,19]with
 |none=>rw[hq]at h;exact absurd _root_.rfl h
 |some o=>have:=List.find?_some hq;simp only[A0]at this;exact this.2
theorem z54(hT:TkOk T):∀N,(∀l d s,Fw T s (z30 T N l d s).2)/\(∀l d r,Fw T r.2 (zb8 T N l d r).2)/\(∀d s,Fw T s (z7m T N d s).2)/\(∀d s,Fw T s (y37 T N d s).2)/\(∀d s,Fw T s (z81 T N d s).2)/\(∀d b out s,Fw T s (za1 T N d b out s).2)
 |0=>⟨λ_ _ _=>.rfl,λ_ _ _=>.rfl,λ_ _=>.rfl,λ_ _=>.rfl,λ_ _=>.rfl,λ_ _ _ _=>.rfl⟩
 |N+1=>by
  obtain⟨iE,iL,iU,iP,iA,iG⟩:=z54 hT N;refine⟨λl d s=>?_,λl d r=>?_,λd s=>?_,λd s=>?_,λd s=>?_,λd b out s=>?_⟩
  ·unfold z30;split
   ·exact iU _ _
   ·exact(iE _ _ _).trans (iL _ _ _)
  ·unfold zb8;split
   ·exact .rfl
   ·rename_i h;exact(z12 hT (pOp_is h)).trans ((iE (l+1) d r.2.next).trans (iL l d (.mk 5 (pOp T l r.2) 0 s_ [r.1,(z30 T N (l+1) d r.2.next).1],(z30 T N (l+1) d r.2.next).2)))
  ·unfold z7m
   cases h:pUn T (z4h d s)with
   |none=>exact zk8.trans (iP _ _)
   |some o =>
    have h1:=(zk8 (T:=T) (d:=d) (s:=s)).trans (z12 hT (pUn_is h));dsimp only;split
    ·exact h1.trans ((z0b hT).trans ((iE _ _ _).trans (z0b hT)))
    ·exact h1.trans (iU _ _)
  ·unfold y37;split
   ·exact .rfl
   rename_i ho;split
   ·rename_i h;exact(z12 hT h).trans ((iE _ _ _).trans (z0b hT))
   split
   ·rename_i h;exact z12 hT h
   split
   ·rename_i h;exact z12 hT h
   split
   ·rename_i h;exact(z12 hT h).trans ((z0b hT).trans (z0b hT))
   split
   ·rename_i h;exact j0r hT (by simpa using ho) (by rw[h];decide)
   split
   ·rename_i h;exact(z1y hT dC0).trans ((z12 hT h).trans (iA _ _))
   split
   ·rename_i h;exact(z1y hT dC0).trans ((z12 hT h).trans ((iE _ _ _).trans (z0b hT)))
   ·exact z1y hT dC0
  ·unfold z81;split
   ·rename_i h;exact z12 hT h
   ·exact(iG _ _ _ _).trans (z0b hT)
  ·unfold za1;split
   ·exact(y3q hT).trans ((iE _ _ _).trans (iG _ _ _ _))
   ·exact y3q hT
theorem z56(hT:TkOk T){s:Ps}:Fw T s (mE T s).2:=by
 unfold mE;exact(z54 hT (big T)).1 1 1 s
attribute [local irreducible] mE z81
theorem z2s(hT:TkOk T){s:Ps}:Fw T s (z1z T s).2:=by
 unfold z1z;exact(z0b hT).trans ((z56 hT).trans (z0b hT))
theorem yk5(hT:TkOk T){s:Ps}:Fw T s (z5j T s).2:=by
 unfold z5j;split
 ·rename_i h;exact(z1y hT dC0).trans ((z12 hT h).trans ((z54 hT (big T)).2.2.2.2.1 _ _))
 split
 ·rename_i h;exact(z1y hT dC0).trans ((z12 hT h).trans ((z56 hT).trans ((z0b hT (w:=sSc)).trans ((z0b hT (w:=sEq)).trans (z56 hT)))))
 ·exact(z1y hT dC0).trans ((z0b hT).trans (z56 hT))
theorem fw_let(hT:TkOk T){s:Ps}:Fw T s (mLet T s).2:=by
 unfold mLet;exact(z5h hT).trans ((z1y hT dC0).trans ((z0b hT).trans (z56 hT)))
theorem fw_flat(hT:TkOk T){s:Ps}:Fw T s (zg2 T s).2:=by
 unfold zg2;split
 ·rename_i h;exact z12 hT h
 split
 ·rename_i h;exact z12 hT h
 split
 ·rename_i h;exact(z12 hT h).trans (z56 hT)
 split
 ·rename_i h;exact(z12 hT h).trans (z2s hT)
 ·exact yk5 hT
theorem z5g(hT:TkOk T):∀N,(∀d s,Fw T s (z62 T N d s).2)/\(∀d s,Fw T s (z21 T N d s).2)/\(∀d out s,Fw T s (z85 T N d out s).2)
 |0=>⟨λ_ _=>y0l,λ_ _=>.rfl,λ_ _ _=>.rfl⟩
 |N+1=>by
  obtain⟨iS,iB,iL⟩:=z5g hT N;refine⟨λd s=>?_,λd s=>?_,λd out s=>?_⟩
  ·unfold z62;refine(y7y (d:=d)).trans ?_;split
   ·exact(fw_let hT).trans (z0b hT (w:=z5d))
   split
   ·rename_i h;split
    ·rename_i h2;exact(z12 hT h).trans ((z2s hT).trans ((iB _ _).trans ((z12 hT h2).trans (iB _ _))))
    ·exact(z12 hT h).trans ((z2s hT).trans (iB _ _))
   split
   ·rename_i h;exact(z12 hT h).trans ((z2s hT).trans (iB _ _))
   ·exact(fw_flat hT).trans (z0b hT (w:=z5d))
  ·unfold z21;exact(z0b hT).trans (iL _ _ _)
  ·unfold z85;split
   ·exact .rfl
   split
   ·rename_i h;exact z12 hT h
   ·exact(iS _ _).trans (iL _ _ _)
theorem yk6(hT:TkOk T):∀N b out s,Fw T s (za2 T N b out s).2
 |0,_,_,_=>.rfl
 |N+1,b,out,s=>by
  unfold za2;split
  ·exact(y3q hT).trans ((z5h hT).trans ((z1y hT dC0).trans (yk6 hT N _ _ _)))
  ·exact y3q hT
theorem zk7(hT:TkOk T){s:Ps}:Fw T s (z7k T s).2:=by
 unfold z7k;split
 ·rename_i h;exact z12 hT h
 ·exact(yk6 hT _ _ _ _).trans (z0b hT)
theorem yb9(hT:TkOk T){t:Int}{n:ByteArray}{s:Ps}:Fw T s (z75 T t n s).2:=by
 unfold z75;exact(z0b hT).trans ((zk7 hT).trans ((z5g hT (big T)).2.1 _ _))
def Go1(s s':Ps):Prop:=s'.over=true∨s.at_<s'.at_
theorem Go1.then{a b c:Ps}(h:Go1 a b)(k:Fw T b c):Go1 a c:=h.elim (λe=>.inl (k.ov e)) λe=>.inr (B8 e k.at_)
theorem Go1.after{a b c:Ps}(k:Fw T a b)(h:Go1 b c):Go1 a c:=h.elim .inl λe=>.inr (Nat.lt_of_le_of_lt k.at_ e)
theorem z8h{s:Ps}:Go1 s s.next:=.inr (Aa _)
theorem zh9{w:ByteArray}{s:Ps}:Go1 s (z0o T w s):=by
 unfold z0o;split
 ·exact z8h
 ·split
  ·rename_i h;exact .inl (by simp[Ps.over,h])
  ·exact .inl (by simp[Ps.over,Ps.setBad])
theorem z6q{k:Int}{s:Ps}:Go1 s (z0m T k s).2:=by
 unfold z0m;split
 ·rename_i h;exact .inl h
 ·split
  ·exact z8h
  ·exact .inl (by simp[Ps.over,Ps.setBad])
theorem zl0{s:Ps}:Go1 s (z0r T s).2:=by
 unfold z0r;split
 ·exact z8h
 ·exact zh9
theorem go_named(hT:TkOk T){s:Ps}:Go1 s (z5j T s).2:=by
 unfold z5j;split
 ·rename_i h;exact z6q.then ((z12 hT h).trans ((z54 hT (big T)).2.2.2.2.1 _ _))
 split
 ·rename_i h;exact z6q.then ((z12 hT h).trans ((z56 hT).trans ((z0b hT (w:=sSc)).trans ((z0b hT (w:=sEq)).trans (z56 hT)))))
 ·exact z6q.then ((z0b hT).trans (z56 hT))
theorem go_flat(hT:TkOk T){s:Ps}:Go1 s (zg2 T s).2:=by
 unfold zg2;split
 ·exact z8h
 split
 ·exact z8h
 split
 ·exact z8h.then (z56 hT)
 split
 ·exact z8h.then (z2s hT)
 ·exact go_named hT
theorem go_stmt(hT:TkOk T)(N:Nat){d:Int}{s:Ps}:Go1 s (z62 T N d s).2:=by
 cases N with
 |zero=>exact .inl (by simp[z62,Ps.over,Ps.setBad])
 |succ N =>
 obtain⟨iS,iB,iL⟩:=z5g hT N;unfold z62;refine Go1.after (y7y (d:=d) (T:=T)) ?_;split
 ·exact zl0.then ((z1y hT (k:=1) dC0).trans ((z0b hT (w:=sEq)).trans ((z56 hT).trans (z0b hT (w:=z5d)))))
 split
 ·rename_i h;split
  ·rename_i h2;exact z8h.then ((z2s hT).trans ((iB _ _).trans ((z12 hT h2).trans (iB _ _))))
  ·exact z8h.then ((z2s hT).trans (iB _ _))
 split
 ·exact z8h.then ((z2s hT).trans (iB _ _))
 ·exact(go_flat hT).then (z0b hT (w:=z5d))
end
def psO(T:List Tk)(s:Ps):List (Nat×HO):=[(1,.box [.pv (tks T),iInt (s.at_:Nat),iBool s.bad,iBool s.deep])]
theorem yi4{T:List Tk}{s:Ps}(h:s.at_<T.length):(T.map Tk.enc)[s.at_]?=some (tkAt T s).enc:=by
 unfold tkAt;rw[Ba,Ax,A8 h];rfl
theorem z78(T:List Tk)(s:Ps):SC Tryz.prog 78 [.ptr 1 0] (psO T s) (λk=>k∈[1]) (iBool s.over) (psO T s):=by
 refine SC.vc tb {} [1] Tryz.func78 rfl rfl ?_;unfold Ps.over;exact z00 (λh=>⟨sE (by rw[h];rfl),rfl,Gb⟩) λh=>⟨sE (by rw[h];rfl),rfl,Gb⟩
theorem yp0(T:List Tk)(s:Ps)(h:s.at_<T.length)(w:ByteArray):SC Tryz.prog 129 [.ptr 1 0,.pv (.val (.string w))] (psO T s) (λk=>k∈[1]) (iBool (pIs T w s)) (psO T s):=by
 refine SC.vc tb {} [1] Tryz.func129 rfl rfl ?_;refine⟨[1],z78 T s,sR,⟨rfl,rfl,.head _,Gb⟩,rfl,z00 (λh1=>⟨yi4 h,rfl,z00 (λh2=>⟨yi4 h,rfl,sE ?_,rfl,Gb⟩) λh2=>⟨sE ?_,rfl,Gb⟩⟩) λh1=>⟨sE ?_,rfl,Gb⟩⟩
 ·unfold pIs eqS;rw[h1,show((tkAt T s).kind==2)=true from h2];rfl
 ·unfold pIs;rw[h1,show((tkAt T s).kind==2)=false from h2];rfl
 ·unfold pIs;rw[h1];rfl
theorem z48(T:List Tk)(s:Ps)(h:s.at_<T.length)(hb:T.length<=1073741824)(w:ByteArray):SC Tryz.prog 81 [.ptr 1 0,.pv (.val (.string w))] (psO T s) (λk=>k∈[]) (iBool (z8k T w s).1) (psO T (z8k T w s).2):=by
 refine SC.vc tb {} [] Tryz.func81 rfl rfl ?_;unfold z8k;refine⟨[1],yp0 T s h w,sR,Gd,rfl,z00 (λh1=>?_) λh1=>?_⟩
 ·rw[if_pos h1];exact⟨z01 rfl oM0,sE (by rw[h1]),rfl,Gb⟩
 ·rw[if_neg (by rw[h1];decide)];exact⟨sE (by rw[h1]),rfl,Gb⟩
theorem z19(T:List Tk)(s:Ps)(h:s.at_<T.length)(hb:T.length<=1073741824)(w:ByteArray):SC Tryz.prog 83 [.ptr 1 0,.pv (.val (.string w))] (psO T s) (λk=>k∈[]) (.tup []) (psO T (z0o T w s)):=by
 have ht:=z48 T s h hb w;unfold z8k at ht;refine SC.vc tb {} [] Tryz.func83 rfl rfl ?_;unfold z0o
 cases h1:pIs T w s with
 |true =>
  rw[h1]at ht
  exact⟨[],ht,sR,Gc,rfl,sI,rfl,Gb⟩
 |false =>
  rw[h1]at ht;refine⟨[],ht,sR,Gc,rfl,?_⟩;obtain⟨at_,bad,deep⟩:=s
  cases deep with
  |true=>exact⟨sI,rfl,Gb⟩
  |false=>exact⟨sI,rfl,Gb⟩
theorem z89(T:List Tk)(s:Ps)(h:s.at_<T.length)(hb:T.length<=1073741824)(k:Int):SC Tryz.prog 80 [.ptr 1 0,.pv (.val (.int .i64 k))] (psO T s) (λk=>k∈[]) (.pv (.val (.string (z0m T k s).1))) (psO T (z0m T k s).2):=by
 refine SC.vc tb {} [] Tryz.func80 rfl rfl ?_;unfold z0m;refine⟨[1],z78 T s,sR,Gd,rfl,z00 (λh1=>?_) λh1=>?_⟩
 ·rw[if_pos h1];exact⟨sI,rfl,Gb⟩
 ·rw[if_neg (by rw[h1];decide)];refine⟨yi4 h,rfl,z00 (λh2=>?_) λh2=>?_⟩
  ·have h2:¬(tkAt T s).kind=k:=by simpa using h2
   rw[if_neg h2];exact⟨sI,rfl,Gb⟩
  ·have h2:(tkAt T s).kind=k:=by simpa using h2
   rw[if_pos h2];exact⟨z01 rfl oM0,sI,rfl,Gb⟩
theorem zn8(T:List Tk)(hT:TkOk T)(s:Ps)(h:s.at_<T.length)(hb:T.length<=1073741824):SC Tryz.prog 79 [.ptr 1 0] (psO T s) (λk=>k∈[]) (iInt (z0r T s).1) (psO T (z0r T s).2):=by
 have ht:=z48 T s h hb sInt;unfold z8k at ht;refine SC.vc tb {} [] Tryz.func79 rfl rfl ?_;unfold z0r
 cases h1:pIs T sInt s with
 |true =>
  rw[h1]at ht
  exact⟨[],ht,sR,Gc,rfl,sI,rfl,Gb⟩
 |false =>
  rw[h1]at ht;exact⟨[],ht,sR,Gc,rfl,[],z19 T s h hb j2l,sR,Gc,rfl,sI,rfl,Gb⟩
def j3y:List (List PV):=wSigns.tail.map λs=>[.val (.string s)]
theorem sc_signs:SC Tryz.prog 265 [] [] (λk=>k∈[]) (.pv (.seq j3y)) []:=by
 refine SC.vc tb {} [] Tryz.func265 rfl rfl ?_;exact⟨sI,Gb⟩
theorem ops28{op:Int}(h0:1<=op)(h1:op<=28):op=1∨op=2∨op=3∨op=4∨op=5∨op=6∨op=7∨op=8∨op=9∨op=10∨op=11∨op=12∨op=13∨op=14∨op=15∨op=16∨op=17∨op=18∨op=19∨op=20∨op=21∨op=22∨op=23∨op=24∨op=25∨op=26∨op=27∨op=28:=by omega
theorem sign_get{op:Int}(h0:1<=op)(h1:op<=28):j3y[(op-1).toNat]?=some [.val (.string (zp7 op))]:=by
 rcases ops28 h0 h1 with rfl|rfl|rfl|rfl|rfl|rfl|rfl|rfl|rfl|rfl|rfl|rfl|rfl|rfl|rfl|rfl|rfl|rfl|rfl|rfl|rfl|rfl|rfl|rfl|rfl|rfl|rfl|rfl<;>rfl
theorem y4q(op:Int)(h0:1<=op)(h1:op<=28):SC Tryz.prog 250 [.pv (.val (.int .i64 op))] [] (λk=>k∈[]) (.pv (.val (.string (zp7 op)))) []:=by
 refine SC.vc tb {} [] Tryz.func250 rfl rfl ?_;refine z00 (λh=>?_) λh=>?_
 ·have:=An h;omega
 ·refine z00 (λh2=>?_) λh2=>?_
  ·have:=An h2;omega
  ·exact⟨[],sc_signs,sR,Gb,rfl,z3b rfl oM0,sign_get h0 h1,by omega,sI,Gb⟩
theorem y4p(op:Int)(h0:1<=op)(h1:op<=19):SC Tryz.prog 181 [.pv (.val (.int .i64 op))] [] (λk=>k∈[]) (iInt (z4j op)) []:=by
 refine SC.vc tb {} [] Tryz.func181 rfl rfl ?_;rcases(show op=1∨op=2∨op=3∨op=4∨op=5∨op=6∨op=7∨op=8∨op=9∨op=10∨op=11∨op=12∨op=13∨op=14∨op=15∨op=16∨op=17∨op=18∨op=19 by omega)with rfl|rfl|rfl|rfl|rfl|rfl|rfl|rfl|rfl|rfl|rfl|rfl|rfl|rfl|rfl|rfl|rfl|rfl|rfl<;>exact⟨sI,Gb⟩
def y1b(k n:Nat):List Int:=(List.range n).map λi=>((k+i:Nat):Int)
theorem zv8(k n:Nat):y1b k (n+1)=(k:Int)::y1b (k+1) n:=by
 unfold y1b;rw[List.range_succ_eq_map];simp only[B3,El]
 congr 1
 refine List.map_congr_left λi _=>?_;show((k+(i+1):Nat):Int)=((k+1+i:Nat):Int)
 congr 1
 omega
theorem sc_pop(T:List Tk)(s:Ps)(h:s.at_<T.length)(level:Int):SC Tryz.prog 236 [.ptr 1 0,.pv (.val (.int .i64 level))] (psO T s) (λk=>k∈[1]) (iInt (pOp T level s)) (psO T s):=by
 refine SC.vc tb {} [1] Tryz.func236 rfl rfl ?_;refine⟨Nat,λk=>[(5,iInt ((k:Nat):Int))],λ_=>[],λk=>20-k,λk=>1<=k/\k<=20/\pOp T level s=((y1b k (20-k)).find? λo=>decide (z4j o=level)&&pIs T (zp7 o) s).getD 0,[],1,⟨Ae _,by decide,rfl⟩,Gc,Gb,?_⟩;rintro k ⟨h1,h2,h3⟩;refine z00 (λhc=>?_) λhc=>?_
 ·have hk:k<=19:=by have:=An hc;omega
  rw[show 20-k=(19-k)+1 by omega,zv8,List.find?_cons]at h3;refine⟨[],y4p k oM0 oM0,sR,Gb,rfl,z00 (λe1=>?_) λe1=>?_⟩
  ·refine⟨[],y4q k oM0 oM0,sR,Gb,rfl,[1],yp0 T s h _,sR,⟨rfl,rfl,.head _,Gb⟩,rfl,z00 (λe2=>?_) λe2=>?_⟩
   ·rw[C9 (eq_of_beq e1),e2]at h3;exact⟨sE (by rw[h3];rfl),rfl,Gb⟩
   ·rw[e2,Cv]at h3;exact⟨z01 rfl oM0,k+1,by omega,⟨by omega,by omega,by rw[h3,show 20-(k+1)=19-k by omega]⟩,Gc,Gb,rfl,rfl,rfl,rfl⟩
  ·rw[Dc (λe=>by rw[e]at e1;simp at e1),Cn]at h3;exact⟨z01 rfl oM0,k+1,by omega,⟨by omega,by omega,by rw[h3,show 20-(k+1)=19-k by omega]⟩,Gc,Gb,rfl,rfl,rfl,rfl⟩
 ·have hk:k=20:=by have:=Al hc;omega
  subst hk;exact⟨sE (by rw[h3];rfl),rfl,Gb⟩
section
variable {T:List Tk}
theorem y32(k o n:Int)(s:ByteArray)(a:List Ex):xz (.mk k o n s a)=1+xzL a:=by simp only[xz]
theorem xz_x0:xz x0=1:=rfl
theorem z6z(a:Ex):xzL [a]=xz a:=by simp[xzL]
theorem j5f(a b:Ex):xzL [a,b]=xz a+xz b:=by simp[xzL]
theorem z0n(s:Ps):s.next.at_=s.at_+1:=rfl
theorem y5h(hT:TkOk T):∀N,(∀l d s,xz (z30 T N l d s).1+2*s.at_<=1+2*(z30 T N l d s).2.at_)/\(∀l d r,xz (zb8 T N l d r).1+2*r.2.at_<=xz r.1+2*(zb8 T N l d r).2.at_)/\(∀d s,xz (z7m T N d s).1+2*s.at_<=1+2*(z7m T N d s).2.at_) /\
 (∀d s,xz (y37 T N d s).1+2*s.at_<=1+2*(y37 T N d s).2.at_)/\(∀d s,xzL (z81 T N d s).1+2*s.at_<=1+2*(z81 T N d s).2.at_)/\(∀d b out s,xzL (za1 T N d b out s).1+2*s.at_<=xzL out+(bif b then 1 else 0)+2*(za1 T N d b out s).2.at_)
 |0=>⟨λ_ _ _=>Ae _,λ_ _ _=>Ae _,λ_ _=>Ae _,λ_ _=>Ae _,λ_ s=>by show 0+2*s.at_<=1+2*s.at_;omega,λ_ b out s=>by show xzL out+2*s.at_<=_+2*s.at_;omega⟩
 |N+1=>by
  obtain⟨iE,iL,iU,iP,iA,iG⟩:=y5h hT N;refine⟨λl d s=>?_,λl d r=>?_,λd s=>?_,λd s=>?_,λd s=>?_,λd b out s=>?_⟩
  ·unfold z30;split
   ·exact iU _ _
   ·have h1:=iE (l+1) d s;have h2:=iL l d (z30 T N (l+1) d s);omega
  ·unfold zb8;split
   ·exact Ae _
   ·have h1:=iE (l+1) d r.2.next;have h2:=iL l d (.mk 5 (pOp T l r.2) 0 s_ [r.1,(z30 T N (l+1) d r.2.next).1],(z30 T N (l+1) d r.2.next).2);simp only[y32,j5f]at h2;rw[z0n]at h1;omega
  ·unfold z7m;have h0:=(zk8 (T:=T) (d:=d) (s:=s)).at_;have h0':(z4h d s).at_=s.at_:=by unfold z4h;split<;>rfl
   cases h:pUn T (z4h d s)with
   |none =>
    have:=iP d (z4h d s);dsimp only
    omega
   |some o =>
    dsimp only;split
    ·have h1:=iE 1 (d+1) (z0o T sRo (z4h d s).next);have h2:=(z0b hT (w:=sRo) (s:=(z4h d s).next)).at_;have h3:=(z0b hT (w:=sRc) (s:=(z30 T N 1 (d+1) (z0o T sRo (z4h d s).next)).2)).at_;rw[z0n]at h2;simp only[y32,z6z];omega
    ·have h1:=iU (d+1) (z4h d s).next;rw[z0n]at h1;simp only[y32,z6z];omega
  ·unfold y37;split
   ·simp[xz_x0]
   split
   ·have h1:=iE 1 (d+1) s.next;have h3:=(z0b hT (w:=sRc) (s:=(z30 T N 1 (d+1) s.next).2)).at_;rw[z0n]at h1;dsimp only;omega
   split
   ·simp only[y32,xzL,z0n];omega
   split
   ·simp only[y32,xzL,z0n];omega
   split
   ·have h2:=(z0b hT (w:=sRo) (s:=s.next)).at_;have h3:=(z0b hT (w:=sRc) (s:=z0o T sRo s.next)).at_;rw[z0n]at h2;simp only[y32,xzL];omega
   split
   ·simp only[y32,xzL,z0n];omega
   have hx:=(z1y hT (k:=1) dC0 (s:=s)).at_;split
   ·have h1:=iA (d+1) (z0m T 1 s).2.next;rw[z0n]at h1;simp only[y32];omega
   split
   ·have h1:=iE 1 (d+1) (z0m T 1 s).2.next;have h3:=(z0b hT (w:=sSc) (s:=(z30 T N 1 (d+1) (z0m T 1 s).2.next).2)).at_;rw[z0n]at h1;simp only[y32,z6z];omega
   ·simp only[y32,xzL];omega
  ·unfold z81;split
   ·simp only[xzL,z0n];omega
   ·have h1:=iG d true [] s;have h3:=(z0b hT (w:=sRc) (s:=(za1 T N d true [] s).2)).at_;simp only[xzL,Dw]at h1;dsimp only;omega
  ·unfold za1;have h0:=(y3q hT (b:=b) (s:=s)).at_;split
   ·rename_i hc;have h1:=iE 1 d (aGo T b s);have h2:=iG d false (out++[(z30 T N 1 d (aGo T b s)).1]) (z30 T N 1 d (aGo T b s)).2;rw[j5e,z6z]at h2
    cases b with
    |true =>
     simp only[Dw,Cu]at h2⊢
     omega
    |false =>
     have hi:pIs T zn4 s=true:=by simpa using hc.1
     have h3:(aGo T false s).at_=s.at_+1:=by simp[aGo,z8k,hi,z0n]
     simp only[Cu]at h2⊢;omega
   ·dsimp only;omega
theorem yt2(hT:TkOk T)(s:Ps):xz (mE T s).1+2*s.at_<=1+2*(mE T s).2.at_:=(y5h hT (big T)).1 1 1 s
theorem ym2(hT:TkOk T)(d:Int)(s:Ps):xzL (z81 T (big T) d s).1+2*s.at_<=1+2*(z81 T (big T) d s).2.at_:=(y5h hT (big T)).2.2.2.2.1 d s
theorem y0q(hT:TkOk T)(s:Ps):xz (z1z T s).1+2*s.at_<=1+2*(z1z T s).2.at_:=by
 have h1:=yt2 hT (z0o T sRo s);have h2:=(z0b hT (w:=sRo) (s:=s)).at_;have h3:=(z0b hT (w:=sRc) (s:=(mE T (z0o T sRo s)).2)).at_;unfold z1z;dsimp only;omega
end
def rem(T:List Tk)(s:Ps):Nat:=20*(T.length-s.at_)
def exB(x:Ex):HO:=.box [iInt x.kind,iInt x.op,iInt x.n,.pv (vStr x.name),.pv (exs x.args)]
def psB(T:List Tk)(s:Ps):HO:=.box [.pv (tks T),iInt (s.at_:Nat),iBool s.bad,iBool s.deep]
def dOk(T:List Tk)(d:Int)(s:Ps):Prop:=0<=d/\d+(T.length:Int)<=4294967296+(s.at_:Int)
theorem dOk.fw{T:List Tk}{d:Int}{s s':Ps}(h:dOk T d s)(k:s.at_<=s'.at_):dOk T d s':=⟨h.1,by have:=h.2;omega⟩
theorem dOk.up{T:List Tk}{d:Int}{s s':Ps}(h:dOk T d s)(k:s.at_<s'.at_):dOk T (d+1) s':=⟨by have:=h.1;omega,by have:=h.2;omega⟩
def fE(T:List Tk)(l d:Int)(s:Ps)(r:Ex×Ps):Prop:=SC Tryz.prog 208 [.ptr 1 0,.pv (.val (.int .i64 l)),.pv (.val (.int .i64 d))] (psO T s) (λk=>k∈[]) (.pv (exv r.1)) (psO T r.2)
def fU(T:List Tk)(d:Int)(s:Ps)(r:Ex×Ps):Prop:=SC Tryz.prog 235 [.ptr 1 0,.pv (.val (.int .i64 d))] (psO T s) (λk=>k∈[]) (.pv (exv r.1)) (psO T r.2)
def fP(T:List Tk)(d:Int)(s:Ps)(r:Ex×Ps):Prop:=SC Tryz.prog 251 [.ptr 1 0,.pv (.val (.int .i64 d))] (psO T s) (λk=>k∈[]) (.pv (exv r.1)) (psO T r.2)
def fA(T:List Tk)(d:Int)(s:Ps)(r:List Ex×Ps):Prop:=SC Tryz.prog 237 [.ptr 1 0,.pv (.val (.int .i64 d))] (psO T s) (λk=>k∈[]) (.pv (exs r.1)) (psO T r.2)
def SCE(T:List Tk)(N:Nat):Prop:=∀(l d:Int)(s:Ps),1<=l->l<=11->dOk T d s->s.at_<T.length->rem T s+(14-l).toNat<=N->fE T l d s (z30 T N l d s)
def SCU(T:List Tk)(N:Nat):Prop:=∀(d:Int)(s:Ps),dOk T d s->s.at_<T.length->rem T s+2<=N->fU T d s (z7m T N d s)
def SCP(T:List Tk)(N:Nat):Prop:=∀(d:Int)(s:Ps),dOk T d s->s.at_<T.length->rem T s+1<=N->fP T d s (y37 T N d s)
def SCA(T:List Tk)(N:Nat):Prop:=∀(d:Int)(s:Ps),dOk T d s->s.at_<T.length->rem T s+17<=N->fA T d s (z81 T N d s)
theorem ex2(a b:Ex):exs [a,b]=.seq [[vInt a.kind,vInt a.op,vInt a.n,vStr a.name,exs a.args],[vInt b.kind,vInt b.op,vInt b.n,vStr b.name,exs b.args]]:=by
 simp only[exs,B3,Cs,Ex.enc_eq]
theorem ex1(a:Ex):exs [a]=.seq [[vInt a.kind,vInt a.op,vInt a.n,vStr a.name,exs a.args]]:=by
 simp only[exs,B3,Cs,Ex.enc_eq]
theorem y96(T:List Tk)(hT:TkOk T)(hb:T.length<=1073741824)(N:Nat)(ihE:∀M,M<=N->SCE T M)(ihU:SCU T N):SCE T (N+1):=by
 intro l d s h1 h2 hd h hm;refine SC.vc tb {} [] Tryz.func208 rfl rfl ?_;refine z00 (λh3=>?_) λh3=>?_
 ·have h3:=An h3;have e:l=11:=by omega
  subst e;have hu:=ihU d s hd h oM0;rw[show z30 T (N+1) 11 d s=z7m T N d s by rw[z30,if_pos h3]];exact⟨[],hu,sR,Gc,rfl,sI,rfl,Gb⟩
 ·have h3:=Al h3;have he:=ihE N (Ae _) (l+1) d s oM0 oM0 hd h oM0;have hf:=(z54 hT N).1 (l+1) d s;rw[show z30 T (N+1) l d s=zb8 T N l d (z30 T N (l+1) d s) by rw[z30,if_neg h3]];have hr:rem T (z30 T N (l+1) d s).2<=rem T s:=by have:=hf.at_;unfold rem;omega
  generalize z30 T N (l+1) d s=r0 at he hf hr;refine⟨z01 rfl oM0,[],he,sR,Gc,rfl,Nat×(Ex×Ps),λ_=>[],λa=>[(107,exB a.2.1),(1,psB T a.2.2)],λa=>a.1,
   λa=>zb8 T N l d r0=zb8 T a.1 l d a.2/\s.at_<=a.2.2.at_/\a.2.2.at_<T.length/\rem T a.2.2+(13-l).toNat<=a.1/\a.1<=N,[],(N,r0),⟨rfl,hf.at_,hf.lt h,by dsimp only;omega,Ae _⟩,Gb,Gd,?_⟩
  rintro⟨n,r⟩ ⟨i1,i0,i2,i3,i4⟩;dsimp only at i1 i0 i2 i3 i4;obtain⟨m,rfl⟩:∃m,n=m+1:=⟨n-1,by unfold rem at i3;omega⟩;rw[zb8]at i1;refine⟨[],sc_pop T r.2 i2 l,sR,Gc,rfl,z00 (λe1=>?_) λe1=>?_⟩
  ·have e1:pOp T l r.2=0:=eq_of_beq e1;rw[if_pos e1]at i1;rw[i1];exact⟨sI,rfl,Gb⟩
  ·have e1:¬pOp T l r.2=0:=by simpa using e1
   rw[if_neg e1]at i1;have hn:=j1h hT i2 (by rw[(z4n (pOp_is e1)).2];decide);have hr2:rem T r.2.next+20<=rem T r.2:=by unfold rem;rw[z0n];omega
   have he2:=ihE m oM0 (l+1) d r.2.next oM0 oM0 (hd.fw (by rw[z0n];omega)) hn oM0;have hf2:=(z54 hT m).1 (l+1) d r.2.next;have hr3:rem T (z30 T m (l+1) d r.2.next).2<=rem T r.2.next:=by have:=hf2.at_;unfold rem;omega
   generalize z30 T m (l+1) d r.2.next=r2 at he2 hf2 hr3 i1;refine⟨z01 rfl oM0,z01 rfl oM0,[],he2,sR,Gc,rfl,(m,(.mk 5 (pOp T l r.2) 0 s_ [r.1,r2.1],r2.2)),Aa _,⟨i1,by have:=hf2.at_;rw[z0n]at this;dsimp only;omega,hf2.lt hn,by dsimp only;omega,by dsimp only;omega⟩,Gb,⟨?_,rfl,Gb⟩,rfl,rfl,rfl,rfl⟩;exact(Af (λp=>some (HO.box [iInt 5,iInt (pOp T l r.2),iInt 0,.pv (vStr s_),.pv p])) (ex2 r.1 r2.1)).symm
theorem y6x(T:List Tk)(hT:TkOk T)(hb:T.length<=1073741824)(N:Nat)(ihE:SCE T N)(ihU:SCU T N)(ihP:SCP T N):SCU T (N+1):=by
 intro d s hd h hm;refine SC.vc tb {} [] Tryz.func235 rfl rfl ?_;obtain⟨s1,es⟩:∃x,x=z4h d s:=⟨_,rfl⟩;have hf1:Fw T s s1:=by rw[es];exact zk8
 have ha1:s1.at_=s.at_:=by rw[es];unfold z4h;split<;>rfl
 have hM:z7m T (N+1) d s=match pUn T s1 with
  |none=>y37 T N d s1
  |some op=>if op≥23 then(.mk 4 op 0 s_ [(z30 T N 1 (d+1) (z0o T sRo s1.next)).1],z0o T sRc (z30 T N 1 (d+1) (z0o T sRo s1.next)).2)
   else(.mk 4 op 0 s_ [(z7m T N (d+1) s1.next).1],(z7m T N (d+1) s1.next).2):=by rw[es];rfl
 generalize z7m T (N+1) d s=R at hM;have hd1:dOk T d s1:=hd.fw hf1.at_;have hl1:s1.at_<T.length:=by rw[ha1];exact h
 have hm1:rem T s1+2<=N+1:=by unfold rem at hm⊢;rw[ha1];exact hm
 clear hd hm hf1;obtain⟨at_,bad,deep⟩:=s
 cases bad
 all_goals refine z00 (λc1=>?_) λc1=>?_
 have e:s1=⟨at_,false,true⟩:=by rw[es];unfold z4h;rw[if_pos ⟨An c1,rfl⟩];rfl
 rotate_left
 have e:s1=⟨at_,false,deep⟩:=by rw[es];unfold z4h;rw[if_neg (λg=>Al c1 g.1)]
 rotate_left
 have e:s1=⟨at_,true,deep⟩:=by rw[es];unfold z4h;rw[if_neg (λg=>by cases g.2)]
 rotate_left
 have e:s1=⟨at_,true,deep⟩:=by rw[es];unfold z4h;rw[if_neg (λg=>by cases g.2)]
 rotate_left
 all_goals
  clear es c1;refine⟨Nat,λk=>[(5,iInt ((k:Nat):Int))],λ_=>[(1,psB T s1)],λk=>29-k,λk=>20<=k/\k<=29/\pUn T s1=(y1b k (29-k)).find? λo=>pIs T (zp7 o) s1,[],20,⟨Ae _,by decide,rfl⟩,Gc,⟨by rw[e];rfl,Gb⟩,?_⟩;rintro k ⟨h1,h2,h3⟩;refine z00 (λhc=>?_) λhc=>?_
  ·have hk:k<=28:=by have:=An hc;omega
   rw[show 29-k=(28-k)+1 by omega,zv8,List.find?_cons]at h3;have ht:=z48 T s1 hl1 hb (zp7 k);unfold z8k at ht;refine⟨[],y4q k oM0 oM0,sR,Gb,rfl,?_⟩
   cases hp:pIs T (zp7 k) s1 with
   |false =>
    rw[hp]at ht h3
    exact⟨[],ht,sR,Gc,rfl,z01 rfl oM0,k+1,by omega,⟨by omega,by omega,by rw[h3,show 29-(k+1)=28-k by omega]⟩,Gc,Gc,rfl,rfl,rfl,rfl⟩
   |true =>
    rw[hp]at ht h3;dsimp only at h3;rw[h3]at hM;dsimp only at hM;have hn:=(z12 hT hp).lt hl1;have hr:=show rem T s1.next+20<=rem T s1 by unfold rem;rw[z0n]at hn⊢;omega
    have hd2:dOk T (d+1) s1.next:=hd1.up (Aa _);refine⟨[],ht,sR,Gc,rfl,z00 (λg1=>?_) λg1=>?_⟩
    ·have g1:=An g1;rw[if_pos g1]at hM;have hf2:=z0b hT (w:=sRo) (s:=s1.next);have he:=ihE 1 (d+1) (z0o T sRo s1.next) oM0 oM0 (hd2.fw hf2.at_) (hf2.lt hn) (by have:=hf2.at_;unfold rem at hr hm1⊢;omega);have hf3:=((z54 hT N).1 1 (d+1) (z0o T sRo s1.next)).lt (hf2.lt hn);generalize z30 T N 1 (d+1) (z0o T sRo s1.next)=r at he hM hf3;subst hM;refine⟨[],z19 T s1.next hn hb sRo,sR,Gc,rfl,z00 (λ_=>?_) λg2=>absurd g1 (Al g2)⟩;refine⟨z01 rfl (by have:=hd2.1;have:=hd2.2;omega),[],he,sR,Gc,rfl,[],z19 T r.2 hf3 hb sRc,sR,Gc,rfl,?_⟩;exact⟨sE (Af (λp=>IV.pv (.agg [vInt 4,vInt (k:Int),vInt 0,vStr s_,p])) (ex1 r.1).symm),rfl,Gb⟩
    ·have g1:=Al g1;rw[if_neg g1]at hM;have hu:=ihU (d+1) s1.next hd2 hn oM0;generalize z7m T N (d+1) s1.next=r at hu hM;subst hM;refine z00 (λg2=>absurd (An g2) g1) λ_=>?_;refine⟨z01 rfl (by have:=hd2.1;have:=hd2.2;omega),[],hu,sR,Gc,rfl,?_⟩;exact⟨sE (Af (λp=>IV.pv (.agg [vInt 4,vInt (k:Int),vInt 0,vStr s_,p])) (ex1 r.1).symm),rfl,Gb⟩
  ·have hk:k=29:=by have:=Al hc;omega
   subst hk;rw[show pUn T s1=none from h3]at hM;subst hM;exact⟨[],ihP d s1 hd1 hl1 oM0,sR,Gc,rfl,sI,rfl,Gb⟩
theorem zv2{w:ByteArray}(h:zl4 w=true):w.data.toList.all (λb=>z3y b.toNat)=true:=by
 unfold zl4 at h;simp only[A0]at h;exact h.1
def TkSz(T:List Tk):Prop:=∀t∈T,t.text.size<=1073741824
theorem j4d{T:List Tk}{s:Ps}(h:s.at_<T.length):tkAt T s∈T:=by
 unfold tkAt;rw[Ax,A8 h];exact D6 h
theorem tk_num{T:List Tk}(hT:TkOk T){s:Ps}(h:s.at_<T.length)(hk:(tkAt T s).kind=0):zl4 (tkAt T s).text=true:=by
 have hm:=j4d h;obtain⟨init,e,rfl,he,hi⟩:=hT;rcases B4.1 hm with hm|hm
 ·exact(hi _ hm).2 hk
 ·rw[Ak.1 hm,he]at hk;cases hk
theorem y99(T:List Tk)(hT:TkOk T)(hS:TkSz T)(hb:T.length<=1073741824)(N:Nat)(ihE:SCE T N)(ihA:SCA T N):SCP T (N+1):=by
 intro d s hd h hm;refine SC.vc tb {} [] Tryz.func251 rfl rfl ?_;generalize hM:y37 T (N+1) d s=R;unfold y37 at hM;have tk:∀w,SC Tryz.prog 81 [.ptr 1 0,.pv (.val (.string w))] (psO T s) (λk=>k∈[]) (iBool (if pIs T w s then(true,s.next)else(false,s)).1) (psO T (if pIs T w s then(true,s.next)else(false,s)).2):=λw=>z48 T s h hb w;have nx:∀{w},pIs T w s=true->s.next.at_<T.length/\rem T s.next+20<=rem T s/\dOk T (d+1) s.next:=λ{w} hp=>by
  have hn:=(z12 hT hp).lt h;exact⟨hn,by unfold rem;rw[z0n]at hn⊢;omega,hd.up (Aa _)⟩
 refine⟨[],z78 T s,sR,Gc,rfl,z00 (λo1=>?_) λo1=>?_⟩
 ·rw[if_pos o1]at hM;subst hM;exact⟨sP (z0c _),rfl,Gb⟩
 rw[if_neg (by rw[o1];decide)]at hM
 cases p1:pIs T sRo s with
 |true =>
  have t:=tk sRo;rw[p1]at t hM;obtain⟨n1,n2,n3⟩:=nx p1;have he:=ihE 1 (d+1) s.next oM0 oM0 n3 n1 oM0;have hf3:=((z54 hT N).1 1 (d+1) s.next).lt n1;rw[if_pos rfl]at hM;generalize z30 T N 1 (d+1) s.next=r at he hM hf3;subst hM
  exact⟨[],t,sR,Gc,rfl,z01 rfl (by have:=n3.1;have:=n3.2;omega),[],he,sR,Gc,rfl,[],z19 T r.2 hf3 hb sRc,sR,Gc,rfl,sI,rfl,Gb⟩
 |false =>
 have t:=tk sRo;rw[p1]at t hM;rw[if_neg dC0]at hM;refine⟨[],t,sR,Gc,rfl,?_⟩
 cases p2:pIs T sTrue s with
 |true =>
  have t:=tk sTrue;rw[p2]at t hM;rw[if_pos rfl]at hM;subst hM
  exact⟨[],t,sR,Gc,rfl,sP (z0c _),rfl,Gb⟩
 |false =>
 have t:=tk sTrue;rw[p2]at t hM;rw[if_neg dC0]at hM;refine⟨[],t,sR,Gc,rfl,?_⟩
 cases p3:pIs T yo4 s with
 |true =>
  have t:=tk yo4;rw[p3]at t hM;rw[if_pos rfl]at hM;subst hM
  exact⟨[],t,sR,Gc,rfl,sP (z0c _),rfl,Gb⟩
 |false =>
 have t:=tk yo4;rw[p3]at t hM;rw[if_neg dC0]at hM;refine⟨[],t,sR,Gc,rfl,?_⟩
 cases p4:pIs T sRead s with
 |true =>
  have t:=tk sRead;rw[p4]at t hM;rw[if_pos rfl]at hM;subst hM;obtain⟨n1,_,_⟩:=nx p4
  exact⟨[],t,sR,Gc,rfl,[],z19 T s.next n1 hb sRo,sR,Gc,rfl,[],z19 T _ ((z0b hT (w:=sRo)).lt n1) hb sRc,sR,Gc,rfl,sP (z0c _),rfl,Gb⟩
 |false =>
 have t:=tk sRead;rw[p4]at t hM;rw[if_neg dC0]at hM;refine⟨[],t,sR,Gc,rfl,yi4 h,rfl,z00 (λk1=>?_) λk1=>?_⟩
 ·have k1:(tkAt T s).kind=0:=eq_of_beq k1;rw[if_pos k1]at hM;subst hM;have hx:=z89 T s h hb 0;have ex:z0m T 0 s=((tkAt T s).text,s.next):=by unfold z0m;rw[if_neg (by rw[o1];decide),if_pos k1]
  rw[ex]at hx;exact⟨[],hx,sR,Gc,rfl,[],y6l _ (zv2 (tk_num hT h k1)) (hS _ (j4d h)),sR,Gb,rfl,sP (z0c _),rfl,Gb⟩
 have k1:¬(tkAt T s).kind=0:=by simpa using k1
 rw[if_neg k1]at hM;have hx:=z89 T s h hb 1;have fx:=z1y hT (k:=1) dC0 (s:=s);generalize z0m T 1 s=x at hx fx hM;have hl:=fx.lt h;have hdx:=hd.fw fx.at_;have hrx:rem T x.2<=rem T s:=by have:=fx.at_;unfold rem;omega
 have tx:∀w,SC Tryz.prog 81 [.ptr 1 0,.pv (.val (.string w))] (psO T x.2) (λk=>k∈[]) (iBool (if pIs T w x.2 then(true,x.2.next)else(false,x.2)).1) (psO T (if pIs T w x.2 then(true,x.2.next)else(false,x.2)).2):=λw=>z48 T x.2 hl hb w;have nx2:∀{w},pIs T w x.2=true->x.2.next.at_<T.length/\rem T x.2.next+20<=rem T x.2/\dOk T (d+1) x.2.next:=λ{w} hp=>by
  have hn:=(z12 hT hp).lt hl;exact⟨hn,by unfold rem;rw[z0n]at hn⊢;omega,hdx.up (Aa _)⟩
 refine⟨[],hx,sR,Gc,rfl,?_⟩
 cases p5:pIs T sRo x.2 with
 |true =>
  have t:=tx sRo;rw[p5]at t hM;obtain⟨n1,n2,n3⟩:=nx2 p5;have ha:=ihA (d+1) x.2.next n3 n1 oM0;rw[if_pos rfl]at hM;generalize z81 T N (d+1) x.2.next=r at ha hM;subst hM
  exact⟨[],t,sR,Gc,rfl,z01 rfl (by have:=n3.1;have:=n3.2;omega),[],ha,sR,Gc,rfl,sI,rfl,Gb⟩
 |false =>
 have t:=tx sRo;rw[p5]at t hM;rw[if_neg dC0]at hM;refine⟨[],t,sR,Gc,rfl,?_⟩
 cases p6:pIs T sSo x.2 with
 |true =>
  have t:=tx sSo;rw[p6]at t hM;obtain⟨n1,n2,n3⟩:=nx2 p6;have he:=ihE 1 (d+1) x.2.next oM0 oM0 n3 n1 oM0;have hf3:=((z54 hT N).1 1 (d+1) x.2.next).lt n1;rw[if_pos rfl]at hM;generalize z30 T N 1 (d+1) x.2.next=r at he hM hf3;subst hM;exact⟨[],t,sR,Gc,rfl,z01 rfl (by have:=n3.1;have:=n3.2;omega),[],he,sR,Gc,rfl,[],z19 T r.2 hf3 hb sSc,sR,Gc,rfl,
   sE (Af (λp=>IV.pv (.agg [vInt 6,vInt 0,vInt 0,vStr x.1,p])) (ex1 r.1).symm),rfl,Gb⟩
 |false =>
 have t:=tx sSo;rw[p6]at t hM;rw[if_neg dC0]at hM;subst hM;exact⟨[],t,sR,Gc,rfl,sP (z0c _),rfl,Gb⟩
def exRt:RT:=⟨185,5⟩
theorem enc5(out:List Ex)(x:Ex):(out++[x]).map Ex.enc=out.map Ex.enc++[[vInt x.kind,vInt x.op,vInt x.n,vStr x.name,exs x.args]]:=by
 rw[Cg,B3,Cs,Ex.enc_eq]
theorem y94(T:List Tk)(hT:TkOk T)(hb:T.length<=1073741824)(N:Nat)(ihE:∀M,M<=N->SCE T M):SCA T (N+1):=by
 intro d s hd h hm;refine SC.vc tb { gh:=[(4,[.grow 5 1001 185 5]),(9,[.fz 5 1001])] } [] Tryz.func237 rfl rfl ?_;generalize hM:z81 T (N+1) d s=R;unfold z81 at hM;have t:=z48 T s h hb sRc;unfold z8k at t
 cases p1:pIs T sRc s with
 |true =>
  rw[p1]at t hM;rw[if_pos rfl]at hM;subst hM
  exact⟨[],t,sR,Gc,rfl,sN,rfl,Gb⟩
 |false =>
 rw[p1]at t hM;rw[if_neg dC0]at hM;generalize hL:za1 T N d true [] s=L at hM;refine⟨[],t,sR,Gc,rfl,Nat×Bool×List Ex×Ps,λa=>[(6,iBool a.2.1),(5,.sl 1001 (a.2.2.1.map Ex.enc).length)],λa=>[(1001,.row exRt (a.2.2.1.map Ex.enc)),(1,psB T a.2.2.2)],λa=>a.1,
  λa=>L=za1 T a.1 d a.2.1 a.2.2.1 a.2.2.2/\s.at_<=a.2.2.2.at_/\a.2.2.2.at_<T.length/\rem T a.2.2.2+(bif a.2.1 then 15 else 1)<=a.1/\a.1<=N/\a.2.2.1.length<=a.2.2.2.at_+(bif a.2.1 then 0 else 1),[],(N,true,[],s),
  ⟨hL.symm,Ae _,h,by simp only[Dw];omega,Ae _,Ad _⟩,Gd,Gd,?_⟩
 rintro⟨n,first,out,z⟩ ⟨i1,i2,i3,i4,i5,i6⟩;dsimp only at i1 i2 i3 i4 i5 i6;obtain⟨m,rfl⟩:∃m,n=m+1:=⟨n-1,by cases first<;>simp only[Dw,Cu]at i4<;>omega⟩;rw[za1]at i1
 cases first with
 |true =>
  simp only[Dw]at i4 i6;rw[show aGo T true z=z from rfl,B7]at i1;refine⟨[],z78 T z,sR,Gc,rfl,z00 (λo1=>?_) λo1=>?_⟩
  ·have o1:z.over=false:=by simpa using o1
   rw[if_pos ⟨rfl,o1⟩]at i1;have he:=ihE m oM0 1 d z oM0 oM0 (hd.fw i2) i3 oM0;have hf:=(z54 hT m).1 1 d z;generalize z30 T m 1 d z=r at he hf i1;have h5:=hf.at_;exact⟨[],he,sR,Gc,rfl,rfl,z3i rfl,by simp;omega,(m,false,out++[r.1],r.2),Aa _,
    ⟨i1,by dsimp only;omega,hf.lt i3,by simp only[Cu];unfold rem at i4⊢;omega,by dsimp only;omega,by simp only[Cu,B5,A1,A6];omega⟩,⟨rfl,slq sI0,Gb⟩,⟨rwq (by rw[enc5]),rfl,Gb⟩,rfl,rfl,rfl,rfl⟩
  ·have o1:z.over=true:=by simpa using o1
   rw[if_neg (λe=>by rw[o1]at e;cases e.2)]at i1;subst i1;subst hM
   exact⟨[],z19 T z i3 hb sRc,sR,Gc,rfl,rfl,sI,rfl,Gb⟩
 |false =>
  simp only[Cu]at i4 i6;rw[Bv]at i1;have t:=z48 T z i3 hb zn4;unfold z8k at t
  cases p2:pIs T zn4 z with
  |false =>
   rw[p2]at t i1;rw[if_neg (λe=>by cases e.1),show aGo T false z=z by unfold aGo z8k;rw[p2];rfl]at i1;subst i1;subst hM
   exact⟨[],t,sR,Gc,rfl,[],z19 T z i3 hb sRc,sR,Gc,rfl,rfl,sI,rfl,Gb⟩
  |true =>
   rw[p2]at t i1;have hn:=(z12 hT p2).lt i3;have o1:z.next.over=false:=(z4n p2).1;rw[show aGo T false z=z.next by unfold aGo z8k;rw[p2];rfl,if_pos ⟨rfl,o1⟩]at i1;have he:=ihE m oM0 1 d z.next oM0 oM0 (hd.fw (by rw[z0n];omega)) hn (by unfold rem at i4⊢;rw[z0n]at hn⊢;omega);have hf:=(z54 hT m).1 1 d z.next;generalize z30 T m 1 d z.next=r at he hf i1;have h5:=hf.at_;rw[z0n]at h5 hn;have h6:=hf.lt hn;refine⟨[],t,sR,Gc,rfl,[],z78 T z.next,sR,Gc,rfl,z00 (λ_=>?_) λg=>by rw[o1]at g;cases g⟩;exact⟨[],he,sR,Gc,rfl,rfl,z3i rfl,by simp;omega,(m,false,out++[r.1],r.2),Aa _,
    ⟨i1,by dsimp only;omega,h6,by simp only[Cu];unfold rem at i4⊢;omega,by dsimp only;omega,by simp only[Cu,B5,A1,A6];omega⟩,⟨rfl,slq sI0,Gb⟩,⟨rwq (by rw[enc5]),rfl,Gb⟩,rfl,rfl,rfl,rfl⟩
theorem y6n(T:List Tk)(hT:TkOk T)(hS:TkSz T)(hb:T.length<=1073741824):∀N,(∀M,M<=N->SCE T M)/\(∀M,M<=N->SCU T M)/\(∀M,M<=N->SCP T M)/\(∀M,M<=N->SCA T M)
 |0=>by
  refine⟨λM hM l d s h1 h2 hd h hm=>?_,λM hM d s hd h hm=>?_,λM hM d s hd h hm=>?_,λM hM d s hd h hm=>?_⟩<;>exact absurd hm (by unfold rem;omega)
 |N+1=>by
  obtain⟨iE,iU,iP,iA⟩:=y6n T hT hS hb N;refine⟨λM hM=>?_,λM hM=>?_,λM hM=>?_,λM hM=>?_⟩<;>rcases Dj N M with h|h
  ·rw[show M=N+1 by omega];exact y96 T hT hb N iE (iU N (Ae _))
  ·exact iE M h
  ·rw[show M=N+1 by omega];exact y6x T hT hb N (iE N (Ae _)) (iU N (Ae _)) (iP N (Ae _))
  ·exact iU M h
  ·rw[show M=N+1 by omega];exact y99 T hT hS hb N (iE N (Ae _)) (iA N (Ae _))
  ·exact iP M h
  ·rw[show M=N+1 by omega];exact y94 T hT hb N iE
  ·exact iA M h
theorem yw3(T:List Tk)(hT:TkOk T)(hS:TkSz T)(hb:T.length<=1073741824)(s:Ps)(h:s.at_<T.length):fE T 1 1 s (mE T s) :=
 (y6n T hT hS hb (big T)).1 (big T) (Ae _) 1 1 s dC0 dC0 ⟨by decide,by omega⟩ h (by unfold rem big;omega)
theorem sc_mArgs(T:List Tk)(hT:TkOk T)(hS:TkSz T)(hb:T.length<=1073741824)(s:Ps)(h:s.at_<T.length):fA T 2 s (z81 T (big T) 2 s) :=
 (y6n T hT hS hb (big T)).2.2.2 (big T) (Ae _) 2 s ⟨by decide,by omega⟩ h (by unfold rem big;omega)
section
def nilV:PV:=.val (.slice none 0 0)
theorem zt8{k t:Int}{nm:ByteArray}{p:PV}{a:List Ex}(h:exs a=p):SubI (.pv (.agg [vInt k,vInt t,vStr nm,p,nilV,nilV])) (.pv (stv (.mk k t nm a [] []))):=by subst h;exact sP (z0c _)
theorem yq4{k t:Int}{nm:ByteArray}{p:PV}{a:List Ex}{x:List St}(h:exs a=p):SubI (.pv (.agg [vInt k,vInt t,vStr nm,p,sts x,nilV])) (.pv (stv (.mk k t nm a x []))):=by subst h;exact sP (z0c _)
theorem stv_sub2{k t:Int}{nm:ByteArray}{p:PV}{a:List Ex}{x y:List St}(h:exs a=p):SubI (.pv (.agg [vInt k,vInt t,vStr nm,p,sts x,sts y])) (.pv (stv (.mk k t nm a x y))):=by subst h;exact sI
attribute [local irreducible] mE z81
variable (T:List Tk) (hT:TkOk T) (hS:TkSz T) (hb:T.length<=1073741824)
include hT hS hb
theorem y1z(s:Ps)(h:s.at_<T.length):SC Tryz.prog 209 [.ptr 1 0] (psO T s) (λk=>k∈[]) (.pv (exs [(z1z T s).1])) (psO T (z1z T s).2):=by
 refine SC.vc tb {} [] Tryz.func209 rfl rfl ?_;have h1:=(z0b hT (w:=sRo)).lt h;unfold z1z;have he:=yw3 T hT hS hb _ h1;have h2:=(z56 hT (s:=z0o T sRo s)).lt h1;generalize mE T (z0o T sRo s)=r at he h2;exact⟨[],z19 T s h hb sRo,sR,Gc,rfl,[],he,sR,Gc,rfl,[],z19 T r.2 h2 hb sRc,sR,Gc,rfl,sE (Af IV.pv (ex1 r.1).symm),rfl,Gb⟩
theorem sc_named(s:Ps)(h:s.at_<T.length):SC Tryz.prog 210 [.ptr 1 0] (psO T s) (λk=>k∈[]) (.pv (stv (z5j T s).1)) (psO T (z5j T s).2):=by
 refine SC.vc tb {} [] Tryz.func210 rfl rfl ?_;generalize hM:z5j T s=R;unfold z5j at hM;have hx:=z89 T s h hb 1;have fx:=z1y hT (k:=1) dC0 (s:=s);generalize z0m T 1 s=x at hx fx hM;have hl:=fx.lt h;have tx:∀w,SC Tryz.prog 81 [.ptr 1 0,.pv (.val (.string w))] (psO T x.2) (λk=>k∈[]) (iBool (if pIs T w x.2 then(true,x.2.next)else(false,x.2)).1) (psO T (if pIs T w x.2 then(true,x.2.next)else(false,x.2)).2):=λw=>z48 T x.2 hl hb w;refine⟨[],hx,sR,Gc,rfl,?_⟩
 cases p5:pIs T sRo x.2 with
 |true =>
  have t:=tx sRo;rw[p5]at t hM;have n1:=(z12 hT p5).lt hl;have ha:=sc_mArgs T hT hS hb x.2.next n1;rw[if_pos rfl]at hM;generalize z81 T (big T) 2 x.2.next=r at ha hM;subst hM
  exact⟨[],t,sR,Gc,rfl,[],ha,sR,Gc,rfl,zt8 (ex1 _),rfl,Gb⟩
 |false =>
 have t:=tx sRo;rw[p5]at t hM;rw[if_neg dC0]at hM;refine⟨[],t,sR,Gc,rfl,?_⟩
 cases p6:pIs T sSo x.2 with
 |true =>
  have t:=tx sSo;rw[p6]at t hM;have n1:=(z12 hT p6).lt hl;have he:=yw3 T hT hS hb x.2.next n1;have n2:=(z56 hT (s:=x.2.next)).lt n1;rw[if_pos rfl]at hM;generalize mE T x.2.next=r at he hM n2;have n3:=(z0b hT (w:=sSc)).lt n2;have n4:=(z0b hT (w:=sEq)).lt n3;have he2:=yw3 T hT hS hb _ n4;generalize mE T (z0o T sEq (z0o T sSc r.2))=r2 at he2 hM;subst hM
  exact⟨[],t,sR,Gc,rfl,[],he,sR,Gc,rfl,[],z19 T r.2 n2 hb sSc,sR,Gc,rfl,[],z19 T _ n3 hb sEq,sR,Gc,rfl,[],he2,sR,Gc,rfl,zt8 (ex2 _ _),rfl,Gb⟩
 |false =>
 have t:=tx sSo;rw[p6]at t hM;rw[if_neg dC0]at hM;have n4:=(z0b hT (w:=sEq)).lt hl;have he2:=yw3 T hT hS hb _ n4;generalize mE T (z0o T sEq x.2)=r2 at he2 hM;subst hM;exact⟨[],t,sR,Gc,rfl,[],z19 T _ hl hb sEq,sR,Gc,rfl,[],he2,sR,Gc,rfl,zt8 (ex1 _),rfl,Gb⟩
end
section
variable {T:List Tk}
theorem y2i(k t:Int)(s:ByteArray)(a:List Ex)(x y:List St):sz (.mk k t s a x y)=1+xzL a+szL x+szL y:=by simp only[sz]
theorem szL_one(a:St):szL [a]=sz a:=by simp[szL]
theorem Fw.back{s s':Ps}(h:Fw T s s')(k:s'.over=false):s.over=false:=by
 cases e:s.over with
 |false=>rfl
 |true=>exact absurd (h.ov e) (by rw[k];decide)
theorem Go1.lt{s s':Ps}(h:Go1 s s')(k:s'.over=false):s.at_<s'.at_:=h.elim (λe=>absurd e (by rw[k];decide)) id
attribute [local irreducible] mE z81
theorem let_sz(hT:TkOk T){s:Ps}(h:(mLet T s).2.over=false):sz (mLet T s).1+3*s.at_<=3*(mLet T s).2.at_:=by
 unfold mLet at h⊢;dsimp only at h⊢;have h1:=yt2 hT (z0o T sEq (z0m T 1 (z0r T s).2).2);have b1:=(z56 hT).back h;have b2:=(z0b hT (w:=sEq)).back b1;have b3:=(z1y hT (k:=1) dC0).back b2;have a1:=(z56 hT (s:=z0o T sEq (z0m T 1 (z0r T s).2).2)).at_;have a2:=zh9.lt b1;have a3:=z6q.lt b2;have a4:=zl0.lt b3;simp only[y2i,z6z,szL];omega
theorem named_sz(hT:TkOk T){s:Ps}(h:(z5j T s).2.over=false):sz (z5j T s).1+3*s.at_<=3*(z5j T s).2.at_:=by
 unfold z5j at h⊢;split at h
 ·rename_i h1;rw[if_pos h1];dsimp only at h⊢;have h2:=ym2 hT 2 (z0m T 1 s).2.next;have b1:=(z4n h1).1;have a1:=z6q.lt b1;rw[z0n]at h2;simp only[y2i,z6z,y32,szL];omega
 rename_i h1;rw[if_neg h1];split at h
 ·rename_i h2;rw[if_pos h2];dsimp only at h⊢;have b1:=(z4n h2).1;have a1:=z6q.lt b1;have c1:=yt2 hT (z0m T 1 s).2.next;have d1:=(z56 hT (s:=(z0m T 1 s).2.next)).at_;rw[z0n]at c1 d1;generalize(mE T (z0m T 1 s).2.next)=e at h c1 d1⊢;have d2:=(z0b hT (w:=sSc) (s:=e.2)).at_;have d3:=(z0b hT (w:=sEq) (s:=z0o T sSc e.2)).at_;have c2:=yt2 hT (z0o T sEq (z0o T sSc e.2));have d4:=(z56 hT (s:=z0o T sEq (z0o T sSc e.2))).at_;simp only[y2i,j5f,szL];omega
 ·rename_i h2;rw[if_neg h2];dsimp only at h⊢;have b1:=(z56 hT).back h;have b2:=(z0b hT (w:=sEq)).back b1;have a1:=z6q.lt b2;have a2:=zh9.lt b1;have c1:=yt2 hT (z0o T sEq (z0m T 1 s).2);have a3:=(z56 hT (s:=z0o T sEq (z0m T 1 s).2)).at_;simp only[y2i,z6z,szL];omega
theorem flat_sz(hT:TkOk T){s:Ps}(h:(zg2 T s).2.over=false):sz (zg2 T s).1+3*s.at_<=3*(zg2 T s).2.at_:=by
 unfold zg2 at h⊢;split at h
 ·rename_i h1;rw[if_pos h1];simp only[y2i,xzL,szL,z0n];omega
 rename_i h1;rw[if_neg h1];split at h
 ·rename_i h1;rw[if_pos h1];simp only[y2i,xzL,szL,z0n];omega
 rename_i h1;rw[if_neg h1];split at h
 ·rename_i h1;rw[if_pos h1];have c1:=yt2 hT s.next;have a1:=(z56 hT (s:=s.next)).at_;rw[z0n]at c1 a1;simp only[y2i,z6z,szL];omega
 rename_i h1;rw[if_neg h1];split at h
 ·rename_i h1;rw[if_pos h1];have c1:=y0q hT s.next;have a1:=(z2s hT (s:=s.next)).at_;rw[z0n]at c1 a1;simp only[y2i,z6z,szL];omega
 rename_i h1;rw[if_neg h1];exact named_sz hT h
theorem y2h(d:Int)(s:Ps):(z39 d s).at_=s.at_:=by unfold z39;split<;>rfl
theorem stmt_sz(hT:TkOk T)(N:Nat)(iB:∀d s,(z21 T N d s).2.over=false->szL (z21 T N d s).1+3*s.at_<=3*(z21 T N d s).2.at_)(d:Int)(s:Ps)(h:(z62 T (N+1) d s).2.over=false):sz (z62 T (N+1) d s).1+3*s.at_<=3*(z62 T (N+1) d s).2.at_:=by
 have e:=y2h d s;unfold z62 at h⊢;generalize z39 d s=s at e h⊢;rw[<- e];split at h
 ·rename_i h1;rw[if_pos h1];have b1:=(z0b hT (w:=z5d)).back h;have h2:=let_sz hT b1;have h3:=(z0b hT (w:=z5d) (s:=(mLet T s).2)).at_;dsimp only at h3⊢;omega
 rename_i h1;rw[if_neg h1];split at h
 ·rename_i h1;rw[if_pos h1];have c1:=y0q hT s.next;have a1:=(z2s hT (s:=s.next)).at_;rw[z0n]at c1 a1;split at h
  ·rename_i h2;rw[if_pos h2];have b2:=iB _ _ h;have b3:=iB _ _ (z4n h2).1;rw[z0n]at b2;simp only[y2i,z6z];omega
  ·rename_i h2;rw[if_neg h2];have b3:=iB _ _ h;simp only[y2i,z6z,szL];omega
 rename_i h1;rw[if_neg h1];split at h
 ·rename_i h1;rw[if_pos h1];have c1:=y0q hT s.next;have a1:=(z2s hT (s:=s.next)).at_;rw[z0n]at c1 a1;have b3:=iB _ _ h;simp only[y2i,z6z,szL];omega
 rename_i h1;rw[if_neg h1];have b1:=(z0b hT (w:=z5d)).back h;have h2:=flat_sz hT b1;have h3:=(z0b hT (w:=z5d) (s:=(zg2 T s).2)).at_;dsimp only at h3⊢;omega
theorem yq2(hT:TkOk T):∀N,(∀d s,(z62 T N d s).2.over=false->sz (z62 T N d s).1+3*s.at_<=3*(z62 T N d s).2.at_)/\(∀d s,(z21 T N d s).2.over=false->szL (z21 T N d s).1+3*s.at_<=3*(z21 T N d s).2.at_) /\
 (∀d out s,(z85 T N d out s).2.over=false->szL (z85 T N d out s).1+3*s.at_<=szL out+3*(z85 T N d out s).2.at_)
 |0=>⟨λd s h=>absurd h (by simp[z62,Ps.over,Ps.setBad]),λd s _=>by show 0+3*s.at_<=3*s.at_;omega,λd out s _=>by show szL out+3*s.at_<=szL out+3*s.at_;omega⟩
 |N+1=>by
  obtain⟨iS,iB,iL⟩:=yq2 hT N;refine⟨λd s h=>stmt_sz hT N iB d s h,λd s h=>?_,λd out s h=>?_⟩
  ·unfold z21 at h⊢;have h1:=iL d [] (z0o T sBo s) h;have h2:=(z0b hT (w:=sBo) (s:=s)).at_;simp only[szL]at h1;omega
  ·unfold z85 at h⊢;split at h
   ·rename_i h1;rw[if_pos h1];exact Ae _
   rename_i h1;rw[if_neg h1];split at h
   ·rename_i h1;rw[if_pos h1];simp only[z0n];omega
   rename_i h1;rw[if_neg h1];have b1:=((z5g hT N).2.2 _ _ _).back h;have h2:=iL _ _ _ h;have h3:=iS _ _ b1;rw[j47,szL_one]at h2;omega
end
def fS(T:List Tk)(d:Int)(s:Ps)(r:St×Ps):Prop:=SC Tryz.prog 179 [.ptr 1 0,.pv (.val (.int .i64 d))] (psO T s) (λk=>k∈[]) (.pv (stv r.1)) (psO T r.2)
def fB(T:List Tk)(d:Int)(s:Ps)(r:List St×Ps):Prop:=SC Tryz.prog 130 [.ptr 1 0,.pv (.val (.int .i64 d))] (psO T s) (λk=>k∈[]) (.pv (sts r.1)) (psO T r.2)
def SCS(T:List Tk)(N:Nat):Prop:=∀(d:Int)(s:Ps),dOk T d s->s.at_<T.length->rem T s+5<=N->fS T d s (z62 T N d s)
def SCB(T:List Tk)(N:Nat):Prop:=∀(d:Int)(s:Ps),dOk T d s->s.at_<T.length->rem T s+8<=N->fB T d s (z21 T N d s)
theorem yq3{k t:Int}{nm:ByteArray}:SubI (.pv (.agg [vInt k,vInt t,vStr nm,nilV,nilV,nilV])) (.pv (stv (.mk k t nm [] [] []))):=sP (z0c _)
attribute [local irreducible] mE z81 z1z z5j
theorem y9j(T:List Tk)(hT:TkOk T)(hS:TkSz T)(hb:T.length<=1073741824)(N:Nat)(ihB:SCB T N):SCS T (N+1):=by
 intro d s hd h hm;refine SC.vc tb {} [] Tryz.func179 rfl rfl ?_;generalize hM:z62 T (N+1) d s=R;unfold z62 at hM;have ha1:=y2h d s;obtain⟨z,ez⟩:∃x,x=z39 d s:=⟨_,rfl⟩;rw[<- ez]at hM ha1;have hd1:dOk T d z:=hd.fw oM0;have hl:z.at_<T.length:=by rw[ha1];exact h
 have hm1:rem T z+5<=N+1:=by unfold rem at hm⊢;rw[ha1];exact hm
 refine z00 (λc1=>?_) λc1=>?_;have e:z=⟨s.at_,s.bad,true⟩:=by rw[ez];unfold z39;rw[if_pos (An c1)];rfl
 rotate_left
 have e:z=⟨s.at_,s.bad,s.deep⟩:=by rw[ez];unfold z39;rw[if_neg (Al c1)]
 rotate_left
 all_goals
  have hpre:psO T z=psO T z:=rfl;clear ez c1;have tz:∀w,SC Tryz.prog 81 [.ptr 1 0,.pv (.val (.string w))] (psO T z) (λk=>k∈[]) (iBool (if pIs T w z then(true,z.next)else(false,z)).1) (psO T (if pIs T w z then(true,z.next)else(false,z)).2):=λw=>z48 T z hl hb w;have nx:∀{w},pIs T w z=true->z.next.at_<T.length/\rem T z.next+20<=rem T z/\dOk T (d+1) z.next:=λ{w} hp=>by
   have hn:=(z12 hT hp).lt hl;exact⟨hn,by unfold rem;rw[z0n]at hn⊢;omega,hd1.up (Aa _)⟩
  have letc:(pIs T sInt z||pIs T j2l z)=true->((mLet T z).1,z0o T z5d (mLet T z).2)=R:=λq=>by rw[if_pos q]at hM;exact hM
  have lx:=zn8 T hT z hl hb;have lf:=(z5h hT (s:=z)).lt hl;refine⟨[],yp0 T z hl sInt,sR,⟨by rw[e];rfl,Gb⟩,rfl,z00 (λq1=>?_) λq1=>⟨[],yp0 T z hl j2l,sR,Gc,rfl,z00 (λq2=>?_) λq2=>?_⟩⟩;have hM:=letc (by rw[q1];rfl)
  rotate_left
  have hM:=letc (by rw[q2];simp)
  rotate_right
  iterate 2
   unfold mLet at hM;generalize z0r T z=p at lx lf hM;have hx:=z89 T p.2 lf hb 1;have n1:=(z1y hT (k:=1) dC0 (s:=p.2)).lt lf;generalize z0m T 1 p.2=x at hx n1 hM;have n2:=(z0b hT (w:=sEq)).lt n1;have he:=yw3 T hT hS hb _ n2;have n3:=(z56 hT (s:=z0o T sEq x.2)).lt n2;generalize mE T (z0o T sEq x.2)=r at he n3 hM;subst hM;exact⟨[],lx,sR,Gc,rfl,[],hx,sR,Gc,rfl,[],z19 T _ n1 hb sEq,sR,Gc,rfl,[],he,sR,Gc,rfl,[],z19 T _ n3 hb z5d,sR,Gc,rfl,zt8 (ex1 _),rfl,Gb⟩
  clear letc lx lf;rw[q1,q2,if_neg dC0]at hM
  cases q3:pIs T sIf z with
  |true =>
   have t:=tz sIf;rw[q3]at t hM;rw[if_pos rfl]at hM;obtain⟨n1,n2,n3⟩:=nx q3;have hi:=y1z T hT hS hb z.next n1;have fi:=z2s hT (s:=z.next);generalize z1z T z.next=i at hi fi hM;have n4:=fi.lt n1;have n5:rem T i.2<=rem T z.next:=by have:=fi.at_;unfold rem;omega
   have n6:=n3.fw fi.at_;have hB:=ihB (d+1) i.2 n6 n4 oM0;have fb:=(z5g hT N).2.1 (d+1) i.2;generalize z21 T N (d+1) i.2=b at hB fb hM;have n7:=fb.lt n4;have n8:rem T b.2<=rem T i.2:=by have:=fb.at_;unfold rem;omega
   have te:=z48 T b.2 n7 hb sElse;unfold z8k at te
   cases q4:pIs T sElse b.2 with
   |true =>
    rw[q4]at te hM;rw[if_pos rfl]at hM;have m1:=(z12 hT q4).lt n7;have hB2:=ihB (d+1) b.2.next ((n6.fw fb.at_).fw (F9 _)) m1 (by unfold rem at *;rw[z0n]at *;omega);generalize z21 T N (d+1) b.2.next=b2 at hB2 hM;subst hM
    exact⟨[],t,sR,Gc,rfl,[],hi,sR,Gc,rfl,z01 rfl (by have:=n3.1;have:=n3.2;omega),[],hB,sR,Gc,rfl,[],te,sR,Gc,rfl,z01 rfl (by have:=n3.1;have:=n3.2;omega),[],hB2,sR,Gc,rfl,stv_sub2 rfl,rfl,Gb⟩
   |false =>
    rw[q4]at te hM;rw[if_neg dC0]at hM;subst hM
    exact⟨[],t,sR,Gc,rfl,[],hi,sR,Gc,rfl,z01 rfl (by have:=n3.1;have:=n3.2;omega),[],hB,sR,Gc,rfl,[],te,sR,Gc,rfl,yq4 rfl,rfl,Gb⟩
  |false =>
  have t:=tz sIf;rw[q3]at t hM;rw[if_neg dC0]at hM;refine⟨[],t,sR,Gc,rfl,?_⟩;clear t
  cases q5:pIs T yo6 z with
  |true =>
   have t:=tz yo6;rw[q5]at t hM;rw[if_pos rfl]at hM;obtain⟨n1,n2,n3⟩:=nx q5;have hi:=y1z T hT hS hb z.next n1;have fi:=z2s hT (s:=z.next);generalize z1z T z.next=i at hi fi hM;have n4:=fi.lt n1;have n5:rem T i.2<=rem T z.next:=by have:=fi.at_;unfold rem;omega
   have n6:=n3.fw fi.at_;have hB:=ihB (d+1) i.2 n6 n4 oM0;generalize z21 T N (d+1) i.2=b at hB hM;subst hM
   exact⟨[],t,sR,Gc,rfl,[],hi,sR,Gc,rfl,z01 rfl (by have:=n3.1;have:=n3.2;omega),[],hB,sR,Gc,rfl,yq4 rfl,rfl,Gb⟩
  |false =>
  have t:=tz yo6;rw[q5]at t hM;rw[if_neg dC0]at hM;refine⟨[],t,sR,Gc,rfl,?_⟩;clear t;unfold zg2 at hM
  cases q6:pIs T yo3 z with
  |true =>
   have t:=tz yo3;rw[q6]at t hM;rw[if_pos rfl]at hM;obtain⟨n1,_,_⟩:=nx q6;subst hM
   exact⟨[],t,sR,Gc,rfl,[],z19 T _ n1 hb z5d,sR,Gc,rfl,yq3,rfl,Gb⟩
  |false =>
  have t:=tz yo3;rw[q6]at t hM;rw[if_neg dC0]at hM;refine⟨[],t,sR,Gc,rfl,?_⟩;clear t
  cases q7:pIs T zn5 z with
  |true =>
   have t:=tz zn5;rw[q7]at t hM;rw[if_pos rfl]at hM;obtain⟨n1,_,_⟩:=nx q7;subst hM
   exact⟨[],t,sR,Gc,rfl,[],z19 T _ n1 hb z5d,sR,Gc,rfl,yq3,rfl,Gb⟩
  |false =>
  have t:=tz zn5;rw[q7]at t hM;rw[if_neg dC0]at hM;refine⟨[],t,sR,Gc,rfl,?_⟩;clear t
  cases q8:pIs T y6k z with
  |true =>
   have t:=tz y6k;rw[q8]at t hM;rw[if_pos rfl]at hM;obtain⟨n1,_,_⟩:=nx q8;have he:=yw3 T hT hS hb _ n1;have n2:=(z56 hT (s:=z.next)).lt n1;generalize mE T z.next=r at he n2 hM;subst hM
   exact⟨[],t,sR,Gc,rfl,[],he,sR,Gc,rfl,[],z19 T _ n2 hb z5d,sR,Gc,rfl,zt8 (ex1 _),rfl,Gb⟩
  |false =>
  have t:=tz y6k;rw[q8]at t hM;rw[if_neg dC0]at hM;refine⟨[],t,sR,Gc,rfl,?_⟩;clear t
  cases q9:pIs T yo5 z with
  |true =>
   have t:=tz yo5;rw[q9]at t hM;rw[if_pos rfl]at hM;obtain⟨n1,_,_⟩:=nx q9;have hi:=y1z T hT hS hb z.next n1;have n2:=(z2s hT (s:=z.next)).lt n1;generalize z1z T z.next=i at hi n2 hM;subst hM
   exact⟨[],t,sR,Gc,rfl,[],hi,sR,Gc,rfl,[],z19 T _ n2 hb z5d,sR,Gc,rfl,zt8 rfl,rfl,Gb⟩
  |false =>
  have t:=tz yo5;rw[q9]at t hM;rw[if_neg dC0]at hM;have hn:=sc_named T hT hS hb z hl;have n2:=(yk5 hT (s:=z)).lt hl;generalize z5j T z=r at hn n2 hM;subst hM;exact⟨[],t,sR,Gc,rfl,[],hn,sR,Gc,rfl,[],z19 T _ n2 hb z5d,sR,Gc,rfl,sI,rfl,Gb⟩
def stRt:RT:=⟨152,6⟩
theorem enc6(out:List St)(x:St):(out++[x]).map St.enc=out.map St.enc++[[vInt x.kind,vInt x.ty,vStr x.name,exs x.args,sts x.thn,sts x.els]]:=by
 rw[Cg,B3,Cs,St.enc_eq]
theorem y6m(T:List Tk)(hT:TkOk T)(hb:T.length<=1073741824)(N:Nat)(ihS:∀M,M<=N->SCS T M):SCB T (N+1):=by
 intro d s hd h hm;refine SC.vc tb { gh:=[(2,[.grow 5 1001 152 6]),(5,[.fz 5 1001])] } [] Tryz.func130 rfl rfl ?_;have hf0:=z0b hT (w:=sBo) (s:=s);have hl0:=hf0.lt h;have hr0:rem T (z0o T sBo s)<=rem T s:=by have:=hf0.at_;unfold rem;omega
 generalize hM:z21 T (N+1) d s=R;unfold z21 at hM;refine⟨[],z19 T s h hb sBo,sR,Gc,rfl,Nat×List St×Ps,λa=>[(5,.sl 1001 (a.2.1.map St.enc).length)],λa=>[(1001,.row stRt (a.2.1.map St.enc)),(1,psB T a.2.2)],λa=>a.1,
  λa=>R=z85 T a.1 d a.2.1 a.2.2/\s.at_<=a.2.2.at_/\a.2.2.at_<T.length/\(a.2.2.over=true∨rem T a.2.2+6<=a.1)/\1<=a.1/\a.1<=N/\(a.2.1.length<=a.2.2.at_∨(a.2.2.over=true/\a.2.1.length<=a.2.2.at_+1)),[],(N,[],z0o T sBo s),
  ⟨hM.symm,hf0.at_,hl0,.inr (by dsimp only;omega),by dsimp only;omega,Ae _,.inl (Ad _)⟩,Gc,Gd,?_⟩
 rintro⟨n,out,z⟩ ⟨i1,i2,i3,i4,i5,i6,i7⟩;dsimp only at i1 i2 i3 i4 i5 i6 i7;obtain⟨m,rfl⟩:∃m,n=m+1:=⟨n-1,by omega⟩;rw[z85]at i1;have t:=z48 T z i3 hb sBc;unfold z8k at t;refine⟨[],z78 T z,sR,Gc,rfl,z00 (λo1=>?_) λo1=>?_⟩
 ·have o1:z.over=false:=by simpa using o1
  rw[if_neg (by rw[o1];decide)]at i1
  cases p2:pIs T sBc z with
  |true =>
   rw[p2]at t i1;rw[if_pos rfl]at i1;subst i1
   exact⟨[],t,sR,Gc,rfl,rfl,sI,rfl,Gb⟩
  |false =>
   rw[p2]at t i1;rw[if_neg dC0]at i1;have i4:rem T z+6<=m+1:=i4.resolve_left (by rw[o1];decide);have i7:out.length<=z.at_:=i7.resolve_right (λe=>by rw[o1]at e;cases e.1);have hs:=ihS m oM0 d z (hd.fw i2) i3 oM0;have hf:=(z5g hT m).1 d z;have hg:=go_stmt hT m (d:=d) (s:=z);generalize z62 T m d z=r at hs hf hg i1;have h5:=hf.at_;refine⟨[],t,sR,Gc,rfl,[],hs,sR,Gc,rfl,rfl,z3i rfl,by simp;omega,(m,out++[r.1],r.2),Aa _,⟨i1,by dsimp only;omega,hf.lt i3,?_,?_,by dsimp only;omega,?_⟩,⟨slq sI0,Gb⟩,⟨rwq (by rw[enc6]),rfl,Gb⟩,rfl,rfl,rfl,rfl⟩
   ·rcases hg with g|g
    ·exact .inl g
    ·exact .inr (by dsimp only;unfold rem at i4⊢;omega)
   ·dsimp only;unfold rem at i4;omega
   ·dsimp only;rw[B5];rcases hg with g|g
    ·exact .inr ⟨g,by show _+1<=_;omega⟩
    ·exact .inl (by show _+1<=_;omega)
 ·have o1:z.over=true:=by simpa using o1
  rw[if_pos o1]at i1;subst i1;exact⟨rfl,sI,rfl,Gb⟩
theorem yp7(T:List Tk)(hT:TkOk T)(hS:TkSz T)(hb:T.length<=1073741824):∀N,(∀M,M<=N->SCS T M)/\(∀M,M<=N->SCB T M)
 |0=>by
  refine⟨λM hM d s hd h hm=>?_,λM hM d s hd h hm=>?_⟩<;>exact absurd hm (by unfold rem;omega)
 |N+1=>by
  obtain⟨iS,iB⟩:=yp7 T hT hS hb N;refine⟨λM hM=>?_,λM hM=>?_⟩<;>rcases Dj N M with h|h
  ·rw[show M=N+1 by omega];exact y9j T hT hS hb N (iB N (Ae _))
  ·exact iS M h
  ·rw[show M=N+1 by omega];exact y6m T hT hb N iS
  ·exact iB M h
theorem j2y(T:List Tk)(hT:TkOk T)(hS:TkSz T)(hb:T.length<=1073741824)(s:Ps)(h:s.at_<T.length):fB T 1 s (z21 T (big T) 1 s) :=
 (yp7 T hT hS hb (big T)).2 (big T) (Ae _) 1 s ⟨by decide,by omega⟩ h (by unfold rem big;omega)
def pmRt:RT:=⟨98,2⟩
def fuv(f:Fu):PV:=.agg f.enc
theorem j1v(out:List Pm)(x:Pm):(out++[x]).map Pm.enc=out.map Pm.enc++[[vStr x.name,vInt x.ty]]:=by rw[Cg];rfl
attribute [local irreducible] z21
theorem yg1(T:List Tk)(hT:TkOk T)(hS:TkSz T)(hb:T.length<=1073741824)(t:Int)(name:ByteArray)(s:Ps)(h:s.at_<T.length) :
 SC Tryz.prog 84 [.ptr 1 0,.pv (.val (.int .i64 t)),.pv (.val (.string name))] (psO T s) (λk=>k∈[]) (.pv (fuv (z75 T t name s).1)) (psO T (z75 T t name s).2):=by
 refine SC.vc tb { gh:=[(4,[.growC 107 2 1001 98 2]),(9,[.fzC 107 2 1001])] } [] Tryz.func84 rfl rfl ?_;generalize hM:z75 T t name s=R;unfold z75 at hM;have h1:=(z0b hT (w:=sRo)).lt h;refine⟨[],z19 T s h hb sRo,sR,Gc,rfl,?_⟩;generalize z0o T sRo s=y at h1 hM;have hp:=(zk7 hT (s:=y)).lt h1;have hB:=j2y T hT hS hb _ hp;generalize hP:z7k T y=P at hp hB hM;unfold z7k at hP;generalize z21 T (big T) 1 P.2=B at hB hM;have tk:=z48 T y h1 hb sRc;unfold z8k at tk
 cases p1:pIs T sRc y with
 |true =>
  rw[p1]at tk hP;rw[if_pos rfl]at hP;subst hP;subst hM
  exact⟨[],tk,sR,Gc,rfl,[],hB,sR,Gc,rfl,sP (z0c _),rfl,Gb⟩
 |false =>
 rw[p1]at tk hP;rw[if_neg dC0]at hP;refine⟨[],tk,sR,Gc,rfl,?_⟩;generalize hL:za2 T (big T) true [] y=L at hP;refine⟨Nat×Bool×List Pm×Ps,λa=>[(8,iBool a.2.1)],λa=>[(1001,.row pmRt (a.2.2.1.map Pm.enc)),(107,.box [.pv (vStr name),iInt t,.sl 1001 (a.2.2.1.map Pm.enc).length,.pv (.val (.slice none 0 0))]),(1,psB T a.2.2.2)],λa=>a.1,
  λa=>L=za2 T a.1 a.2.1 a.2.2.1 a.2.2.2/\a.2.2.2.at_<T.length/\rem T a.2.2.2+(bif a.2.1 then 15 else 1)<=a.1/\a.2.2.1.length<=a.2.2.2.at_+(bif a.2.1 then 0 else 1),[],(big T,true,[],y),
  ⟨hL.symm,h1,by simp only[Dw];unfold rem big;omega,Ad _⟩,Gc,Ge,?_⟩
 rintro⟨n,first,out,z⟩ ⟨i1,i3,i4,i6⟩;dsimp only at i1 i3 i4 i6;obtain⟨m,rfl⟩:∃m,n=m+1:=⟨n-1,by cases first<;>simp only[Dw,Cu]at i4<;>omega⟩;rw[za2]at i1;have exit_:L=(out,z)->P=(out,z0o T sRc z):=λe=>by rw[<- hP,e]
 cases first with
 |true =>
  simp only[Dw]at i4 i6;rw[show aGo T true z=z from rfl,B7]at i1;refine⟨[],z78 T z,sR,Gc,rfl,z00 (λo1=>?_) λo1=>?_⟩
  ·have o1:z.over=false:=by simpa using o1
   rw[if_pos ⟨rfl,o1⟩]at i1;have lx:=zn8 T hT z i3 hb;have lf:=z5h hT (s:=z);generalize z0r T z=p at lx lf i1;have hx:=z89 T p.2 (lf.lt i3) hb 1;have fx:=z1y hT (k:=1) dC0 (s:=p.2);generalize z0m T 1 p.2=x at hx fx i1;have f1:=lf.at_;have f2:=fx.at_;exact⟨[],lx,sR,Gc,rfl,[],hx,sR,Gc,rfl,rfl,z3i rfl,by simp;omega,by simp,(m,false,out++[⟨x.1,p.1⟩],x.2),Aa _,
    ⟨i1,fx.lt (lf.lt i3),by simp only[Cu];unfold rem at i4⊢;omega,by simp only[Cu,B5,A1,A6];omega⟩,Gc,⟨rwq (by rw[j1v]),boq sI0,rfl,Gb⟩,rfl,rfl,rfl,rfl⟩
  ·have o1:z.over=true:=by simpa using o1
   rw[if_neg (λe=>by rw[o1]at e;cases e.2)]at i1;have e:=exit_ i1;subst e;subst hM
   exact⟨rfl,[],z19 T z i3 hb sRc,sR,Gc,rfl,[],hB,sR,Gc,rfl,sI,rfl,Gb⟩
 |false =>
  simp only[Cu]at i4 i6;rw[Bv]at i1;have tk:=z48 T z i3 hb zn4;unfold z8k at tk
  cases p2:pIs T zn4 z with
  |false =>
   rw[p2]at tk i1;rw[if_neg (λe=>by cases e.1),show aGo T false z=z by unfold aGo z8k;rw[p2];rfl]at i1;have e:=exit_ i1;subst e;subst hM
   exact⟨[],tk,sR,Gc,rfl,rfl,[],z19 T z i3 hb sRc,sR,Gc,rfl,[],hB,sR,Gc,rfl,sI,rfl,Gb⟩
  |true =>
   rw[p2]at tk i1;have hn:=(z12 hT p2).lt i3;have o1:z.next.over=false:=(z4n p2).1;rw[show aGo T false z=z.next by unfold aGo z8k;rw[p2];rfl,if_pos ⟨rfl,o1⟩]at i1;have lx:=zn8 T hT z.next hn hb;have lf:=z5h hT (s:=z.next);generalize z0r T z.next=p at lx lf i1;have hx:=z89 T p.2 (lf.lt hn) hb 1;have fx:=z1y hT (k:=1) dC0 (s:=p.2);generalize z0m T 1 p.2=x at hx fx i1;have f1:=lf.at_;have f2:=fx.at_;have f3:=fx.lt (lf.lt hn);rw[z0n]at f1 hn;refine⟨[],tk,sR,Gc,rfl,[],z78 T z.next,sR,Gc,rfl,z00 (λ_=>?_) λg=>by rw[o1]at g;cases g⟩;exact⟨[],lx,sR,Gc,rfl,[],hx,sR,Gc,rfl,rfl,z3i rfl,by simp;omega,by simp,(m,false,out++[⟨x.1,p.1⟩],x.2),Aa _,
    ⟨i1,f3,by simp only[Cu];unfold rem at i4⊢;omega,by simp only[Cu,B5,A1,A6];omega⟩,Gc,⟨rwq (by rw[j1v]),boq sI0,rfl,Gb⟩,rfl,rfl,rfl,rfl⟩
def arRt:RT:=⟨80,2⟩
def fuRt:RT:=⟨57,4⟩
theorem ar_snoc(out:List Ar)(x:Ar):(out++[x]).map Ar.enc=out.map Ar.enc++[[vStr x.name,vInt x.size]]:=by rw[Cg];rfl
theorem fu_snoc(out:List Fu)(x:Fu):(out++[x]).map Fu.enc=out.map Fu.enc++[[vStr x.name,vInt x.ty,pms x.params,sts x.body]]:=by rw[Cg];rfl
theorem text_num{T:List Tk}(hT:TkOk T)(hS:TkSz T){s:Ps}(h:s.at_<T.length):(z0m T 0 s).1.data.toList.all (λb=>z3y b.toNat)=true/\(z0m T 0 s).1.size<=1073741824:=by
 unfold z0m;split
 ·exact⟨rfl,Ad _⟩
 ·split
  ·rename_i hk;exact⟨zv2 (tk_num hT h hk),hS _ (j4d h)⟩
  ·exact⟨rfl,Ad _⟩
attribute [local irreducible] z75
theorem sc_prog(T:List Tk)(hT:TkOk T)(hS:TkSz T)(hb:T.length<=1073741824)(h:0<T.length) :
 SC Tryz.prog 44 [.ptr 1 0] (psO T ⟨0,false,false⟩) (λk=>k∈[]) (.pv (z9c T).1.enc) (psO T (z9c T).2):=by
 refine SC.vc tb { gh:=[(2000000,[.growC 103 0 1001 80 2,.growC 103 1 1002 57 4]),(11,[.fzC 103 0 1001,.fzC 103 1 1002])] } [] Tryz.func44 rfl rfl ?_;generalize hM:z9c T=R;unfold z9c at hM;refine⟨Nat×Pg×Ps,λ_=>[],λa=>[(1001,.row arRt (a.2.1.arrays.map Ar.enc)),(1002,.row fuRt (a.2.1.funcs.map Fu.enc)),(103,.box [.sl 1001 (a.2.1.arrays.map Ar.enc).length,.sl 1002 (a.2.1.funcs.map Fu.enc).length]),(1,psB T a.2.2)],λa=>a.1,
  λa=>R=z43 T a.1 a.2.1 a.2.2/\a.2.2.at_<T.length/\(a.2.2.over=true∨rem T a.2.2+6<=a.1)/\1<=a.1/\a.2.1.arrays.length<=a.2.2.at_+1/\a.2.1.funcs.length<=a.2.2.at_+1/\(a.2.2.over=true∨(a.2.1.arrays.length<=a.2.2.at_/\a.2.1.funcs.length<=a.2.2.at_)),[],(big T,⟨[],[]⟩,⟨0,false,false⟩),
  ⟨hM.symm,h,.inr (by dsimp only;unfold rem big;omega),by unfold big;dsimp only;omega,Ad _,Ad _,.inr ⟨Ad _,Ad _⟩⟩,Gb,Gf,?_⟩
 rintro⟨n,p,z⟩ ⟨i1,i3,i4,i5,i6,i7,i8⟩;dsimp only at i1 i3 i4 i5 i6 i7 i8;obtain⟨m,rfl⟩:∃m,n=m+1:=⟨n-1,by omega⟩;rw[z43]at i1;refine⟨[],z78 T z,sR,Gc,rfl,z00 (λo1=>?_) λo1=>?_⟩
 ·have o1:z.over=false:=by simpa using o1
  refine⟨yi4 i3,rfl,z00 (λk1=>?_) λk1=>?_⟩
  ·have k1:((tkAt T z).kind==3)=false:=by simpa using k1
   rw[o1,k1,if_neg dC0]at i1;have i4:rem T z+6<=m+1:=i4.resolve_left (by rw[o1];decide);have i8:=i8.resolve_left (by rw[o1];decide);have lx:=zn8 T hT z i3 hb;have lf:=z5h hT (s:=z);have lg:=zl0 (T:=T) (s:=z);generalize z0r T z=t at lx lf lg i1;have hx:=z89 T t.2 (lf.lt i3) hb 1;have fx:=z1y hT (k:=1) dC0 (s:=t.2);generalize z0m T 1 t.2=x at hx fx i1;have lt1:=fx.lt (lf.lt i3);have lg1:=lg.then fx;refine⟨[],lx,sR,Gc,rfl,[],hx,sR,Gc,rfl,?_⟩;have lg2:=lg1;have fnc:qArr T p.funcs t.1 x.2=false->R=z43 T m ⟨p.arrays,p.funcs++[(z75 T t.1 x.1 x.2).1]⟩ (z75 T t.1 x.1 x.2).2:=λe=>by rw[i1,e,if_neg dC0]
   have hF:=yg1 T hT hS hb t.1 x.1 x.2 lt1;have fF:=yb9 hT (t:=t.1) (n:=x.1) (s:=x.2);refine z00 (λc1=>?_) λc1=>?_
   rotate_left
   have i1:=fnc (by unfold qArr;rw[c1];rfl)
   rotate_left
   refine⟨rfl,z00 (λc2=>?_) λc2=>?_⟩
   rotate_left
   have i1:=fnc (by unfold qArr;rw[show(p.funcs.length==0)=false by(have:=(A9).1 c2;simp at this⊢;exact this)];simp)
   rotate_right
   have tk:=z48 T x.2 lt1 hb sSo;unfold z8k at tk
   cases c3:pIs T sSo x.2
   rw[c3]at tk;have i1:=fnc (by unfold qArr;rw[c3];simp);refine⟨[],tk,sR,Gc,rfl,?_⟩
   rotate_left
   ·rw[c3]at tk;have hc:qArr T p.funcs t.1 x.2=true:=by
     unfold qArr;rw[c1,c3,show(p.funcs.length==0)=true by(have:=eq_of_beq c2;simp at this⊢;exact this)];rfl
    rw[hc,if_pos rfl]at i1;clear fnc hF fF;have n1:=(z12 hT c3).lt lt1;have hv:=text_num hT hS n1;have hy:=z89 T x.2.next n1 hb 0;have fy:=z1y hT (k:=0) dC0 (s:=x.2.next);generalize z0m T 0 x.2.next=y at hv hy fy i1;have n2:=fy.lt n1;have f3:=z0b hT (w:=sSc) (s:=y.2);have n3:=f3.lt n2;have f4:=z0b hT (w:=z5d) (s:=z0o T sSc y.2);have n4:=f4.lt n3;have lg3:=lg1.then ((z12 hT c3).trans (fy.trans (f3.trans f4)));have at4:z.at_<=(z0o T z5d (z0o T sSc y.2)).at_:=by have a1:=lf.at_;have a2:=fx.at_;have a3:=fy.at_;have a4:=f3.at_;have a5:=f4.at_;rw[z0n]at a3;omega
    have h3:=z19 T y.2 n2 hb sSc;have h4:=z19 T _ n3 hb z5d;generalize z0o T z5d (z0o T sSc y.2)=w at h4 n4 lg3 at4 i1;refine⟨[],tk,sR,Gc,rfl,[],hy,sR,Gc,rfl,[],y6l y.1 hv.1 hv.2,sR,Gb,rfl,[],h3,sR,Gc,rfl,[],h4,sR,Gc,rfl,rfl,z3i rfl,by simp;omega,by simp,
     (m,⟨p.arrays++[⟨x.1,zh3 y.1⟩],p.funcs⟩,w),Aa _,⟨i1,n4,?_,by dsimp only;unfold rem at i4;omega,by simp;omega,by dsimp only;omega,?_⟩,Gb,⟨rwq (by rw[ar_snoc]),rfl,boq sI0,rfl,Gb⟩,rfl,rfl,rfl,rfl⟩
    ·exact lg3.elim .inl λg=>.inr (by dsimp only;unfold rem at i4⊢;omega)
    ·exact lg3.elim .inl λg=>.inr ⟨by simp;omega,by dsimp only;omega⟩
   iterate 3
    have lg3:=lg2.then fF;have lt2:=fF.lt lt1;have at2:z.at_<=(z75 T t.1 x.1 x.2).2.at_:=by have a1:=lf.at_;have a2:=fx.at_;have a3:=fF.at_;omega
    generalize z75 T t.1 x.1 x.2=f at hF lg3 lt2 at2 i1;refine⟨[],hF,sR,Gc,rfl,rfl,z3i rfl,by simp;omega,by simp,(m,⟨p.arrays,p.funcs++[f.1]⟩,f.2),Aa _,⟨i1,lt2,?_,by dsimp only;unfold rem at i4;omega,by dsimp only;omega,by simp;omega,?_⟩,Gb,⟨rfl,rwq (by rw[fu_snoc]),boq sI0,rfl,Gb⟩,rfl,rfl,rfl,rfl⟩
    ·exact lg3.elim .inl λg=>.inr (by dsimp only;unfold rem at i4⊢;omega)
    ·exact lg3.elim .inl λg=>.inr ⟨by dsimp only;omega,by simp;omega⟩
  ·have k1:((tkAt T z).kind==3)=true:=by simpa using k1
   rw[o1,k1,if_pos dC0]at i1;subst i1;exact⟨rfl,rfl,sI,rfl,Gb⟩
 ·have o1:z.over=true:=by simpa using o1
  rw[o1,B7,if_pos rfl]at i1;subst i1;exact⟨rfl,rfl,sI,rfl,Gb⟩
theorem zn9(op:Int):SC Tryz.prog 181 [.pv (.val (.int .i64 op))] [] (λk=>k∈[]) (iInt (z4j op)) []:=by
 by_cases h:1<=op/\op<=19
 ·exact y4p op h.1 h.2
 refine SC.vc tb {} [] Tryz.func181 rfl rfl ?_;have hz:z4j op=0:=by
  unfold z4j;split
  ·rfl
  ·rename_i g;simp only[Br,Bj,not_or]at g;rcases(show op=0∨op=20∨op=21∨op=22∨op=23∨op=24∨op=25∨op=26∨op=27∨op=28 by omega)with rfl|rfl|rfl|rfl|rfl|rfl|rfl|rfl|rfl|rfl<;>rfl
 exact z00 (λh=>absurd (eq_of_beq h) oM0) λ_=>z00 (λh=>absurd (eq_of_beq h) oM0) λ_=>z00 (λh=>absurd (eq_of_beq h) oM0) λ_=>z00 (λh=>absurd (eq_of_beq h) oM0) λ_=>z00 (λh=>absurd (eq_of_beq h) oM0) λ_=>z00 (λh=>absurd (eq_of_beq h) oM0) λ_=>z00 (λh=>absurd (eq_of_beq h) oM0) λ_=>z00 (λh=>absurd (eq_of_beq h) oM0) λ_=>z00 (λh=>absurd (eq_of_beq h) oM0) λ_=>z00 (λh=>absurd (eq_of_beq h) oM0) λ_=>z00 (λh=>absurd (eq_of_beq h) oM0) λ_=>z00 (λh=>absurd (eq_of_beq h) oM0) λ_=>z00 (λh=>absurd (eq_of_beq h) oM0) λ_=>z00 (λh=>absurd (eq_of_beq h) oM0) λ_=>z00 (λh=>absurd (eq_of_beq h) oM0) λ_=>z00 (λh=>absurd (eq_of_beq h) oM0) λ_=>z00 (λh=>absurd (eq_of_beq h) oM0) λ_=>z00 (λh=>absurd (eq_of_beq h) oM0) λ_=>z00 (λh=>absurd (eq_of_beq h) oM0) λ_=>⟨sE (by rw[hz]),Gb⟩
def rOwn(k o n:Int)(nm:ByteArray)(len:Nat):Bool :=
 if k=1 then o==0&&decide (n≥0)&&nm.toList==[]&&len==0
 else if k=2 then o==0&&(n==0||n==1)&&nm.toList==[]&&len==0
 else if k=3 then o==0&&n==0&&z0l nm&&len==0
 else if k=4 then z2w o&&n==0&&nm.toList==[]&&len==1
 else if k=5 then decide (z4j o > 0)&&n==0&&nm.toList==[]&&len==2
 else if k=6 then o==0&&n==0&&z0l nm&&len==1
 else if k=7 then o==0&&n==0&&z0l nm&&decide (len<=8)
 else if k=8 then o==0&&n==0&&nm.toList==[]&&len==0
 else false
mutual
def rx:Ex->Int->Bool
 |.mk k o n nm args,most=>rxL args most&&rOwn k o n nm args.length
def rxL:List Ex->Int->Bool
 |[],_=>true
 |x::r,most=>(!decide (most<2)&&rx x (most-1))&&rxL r most
end
theorem y21(op:Int):SC Tryz.prog 180 [.pv (.val (.int .i64 op))] [] (λk=>k∈[]) (iBool (z2w op)) []:=by
 refine SC.vc tb {} [] Tryz.func180 rfl rfl ?_;unfold z2w;exact z00 (λh=>⟨sE (by rw[h];rfl),Gb⟩) λh=>⟨sE (by rw[h];rfl),Gb⟩
theorem zh4{x:Ex}:∀{l:List Ex},x∈l->xz x<=xzL l
 |y::r,h=>by
  simp only[xzL];rcases Ao.1 h with rfl|h
  ·omega
  ·have:=zh4 h;omega
theorem zf8(l:Nat):((l:Int)==0)=(l==0):=by rw[Cl];simp
theorem zf9(l:Nat):((l:Int)==1)=(l==1):=by rw[Cl];simp;omega
theorem zg0(l:Nat):((l:Int)==2)=(l==2):=by rw[Cl];simp;omega
theorem zg1(l:Nat):decide ((l:Int)<=8)=decide (l<=8):=by rw[Cl];simp;omega
theorem sc_rx:∀(N:Nat)(e:Ex),SizeOf.sizeOf e<N->xz e<=1073741824->∀most:Int,0<=most->most<=100->SC Tryz.prog 132 [.pv (exv e),.pv (.val (.int .i64 most))] [] (λk=>k∈[]) (iBool (rx e most)) []
 |0,_,h,_,_,_,_=>absurd h (Aj _)
 |N+1,.mk k o n nm args,hN,hx,most,h0,h1=>by
  refine SC.vc tb { pb:=[102] } [] Tryz.func132 rfl rfl ?_;have hl:=zb5 args;simp only[xz]at hx;refine⟨Nat,λi=>[(5,iInt ((i:Nat):Int))],λ_=>[],λi=>args.length-i,λi=>i<=args.length/\rxL args most=rxL (args.drop i) most,[],0,⟨Ad _,rfl⟩,Gc,Gb,?_⟩;rintro i ⟨i1,i2⟩;refine z00 (λhc=>?_) λhc=>?_
  ·have hlt:i<args.length:=z0z (f:=Ex.enc) rfl hc;obtain⟨x,x1,x2,x3,x4⟩:=z0p hlt;rw[x3]at i2;simp only[rxL]at i2;refine z00 (λc1=>?_) λc1=>?_
   ·rw[c1]at i2;exact⟨sE (by rw[rx,i2];rfl),Gb⟩
   ·rw[c1]at i2;have hxx:=zh4 x4;have hsz:SizeOf.sizeOf x<N:=by have:=Bm x4;simp at hN;omega
    have c2:=Al c1;refine⟨z1c x1,rfl,z3b rfl oM0,[],sc_rx N x hsz oM0 (most-1) oM0 oM0,sR,Gb,rfl,z00 (λc3=>?_) λc3=>?_⟩
    ·rw[show rx x (most-1)=false by simpa using c3]at i2;exact⟨sE (by rw[rx,i2];rfl),Gb⟩
    ·rw[show rx x (most-1)=true by simpa using c3]at i2;exact⟨z01 rfl oM0,i+1,z03 hlt,⟨hlt,i2⟩,Gc,Gb,rfl,rfl,rfl,rfl⟩
  ·have hge:args.length<=i:=z10 (f:=Ex.enc) rfl hc;rw[Ab hge]at i2;have hR:rx (.mk k o n nm args) most=rOwn k o n nm args.length:=by rw[rx,i2];rfl
   generalize rx (.mk k o n nm args) most=R at hR;clear i1 i2 hc hge hN hx h0 h1;have nl:(nm.toList==ByteArray.toList ⟨#[]⟩)=(nm.toList==[]):=by simp
   have hnm:=z6o nm;have hcase:k=1∨k=2∨k=3∨k=4∨k=5∨k=6∨k=7∨k=8∨(k≠1/\k≠2/\k≠3/\k≠4/\k≠5/\k≠6/\k≠7/\k≠8):=by omega
   by_cases ho:o=0
   ·subst ho;have e0:z2w 0=false:=rfl;have e1:z4j 0=0:=rfl;refine⟨[],hnm,sR,Gb,rfl,?_⟩;rcases hcase with rfl|rfl|rfl|rfl|rfl|rfl|rfl|rfl|hk
    ·repeat' (first|exact⟨sE (Af iBool (by rw[hR];simp_all[rOwn,zf8,zf9,zg0,zg1,Ex.op,Ex.n,Ex.name,Ex.args]<;>first|done|omega|(intro h;omega))),Gb⟩|refine z00 (λ_=>?_) λ_=>?_)
    ·repeat' (first|exact⟨sE (Af iBool (by rw[hR];simp_all[rOwn,zf8,zf9,zg0,zg1,Ex.op,Ex.n,Ex.name,Ex.args]<;>first|done|omega|(intro h;omega))),Gb⟩|refine z00 (λ_=>?_) λ_=>?_)
    ·repeat' (first|exact⟨sE (Af iBool (by rw[hR];simp_all[rOwn,zf8,zf9,zg0,zg1,Ex.op,Ex.n,Ex.name,Ex.args]<;>first|done|omega|(intro h;omega))),Gb⟩|refine z00 (λ_=>?_) λ_=>?_)
    ·refine⟨[],y21 0,sR,Gb,rfl,?_⟩
     repeat' (first|exact⟨sE (Af iBool (by rw[hR];simp_all[rOwn,zf8,zf9,zg0,zg1,Ex.op,Ex.n,Ex.name,Ex.args]<;>first|done|omega|(intro h;omega))),Gb⟩|refine z00 (λ_=>?_) λ_=>?_)
    ·refine⟨[],zn9 0,sR,Gb,rfl,?_⟩
     repeat' (first|exact⟨sE (Af iBool (by rw[hR];simp_all[rOwn,zf8,zf9,zg0,zg1,Ex.op,Ex.n,Ex.name,Ex.args]<;>first|done|omega|(intro h;omega))),Gb⟩|refine z00 (λ_=>?_) λ_=>?_)
    ·repeat' (first|exact⟨sE (Af iBool (by rw[hR];simp_all[rOwn,zf8,zf9,zg0,zg1,Ex.op,Ex.n,Ex.name,Ex.args]<;>first|done|omega|(intro h;omega))),Gb⟩|refine z00 (λ_=>?_) λ_=>?_)
    ·repeat' (first|exact⟨sE (Af iBool (by rw[hR];simp_all[rOwn,zf8,zf9,zg0,zg1,Ex.op,Ex.n,Ex.name,Ex.args]<;>first|done|omega|(intro h;omega))),Gb⟩|refine z00 (λ_=>?_) λ_=>?_)
    ·repeat' (first|exact⟨sE (Af iBool (by rw[hR];simp_all[rOwn,zf8,zf9,zg0,zg1,Ex.op,Ex.n,Ex.name,Ex.args]<;>first|done|omega|(intro h;omega))),Gb⟩|refine z00 (λ_=>?_) λ_=>?_)
    ·refine z00 (λh=>absurd (eq_of_beq h) hk.1) λ_=>z00 (λh=>absurd (eq_of_beq h) hk.2.1) λ_=>z00 (λh=>absurd (eq_of_beq h) hk.2.2.1) λ_=>z00 (λh=>absurd (eq_of_beq h) hk.2.2.2.1) λ_=>z00 (λh=>absurd (eq_of_beq h) hk.2.2.2.2.1) λ_=>z00 (λh=>absurd (eq_of_beq h) hk.2.2.2.2.2.1) λ_=>z00 (λh=>absurd (eq_of_beq h) hk.2.2.2.2.2.2.1) λ_=>z00 (λh=>absurd (eq_of_beq h) hk.2.2.2.2.2.2.2) λ_=>?_;exact⟨sE (Af iBool (by rw[hR];unfold rOwn;obtain⟨g1,g2,g3,g4,g5,g6,g7,g8⟩:=hk;rw[if_neg g1,if_neg g2,if_neg g3,if_neg g4,if_neg g5,if_neg g6,if_neg g7,if_neg g8])),Gb⟩
   ·refine z00 (λh=>absurd (eq_of_beq h) ho) λ_=>⟨[],hnm,sR,Gb,rfl,?_⟩;rcases hcase with rfl|rfl|rfl|rfl|rfl|rfl|rfl|rfl|hk
    ·repeat' (first|exact⟨sE (Af iBool (by rw[hR];simp_all[rOwn,zf8,zf9,zg0,zg1,Ex.op,Ex.n,Ex.name,Ex.args]<;>first|done|omega|(intro h;omega))),Gb⟩|refine z00 (λ_=>?_) λ_=>?_)
    ·repeat' (first|exact⟨sE (Af iBool (by rw[hR];simp_all[rOwn,zf8,zf9,zg0,zg1,Ex.op,Ex.n,Ex.name,Ex.args]<;>first|done|omega|(intro h;omega))),Gb⟩|refine z00 (λ_=>?_) λ_=>?_)
    ·repeat' (first|exact⟨sE (Af iBool (by rw[hR];simp_all[rOwn,zf8,zf9,zg0,zg1,Ex.op,Ex.n,Ex.name,Ex.args]<;>first|done|omega|(intro h;omega))),Gb⟩|refine z00 (λ_=>?_) λ_=>?_)
    ·refine⟨[],y21 o,sR,Gb,rfl,?_⟩
     repeat' (first|exact⟨sE (Af iBool (by rw[hR];simp_all[rOwn,zf8,zf9,zg0,zg1,Ex.op,Ex.n,Ex.name,Ex.args]<;>first|done|omega|(intro h;omega))),Gb⟩|refine z00 (λ_=>?_) λ_=>?_)
    ·refine⟨[],zn9 o,sR,Gb,rfl,?_⟩
     repeat' (first|exact⟨sE (Af iBool (by rw[hR];simp_all[rOwn,zf8,zf9,zg0,zg1,Ex.op,Ex.n,Ex.name,Ex.args]<;>first|done|omega|(intro h;omega))),Gb⟩|refine z00 (λ_=>?_) λ_=>?_)
    ·repeat' (first|exact⟨sE (Af iBool (by rw[hR];simp_all[rOwn,zf8,zf9,zg0,zg1,Ex.op,Ex.n,Ex.name,Ex.args]<;>first|done|omega|(intro h;omega))),Gb⟩|refine z00 (λ_=>?_) λ_=>?_)
    ·repeat' (first|exact⟨sE (Af iBool (by rw[hR];simp_all[rOwn,zf8,zf9,zg0,zg1,Ex.op,Ex.n,Ex.name,Ex.args]<;>first|done|omega|(intro h;omega))),Gb⟩|refine z00 (λ_=>?_) λ_=>?_)
    ·repeat' (first|exact⟨sE (Af iBool (by rw[hR];simp_all[rOwn,zf8,zf9,zg0,zg1,Ex.op,Ex.n,Ex.name,Ex.args]<;>first|done|omega|(intro h;omega))),Gb⟩|refine z00 (λ_=>?_) λ_=>?_)
    ·refine z00 (λh=>absurd (eq_of_beq h) hk.1) λ_=>z00 (λh=>absurd (eq_of_beq h) hk.2.1) λ_=>z00 (λh=>absurd (eq_of_beq h) hk.2.2.1) λ_=>z00 (λh=>absurd (eq_of_beq h) hk.2.2.2.1) λ_=>z00 (λh=>absurd (eq_of_beq h) hk.2.2.2.2.1) λ_=>z00 (λh=>absurd (eq_of_beq h) hk.2.2.2.2.2.1) λ_=>z00 (λh=>absurd (eq_of_beq h) hk.2.2.2.2.2.2.1) λ_=>z00 (λh=>absurd (eq_of_beq h) hk.2.2.2.2.2.2.2) λ_=>?_;exact⟨sE (Af iBool (by rw[hR];unfold rOwn;obtain⟨g1,g2,g3,g4,g5,g6,g7,g8⟩:=hk;rw[if_neg g1,if_neg g2,if_neg g3,if_neg g4,if_neg g5,if_neg g6,if_neg g7,if_neg g8])),Gb⟩
def shp(k:Int):Bool×Bool×Int×Bool×Bool :=
 if k=1 then(true,true,1,false,false)else if k=2 then(false,true,1,false,false)else if k=3 then(false,true,2,false,false)
 else if k=4 then(false,false,1,true,true)else if k=5 then(false,false,1,true,false)else if k=6∨k=7 then(false,false,0,false,false)
 else if k=8∨k=9∨k=10 then(false,false,1,false,false)else(false,false,-1,false,false)
def shpV(s:Bool×Bool×Int×Bool×Bool):IV:=.tup [iBool s.1,iBool s.2.1,iInt s.2.2.1,iBool s.2.2.2.1,iBool s.2.2.2.2]
theorem sc_shape(k:Int):SC Tryz.prog 131 [.pv (.val (.int .i64 k))] [] (λk=>k∈[]) (shpV (shp k)) []:=by
 refine SC.vc tb {} [] Tryz.func131 rfl rfl ?_;have hcase:k=1∨k=2∨k=3∨k=4∨k=5∨k=6∨k=7∨k=8∨k=9∨k=10∨(k≠1/\k≠2/\k≠3/\k≠4/\k≠5/\k≠6/\k≠7/\k≠8/\k≠9/\k≠10):=by omega
 rcases hcase with rfl|rfl|rfl|rfl|rfl|rfl|rfl|rfl|rfl|rfl|hk
 iterate 10 exact⟨sI,Gb⟩
 have hs:shp k=(false,false,-1,false,false):=by
  unfold shp;rw[if_neg oM0,if_neg oM0,if_neg oM0,if_neg oM0,if_neg oM0,if_neg oM0,if_neg oM0]
 rw[hs]
 repeat' (first|exact⟨sI,Gb⟩|refine z00 (λh=>absurd (eq_of_beq h) oM0) λ_=>?_)
theorem y4n(t:Int):SC Tryz.prog 85 [.pv (.val (.int .i64 t))] [] (λk=>k∈[]) (iBool (t==1||t==2)) []:=by
 refine SC.vc tb {} [] Tryz.func85 rfl rfl ?_;exact z00 (λh=>⟨sE (by rw[h];rfl),Gb⟩) λh=>⟨sE (by rw[h];rfl),Gb⟩
def yu4(k ty:Int)(nm:ByteArray)(len:Nat)(most:Int):Bool :=
 decide (most<1)||(len:Int) != (shp k).2.2.1||(shp k).1 != (ty==1||ty==2)||(!(shp k).1&&ty != 0)||(shp k).2.1 != z0l nm||(!(shp k).2.1 && !(nm.toList==[]))
def j1x(k:Int)(args:List Ex)(a b:Nat):Bool :=
 (k==10&&((args.head?.map Ex.kind).getD 0) != 7)||(!(shp k).2.2.2.1&&decide (0<a))||(!(shp k).2.2.2.2&&decide (0<b))
mutual
def rst:St->Int->Bool
 |.mk k ty nm args thn els,most=>!yu4 k ty nm args.length most&&args.all (λe=>rx e 100) && !j1x k args thn.length els.length&&rsL thn (most-1)&&rsL els (most-1)
def rsL:List St->Int->Bool
 |[],_=>true
 |x::r,most=>rst x most&&rsL r most
end
def rTy(t:Int):Bool:=t==1||t==2
def rFu(f:Fu):Bool:=z0l f.name&&rTy f.ty&&decide (f.params.length<=8)&&rsL f.body 100&&f.params.all λp=>z0l p.name&&rTy p.ty
def rPg(p:Pg):Bool:=(p.arrays.all λa=>z0l a.name&&decide (1<=a.size)&&decide (a.size<=1000))&&p.funcs.all rFu
theorem y4j(x:St)(most:Int):rst x most=(!yu4 x.kind x.ty x.name x.args.length most&&x.args.all (λe=>rx e 100) && !j1x x.kind x.args x.thn.length x.els.length&&rsL x.thn (most-1)&&rsL x.els (most-1)):=by
 cases x;rw[rst];rfl
theorem y3e(x:St):sz x=1+xzL x.args+szL x.thn+szL x.els:=by cases x;rw[sz];rfl
theorem zx5{x:St}:∀{l:List St},x∈l->sz x<=szL l
 |y::r,h=>by
  simp only[szL];rcases Ao.1 h with rfl|h
  ·omega
  ·have:=zx5 h;omega
theorem zt6(x:St):SizeOf.sizeOf x.thn<SizeOf.sizeOf x/\SizeOf.sizeOf x.els<SizeOf.sizeOf x:=by
 cases x;simp[St.thn,St.els];omega
theorem j35:∀(N:Nat)(l:List St),SizeOf.sizeOf l<N->szL l<=1073741824->∀most:Int,0<=most->most<=100->SC Tryz.prog 86 [.pv (sts l),.pv (.val (.int .i64 most))] [] (λk=>k∈[]) (iBool (rsL l most)) []
 |0,_,h,_,_,_,_=>absurd h (Aj _)
 |N+1,l,hN,hx,most,h0,h1=>by
  refine SC.vc tb { pb:=[106],jn:=[8,3] } [] Tryz.func86 rfl rfl ?_;have hl:=z8j l;refine⟨Nat,λi=>[(5,iInt ((i:Nat):Int))],λ_=>[],λi=>l.length-i,λi=>i<=l.length/\rsL l most=rsL (l.drop i) most,[],0,⟨Ad _,rfl⟩,Gc,Gb,?_⟩;rintro i ⟨i1,i2⟩;refine z00 (λhc=>?_) λhc=>?_
  ·have hlt:i<l.length:=z0z (f:=St.enc) rfl hc;obtain⟨x,x1,x2,x3,x4⟩:=z0p hlt;rw[x3]at i2;rw[rsL,y4j]at i2;have hxx:=zx5 x4;rw[y3e]at hxx;have hal:=zb5 x.args;have hsz:SizeOf.sizeOf x.thn<N/\SizeOf.sizeOf x.els<N:=by have:=Bm x4;have:=zt6 x;omega
   refine⟨Unit,λ_=>[],λ_=>[],λ_=>rsL l most=rsL (l.drop (i+1)) most,[],?_,?_⟩
   ·have hS:=sc_shape x.kind;have h10:x.kind=10->(shp x.kind).2.2.1=1:=λe=>by rw[e];rfl
    unfold yu4 j1x at i2;generalize shp x.kind=s at hS i2 h10;obtain⟨s1,s2,s3,s4,s5⟩:=s;dsimp only at hS i2 h10;generalize hT:((x.kind==10&&((x.args.head?.map Ex.kind).getD 0) != 7)||(!s4&&decide (0<x.thn.length))||(!s5&&decide (0<x.els.length)))=tl at i2;refine⟨zj9 x1,rfl,[],hS,sR,Gb,rfl,Unit,λ_=>[],λ_=>[],λ_=>¬most<1/\(x.args.length:Int)=s3/\rsL l most=(x.args.all (λe=>rx e 100) && !tl&&rsL x.thn (most-1)&&rsL x.els (most-1)&&rsL (l.drop (i+1)) most),[],?_,?_⟩
    ·have nl:(x.name.toList==ByteArray.toList ⟨#[]⟩)=(x.name.toList==[]):=by simp
     have hnm:=z6o x.name;clear hT hS h10 hxx hal hsz x2 x3 x4 hl hx hN;refine z00 (λc1=>⟨sE (Af iBool (by rw[i2,c1];rfl)),Gb⟩) λc1=>z00 (λc2=>?_) λc2=>?_
     ·have c2:((x.args.length:Int) != s3)=true:=by simpa using c2
      exact⟨sE (Af iBool (by rw[i2,c2];simp)),Gb⟩
     ·have c2:((x.args.length:Int) != s3)=false:=by simpa using c2
      have fin:=i2;rw[c1,c2]at fin;have d1:=Al c1;have d2:(x.args.length:Int)=s3:=by simpa using c2
      clear i2 c1 c2
      cases s1<;>cases s2 <;>
      repeat' (first|exact⟨sE (Af iBool (by rw[fin];simp_all)),Gb⟩|exact⟨(),⟨d1,d2,by rw[fin];simp_all⟩,Gb,Gb,rfl,rfl,rfl,rfl⟩|refine z00 (λ_=>?_) λ_=>?_|refine⟨[],hnm,sR,Gb,rfl,?_⟩)
    ·rintro _ ⟨d1,d2,hA⟩;clear i2;refine⟨Nat,λj=>[(12,iInt ((j:Nat):Int))],λ_=>[],λj=>x.args.length-j,λj=>j<=x.args.length/\x.args.all (λe=>rx e 100)=(x.args.drop j).all (λe=>rx e 100),[],0,⟨Ad _,rfl⟩,Gc,Gb,?_⟩;rintro j ⟨j1,j2⟩;refine z00 (λc1=>?_) λc1=>?_
     ·have c1:(j:Int)<s3:=An c1;have hlj:j<x.args.length:=by omega
      obtain⟨e,e1,e2,e3,e4⟩:=z0p hlj;have:=zh4 e4;rw[e3,D2]at j2;refine⟨z1c e1,rfl,[],sc_rx _ e (Aa _) oM0 100 dC0 dC0,sR,Gb,rfl,z00 (λc2=>?_) λc2=>?_⟩
      ·exact⟨sE (Af iBool (by rw[hA,j2,show rx e 100=false by simpa using c2];rfl)),Gb⟩
      ·rw[show rx e 100=true by simpa using c2,B0]at j2;exact⟨z01 rfl oM0,j+1,z03 hlj,⟨hlj,j2⟩,Gc,Gb,rfl,rfl,rfl,rfl⟩
     ·have c1:¬(j:Int)<s3:=Al c1;rw[Ab oM0]at j2;rw[j2,show List.all [] (λe=>rx e 100)=true from rfl,B0]at hA;have r1:=j35 N x.thn hsz.1 oM0 (most-1) oM0 oM0;have r2:=j35 N x.els hsz.2 oM0 (most-1) oM0 oM0;have s1:z3c .sub .i64 most 1=some (.int .i64 (most-1)):=z3b rfl oM0;have ha:x.kind=10->∃e,x.args[0]?=some e/\((x.args.head?.map Ex.kind).getD 0)=e.kind:=λe=>by
       have:=h10 e
       match hx:x.args with
       |[]=>rw[hx]at d2;simp at d2;omega
       |e0::r=>exact⟨e0,rfl,rfl⟩
      clear h10 j1 j2 hS hxx hal hsz x2 x3 x4 hl hx hN i1;subst hT;generalize rsL x.thn (most-1)=q1 at hA r1;generalize rsL x.els (most-1)=q2 at hA r2;refine z00 (λk1=>?_) λk1=>?_
      ·obtain⟨e0,e1,e2⟩:=ha (eq_of_beq k1);rw[e2]at hA;refine⟨z1c (i:=0) e1,rfl,?_⟩
       cases s4<;>cases s5 <;>
       repeat' (first|exact⟨sE (Af iBool (by rw[hA];simp_all)),Gb⟩|exact⟨(),by rw[hA];simp_all,Gb,Gb,rfl,rfl,rfl,rfl⟩|refine z00 (λ_=>?_) λ_=>?_|refine⟨s1,[],r1,sR,Gb,rfl,?_⟩|refine⟨s1,[],r2,sR,Gb,rfl,?_⟩)
      ·cases s4<;>cases s5 <;>
       repeat' (first|exact⟨sE (Af iBool (by rw[hA];simp_all)),Gb⟩|exact⟨(),by rw[hA];simp_all,Gb,Gb,rfl,rfl,rfl,rfl⟩|refine z00 (λ_=>?_) λ_=>?_|refine⟨s1,[],r1,sR,Gb,rfl,?_⟩|refine⟨s1,[],r2,sR,Gb,rfl,?_⟩)
   ·intro _ hA;exact⟨z01 rfl oM0,i+1,z03 hlt,⟨hlt,hA⟩,Gc,Gb,rfl,rfl,rfl,rfl⟩
  ·have hge:l.length<=i:=z10 (f:=St.enc) rfl hc;rw[Ab hge]at i2;exact⟨sE (by rw[i2];rfl),Gb⟩
section
theorem tStep_sz{s:ByteArray}{line a:Nat}{b:UInt8}{t:Tk}{a2:Nat}(h:zt9 s line a b=.tok t a2):t.text.size<=s.size:=by
 unfold zt9 at h;split at h
 ·cases h
 split at h
 ·cases h
 split at h
 ·cases h
 split at h
 ·split at h
  ·cases h
  ·cases h
   show(s.extract a (a+z4e s a)).size<=s.size;rw[Cj];omega
 ·split at h
  ·cases h
  ·cases h
   show(sgOf (s.extract a s.size)).size<=s.size;rcases zz9 (s.extract a s.size) sgL with h|h
   ·unfold sgOf;rw[h];exact Ad _
   ·have:=h.2;rw[Cj]at this;unfold sgOf;omega
theorem yi6(s:ByteArray):∀(N line a:Nat)(out:List Tk),(∀t∈out,t.text.size<=s.size)->∀t∈(toks s N line a out).1,t.text.size<=s.size
 |0,_,_,_,_,t,ht=>by simp[toks]at ht
 |N+1,line,a,out,ho,t,ht=>by
  unfold toks at ht
  cases hb:s.data.toList[a]? with
  |none =>
   rw[hb]at ht;rcases B4.1 ht with ht|ht
   ·exact ho t ht
   ·rw[Ak.1 ht];exact Ad _
  |some b =>
   rw[hb]at ht;dsimp only at ht
   cases hst:zt9 s line a b with
   |skip l2 a2=>rw[hst]at ht;exact yi6 s N l2 a2 out ho t ht
   |tok t2 a2 =>
    rw[hst]at ht;refine yi6 s N line a2 (out++[t2]) (λt' ht'=>?_) t ht;rcases B4.1 ht' with ht'|ht'
    ·exact ho t' ht'
    ·rw[Ak.1 ht'];exact tStep_sz hst
   |bad l=>rw[hst]at ht;cases ht
theorem j4e(s:ByteArray):∀t∈(z1u s).1,t.text.size<=s.size:=by
 unfold z1u;split
 ·intro t ht;cases ht
 ·exact yi6 s _ _ _ [] (λt ht=>by cases ht)
def pz:List Fu->Nat
 |[]=>0
 |f::r=>1+f.params.length+szL f.body+pz r
theorem pz_app:∀a b:List Fu,pz (a++b)=pz a+pz b
 |[],b=>by simp[pz]
 |x::r,b=>by simp only[Bb,pz,pz_app r b];omega
variable {T:List Tk}
theorem y8r(hT:TkOk T):∀N b out s,(za2 T N b out s).1.length+s.at_<=out.length+(bif b then 1 else 0)+(za2 T N b out s).2.at_
 |0,b,out,s=>by show out.length+s.at_<=_+_+s.at_;omega
 |N+1,b,out,s=>by
  unfold za2;split
  ·rename_i hc;have h1:=y8r hT N false (out++[⟨(z0m T 1 (z0r T (aGo T b s)).2).1,(z0r T (aGo T b s)).1⟩]) (z0m T 1 (z0r T (aGo T b s)).2).2;rw[B5]at h1;have h2:=(z5h hT (s:=aGo T b s)).at_;have h3:=(z1y hT (k:=1) dC0 (s:=(z0r T (aGo T b s)).2)).at_;simp only[A1,A6,Cu]at h1
   cases b with
   |true =>
    have h4:(aGo T true s).at_=s.at_:=rfl;simp only[Dw]
    omega
   |false =>
    have hi:pIs T zn4 s=true:=by simpa using hc.1
    have h4:(aGo T false s).at_=s.at_+1:=by simp[aGo,z8k,hi,z0n]
    simp only[Cu];omega
  ·have:=(y3q hT (b:=b) (s:=s)).at_;dsimp only;omega
theorem func_sz(hT:TkOk T){t:Int}{n:ByteArray}{s:Ps}(h:(z75 T t n s).2.over=false):(z75 T t n s).1.params.length+szL (z75 T t n s).1.body+3*s.at_<=3*(z75 T t n s).2.at_+1:=by
 unfold z75 at h⊢;dsimp only at h⊢;have h1:=(yq2 hT (big T)).2.1 1 _ h;have h2:=(z0b hT (w:=sRo) (s:=s)).at_;have h6:=(zk7 hT (s:=z0o T sRo s)).at_;have h3:=((z5g hT (big T)).2.1 1 (z7k T (z0o T sRo s)).2).at_;have h4:(z7k T (z0o T sRo s)).1.length+(z0o T sRo s).at_<=1+(z7k T (z0o T sRo s)).2.at_:=by
  unfold z7k;split
  ·simp only[A6,z0n];omega
  ·have:=y8r hT (big T) true [] (z0o T sRo s);have h5:=(z0b hT (w:=sRc) (s:=(za2 T (big T) true [] (z0o T sRo s)).2)).at_;simp only[A6,Dw]at this;dsimp only;omega
 omega
theorem z9a(hT:TkOk T):∀N p s,Fw T s (z43 T N p s).2
 |0,_,_=>.rfl
 |N+1,p,s=>by
  unfold z43;split
  ·exact .rfl
  split
  ·rename_i c2;have hc:pIs T sSo (z0m T 1 (z0r T s).2).2=true:=by unfold qArr at c2;simp only[A0]at c2;exact c2.2
   exact(z5h hT).trans ((z1y hT (k:=1) dC0).trans ((z12 hT hc).trans ((z1y hT (k:=0) dC0).trans ((z0b hT (w:=sSc)).trans ((z0b hT (w:=z5d)).trans (z9a hT N _ _))))))
  ·exact(z5h hT).trans ((z1y hT (k:=1) dC0).trans ((yb9 hT).trans (z9a hT N _ _)))
theorem y6a(hT:TkOk T):∀N p s,(z43 T N p s).2.over=false->pz (z43 T N p s).1.funcs+(z43 T N p s).1.arrays.length+3*s.at_<=pz p.funcs+p.arrays.length+3*(z43 T N p s).2.at_
 |0,_,_,_=>Ae _
 |N+1,p,s,h=>by
  unfold z43 at h⊢;split
  ·exact Ae _
  rename_i c1;rw[if_neg c1]at h;have a1:=(z5h hT (s:=s)).at_;have a2:=(z1y hT (k:=1) dC0 (s:=(z0r T s).2)).at_;split
  ·rename_i c2;rw[if_pos c2]at h;have h1:=y6a hT N _ _ h;have hc:pIs T sSo (z0m T 1 (z0r T s).2).2=true:=by unfold qArr at c2;simp only[A0]at c2;exact c2.2
   have a3:=(z1y hT (k:=0) dC0 (s:=(z0m T 1 (z0r T s).2).2.next)).at_;have a4:=(z0b hT (w:=sSc) (s:=(z0m T 0 (z0m T 1 (z0r T s).2).2.next).2)).at_;have a5:=(z0b hT (w:=z5d) (s:=z0o T sSc (z0m T 0 (z0m T 1 (z0r T s).2).2.next).2)).at_;rw[z0n]at a3;simp only[B5,A1,A6]at h1;omega
  ·rename_i c2;rw[if_neg c2]at h;have h1:=y6a hT N _ _ h;have b1:(z75 T (z0r T s).1 (z0m T 1 (z0r T s).2).1 (z0m T 1 (z0r T s).2).2).2.over=false:=(z9a hT N _ _).back h;have h2:=func_sz hT b1;have b2:=(yb9 hT).back b1;have a3:=z6q.lt b2;have a4:=zl0.lt ((z1y hT (k:=1) dC0).back b2);rw[pz_app]at h1;simp only[pz]at h1;omega
end
theorem zw0{f:Fu}:∀{l:List Fu},f∈l->1+f.params.length+szL f.body<=pz l
 |y::r,h=>by
  simp only[pz];rcases Ao.1 h with rfl|h
  ·omega
  ·have:=zw0 h;omega
theorem y3h{l:List Ar}{i:Nat}{x:Ar}(h:l[i]?=some x):(l.map Ar.enc)[i]?=some [vStr x.name,vInt x.size]:=by simp[h,Ar.enc]
theorem z9z{l:List Fu}{i:Nat}{x:Fu}(h:l[i]?=some x):(l.map Fu.enc)[i]?=some [vStr x.name,vInt x.ty,pms x.params,sts x.body]:=by simp[h,Fu.enc]
theorem zv9{l:List Pm}{i:Nat}{x:Pm}(h:l[i]?=some x):(l.map Pm.enc)[i]?=some [vStr x.name,vInt x.ty]:=by simp[h,Pm.enc]
theorem zl8:∀l:List Fu,l.length<=pz l
 |[]=>Ae _
 |x::r=>by have:=zl8 r;simp only[A1,pz];omega
theorem sc_Right(p:Pg)(hb:pz p.funcs<=1073741824)(ha:p.arrays.length<=1073741824):SC Tryz.prog 45 [.pv p.enc] [] (λk=>k∈[]) (iBool (rPg p)) []:=by
 refine SC.vc tb {} [] Tryz.func45 rfl rfl ?_;have hfl:=zl8 p.funcs;refine⟨Nat,λi=>[(3,iInt ((i:Nat):Int))],λ_=>[],λi=>p.arrays.length-i,λi=>i<=p.arrays.length/\(p.arrays.all λa=>z0l a.name&&decide (1<=a.size)&&decide (a.size<=1000))=((p.arrays.drop i).all λa=>z0l a.name&&decide (1<=a.size)&&decide (a.size<=1000)),[],0,⟨Ad _,rfl⟩,Gc,Gb,?_⟩;rintro i ⟨i1,i2⟩;refine z00 (λhc=>?_) λhc=>?_
 ·have hlt:i<p.arrays.length:=z0z (f:=Ar.enc) rfl hc;obtain⟨x,x1,x2,x3,x4⟩:=z0p hlt;rw[x3,D2]at i2;refine⟨y3h x1,rfl,[],z6o x.name,sR,Gb,rfl,z00 (λc1=>?_) λc1=>⟨y3h x1,rfl,z00 (λc2=>?_) λc2=>⟨y3h x1,rfl,z00 (λc3=>?_) λc3=>?_⟩⟩⟩
  ·exact⟨sE (Af iBool (by unfold rPg;rw[i2,show z0l x.name=false by simpa using c1];rfl)),Gb⟩
  ·exact⟨sE (Af iBool (by unfold rPg;have:=An c2;rw[i2,show decide (1<=x.size)=false by simpa using this];simp)),Gb⟩
  ·exact⟨sE (Af iBool (by unfold rPg;have:=An c3;rw[i2,show decide (x.size<=1000)=false by simpa using this];simp)),Gb⟩
  ·have d2:=Al c2;have d3:=Al c3;rw[show z0l x.name=true by simpa using c1,show decide (1<=x.size)=true by simpa using d2,show decide (x.size<=1000)=true by simpa using d3,B0,B0,B0]at i2;exact⟨z01 rfl oM0,i+1,z03 hlt,⟨hlt,i2⟩,Gc,Gb,rfl,rfl,rfl,rfl⟩
 ·have hge:p.arrays.length<=i:=z10 (f:=Ar.enc) rfl hc;rw[Ab hge,Ft]at i2;have hR:rPg p=p.funcs.all rFu:=by unfold rPg;rw[i2,B0]
  clear i1 i2 hc hge;refine⟨Nat,λi=>[(4,iInt ((i:Nat):Int))],λ_=>[],λi=>p.funcs.length-i,λi=>i<=p.funcs.length/\rPg p=(p.funcs.drop i).all rFu,[],0,⟨Ad _,hR⟩,Gc,Gb,?_⟩;rintro i ⟨i1,i2⟩;refine z00 (λhc=>?_) λhc=>?_
  ·have hlt:i<p.funcs.length:=z0z (f:=Fu.enc) rfl hc;obtain⟨x,x1,x2,x3,x4⟩:=z0p hlt;have hpz:=zw0 x4;rw[x3,D2]at i2;refine⟨z9z x1,rfl,[],z6o x.name,sR,Gb,rfl,z00 (λc1=>?_) λc1=>⟨[],y4n x.ty,sR,Gb,rfl,z00 (λc2=>?_) λc2=>z00 (λc3=>?_) λc3=>⟨[],j35 _ x.body (Aa _) oM0 100 dC0 dC0,sR,Gb,rfl,z00 (λc4=>?_) λc4=>?_⟩⟩⟩
   ·exact⟨sE (Af iBool (by unfold rFu at i2;rw[i2,show z0l x.name=false by simpa using c1];rfl)),Gb⟩
   ·exact⟨sE (Af iBool (by unfold rFu at i2;rw[i2,show rTy x.ty=false by simpa[rTy]using c2];simp)),Gb⟩
   ·exact⟨sE (Af iBool (by unfold rFu at i2;have:=An c3;rw[i2,show decide (x.params.length<=8)=false by simp at this⊢;omega];simp)),Gb⟩
   ·exact⟨sE (Af iBool (by unfold rFu at i2;rw[i2,show rsL x.body 100=false by simpa using c4];simp)),Gb⟩
   ·have hF:rFu x=x.params.all λp=>z0l p.name&&rTy p.ty:=by
     unfold rFu;have:=Al c3;rw[show z0l x.name=true by simpa using c1,show rTy x.ty=true by unfold rTy;simpa only[Bool.not_eq_false']using c2,show decide (x.params.length<=8)=true by simp at this⊢;omega,show rsL x.body 100=true by simpa using c4];rfl
    rw[hF]at i2;refine⟨Nat,λj=>[(6,iInt ((j:Nat):Int))],λ_=>[],λj=>x.params.length-j,λj=>j<=x.params.length/\(x.params.all λp=>z0l p.name&&rTy p.ty)=(x.params.drop j).all λp=>z0l p.name&&rTy p.ty,[],0,⟨Ad _,rfl⟩,Gc,Gb,?_⟩;rintro j ⟨j1,j2⟩;refine z00 (λhd=>?_) λhd=>?_
    ·have hlj:j<x.params.length:=z0z (f:=Pm.enc) rfl hd;obtain⟨y,y1,y2,y3,y4⟩:=z0p hlj;rw[y3,D2]at j2;refine⟨zv9 y1,rfl,[],z6o y.name,sR,Gb,rfl,z00 (λk1=>?_) λk1=>⟨zv9 y1,rfl,[],y4n y.ty,sR,Gb,rfl,z00 (λk2=>?_) λk2=>?_⟩⟩
     ·exact⟨sE (Af iBool (by rw[i2,j2,show z0l y.name=false by simpa using k1];rfl)),Gb⟩
     ·exact⟨sE (Af iBool (by rw[i2,j2,show rTy y.ty=false by simpa[rTy]using k2];simp)),Gb⟩
     ·rw[show z0l y.name=true by simpa using k1,show rTy y.ty=true by unfold rTy;simpa only[Bool.not_eq_false']using k2,B0,B0]at j2;exact⟨z01 rfl oM0,j+1,z03 hlj,⟨hlj,j2⟩,Gc,Gb,rfl,rfl,rfl,rfl⟩
    ·have hge:x.params.length<=j:=z10 (f:=Pm.enc) rfl hd;rw[Ab hge,Ft]at j2;rw[j2,B0]at i2;exact⟨z01 rfl oM0,i+1,z03 hlt,⟨hlt,i2⟩,Gc,Gb,rfl,rfl,rfl,rfl⟩
  ·have hge:p.funcs.length<=i:=z10 (f:=Fu.enc) rfl hc;rw[Ab hge,Ft]at i2;exact⟨sE (by rw[i2]),Gb⟩
theorem z55{b:Bool}{A:Prop}(h:b=true)(a:A):z2e b A:=by rw[h];exact a
theorem z1d{α:Type}(p:α -> Bool):∀(l:List α)(j:Int){i:Nat},(∀x∈l.take i,p x=false)->idxP p l j=idxP p (l.drop i) (j+i)
 |l,j,0,_=>by simp
 |[],j,i+1,_=>by simp[idxP]
 |x::r,j,i+1,h=>by
  have h1:=h x sI0;rw[idxP,if_neg (by simp[h1]),z1d p r (j+1) (i:=i) (λy hy=>h y (by simp[hy])),F7]
  congr 1;omega
theorem sc_idxSt(fq:FuncId)(ws:List IV)(hent:tb.fn fq=true)(p:St->Bool)(l:List St)(hl:l.length<=4611686018427387904)(h:∀x∈l,SC Tryz.prog fq (.pv (stv x)::ws) [] (λk=>k∈[]) (iBool (p x)) []):SC Tryz.prog 113 [.pv (sts l),.fn (.func fq) [] ws] [] (λk=>k∈[]) (iInt (idxP p l 0)) []:=by
 refine SC.vc tb {} [] Tryz.func113 rfl rfl ?_;refine⟨Nat,λi=>[(8,iInt ((i:Nat):Int))],λ_=>[],λi=>l.length-i,λi=>i<=l.length/\∀x∈l.take i,p x=false,[],0,⟨Ad _,λx hx=>by simp at hx⟩,Gc,Gb,?_⟩;rintro i ⟨i1,i2⟩;refine z00 (λhc=>?_) λhc=>?_
 ·have hlt:i<l.length:=z0z (f:=St.enc) rfl hc;obtain⟨x,x1,x2,x3,x4⟩:=z0p hlt;refine⟨zj9 x1,rfl,z55 (b:=tb.fn fq) hent ⟨h x x4,sR,Gb,λk hk=>hk,rfl,rfl,z00 (λc=>?_) λc=>?_⟩⟩
  ·exact⟨sE (by rw[z1d p l 0 i2,x3,idxP,if_pos c,Dq]),Gb⟩
  ·exact⟨z01 rfl oM0,i+1,z03 hlt,⟨hlt,λy hy=>by rw[x2]at hy;rcases B4.1 hy with g|g;exact i2 y g;rw[Ak.1 g];exact c⟩,Gc,Gb,rfl,rfl,rfl,rfl⟩
 ·have hge:l.length<=i:=z10 (f:=St.enc) rfl hc;exact⟨sE (by rw[z1d p l 0 i2,Ab hge];rfl),Gb⟩
theorem y6o(fq:FuncId)(ws:List IV)(hent:tb.fn fq=true)(p:St->Bool)(l:List St)(hl:l.length<=4611686018427387904)(h:∀x∈l,SC Tryz.prog fq (.pv (stv x)::ws) [] (λk=>k∈[]) (iBool (p x)) []):SC Tryz.prog 65 [.pv (sts l),.fn (.func fq) [] ws] [] (λk=>k∈[]) (iBool (l.any p)) []:=by
 refine SC.vc tb {} [] Tryz.func65 rfl rfl ?_;exact⟨[],sc_idxSt fq ws hent p l hl h,sR,Gb,rfl,sE (Af iBool (z6c p l 0 dC0)),Gb⟩
theorem sc_idxEx(fq:FuncId)(ws:List IV)(hent:tb.fn fq=true)(p:Ex->Bool)(l:List Ex)(hl:l.length<=4611686018427387904)(h:∀x∈l,SC Tryz.prog fq (.pv (exv x)::ws) [] (λk=>k∈[]) (iBool (p x)) []):SC Tryz.prog 238 [.pv (exs l),.fn (.func fq) [] ws] [] (λk=>k∈[]) (iInt (idxP p l 0)) []:=by
 refine SC.vc tb {} [] Tryz.func238 rfl rfl ?_;refine⟨Nat,λi=>[(8,iInt ((i:Nat):Int))],λ_=>[],λi=>l.length-i,λi=>i<=l.length/\∀x∈l.take i,p x=false,[],0,⟨Ad _,λx hx=>by simp at hx⟩,Gc,Gb,?_⟩;rintro i ⟨i1,i2⟩;refine z00 (λhc=>?_) λhc=>?_
 ·have hlt:i<l.length:=z0z (f:=Ex.enc) rfl hc;obtain⟨x,x1,x2,x3,x4⟩:=z0p hlt;refine⟨z1c x1,rfl,z55 (b:=tb.fn fq) hent ⟨h x x4,sR,Gb,λk hk=>hk,rfl,rfl,z00 (λc=>?_) λc=>?_⟩⟩
  ·exact⟨sE (by rw[z1d p l 0 i2,x3,idxP,if_pos c,Dq]),Gb⟩
  ·exact⟨z01 rfl oM0,i+1,z03 hlt,⟨hlt,λy hy=>by rw[x2]at hy;rcases B4.1 hy with g|g;exact i2 y g;rw[Ak.1 g];exact c⟩,Gc,Gb,rfl,rfl,rfl,rfl⟩
 ·have hge:l.length<=i:=z10 (f:=Ex.enc) rfl hc;exact⟨sE (by rw[z1d p l 0 i2,Ab hge];rfl),Gb⟩
theorem yo7(fq:FuncId)(ws:List IV)(hent:tb.fn fq=true)(p:Ex->Bool)(l:List Ex)(hl:l.length<=4611686018427387904)(h:∀x∈l,SC Tryz.prog fq (.pv (exv x)::ws) [] (λk=>k∈[]) (iBool (p x)) []):SC Tryz.prog 212 [.pv (exs l),.fn (.func fq) [] ws] [] (λk=>k∈[]) (iBool (l.any p)) []:=by
 refine SC.vc tb {} [] Tryz.func212 rfl rfl ?_;exact⟨[],sc_idxEx fq ws hent p l hl h,sR,Gb,rfl,sE (Af iBool (z6c p l 0 dC0)),Gb⟩
theorem sc_idxPm(fq:FuncId)(ws:List IV)(hent:tb.fn fq=true)(p:Pm->Bool)(l:List Pm)(hl:l.length<=4611686018427387904)(h:∀x∈l,SC Tryz.prog fq (.pv (.agg x.enc)::ws) [] (λk=>k∈[]) (iBool (p x)) []):SC Tryz.prog 186 [.pv (pms l),.fn (.func fq) [] ws] [] (λk=>k∈[]) (iInt (idxP p l 0)) []:=by
 refine SC.vc tb {} [] Tryz.func186 rfl rfl ?_;refine⟨Nat,λi=>[(8,iInt ((i:Nat):Int))],λ_=>[],λi=>l.length-i,λi=>i<=l.length/\∀x∈l.take i,p x=false,[],0,⟨Ad _,λx hx=>by simp at hx⟩,Gc,Gb,?_⟩;rintro i ⟨i1,i2⟩;refine z00 (λhc=>?_) λhc=>?_
 ·have hlt:i<l.length:=z0z (f:=Pm.enc) rfl hc;obtain⟨x,x1,x2,x3,x4⟩:=z0p hlt;refine⟨zv9 x1,rfl,z55 (b:=tb.fn fq) hent ⟨h x x4,sR,Gb,λk hk=>hk,rfl,rfl,z00 (λc=>?_) λc=>?_⟩⟩
  ·exact⟨sE (by rw[z1d p l 0 i2,x3,idxP,if_pos c,Dq]),Gb⟩
  ·exact⟨z01 rfl oM0,i+1,z03 hlt,⟨hlt,λy hy=>by rw[x2]at hy;rcases B4.1 hy with g|g;exact i2 y g;rw[Ak.1 g];exact c⟩,Gc,Gb,rfl,rfl,rfl,rfl⟩
 ·have hge:l.length<=i:=z10 (f:=Pm.enc) rfl hc;exact⟨sE (by rw[z1d p l 0 i2,Ab hge];rfl),Gb⟩
theorem sc_hasPm(fq:FuncId)(ws:List IV)(hent:tb.fn fq=true)(p:Pm->Bool)(l:List Pm)(hl:l.length<=4611686018427387904)(h:∀x∈l,SC Tryz.prog fq (.pv (.agg x.enc)::ws) [] (λk=>k∈[]) (iBool (p x)) []):SC Tryz.prog 150 [.pv (pms l),.fn (.func fq) [] ws] [] (λk=>k∈[]) (iBool (l.any p)) []:=by
 refine SC.vc tb {} [] Tryz.func150 rfl rfl ?_;exact⟨[],sc_idxPm fq ws hent p l hl h,sR,Gb,rfl,sE (Af iBool (z6c p l 0 dC0)),Gb⟩
theorem yo9(fq:FuncId)(ws:List IV)(hent:tb.fn fq=true)(p:Fu->Bool)(l:List Fu)(hl:l.length<=4611686018427387904)(h:∀x∈l,SC Tryz.prog fq (.pv (.agg x.enc)::ws) [] (λk=>k∈[]) (iBool (p x)) []):SC Tryz.prog 147 [.pv (fus l),.fn (.func fq) [] ws] [] (λk=>k∈[]) (iInt (idxP p l 0)) []:=by
 refine SC.vc tb {} [] Tryz.func147 rfl rfl ?_;refine⟨Nat,λi=>[(8,iInt ((i:Nat):Int))],λ_=>[],λi=>l.length-i,λi=>i<=l.length/\∀x∈l.take i,p x=false,[],0,⟨Ad _,λx hx=>by simp at hx⟩,Gc,Gb,?_⟩;rintro i ⟨i1,i2⟩;refine z00 (λhc=>?_) λhc=>?_
 ·have hlt:i<l.length:=z0z (f:=Fu.enc) rfl hc;obtain⟨x,x1,x2,x3,x4⟩:=z0p hlt;refine⟨z9z x1,rfl,z55 (b:=tb.fn fq) hent ⟨h x x4,sR,Gb,λk hk=>hk,rfl,rfl,z00 (λc=>?_) λc=>?_⟩⟩
  ·exact⟨sE (by rw[z1d p l 0 i2,x3,idxP,if_pos c,Dq]),Gb⟩
  ·exact⟨z01 rfl oM0,i+1,z03 hlt,⟨hlt,λy hy=>by rw[x2]at hy;rcases B4.1 hy with g|g;exact i2 y g;rw[Ak.1 g];exact c⟩,Gc,Gb,rfl,rfl,rfl,rfl⟩
 ·have hge:l.length<=i:=z10 (f:=Fu.enc) rfl hc;exact⟨sE (by rw[z1d p l 0 i2,Ab hge];rfl),Gb⟩
theorem sc_hasFu(fq:FuncId)(ws:List IV)(hent:tb.fn fq=true)(p:Fu->Bool)(l:List Fu)(hl:l.length<=4611686018427387904)(h:∀x∈l,SC Tryz.prog fq (.pv (.agg x.enc)::ws) [] (λk=>k∈[]) (iBool (p x)) []):SC Tryz.prog 100 [.pv (fus l),.fn (.func fq) [] ws] [] (λk=>k∈[]) (iBool (l.any p)) []:=by
 refine SC.vc tb {} [] Tryz.func100 rfl rfl ?_;exact⟨[],yo9 fq ws hent p l hl h,sR,Gb,rfl,sE (Af iBool (z6c p l 0 dC0)),Gb⟩
theorem yo8(fq:FuncId)(ws:List IV)(hent:tb.fn fq=true)(p:Ar->Bool)(l:List Ar)(hl:l.length<=4611686018427387904)(h:∀x∈l,SC Tryz.prog fq (.pv (.agg x.enc)::ws) [] (λk=>k∈[]) (iBool (p x)) []):SC Tryz.prog 146 [.pv (arrs l),.fn (.func fq) [] ws] [] (λk=>k∈[]) (iInt (idxP p l 0)) []:=by
 refine SC.vc tb {} [] Tryz.func146 rfl rfl ?_;refine⟨Nat,λi=>[(8,iInt ((i:Nat):Int))],λ_=>[],λi=>l.length-i,λi=>i<=l.length/\∀x∈l.take i,p x=false,[],0,⟨Ad _,λx hx=>by simp at hx⟩,Gc,Gb,?_⟩;rintro i ⟨i1,i2⟩;refine z00 (λhc=>?_) λhc=>?_
 ·have hlt:i<l.length:=z0z (f:=Ar.enc) rfl hc;obtain⟨x,x1,x2,x3,x4⟩:=z0p hlt;refine⟨y3h x1,rfl,z55 (b:=tb.fn fq) hent ⟨h x x4,sR,Gb,λk hk=>hk,rfl,rfl,z00 (λc=>?_) λc=>?_⟩⟩
  ·exact⟨sE (by rw[z1d p l 0 i2,x3,idxP,if_pos c,Dq]),Gb⟩
  ·exact⟨z01 rfl oM0,i+1,z03 hlt,⟨hlt,λy hy=>by rw[x2]at hy;rcases B4.1 hy with g|g;exact i2 y g;rw[Ak.1 g];exact c⟩,Gc,Gb,rfl,rfl,rfl,rfl⟩
 ·have hge:l.length<=i:=z10 (f:=Ar.enc) rfl hc;exact⟨sE (by rw[z1d p l 0 i2,Ab hge];rfl),Gb⟩
theorem sc_hasAr(fq:FuncId)(ws:List IV)(hent:tb.fn fq=true)(p:Ar->Bool)(l:List Ar)(hl:l.length<=4611686018427387904)(h:∀x∈l,SC Tryz.prog fq (.pv (.agg x.enc)::ws) [] (λk=>k∈[]) (iBool (p x)) []):SC Tryz.prog 99 [.pv (arrs l),.fn (.func fq) [] ws] [] (λk=>k∈[]) (iBool (l.any p)) []:=by
 refine SC.vc tb {} [] Tryz.func99 rfl rfl ?_;exact⟨[],yo8 fq ws hent p l hl h,sR,Gb,rfl,sE (Af iBool (z6c p l 0 dC0)),Gb⟩
theorem sc_rowOf(op:Int):SC Tryz.prog 249 [iInt op] [] (λk=>k∈[]) (.pv (.agg [vStr (zp7 op),vInt (z4j op)])) []:=by
 refine SC.vc tb {} [] Tryz.func249 rfl rfl ?_;refine z00 (λc=>?_) λc=>z00 (λc2=>?_) λc2=>?_
 ·have h:op<0:=An c;exact⟨sE (by simp[zp7,z4j,h];exact⟨rfl,rfl⟩),Gb⟩
 ·have h:op≥29:=An c2;exact⟨sE (by simp[zp7,z4j,h];exact⟨rfl,rfl⟩),Gb⟩
 ·have h1:=Al c;have h2:=Al c2;rcases j05 (op:=op) oM0 oM0 with rfl|rfl|rfl|rfl|rfl|rfl|rfl|rfl|rfl|rfl|rfl|rfl|rfl|rfl|rfl|rfl|rfl|rfl|rfl|rfl|rfl|rfl|rfl|rfl|rfl|rfl|rfl|rfl|rfl
  ·exact⟨(by decide:(0:Nat)<29),rfl,sI,Gb⟩
  ·exact⟨(by decide:(1:Nat)<29),rfl,sI,Gb⟩
  ·exact⟨(by decide:(2:Nat)<29),rfl,sI,Gb⟩
  ·exact⟨(by decide:(3:Nat)<29),rfl,sI,Gb⟩
  ·exact⟨(by decide:(4:Nat)<29),rfl,sI,Gb⟩
  ·exact⟨(by decide:(5:Nat)<29),rfl,sI,Gb⟩
  ·exact⟨(by decide:(6:Nat)<29),rfl,sI,Gb⟩
  ·exact⟨(by decide:(7:Nat)<29),rfl,sI,Gb⟩
  ·exact⟨(by decide:(8:Nat)<29),rfl,sI,Gb⟩
  ·exact⟨(by decide:(9:Nat)<29),rfl,sI,Gb⟩
  ·exact⟨(by decide:(10:Nat)<29),rfl,sI,Gb⟩
  ·exact⟨(by decide:(11:Nat)<29),rfl,sI,Gb⟩
  ·exact⟨(by decide:(12:Nat)<29),rfl,sI,Gb⟩
  ·exact⟨(by decide:(13:Nat)<29),rfl,sI,Gb⟩
  ·exact⟨(by decide:(14:Nat)<29),rfl,sI,Gb⟩
  ·exact⟨(by decide:(15:Nat)<29),rfl,sI,Gb⟩
  ·exact⟨(by decide:(16:Nat)<29),rfl,sI,Gb⟩
  ·exact⟨(by decide:(17:Nat)<29),rfl,sI,Gb⟩
  ·exact⟨(by decide:(18:Nat)<29),rfl,sI,Gb⟩
  ·exact⟨(by decide:(19:Nat)<29),rfl,sI,Gb⟩
  ·exact⟨(by decide:(20:Nat)<29),rfl,sI,Gb⟩
  ·exact⟨(by decide:(21:Nat)<29),rfl,sI,Gb⟩
  ·exact⟨(by decide:(22:Nat)<29),rfl,sI,Gb⟩
  ·exact⟨(by decide:(23:Nat)<29),rfl,sI,Gb⟩
  ·exact⟨(by decide:(24:Nat)<29),rfl,sI,Gb⟩
  ·exact⟨(by decide:(25:Nat)<29),rfl,sI,Gb⟩
  ·exact⟨(by decide:(26:Nat)<29),rfl,sI,Gb⟩
  ·exact⟨(by decide:(27:Nat)<29),rfl,sI,Gb⟩
  ·exact⟨(by decide:(28:Nat)<29),rfl,sI,Gb⟩
theorem y9n(op:Int):SC Tryz.prog 231 [iInt op] [] (λk=>k∈[]) (iInt (z4j op)) []:=by
 refine SC.vc tb {} [] Tryz.func231 rfl rfl ?_;exact⟨[],sc_rowOf op,sR,Gb,rfl,sI,Gb⟩
theorem y25(n:Int):SC Tryz.prog 120 [.pv (.val (.int .i32 n))] [] (λ_=>False) (iBool (z4l n)) []:=by
 refine SC.anyR (SC.vc tb {} [] Tryz.func120 rfl rfl ?_);unfold z4l;refine z00 (λh1=>z00 (λh2=>⟨sE (by rw[h1,h2];rfl),Gb⟩) λh2=>?_) λh1=>?_
 ·refine z00 (λh3=>z00 (λh4=>⟨sE (by rw[h1,h2,h3,h4];rfl),Gb⟩) λh4=>⟨sE (by rw[h1,h2,h3,h4];rfl),Gb⟩) λh3=>⟨sE (by rw[h1,h2,h3];rfl),Gb⟩
 ·refine z00 (λh3=>z00 (λh4=>⟨sE (by rw[h1,h3,h4];rfl),Gb⟩) λh4=>⟨sE (by rw[h1,h3,h4];rfl),Gb⟩) λh3=>⟨sE (by rw[h1,h3];rfl),Gb⟩
theorem yx0(n:Int):SC Tryz.prog 170 [.pv (.val (.int .i32 n))] [] (λ_=>False) (iBool (z3y n)) []:=by
 refine SC.anyR (SC.vc tb {} [] Tryz.func170 rfl rfl ?_);unfold z3y;exact z00 (λh1=>⟨sE (by rw[h1];rfl),Gb⟩) λh1=>⟨sE (by rw[h1];rfl),Gb⟩
theorem j3i(s:ByteArray):SC Tryz.prog 122 [iStr s] [] (λ_=>False) (iBool (z1i s)) []:=by
 refine SC.anyR (SC.vc tb {} [] Tryz.func122 rfl rfl ?_);have N:∀{b:Bool}{P:Prop},b=true->b=false->P:=λh g=>by rw[h]at g;cases g
 have T:∀{b:Bool},b=true->SubI (iBool true) (iBool b):=λh=>sE (by rw[h]);exact z00 (λh=>z00 (λ_=>⟨T (by unfold z1i;rw[h];simp only[Bh,B7]),Gb⟩) λg=>N h g) λh1=>z00 (λh=>z00 (λ_=>⟨T (by unfold z1i;rw[h];simp only[Bh,B7]),Gb⟩) λg=>N h g) λh2=>z00 (λh=>z00 (λ_=>⟨T (by unfold z1i;rw[h];simp only[Bh,B7]),Gb⟩) λg=>N h g) λh3=>z00 (λh=>z00 (λ_=>⟨T (by unfold z1i;rw[h];simp only[Bh,B7]),Gb⟩) λg=>N h g) λh4=>z00 (λh=>z00 (λ_=>⟨T (by unfold z1i;rw[h];simp only[Bh,B7]),Gb⟩) λg=>N h g) λh5=>z00 (λh=>z00 (λ_=>⟨T (by unfold z1i;rw[h];simp only[Bh,B7]),Gb⟩) λg=>N h g) λh6=>z00 (λh=>z00 (λ_=>⟨T (by unfold z1i;rw[h];simp only[Bh,B7]),Gb⟩) λg=>N h g) λh7=>z00 (λh=>z00 (λ_=>⟨T (by unfold z1i;rw[h];simp only[Bh,B7]),Gb⟩) λg=>N h g) λh8=>z00 (λh=>z00 (λ_=>⟨T (by unfold z1i;rw[h];simp only[Bh,B7]),Gb⟩) λg=>N h g) λh9=>z00 (λh=>z00 (λ_=>⟨T (by unfold z1i;rw[h];simp only[Bh,B7]),Gb⟩) λg=>N h g) λh10=>z00 (λh=>z00 (λ_=>⟨T (by unfold z1i;rw[h];simp only[Bh,B7]),Gb⟩) λg=>N h g) λh11=>z00 (λh=>z00 (λ_=>⟨T (by unfold z1i;rw[h];simp only[Bh,B7]),Gb⟩) λg=>N h g) λh12=>z00 (λh=>z00 (λ_=>⟨T (by unfold z1i;rw[h];simp only[Bh,B7]),Gb⟩) λg=>N h g) λh13=>z00 (λh=>z00 (λ_=>⟨T (by unfold z1i;rw[h];simp only[Bh,B7]),Gb⟩) λg=>N h g) λh14=>z00 (λh=>z00 (λ_=>⟨T (by unfold z1i;rw[h];simp only[Bh,B7]),Gb⟩) λg=>N h g) λh15=>z00 (λh=>z00 (λ_=>⟨T (by unfold z1i;rw[h];simp only[Bh,B7]),Gb⟩) λg=>N h g) λh16=>z00 (λh=>z00 (λ_=>⟨T (by unfold z1i;rw[h];simp only[Bh,B7]),Gb⟩) λg=>N h g) λh17=>z00 (λh=>⟨T (by unfold z1i;rw[h];simp only[Bh,B7]),Gb⟩) λh18=>⟨sE (by unfold z1i;rw[h1,h2,h3,h4,h5,h6,h7,h8,h9,h10,h11,h12,h13,h14,h15,h16,h17,h18];rfl),Gb⟩
theorem sc_tkRun(s:ByteArray):SC Tryz.prog 121 [iStr s] [] (λ_=>False) (iStr (yv2 s)) []:=by
 refine SC.of Tryz.func121 rfl (Az rfl) λF ρ w=>?_;refine Tr.seq ?_;refine Tr.region rfl ?_;refine WL.consV rfl rfl rfl (z3t rfl rfl) ?_;refine WL.nil ?_;refine Tr.seq ?_;refine Tr.strRange rfl rfl rfl rfl rfl rfl rfl rfl Tryz.underlying9 rfl rfl rfl rfl rfl rfl rfl rfl rfl rfl rfl (λ_ h=>h) (λk fr=>(k<=s.toList.length/\(s.toList.take k).all isLD=true)/\fr=[(0,iStr s)]) ⟨[(0,iStr s)],Sub.of Gc,⟨Ad _,rfl⟩,rfl⟩ ?_ ?_
 ·skip;rintro b0 k _ hk ⟨hI,rfl⟩;refine Tr.seq ?_;refine Tr.region rfl ?_;refine WL.consV rfl rfl rfl (z2p rfl rfl) ?_;refine WL.consV rfl rfl rfl (z3t rfl rfl) ?_;refine WL.nil ?_;refine tRt ?_;refine rOk rfl ?_ nPo;have hall:s.toList.all isLD=true:=by
   have:=hI.2
   rwa [Av (by rw[y09];exact hk)]at this
  simp[yv2,hall]
 ·skip;rintro ρ2 w2 b0 k _ hk ⟨hI,rfl⟩;have hlt:k<s.toList.length:=by rw[y09];exact hk
  refine tBk ?_;refine Tr.seq ?_;refine Tr.region rfl ?_;refine WL.consV rfl rfl rfl (z8s rfl rfl rfl) ?_;refine WL.consV rfl rfl rfl (z8s rfl rfl rfl) ?_;refine WL.consV rfl rfl rfl (z3t rfl rfl) ?_;refine WL.consV rfl rfl rfl (z3t rfl rfl) ?_;refine WL.nil ?_;refine Tr.seq ?_;refine Tr.region rfl ?_;refine WL.consV rfl rfl rfl (z2p rfl rfl) ?_;refine WL.cons rfl rfl rfl (zm5 (y25 _) ent120 rfl rfl (sRf _ _) rfl) ?_;refine WL.consV rfl rfl rfl (ym8 rfl rfl) ?_;refine WL.consV rfl rfl rfl (z2p rfl rfl) ?_;refine WL.split (t:=14) rfl (λhb14=>?_) (λhb14=>?_)
  ·skip;refine WL.yesV rfl rfl rfl rfl rfl rfl (z2p rfl rfl) ?_;refine WL.yes rfl rfl rfl rfl rfl rfl (zm5 (yx0 _) ent170 rfl rfl (sRf _ _) rfl) ?_;refine WL.yesV rfl rfl rfl rfl rfl rfl (ym8 rfl rfl) ?_;refine WL.consV rfl rfl rfl (z5b rfl rfl rfl) ?_;refine WL.nil ?_;refine Tr.cond rfl (λhc18=>?_) (λhc18=>?_)
   ·skip;refine Tr.seq ?_;refine Tr.region rfl ?_;refine WL.consV rfl rfl rfl (z2p rfl rfl) ?_;refine WL.consV rfl rfl rfl (z2p rfl rfl) ?_;refine WL.consV rfl rfl rfl (zv7 rfl rfl Tryz.underlying9 (.inl ⟨rfl,rfl⟩) (.inr ⟨_,_,rfl,rfl⟩) oM0 (Fv (by assumption))) ?_;refine WL.consV rfl rfl rfl (z3t rfl rfl) ?_;refine WL.nil ?_;refine tRt ?_;refine rOk rfl ?_ nPo;have hld:y34 (Utf8.decode s k).1=false:=by
     simp only[y34]
     first
     |(simp_all;done)
     |(clear hI;simp_all)
    rw[runOf_at hI.2 (A8 hlt) ((y0e hlt).2 hld)]
   ·skip;refine tSk ?_;refine⟨rfl,[(0,iStr s)],Sub.of Gd,?_,rfl⟩;have hld:y34 (Utf8.decode s k).1=true:=by
     simp only[y34]
     first
     |(simp_all;done)
     |(clear hI;simp_all)
    obtain⟨hw1,hb1⟩:=(y0e hlt).1 hld;rw[hw1];exact⟨by omega,by rw[List.take_succ_eq_append_getElem hlt,List.all_append,hI.2];simp[hb1]⟩
  ·skip;refine WL.no (b:=false) rfl rfl rfl rfl rfl rfl ?_;refine WL.no (b:=false) rfl rfl rfl rfl rfl rfl ?_;refine WL.no (b:=false) rfl rfl rfl rfl rfl rfl ?_;refine WL.consV rfl rfl rfl (z1g rfl rfl rfl) ?_;refine WL.nil ?_;refine Tr.condF rfl ?_;refine tSk ?_;refine⟨rfl,[(0,iStr s)],Sub.of Gd,?_,rfl⟩;have hld:y34 (Utf8.decode s k).1=true:=by
    simp only[y34]
    first
    |(simp_all;done)
    |(clear hI;simp_all)
   obtain⟨hw1,hb1⟩:=(y0e hlt).1 hld;rw[hw1];exact⟨by omega,by rw[List.take_succ_eq_append_getElem hlt,List.all_append,hI.2];simp[hb1]⟩
theorem z7y(s:ByteArray):SC Tryz.prog 67 [iStr s] [] (λ_=>False) (iBool (z0l s)) []:=by
 refine SC.of Tryz.func67 rfl (Az rfl) λF ρ w=>?_;refine Tr.seq ?_;refine Tr.region rfl ?_;refine WL.consV rfl rfl rfl (z3t rfl rfl) ?_;refine WL.nil ?_;refine Tr.seq ?_;refine Tr.region rfl ?_;refine WL.consV rfl rfl rfl (z2p rfl rfl) ?_;refine WL.consV rfl rfl rfl (bSt rfl rfl rfl rfl) ?_;refine WL.consV rfl rfl rfl (z2p rfl rfl) ?_;refine WL.split (t:=5) rfl (λhb5=>?_) (λhb5=>?_)
 ·skip;have hne:s.toList≠[]:=by simpa using hb5
  obtain⟨b0,r0,hs0⟩:=C6 hne;have hi0:s[0]?=some b0:=by rw[y3i (i:=0) (by rw[hs0];simp)];simp[hs0]
  have hw0:IntKind.i32.wrap (b0.toNat:Int)=b0.toNat:=by
   have:b0.toNat<256:=b0.toNat_lt;simp[IntKind.wrap,IntKind.bits,IntKind.signed];omega
  have hre:=runOf_eq s;refine WL.yesV rfl rfl rfl rfl rfl rfl (z2p rfl rfl) ?_;refine WL.yesV rfl rfl rfl rfl rfl rfl (zv5 rfl rfl rfl Tryz.underlying9 (by assumption) (by first|rfl|omega)) ?_;refine WL.yesV rfl rfl rfl rfl rfl rfl (y15 rfl rfl ⟨_,Tryz.underlying5⟩ Tryz.underlying21) ?_;refine WL.yes rfl rfl rfl rfl rfl rfl (zm5 (y25 _) ent120 rfl rfl (sRf _ _) rfl) ?_;refine WL.consV rfl rfl rfl (z5b rfl rfl rfl) ?_;refine WL.consV rfl rfl rfl (z2p rfl rfl) ?_;refine WL.split (t:=11) rfl (λhb11=>?_) (λhb11=>?_)
  ·skip;refine WL.yesV rfl rfl rfl rfl rfl rfl (z2p rfl rfl) ?_;refine WL.yes rfl rfl rfl rfl rfl rfl (zm5 (sc_tkRun s) ent121 rfl rfl (sRf _ _) rfl) ?_;refine WL.yesV rfl rfl rfl rfl rfl rfl (z2p rfl rfl) ?_;refine WL.yesV rfl rfl rfl rfl rfl rfl (bSt rfl rfl rfl rfl) ?_;refine WL.consV rfl rfl rfl (z5b rfl rfl rfl) ?_;refine WL.consV rfl rfl rfl (z2p rfl rfl) ?_;refine WL.split (t:=17) rfl (λhb17=>?_) (λhb17=>?_)
   ·skip;refine WL.yesV rfl rfl rfl rfl rfl rfl (z2p rfl rfl) ?_;refine WL.yesV rfl rfl rfl rfl rfl rfl (y46 rfl rfl Tryz.underlying9) ?_;refine WL.yesV rfl rfl rfl rfl rfl rfl (zr6 rfl rfl rfl rfl) ?_;refine WL.consV rfl rfl rfl (z5b rfl rfl rfl) ?_;refine WL.consV rfl rfl rfl (z2p rfl rfl) ?_;refine WL.split (t:=22) rfl (λhb22=>?_) (λhb22=>?_)
    ·skip;refine WL.yesV rfl rfl rfl rfl rfl rfl (z2p rfl rfl) ?_;refine WL.yes rfl rfl rfl rfl rfl rfl (zm5 (j3i s) ent122 rfl rfl (sRf _ _) rfl) ?_;refine WL.yesV rfl rfl rfl rfl rfl rfl (ym8 rfl rfl) ?_;refine WL.consV rfl rfl rfl (z5b rfl rfl rfl) ?_;refine WL.consV rfl rfl rfl (z3t rfl rfl) ?_;refine WL.nil ?_;refine tRt ?_;refine rOk rfl ?_ nPo;refine Af (λb=>iBool b) ?_
     first
     |(simp_all[z0l];done)
     |(simp_all[z0l]<;>omega)
    ·skip;refine WL.no (b:=false) rfl rfl rfl rfl rfl rfl ?_;refine WL.no (b:=false) rfl rfl rfl rfl rfl rfl ?_;refine WL.no (b:=false) rfl rfl rfl rfl rfl rfl ?_;refine WL.consV rfl rfl rfl (z1g rfl rfl rfl) ?_;refine WL.consV rfl rfl rfl (z3t rfl rfl) ?_;refine WL.nil ?_;refine tRt ?_;refine rOk rfl ?_ nPo;refine Af (λb=>iBool b) ?_
     first
     |(simp_all[z0l];done)
     |(simp_all[z0l]<;>omega)
   ·skip;refine WL.no (b:=false) rfl rfl rfl rfl rfl rfl ?_;refine WL.no (b:=false) rfl rfl rfl rfl rfl rfl ?_;refine WL.no (b:=false) rfl rfl rfl rfl rfl rfl ?_;refine WL.consV rfl rfl rfl (z1g rfl rfl rfl) ?_;refine WL.consV rfl rfl rfl (z2p rfl rfl) ?_;refine WL.no (b:=false) rfl rfl rfl rfl rfl rfl ?_;refine WL.no (b:=false) rfl rfl rfl rfl rfl rfl ?_;refine WL.no (b:=false) rfl rfl rfl rfl rfl rfl ?_;refine WL.consV rfl rfl rfl (z1g rfl rfl rfl) ?_;refine WL.consV rfl rfl rfl (z3t rfl rfl) ?_;refine WL.nil ?_;refine tRt ?_;refine rOk rfl ?_ nPo;refine Af (λb=>iBool b) ?_
    first
    |(simp_all[z0l];done)
    |(simp_all[z0l]<;>omega)
  ·skip;refine WL.no (b:=false) rfl rfl rfl rfl rfl rfl ?_;refine WL.no (b:=false) rfl rfl rfl rfl rfl rfl ?_;refine WL.no (b:=false) rfl rfl rfl rfl rfl rfl ?_;refine WL.no (b:=false) rfl rfl rfl rfl rfl rfl ?_;refine WL.consV rfl rfl rfl (z1g rfl rfl rfl) ?_;refine WL.consV rfl rfl rfl (z2p rfl rfl) ?_;refine WL.no (b:=false) rfl rfl rfl rfl rfl rfl ?_;refine WL.no (b:=false) rfl rfl rfl rfl rfl rfl ?_;refine WL.no (b:=false) rfl rfl rfl rfl rfl rfl ?_;refine WL.consV rfl rfl rfl (z1g rfl rfl rfl) ?_;refine WL.consV rfl rfl rfl (z2p rfl rfl) ?_;refine WL.no (b:=false) rfl rfl rfl rfl rfl rfl ?_;refine WL.no (b:=false) rfl rfl rfl rfl rfl rfl ?_;refine WL.no (b:=false) rfl rfl rfl rfl rfl rfl ?_;refine WL.consV rfl rfl rfl (z1g rfl rfl rfl) ?_;refine WL.consV rfl rfl rfl (z3t rfl rfl) ?_;refine WL.nil ?_;refine tRt ?_;refine rOk rfl ?_ nPo;refine Af (λb=>iBool b) ?_
   first
   |(simp_all[z0l];done)
   |(simp_all[z0l]<;>omega)
 ·skip;refine WL.no (b:=false) rfl rfl rfl rfl rfl rfl ?_;refine WL.no (b:=false) rfl rfl rfl rfl rfl rfl ?_;refine WL.no (b:=false) rfl rfl rfl rfl rfl rfl ?_;refine WL.no (b:=false) rfl rfl rfl rfl rfl rfl ?_;refine WL.consV rfl rfl rfl (z1g rfl rfl rfl) ?_;refine WL.consV rfl rfl rfl (z2p rfl rfl) ?_;refine WL.no (b:=false) rfl rfl rfl rfl rfl rfl ?_;refine WL.no (b:=false) rfl rfl rfl rfl rfl rfl ?_;refine WL.no (b:=false) rfl rfl rfl rfl rfl rfl ?_;refine WL.no (b:=false) rfl rfl rfl rfl rfl rfl ?_;refine WL.consV rfl rfl rfl (z1g rfl rfl rfl) ?_;refine WL.consV rfl rfl rfl (z2p rfl rfl) ?_;refine WL.no (b:=false) rfl rfl rfl rfl rfl rfl ?_;refine WL.no (b:=false) rfl rfl rfl rfl rfl rfl ?_;refine WL.no (b:=false) rfl rfl rfl rfl rfl rfl ?_;refine WL.consV rfl rfl rfl (z1g rfl rfl rfl) ?_;refine WL.consV rfl rfl rfl (z2p rfl rfl) ?_;refine WL.no (b:=false) rfl rfl rfl rfl rfl rfl ?_;refine WL.no (b:=false) rfl rfl rfl rfl rfl rfl ?_;refine WL.no (b:=false) rfl rfl rfl rfl rfl rfl ?_;refine WL.consV rfl rfl rfl (z1g rfl rfl rfl) ?_;refine WL.consV rfl rfl rfl (z3t rfl rfl) ?_;refine WL.nil ?_;refine tRt ?_;refine rOk rfl ?_ nPo;refine Af (λb=>iBool b) ?_
  first
  |(simp_all[z0l];done)
  |(simp_all[z0l]<;>omega)
end Go.Proofs.YtdhllinkobindaaGreatDoor
