/- PART 5 of 9 of a proof: see the last part. -/
import Derived.Test.YtjlaalpfpecikaaGreatDoorSl4
set_option maxRecDepth 20000
set_option maxHeartbeats 8000000
set_option linter.unusedSimpArgs false
set_option linter.unusedVariables false
set_option linter.unusedSectionVars false
namespace Go.Proofs.YtjlaalpfpecikaaGreatDoor
open Go
theorem zu8:∀{l:List Nd},l.length<=lsW l/\∀x∈l,ndW x<=lsW l
 |[]=>⟨Ab _,λx h=>by cases h⟩
 |y::r=>by
  obtain⟨h1,h2⟩:=@zu8 r;have h3:=z87 y;refine⟨by simp only[lsW,Al];omega,λx hx=>?_⟩;rcases Am.1 hx with rfl|hx
  ·simp only[lsW];omega
  ·have:=h2 x hx;simp only[lsW];omega
theorem zm0(s:Rs):(z9o s).2.ar=s.ar:=by
 unfold z9o;split
 ·rfl
 ·split<;>rfl
theorem sr_list0(u:Un)(D:Nat)(ihC:SRC u D)(ihL:SRL u D)(hA:∀d k a s r,z40 u d k a s=some r->r.2.ar.length=s.ar.length)(hAL:∀d l v s r,z1v u d l v s=some r->r.2.2.ar.length=s.ar.length)(hALo:∀d x v a s r,z3h u d x v a s=some r->r.2.2.ar.length=s.ar.length)(hAS:∀d x a s r,mSum u d x a s=some r->r.2.ar.length=s.ar.length)(d:Nat)(hd:d<=D)(l:List Nd)(v:List Int)(s:Rs)(r:Rres)(h:z1v u d l v { s with ar:=[] }=some r)(hb:lsW l<=34359738368):SC Tryz.prog 56 [.ptr 1001 0,.pv (z2e l),.sl 510 (v.map eInt).length] (rHV u { s with ar:=[] } v) (λ_=>False) (.pv (endv r.1)) (rHV u r.2.2 r.2.1):=by
 refine SC.sameR (SC.vc tb {} [] Tryz.func56 rfl rfl ?_) (λk _ h=>h.elim);have hll:=(@zu8 l).1;refine⟨Nat×Nat×List Int×Rs,λ(e,k,w,z)=>[(7,iInt k)],λ(e,k,w,z)=>[(1001,rBox u { z with ar:=[] }),(1002,rowI z.out),(510,rowI w)],λ(e,k,w,z)=>l.length-k,λ(e,k,w,z)=>e<=D/\k<=l.length/\w.length=v.length/\z1v u e (l.drop k) w { z with ar:=[] }=some r,[],(d,0,v,s),⟨hd,Ab _,rfl,h⟩,Ge,Gg,?_⟩;rintro⟨e,k,w,z⟩ ⟨he,hk,hw,hm⟩;refine z00 (λhc=>?_) λhc=>?_
 ·have hlt:=z12 (f:=Nd.enc) rfl hc;obtain⟨x,hx,_,hdr,hmem⟩:=z0s hlt;rw[hdr]at hm;have hxw:=(@zu8 l).2 x hmem;have hxe:=z87 x;obtain⟨e,rfl,hm2⟩:=z7g rfl hm;clear hm;have hSt:=yg4 u { z with ar:=[] };have har:=zm0 { z with ar:=[] };generalize z9o { z with ar:=[] }=p at hm2 hSt har;obtain⟨b,ins,ar,st,code,out,cost,fuel,spent⟩:=p;obtain rfl:ar=[]:=har;rcases hm2 with⟨hb0,rfl⟩|⟨hb0,a,r1,ha,hn,hm⟩
  ·obtain rfl:b=false:=hb0;exact⟨z07 hx,rfl,[],hSt,sR,Gf,rfl,sP z3x,rfl,rfl,rfl,Gd⟩
  ·obtain rfl:b=true:=hb0;have hOf:=sr_of w x.args a ha oM0;have hO:=z2z u ⟨ins,[],st,code,out,cost,fuel,spent⟩;obtain⟨kind,op,n,name,args,outs,params,kids⟩:=x;rcases(show kind=1∨kind=2∨kind=12∨kind=13∨kind=14∨kind=15∨kind=10∨kind=11∨(kind≠1/\kind≠2/\kind≠12/\kind≠13/\kind≠14/\kind≠15/\kind≠10/\kind≠11) by omega)with rfl|rfl|rfl|rfl|rfl|rfl|rfl|rfl|hkk
   iterate 2
    obtain⟨o,w2,ho,hv2,rfl⟩:=z6q hn rfl;obtain⟨ho0,hol,rfl⟩:=z8s hv2;dsimp only at hm;generalize z0z ⟨ins,[],st,code,out,cost,fuel,spent⟩=ov at hm hO
    cases ov with
    |true =>
     cases hm
     exact⟨z07 hx,rfl,[],hSt,sR,Gf,rfl,[],hOf,SubA.cons (slE (by simp[hw])) sR,Ge,rfl,z02 (f:=eInt) ho,rfl,by simp[hw],by rw[hw]at hol;simpa using hol,by omega,o.toNat,0,_,by simp[hw],(By _).symm,z02 (f:=eInt) (A5 hol),Bc,[],hO,sR,Gf,rfl,sP z3x,rfl,rfl,rwq (by simp[eInt,Bt,Nd.n]),Gd⟩
    |false =>
     exact⟨z07 hx,rfl,[],hSt,sR,Gf,rfl,[],hOf,SubA.cons (slE (by simp[hw])) sR,Ge,rfl,z02 (f:=eInt) ho,rfl,by simp[hw],by rw[hw]at hol;simpa using hol,by omega,o.toNat,0,_,by simp[hw],(By _).symm,z02 (f:=eInt) (A5 hol),Bc,[],hO,sR,Gf,rfl,z01 rfl oM0,(e,k+1,w.set o.toNat n,⟨ins,[],st,code,out,cost,fuel,spent⟩),z04 hlt,⟨by omega,hlt,by simp[hw],hm⟩,Ge,⟨rfl,rfl,rwq (by simp[eInt,Bt,Nd.n]),Gd⟩,rfl,rfl,rfl,rfl⟩
   iterate 4
    obtain rfl:=z3d hn rfl;have hm3:=(if_pos (by simp[Nd.kind])).symm.trans hm
    cases hm3
    exact⟨z07 hx,rfl,[],hSt,sR,Gf,rfl,[],hOf,SubA.cons (slE (by simp[hw])) sR,Ge,rfl,sI,rfl,rfl,rfl,Gd⟩
   ·obtain⟨a0,q0,r2,h1,h2,h3,h4⟩:=ze3 hn rfl;have hi:=z02 (f:=eInt) h1;have hkw:lsW q0<=34359738368:=by have:=z7n (A9 h2);dsimp only[Nd.kids]at this hxe;omega
    have hL:=ihL e oM0 _ _ _ _ h3 hkw sI0;have hl2:r2.2.1.length=w.length:=z6p h3;have hal:=hAL _ _ _ _ _ h3;obtain⟨⟨ek,el⟩,v3,ins',ar',st',code',out',cost',fuel',spent'⟩:=r2;obtain rfl:ar'=[]:=Au hal;have hO2:=z2z u ⟨ins',[],st',code',out',cost',fuel',spent'⟩;clear hO;dsimp only at h4 hl2 hO2 hm;generalize hov:z0z ⟨ins',[],st',code',out',cost',fuel',spent'⟩=ov at h4 hO2;refine⟨z07 hx,rfl,[],hSt,sR,Gf,rfl,[],hOf,SubA.cons (slE (by simp[hw])) sR,Ge,rfl,hi,rfl,z00 (λhc0=>?_) λhc0=>?_⟩
    ·rw[show(a0 != 0)=true from hc0]at h2;have hkl:=z02 (f:=eKid) h2
     cases ov with
     |true =>
      cases h4
      rw[hov]at hm
      cases hm
      exact⟨hkl,rfl,[],hL,SubA.same (SubA.same (SubA.cons (slE (by simp[hw])) SubA.nil)),Gg,rfl,[],hO2,sR,Gf,rfl,[],hO2,sR,Gf,rfl,sI,rfl,rfl,rfl,Gd⟩
     |false =>
      refine⟨hkl,rfl,[],hL,SubA.same (SubA.same (SubA.cons (slE (by simp[hw])) SubA.nil)),Gg,rfl,[],hO2,sR,Gf,rfl,z00 (λh5=>?_) λh5=>?_⟩
      ·rw[show(ek==12)=true from h5]at h4;obtain⟨v4,h7,rfl⟩:=A1.1 h4;dsimp only at hm;rw[hov]at hm;exact⟨[],zb5 _ _ _ _ h7,SubA.cons (slE (by simp[hl2,hw])) sR,Ge,rfl,[],hO2,sR,Gf,rfl,z01 rfl oM0,(e,k+1,v4,⟨ins',[],st',code',out',cost',fuel',spent'⟩),z04 hlt,⟨by omega,hlt,by rw[z3p h7,hl2,hw],hm⟩,Ge,Gg,rfl,rfl,rfl,rfl⟩
      ·rw[show(ek==12)=false from h5]at h4
       cases h4
       dsimp only at hm;rw[hov]at hm;refine⟨[],hO2,sR,Gf,rfl,z00 (λh6=>?_) λh6=>?_⟩
       ·rw[show(ek != 0)=true from h6]at hm
        cases hm
        exact⟨sI,rfl,rfl,rfl,Gd⟩
       ·rw[show(ek != 0)=false from h6]at hm;exact⟨z01 rfl oM0,(e,k+1,v3,⟨ins',[],st',code',out',cost',fuel',spent'⟩),z04 hlt,⟨by omega,hlt,by rw[hl2,hw],hm⟩,Ge,Gg,rfl,rfl,rfl,rfl⟩
    ·rw[show(a0 != 0)=false from hc0]at h2;have hkl:=z02 (f:=eKid) h2
     cases ov with
     |true =>
      cases h4
      rw[hov]at hm
      cases hm
      exact⟨hkl,rfl,[],hL,SubA.same (SubA.same (SubA.cons (slE (by simp[hw])) SubA.nil)),Gg,rfl,[],hO2,sR,Gf,rfl,[],hO2,sR,Gf,rfl,sI,rfl,rfl,rfl,Gd⟩
     |false =>
      refine⟨hkl,rfl,[],hL,SubA.same (SubA.same (SubA.cons (slE (by simp[hw])) SubA.nil)),Gg,rfl,[],hO2,sR,Gf,rfl,z00 (λh5=>?_) λh5=>?_⟩
      ·rw[show(ek==12)=true from h5]at h4;obtain⟨v4,h7,rfl⟩:=A1.1 h4;dsimp only at hm;rw[hov]at hm;exact⟨[],zb5 _ _ _ _ h7,SubA.cons (slE (by simp[hl2,hw])) sR,Ge,rfl,[],hO2,sR,Gf,rfl,z01 rfl oM0,(e,k+1,v4,⟨ins',[],st',code',out',cost',fuel',spent'⟩),z04 hlt,⟨by omega,hlt,by rw[z3p h7,hl2,hw],hm⟩,Ge,Gg,rfl,rfl,rfl,rfl⟩
      ·rw[show(ek==12)=false from h5]at h4
       cases h4
       dsimp only at hm;rw[hov]at hm;refine⟨[],hO2,sR,Gf,rfl,z00 (λh6=>?_) λh6=>?_⟩
       ·rw[show(ek != 0)=true from h6]at hm
        cases hm
        exact⟨sI,rfl,rfl,rfl,Gd⟩
       ·rw[show(ek != 0)=false from h6]at hm;exact⟨z01 rfl oM0,(e,k+1,v3,⟨ins',[],st',code',out',cost',fuel',spent'⟩),z04 hlt,⟨by omega,hlt,by rw[hl2,hw],hm⟩,Ge,Gg,rfl,rfl,rfl,rfl⟩
   ·have h3:=z66 hn rfl;have hL:=sr_loop0 u D ihL hAL e oM0 _ oM0 _ _ ⟨ins,[],st,code,out,cost,fuel,spent⟩ _ h3;have hl2:r1.2.1.length=w.length:=(zi1 u e).2 _ _ _ _ _ h3;have hal:=hALo _ _ _ _ _ _ h3;obtain⟨⟨ek,el⟩,v3,ins',ar',st',code',out',cost',fuel',spent'⟩:=r1;obtain rfl:ar'=[]:=Au hal;have hO2:=z2z u ⟨ins',[],st',code',out',cost',fuel',spent'⟩;clear hO;dsimp only at hl2 hO2 hm;generalize hov:z0z ⟨ins',[],st',code',out',cost',fuel',spent'⟩=ov at hm hO2
    cases ov with
    |true =>
     cases hm
     exact⟨z07 hx,rfl,[],hSt,sR,Gf,rfl,[],hOf,SubA.cons (slE (by simp[hw])) sR,Ge,rfl,[],hL,SubA.same (SubA.same (SubA.cons (slE (by simp[hw])) sR)),Gg,rfl,[],hO2,sR,Gf,rfl,sI,rfl,rfl,rfl,Gd⟩
    |false =>
     refine⟨z07 hx,rfl,[],hSt,sR,Gf,rfl,[],hOf,SubA.cons (slE (by simp[hw])) sR,Ge,rfl,[],hL,SubA.same (SubA.same (SubA.cons (slE (by simp[hw])) sR)),Gg,rfl,[],hO2,sR,Gf,rfl,z00 (λh6=>?_) λh6=>?_⟩
     ·rw[show(ek != 0)=true from h6]at hm
      cases hm
      exact⟨sI,rfl,rfl,rfl,Gd⟩
     ·rw[show(ek != 0)=false from h6]at hm;exact⟨z01 rfl oM0,(e,k+1,v3,⟨ins',[],st',code',out',cost',fuel',spent'⟩),z04 hlt,⟨by omega,hlt,by rw[hl2,hw],hm⟩,Ge,Gg,rfl,rfl,rfl,rfl⟩
   ·obtain⟨k1,k2,k12,k13,k14,k15,k10,k11⟩:=hkk;have ne:∀{i:Int},kind≠i->(kind==i)=false:=λh=>Ad.2 h;have no:∀{i:Int},kind≠i->(kind==i)=true->False:=λh e=>h (eq_of_beq e);obtain⟨r2,h1,h2⟩:=z6r hn (by simp only[Nd.kind,ne k1,ne k2];rfl) (by simp only[Nd.kind,ne k12,ne k13,ne k14,ne k15];rfl) (ne k10) (ne k11);have hS:=j4e u D ihC hA e oM0 _ a _ _ h1 sI0;have hal:=hAS _ _ _ _ _ h1;obtain⟨y,ins',ar',st',code',out',cost',fuel',spent'⟩:=r2;obtain rfl:ar'=[]:=Au hal;have hO2:=z2z u ⟨ins',[],st',code',out',cost',fuel',spent'⟩;clear hO;dsimp only at h2 hO2;generalize hov:z0z ⟨ins',[],st',code',out',cost',fuel',spent'⟩=ov at h2 hO2;refine⟨z07 hx,rfl,[],hSt,sR,Gf,rfl,[],hOf,SubA.cons (slE (by simp[hw])) sR,Ge,rfl,z00 (λh=>(no k1 h).elim) λ_=>z00 (λh=>(no k2 h).elim) λ_=>z00 (λh=>(no k12 h).elim) λ_=>z00 (λh=>(no k13 h).elim) λ_=>z00 (λh=>(no k14 h).elim) λ_=>z00 (λh=>(no k15 h).elim) λ_=>z00 (λh=>(no k10 h).elim) λ_=>z00 (λh=>(no k11 h).elim) λ_=>?_⟩
    cases ov with
    |true =>
     cases h2
     dsimp only at hm;rw[hov]at hm
     cases hm
     exact⟨[],hS,sR,Gf,rfl,[],hO2,sR,Gf,rfl,[],hO2,sR,Gf,rfl,sP z3x,rfl,rfl,rfl,Gd⟩
    |false =>
     cases outs with
     |nil =>
      cases h2
      dsimp only at hm;rw[hov]at hm
      exact⟨[],hS,sR,Gf,rfl,[],hO2,sR,Gf,rfl,[],hO2,sR,Gf,rfl,z01 rfl oM0,(e,k+1,w,⟨ins',[],st',code',out',cost',fuel',spent'⟩),z04 hlt,⟨by omega,hlt,hw,hm⟩,Ge,Gg,rfl,rfl,rfl,rfl⟩
     |cons o os =>
      rw[if_pos (by simp[Nd.outs])]at h2;obtain⟨o',ho,h3⟩:=Ah.1 h2;obtain rfl:o=o':=Bv ho;obtain⟨w2,hv2,rfl⟩:=A1.1 h3;obtain⟨ho0,hol,rfl⟩:=z8s hv2;dsimp only at hm;rw[hov]at hm;exact⟨[],hS,sR,Gf,rfl,[],hO2,sR,Gf,rfl,z00 (λ_=>⟨at0 (a:=eInt o),rfl,by simp[hw],by rw[hw]at hol;simpa using hol,by omega,o.toNat,0,_,by simp[hw],(By _).symm,z02 (f:=eInt) (A5 hol),Bc,[],hO2,sR,Gf,rfl,z01 rfl oM0,(e,k+1,w.set o.toNat y,⟨ins',[],st',code',out',cost',fuel',spent'⟩),z04 hlt,⟨by omega,hlt,by simp[hw],hm⟩,Ge,⟨rfl,rfl,rwq (by simp[eInt,Bt]),Gd⟩,rfl,rfl,rfl,rfl⟩) λh=>absurd h (by simp[Nd.outs])⟩
 ·rw[A8 (z13 (f:=Nd.enc) rfl hc)]at hm;obtain rfl:=y3e hm;exact⟨sP z3x,rfl,rfl,rfl,Gd⟩
theorem sr_list1(u:Un)(D:Nat)(ihC:SRC u D)(ihL:SRL u D)(hA:∀d k a s r,z40 u d k a s=some r->r.2.ar.length=s.ar.length)(hAL:∀d l v s r,z1v u d l v s=some r->r.2.2.ar.length=s.ar.length)(hALo:∀d x v a s r,z3h u d x v a s=some r->r.2.2.ar.length=s.ar.length)(hAS:∀d x a s r,mSum u d x a s=some r->r.2.ar.length=s.ar.length)(d:Nat)(hd:d<=D)(l:List Nd)(v:List Int)(s:Rs)(row:List Int)(r:Rres)(h:z1v u d l v { s with ar:=[row] }=some r)(hb:lsW l<=34359738368):SC Tryz.prog 56 [.ptr 1001 0,.pv (z2e l),.sl 510 (v.map eInt).length] (rHV u { s with ar:=[row] } v) (λ_=>False) (.pv (endv r.1)) (rHV u r.2.2 r.2.1):=by
 refine SC.sameR (SC.vc tb {} [] Tryz.func56 rfl rfl ?_) (λk _ h=>h.elim);have hll:=(@zu8 l).1;refine⟨Nat×Nat×List Int×Rs×List Int,λ(e,k,w,z,q)=>[(7,iInt k)],λ(e,k,w,z,q)=>[(1001,rBox u { z with ar:=[q] }),(1002,rowI z.out),(510,rowI w),(1003,.box [.sl 1004 (q.map eInt).length]),(1004,rowI q)],λ(e,k,w,z,q)=>l.length-k,λ(e,k,w,z,q)=>e<=D/\k<=l.length/\w.length=v.length/\z1v u e (l.drop k) w { z with ar:=[q] }=some r,[],(d,0,v,s,row),⟨hd,Ab _,rfl,h⟩,Ge,Gj,?_⟩;rintro⟨e,k,w,z,q⟩ ⟨he,hk,hw,hm⟩;refine z00 (λhc=>?_) λhc=>?_
 ·have hlt:=z12 (f:=Nd.enc) rfl hc;obtain⟨x,hx,_,hdr,hmem⟩:=z0s hlt;rw[hdr]at hm;have hxw:=(@zu8 l).2 x hmem;have hxe:=z87 x;obtain⟨e,rfl,hm2⟩:=z7g rfl hm;clear hm;have hSt:=yg4 u { z with ar:=[q] };have har:=zm0 { z with ar:=[q] };generalize z9o { z with ar:=[q] }=p at hm2 hSt har;obtain⟨b,ins,ar,st,code,out,cost,fuel,spent⟩:=p;obtain rfl:ar=[q]:=har;rcases hm2 with⟨hb0,rfl⟩|⟨hb0,a,r1,ha,hn,hm⟩
  ·obtain rfl:b=false:=hb0;exact⟨z07 hx,rfl,[],hSt,sR,Gi,rfl,sP z3x,rfl,rfl,rfl,rfl,rfl,Gd⟩
  ·obtain rfl:b=true:=hb0;have hOf:=sr_of w x.args a ha oM0;have hO:=z2z u ⟨ins,[q],st,code,out,cost,fuel,spent⟩;obtain⟨kind,op,n,name,args,outs,params,kids⟩:=x;rcases(show kind=1∨kind=2∨kind=12∨kind=13∨kind=14∨kind=15∨kind=10∨kind=11∨(kind≠1/\kind≠2/\kind≠12/\kind≠13/\kind≠14/\kind≠15/\kind≠10/\kind≠11) by omega)with rfl|rfl|rfl|rfl|rfl|rfl|rfl|rfl|hkk
   iterate 2
    obtain⟨o,w2,ho,hv2,rfl⟩:=z6q hn rfl;obtain⟨ho0,hol,rfl⟩:=z8s hv2;dsimp only at hm;generalize z0z ⟨ins,[q],st,code,out,cost,fuel,spent⟩=ov at hm hO
    cases ov with
    |true =>
     cases hm
     exact⟨z07 hx,rfl,[],hSt,sR,Gi,rfl,[],hOf,SubA.cons (slE (by simp[hw])) sR,Ge,rfl,z02 (f:=eInt) ho,rfl,by simp[hw],by rw[hw]at hol;simpa using hol,by omega,o.toNat,0,_,by simp[hw],(By _).symm,z02 (f:=eInt) (A5 hol),Bc,[],hO,sR,Gi,rfl,sP z3x,rfl,rfl,rwq (by simp[eInt,Bt,Nd.n]),rfl,rfl,Gd⟩
    |false =>
     exact⟨z07 hx,rfl,[],hSt,sR,Gi,rfl,[],hOf,SubA.cons (slE (by simp[hw])) sR,Ge,rfl,z02 (f:=eInt) ho,rfl,by simp[hw],by rw[hw]at hol;simpa using hol,by omega,o.toNat,0,_,by simp[hw],(By _).symm,z02 (f:=eInt) (A5 hol),Bc,[],hO,sR,Gi,rfl,z01 rfl oM0,(e,k+1,w.set o.toNat n,⟨ins,[q],st,code,out,cost,fuel,spent⟩,q),z04 hlt,⟨by omega,hlt,by simp[hw],hm⟩,Ge,⟨rfl,rfl,rwq (by simp[eInt,Bt,Nd.n]),rfl,rfl,Gd⟩,rfl,rfl,rfl,rfl⟩
   iterate 4
    obtain rfl:=z3d hn rfl;have hm3:=(if_pos (by simp[Nd.kind])).symm.trans hm
    cases hm3
    exact⟨z07 hx,rfl,[],hSt,sR,Gi,rfl,[],hOf,SubA.cons (slE (by simp[hw])) sR,Ge,rfl,sI,rfl,rfl,rfl,rfl,rfl,Gd⟩
   ·obtain⟨a0,q0,r2,h1,h2,h3,h4⟩:=ze3 hn rfl;have hi:=z02 (f:=eInt) h1;have hkw:lsW q0<=34359738368:=by have:=z7n (A9 h2);dsimp only[Nd.kids]at this hxe;omega
    have hL:=ihL e oM0 _ _ _ _ h3 hkw sI0;have hl2:r2.2.1.length=w.length:=z6p h3;have hal:=hAL _ _ _ _ _ h3;obtain⟨⟨ek,el⟩,v3,ins',ar',st',code',out',cost',fuel',spent'⟩:=r2;obtain⟨q2,rfl⟩:∃q2,ar'=[q2]:=Ci.1 hal;have hO2:=z2z u ⟨ins',[q2],st',code',out',cost',fuel',spent'⟩;clear hO;dsimp only at h4 hl2 hO2 hm;generalize hov:z0z ⟨ins',[q2],st',code',out',cost',fuel',spent'⟩=ov at h4 hO2;refine⟨z07 hx,rfl,[],hSt,sR,Gi,rfl,[],hOf,SubA.cons (slE (by simp[hw])) sR,Ge,rfl,hi,rfl,z00 (λhc0=>?_) λhc0=>?_⟩
    ·rw[show(a0 != 0)=true from hc0]at h2;have hkl:=z02 (f:=eKid) h2
     cases ov with
     |true =>
      cases h4
      rw[hov]at hm
      cases hm
      exact⟨hkl,rfl,[],hL,SubA.same (SubA.same (SubA.cons (slE (by simp[hw])) SubA.nil)),Gj,rfl,[],hO2,sR,Gi,rfl,[],hO2,sR,Gi,rfl,sI,rfl,rfl,rfl,rfl,rfl,Gd⟩
     |false =>
      refine⟨hkl,rfl,[],hL,SubA.same (SubA.same (SubA.cons (slE (by simp[hw])) SubA.nil)),Gj,rfl,[],hO2,sR,Gi,rfl,z00 (λh5=>?_) λh5=>?_⟩
      ·rw[show(ek==12)=true from h5]at h4;obtain⟨v4,h7,rfl⟩:=A1.1 h4;dsimp only at hm;rw[hov]at hm;exact⟨[],zb5 _ _ _ _ h7,SubA.cons (slE (by simp[hl2,hw])) sR,Ge,rfl,[],hO2,sR,Gi,rfl,z01 rfl oM0,(e,k+1,v4,⟨ins',[q2],st',code',out',cost',fuel',spent'⟩,q2),z04 hlt,⟨by omega,hlt,by rw[z3p h7,hl2,hw],hm⟩,Ge,Gj,rfl,rfl,rfl,rfl⟩
      ·rw[show(ek==12)=false from h5]at h4
       cases h4
       dsimp only at hm;rw[hov]at hm;refine⟨[],hO2,sR,Gi,rfl,z00 (λh6=>?_) λh6=>?_⟩
       ·rw[show(ek != 0)=true from h6]at hm
        cases hm
        exact⟨sI,rfl,rfl,rfl,rfl,rfl,Gd⟩
       ·rw[show(ek != 0)=false from h6]at hm;exact⟨z01 rfl oM0,(e,k+1,v3,⟨ins',[q2],st',code',out',cost',fuel',spent'⟩,q2),z04 hlt,⟨by omega,hlt,by rw[hl2,hw],hm⟩,Ge,Gj,rfl,rfl,rfl,rfl⟩
    ·rw[show(a0 != 0)=false from hc0]at h2;have hkl:=z02 (f:=eKid) h2
     cases ov with
     |true =>
      cases h4
      rw[hov]at hm
      cases hm
      exact⟨hkl,rfl,[],hL,SubA.same (SubA.same (SubA.cons (slE (by simp[hw])) SubA.nil)),Gj,rfl,[],hO2,sR,Gi,rfl,[],hO2,sR,Gi,rfl,sI,rfl,rfl,rfl,rfl,rfl,Gd⟩
     |false =>
      refine⟨hkl,rfl,[],hL,SubA.same (SubA.same (SubA.cons (slE (by simp[hw])) SubA.nil)),Gj,rfl,[],hO2,sR,Gi,rfl,z00 (λh5=>?_) λh5=>?_⟩
      ·rw[show(ek==12)=true from h5]at h4;obtain⟨v4,h7,rfl⟩:=A1.1 h4;dsimp only at hm;rw[hov]at hm;exact⟨[],zb5 _ _ _ _ h7,SubA.cons (slE (by simp[hl2,hw])) sR,Ge,rfl,[],hO2,sR,Gi,rfl,z01 rfl oM0,(e,k+1,v4,⟨ins',[q2],st',code',out',cost',fuel',spent'⟩,q2),z04 hlt,⟨by omega,hlt,by rw[z3p h7,hl2,hw],hm⟩,Ge,Gj,rfl,rfl,rfl,rfl⟩
      ·rw[show(ek==12)=false from h5]at h4
       cases h4
       dsimp only at hm;rw[hov]at hm;refine⟨[],hO2,sR,Gi,rfl,z00 (λh6=>?_) λh6=>?_⟩
       ·rw[show(ek != 0)=true from h6]at hm
        cases hm
        exact⟨sI,rfl,rfl,rfl,rfl,rfl,Gd⟩
       ·rw[show(ek != 0)=false from h6]at hm;exact⟨z01 rfl oM0,(e,k+1,v3,⟨ins',[q2],st',code',out',cost',fuel',spent'⟩,q2),z04 hlt,⟨by omega,hlt,by rw[hl2,hw],hm⟩,Ge,Gj,rfl,rfl,rfl,rfl⟩
   ·have h3:=z66 hn rfl;have hL:=sr_loop1 u D ihL hAL e oM0 _ oM0 _ _ ⟨ins,[],st,code,out,cost,fuel,spent⟩ q _ h3;have hl2:r1.2.1.length=w.length:=(zi1 u e).2 _ _ _ _ _ h3;have hal:=hALo _ _ _ _ _ _ h3;obtain⟨⟨ek,el⟩,v3,ins',ar',st',code',out',cost',fuel',spent'⟩:=r1;obtain⟨q2,rfl⟩:∃q2,ar'=[q2]:=Ci.1 hal;have hO2:=z2z u ⟨ins',[q2],st',code',out',cost',fuel',spent'⟩;clear hO;dsimp only at hl2 hO2 hm;generalize hov:z0z ⟨ins',[q2],st',code',out',cost',fuel',spent'⟩=ov at hm hO2
    cases ov with
    |true =>
     cases hm
     exact⟨z07 hx,rfl,[],hSt,sR,Gi,rfl,[],hOf,SubA.cons (slE (by simp[hw])) sR,Ge,rfl,[],hL,SubA.same (SubA.same (SubA.cons (slE (by simp[hw])) sR)),Gj,rfl,[],hO2,sR,Gi,rfl,sI,rfl,rfl,rfl,rfl,rfl,Gd⟩
    |false =>
     refine⟨z07 hx,rfl,[],hSt,sR,Gi,rfl,[],hOf,SubA.cons (slE (by simp[hw])) sR,Ge,rfl,[],hL,SubA.same (SubA.same (SubA.cons (slE (by simp[hw])) sR)),Gj,rfl,[],hO2,sR,Gi,rfl,z00 (λh6=>?_) λh6=>?_⟩
     ·rw[show(ek != 0)=true from h6]at hm
      cases hm
      exact⟨sI,rfl,rfl,rfl,rfl,rfl,Gd⟩
     ·rw[show(ek != 0)=false from h6]at hm;exact⟨z01 rfl oM0,(e,k+1,v3,⟨ins',[q2],st',code',out',cost',fuel',spent'⟩,q2),z04 hlt,⟨by omega,hlt,by rw[hl2,hw],hm⟩,Ge,Gj,rfl,rfl,rfl,rfl⟩
   ·obtain⟨k1,k2,k12,k13,k14,k15,k10,k11⟩:=hkk;have ne:∀{i:Int},kind≠i->(kind==i)=false:=λh=>Ad.2 h;have no:∀{i:Int},kind≠i->(kind==i)=true->False:=λh e=>h (eq_of_beq e);obtain⟨r2,h1,h2⟩:=z6r hn (by simp only[Nd.kind,ne k1,ne k2];rfl) (by simp only[Nd.kind,ne k12,ne k13,ne k14,ne k15];rfl) (ne k10) (ne k11);have hS:=j4e u D ihC hA e oM0 _ a _ _ h1 sI0;have hal:=hAS _ _ _ _ _ h1;obtain⟨y,ins',ar',st',code',out',cost',fuel',spent'⟩:=r2;obtain⟨q2,rfl⟩:∃q2,ar'=[q2]:=Ci.1 hal;have hO2:=z2z u ⟨ins',[q2],st',code',out',cost',fuel',spent'⟩;clear hO;dsimp only at h2 hO2;generalize hov:z0z ⟨ins',[q2],st',code',out',cost',fuel',spent'⟩=ov at h2 hO2;refine⟨z07 hx,rfl,[],hSt,sR,Gi,rfl,[],hOf,SubA.cons (slE (by simp[hw])) sR,Ge,rfl,z00 (λh=>(no k1 h).elim) λ_=>z00 (λh=>(no k2 h).elim) λ_=>z00 (λh=>(no k12 h).elim) λ_=>z00 (λh=>(no k13 h).elim) λ_=>z00 (λh=>(no k14 h).elim) λ_=>z00 (λh=>(no k15 h).elim) λ_=>z00 (λh=>(no k10 h).elim) λ_=>z00 (λh=>(no k11 h).elim) λ_=>?_⟩
    cases ov with
    |true =>
     cases h2
     dsimp only at hm;rw[hov]at hm
     cases hm
     exact⟨[],hS,sR,Gi,rfl,[],hO2,sR,Gi,rfl,[],hO2,sR,Gi,rfl,sP z3x,rfl,rfl,rfl,rfl,rfl,Gd⟩
    |false =>
     cases outs with
     |nil =>
      cases h2
      dsimp only at hm;rw[hov]at hm
      exact⟨[],hS,sR,Gi,rfl,[],hO2,sR,Gi,rfl,[],hO2,sR,Gi,rfl,z01 rfl oM0,(e,k+1,w,⟨ins',[q2],st',code',out',cost',fuel',spent'⟩,q2),z04 hlt,⟨by omega,hlt,hw,hm⟩,Ge,Gj,rfl,rfl,rfl,rfl⟩
     |cons o os =>
      rw[if_pos (by simp[Nd.outs])]at h2;obtain⟨o',ho,h3⟩:=Ah.1 h2;obtain rfl:o=o':=Bv ho;obtain⟨w2,hv2,rfl⟩:=A1.1 h3;obtain⟨ho0,hol,rfl⟩:=z8s hv2;dsimp only at hm;rw[hov]at hm;exact⟨[],hS,sR,Gi,rfl,[],hO2,sR,Gi,rfl,z00 (λ_=>⟨at0 (a:=eInt o),rfl,by simp[hw],by rw[hw]at hol;simpa using hol,by omega,o.toNat,0,_,by simp[hw],(By _).symm,z02 (f:=eInt) (A5 hol),Bc,[],hO2,sR,Gi,rfl,z01 rfl oM0,(e,k+1,w.set o.toNat y,⟨ins',[q2],st',code',out',cost',fuel',spent'⟩,q2),z04 hlt,⟨by omega,hlt,by simp[hw],hm⟩,Ge,⟨rfl,rfl,rwq (by simp[eInt,Bt]),rfl,rfl,Gd⟩,rfl,rfl,rfl,rfl⟩) λh=>absurd h (by simp[Nd.outs])⟩
 ·rw[A8 (z13 (f:=Nd.enc) rfl hc)]at hm;obtain rfl:=y3e hm;exact⟨sP z3x,rfl,rfl,rfl,rfl,rfl,Gd⟩
theorem sr_list2(u:Un)(D:Nat)(ihC:SRC u D)(ihL:SRL u D)(hA:∀d k a s r,z40 u d k a s=some r->r.2.ar.length=s.ar.length)(hAL:∀d l v s r,z1v u d l v s=some r->r.2.2.ar.length=s.ar.length)(hALo:∀d x v a s r,z3h u d x v a s=some r->r.2.2.ar.length=s.ar.length)(hAS:∀d x a s r,mSum u d x a s=some r->r.2.ar.length=s.ar.length)(d:Nat)(hd:d<=D)(l:List Nd)(v:List Int)(s:Rs)(row row':List Int)(r:Rres)(h:z1v u d l v { s with ar:=[row,row'] }=some r)(hb:lsW l<=34359738368):SC Tryz.prog 56 [.ptr 1001 0,.pv (z2e l),.sl 510 (v.map eInt).length] (rHV u { s with ar:=[row,row'] } v) (λ_=>False) (.pv (endv r.1)) (rHV u r.2.2 r.2.1):=by
 refine SC.sameR (SC.vc tb {} [] Tryz.func56 rfl rfl ?_) (λk _ h=>h.elim);have hll:=(@zu8 l).1;refine⟨Nat×Nat×List Int×Rs×List Int×List Int,λ(e,k,w,z,q,q')=>[(7,iInt k)],λ(e,k,w,z,q,q')=>[(1001,rBox u { z with ar:=[q,q'] }),(1002,rowI z.out),(510,rowI w),(1013,.box [.sl 1004 (q.map eInt).length,.sl 1014 (q'.map eInt).length]),(1004,rowI q),(1014,rowI q')],λ(e,k,w,z,q,q')=>l.length-k,λ(e,k,w,z,q,q')=>e<=D/\k<=l.length/\w.length=v.length/\z1v u e (l.drop k) w { z with ar:=[q,q'] }=some r,[],(d,0,v,s,row,row'),⟨hd,Ab _,rfl,h⟩,Ge,Gk,?_⟩;rintro⟨e,k,w,z,q,q'⟩ ⟨he,hk,hw,hm⟩;refine z00 (λhc=>?_) λhc=>?_
 ·have hlt:=z12 (f:=Nd.enc) rfl hc;obtain⟨x,hx,_,hdr,hmem⟩:=z0s hlt;rw[hdr]at hm;have hxw:=(@zu8 l).2 x hmem;have hxe:=z87 x;obtain⟨e,rfl,hm2⟩:=z7g rfl hm;clear hm;have hSt:=yg4 u { z with ar:=[q,q'] };have har:=zm0 { z with ar:=[q,q'] };generalize z9o { z with ar:=[q,q'] }=p at hm2 hSt har;obtain⟨b,ins,ar,st,code,out,cost,fuel,spent⟩:=p;obtain rfl:ar=[q,q']:=har;rcases hm2 with⟨hb0,rfl⟩|⟨hb0,a,r1,ha,hn,hm⟩
  ·obtain rfl:b=false:=hb0;exact⟨z07 hx,rfl,[],hSt,sR,Gj,rfl,sP z3x,rfl,rfl,rfl,rfl,rfl,rfl,Gd⟩
  ·obtain rfl:b=true:=hb0;have hOf:=sr_of w x.args a ha oM0;have hO:=z2z u ⟨ins,[q,q'],st,code,out,cost,fuel,spent⟩;obtain⟨kind,op,n,name,args,outs,params,kids⟩:=x;rcases(show kind=1∨kind=2∨kind=12∨kind=13∨kind=14∨kind=15∨kind=10∨kind=11∨(kind≠1/\kind≠2/\kind≠12/\kind≠13/\kind≠14/\kind≠15/\kind≠10/\kind≠11) by omega)with rfl|rfl|rfl|rfl|rfl|rfl|rfl|rfl|hkk
   iterate 2
    obtain⟨o,w2,ho,hv2,rfl⟩:=z6q hn rfl;obtain⟨ho0,hol,rfl⟩:=z8s hv2;dsimp only at hm;generalize z0z ⟨ins,[q,q'],st,code,out,cost,fuel,spent⟩=ov at hm hO
    cases ov with
    |true =>
     cases hm
     exact⟨z07 hx,rfl,[],hSt,sR,Gj,rfl,[],hOf,SubA.cons (slE (by simp[hw])) sR,Ge,rfl,z02 (f:=eInt) ho,rfl,by simp[hw],by rw[hw]at hol;simpa using hol,by omega,o.toNat,0,_,by simp[hw],(By _).symm,z02 (f:=eInt) (A5 hol),Bc,[],hO,sR,Gj,rfl,sP z3x,rfl,rfl,rwq (by simp[eInt,Bt,Nd.n]),rfl,rfl,rfl,Gd⟩
    |false =>
     exact⟨z07 hx,rfl,[],hSt,sR,Gj,rfl,[],hOf,SubA.cons (slE (by simp[hw])) sR,Ge,rfl,z02 (f:=eInt) ho,rfl,by simp[hw],by rw[hw]at hol;simpa using hol,by omega,o.toNat,0,_,by simp[hw],(By _).symm,z02 (f:=eInt) (A5 hol),Bc,[],hO,sR,Gj,rfl,z01 rfl oM0,(e,k+1,w.set o.toNat n,⟨ins,[q,q'],st,code,out,cost,fuel,spent⟩,q,q'),z04 hlt,⟨by omega,hlt,by simp[hw],hm⟩,Ge,⟨rfl,rfl,rwq (by simp[eInt,Bt,Nd.n]),rfl,rfl,rfl,Gd⟩,rfl,rfl,rfl,rfl⟩
   iterate 4
    obtain rfl:=z3d hn rfl;have hm3:=(if_pos (by simp[Nd.kind])).symm.trans hm
    cases hm3
    exact⟨z07 hx,rfl,[],hSt,sR,Gj,rfl,[],hOf,SubA.cons (slE (by simp[hw])) sR,Ge,rfl,sI,rfl,rfl,rfl,rfl,rfl,rfl,Gd⟩
   ·obtain⟨a0,q0,r2,h1,h2,h3,h4⟩:=ze3 hn rfl;have hi:=z02 (f:=eInt) h1;have hkw:lsW q0<=34359738368:=by have:=z7n (A9 h2);dsimp only[Nd.kids]at this hxe;omega
    have hL:=ihL e oM0 _ _ _ _ h3 hkw sI0;have hl2:r2.2.1.length=w.length:=z6p h3;have hal:=hAL _ _ _ _ _ h3;obtain⟨⟨ek,el⟩,v3,ins',ar',st',code',out',cost',fuel',spent'⟩:=r2;obtain⟨q2,q2',rfl⟩:=zq5 hal;have hO2:=z2z u ⟨ins',[q2,q2'],st',code',out',cost',fuel',spent'⟩;clear hO;dsimp only at h4 hl2 hO2 hm;generalize hov:z0z ⟨ins',[q2,q2'],st',code',out',cost',fuel',spent'⟩=ov at h4 hO2;refine⟨z07 hx,rfl,[],hSt,sR,Gj,rfl,[],hOf,SubA.cons (slE (by simp[hw])) sR,Ge,rfl,hi,rfl,z00 (λhc0=>?_) λhc0=>?_⟩
    ·rw[show(a0 != 0)=true from hc0]at h2;have hkl:=z02 (f:=eKid) h2
     cases ov with
     |true =>
      cases h4
      rw[hov]at hm
      cases hm
      exact⟨hkl,rfl,[],hL,SubA.same (SubA.same (SubA.cons (slE (by simp[hw])) SubA.nil)),Gk,rfl,[],hO2,sR,Gj,rfl,[],hO2,sR,Gj,rfl,sI,rfl,rfl,rfl,rfl,rfl,rfl,Gd⟩
     |false =>
      refine⟨hkl,rfl,[],hL,SubA.same (SubA.same (SubA.cons (slE (by simp[hw])) SubA.nil)),Gk,rfl,[],hO2,sR,Gj,rfl,z00 (λh5=>?_) λh5=>?_⟩
      ·rw[show(ek==12)=true from h5]at h4;obtain⟨v4,h7,rfl⟩:=A1.1 h4;dsimp only at hm;rw[hov]at hm;exact⟨[],zb5 _ _ _ _ h7,SubA.cons (slE (by simp[hl2,hw])) sR,Ge,rfl,[],hO2,sR,Gj,rfl,z01 rfl oM0,(e,k+1,v4,⟨ins',[q2,q2'],st',code',out',cost',fuel',spent'⟩,q2,q2'),z04 hlt,⟨by omega,hlt,by rw[z3p h7,hl2,hw],hm⟩,Ge,Gk,rfl,rfl,rfl,rfl⟩
      ·rw[show(ek==12)=false from h5]at h4
       cases h4
       dsimp only at hm;rw[hov]at hm;refine⟨[],hO2,sR,Gj,rfl,z00 (λh6=>?_) λh6=>?_⟩
       ·rw[show(ek != 0)=true from h6]at hm
        cases hm
        exact⟨sI,rfl,rfl,rfl,rfl,rfl,rfl,Gd⟩
       ·rw[show(ek != 0)=false from h6]at hm;exact⟨z01 rfl oM0,(e,k+1,v3,⟨ins',[q2,q2'],st',code',out',cost',fuel',spent'⟩,q2,q2'),z04 hlt,⟨by omega,hlt,by rw[hl2,hw],hm⟩,Ge,Gk,rfl,rfl,rfl,rfl⟩
    ·rw[show(a0 != 0)=false from hc0]at h2;have hkl:=z02 (f:=eKid) h2
     cases ov with
     |true =>
      cases h4
      rw[hov]at hm
      cases hm
      exact⟨hkl,rfl,[],hL,SubA.same (SubA.same (SubA.cons (slE (by simp[hw])) SubA.nil)),Gk,rfl,[],hO2,sR,Gj,rfl,[],hO2,sR,Gj,rfl,sI,rfl,rfl,rfl,rfl,rfl,rfl,Gd⟩
     |false =>
      refine⟨hkl,rfl,[],hL,SubA.same (SubA.same (SubA.cons (slE (by simp[hw])) SubA.nil)),Gk,rfl,[],hO2,sR,Gj,rfl,z00 (λh5=>?_) λh5=>?_⟩
      ·rw[show(ek==12)=true from h5]at h4;obtain⟨v4,h7,rfl⟩:=A1.1 h4;dsimp only at hm;rw[hov]at hm;exact⟨[],zb5 _ _ _ _ h7,SubA.cons (slE (by simp[hl2,hw])) sR,Ge,rfl,[],hO2,sR,Gj,rfl,z01 rfl oM0,(e,k+1,v4,⟨ins',[q2,q2'],st',code',out',cost',fuel',spent'⟩,q2,q2'),z04 hlt,⟨by omega,hlt,by rw[z3p h7,hl2,hw],hm⟩,Ge,Gk,rfl,rfl,rfl,rfl⟩
      ·rw[show(ek==12)=false from h5]at h4
       cases h4
       dsimp only at hm;rw[hov]at hm;refine⟨[],hO2,sR,Gj,rfl,z00 (λh6=>?_) λh6=>?_⟩
       ·rw[show(ek != 0)=true from h6]at hm
        cases hm
        exact⟨sI,rfl,rfl,rfl,rfl,rfl,rfl,Gd⟩
       ·rw[show(ek != 0)=false from h6]at hm;exact⟨z01 rfl oM0,(e,k+1,v3,⟨ins',[q2,q2'],st',code',out',cost',fuel',spent'⟩,q2,q2'),z04 hlt,⟨by omega,hlt,by rw[hl2,hw],hm⟩,Ge,Gk,rfl,rfl,rfl,rfl⟩
   ·have h3:=z66 hn rfl;have hL:=sr_loop2 u D ihL hAL e oM0 _ oM0 _ _ ⟨ins,[],st,code,out,cost,fuel,spent⟩ q q' _ h3;have hl2:r1.2.1.length=w.length:=(zi1 u e).2 _ _ _ _ _ h3;have hal:=hALo _ _ _ _ _ _ h3;obtain⟨⟨ek,el⟩,v3,ins',ar',st',code',out',cost',fuel',spent'⟩:=r1;obtain⟨q2,q2',rfl⟩:=zq5 hal;have hO2:=z2z u ⟨ins',[q2,q2'],st',code',out',cost',fuel',spent'⟩;clear hO;dsimp only at hl2 hO2 hm;generalize hov:z0z ⟨ins',[q2,q2'],st',code',out',cost',fuel',spent'⟩=ov at hm hO2
    cases ov with
    |true =>
     cases hm
     exact⟨z07 hx,rfl,[],hSt,sR,Gj,rfl,[],hOf,SubA.cons (slE (by simp[hw])) sR,Ge,rfl,[],hL,SubA.same (SubA.same (SubA.cons (slE (by simp[hw])) sR)),Gk,rfl,[],hO2,sR,Gj,rfl,sI,rfl,rfl,rfl,rfl,rfl,rfl,Gd⟩
    |false =>
     refine⟨z07 hx,rfl,[],hSt,sR,Gj,rfl,[],hOf,SubA.cons (slE (by simp[hw])) sR,Ge,rfl,[],hL,SubA.same (SubA.same (SubA.cons (slE (by simp[hw])) sR)),Gk,rfl,[],hO2,sR,Gj,rfl,z00 (λh6=>?_) λh6=>?_⟩
     ·rw[show(ek != 0)=true from h6]at hm
      cases hm
      exact⟨sI,rfl,rfl,rfl,rfl,rfl,rfl,Gd⟩
     ·rw[show(ek != 0)=false from h6]at hm;exact⟨z01 rfl oM0,(e,k+1,v3,⟨ins',[q2,q2'],st',code',out',cost',fuel',spent'⟩,q2,q2'),z04 hlt,⟨by omega,hlt,by rw[hl2,hw],hm⟩,Ge,Gk,rfl,rfl,rfl,rfl⟩
   ·obtain⟨k1,k2,k12,k13,k14,k15,k10,k11⟩:=hkk;have ne:∀{i:Int},kind≠i->(kind==i)=false:=λh=>Ad.2 h;have no:∀{i:Int},kind≠i->(kind==i)=true->False:=λh e=>h (eq_of_beq e);obtain⟨r2,h1,h2⟩:=z6r hn (by simp only[Nd.kind,ne k1,ne k2];rfl) (by simp only[Nd.kind,ne k12,ne k13,ne k14,ne k15];rfl) (ne k10) (ne k11);have hS:=j4e u D ihC hA e oM0 _ a _ _ h1 sI0;have hal:=hAS _ _ _ _ _ h1;obtain⟨y,ins',ar',st',code',out',cost',fuel',spent'⟩:=r2;obtain⟨q2,q2',rfl⟩:=zq5 hal;have hO2:=z2z u ⟨ins',[q2,q2'],st',code',out',cost',fuel',spent'⟩;clear hO;dsimp only at h2 hO2;generalize hov:z0z ⟨ins',[q2,q2'],st',code',out',cost',fuel',spent'⟩=ov at h2 hO2;refine⟨z07 hx,rfl,[],hSt,sR,Gj,rfl,[],hOf,SubA.cons (slE (by simp[hw])) sR,Ge,rfl,z00 (λh=>(no k1 h).elim) λ_=>z00 (λh=>(no k2 h).elim) λ_=>z00 (λh=>(no k12 h).elim) λ_=>z00 (λh=>(no k13 h).elim) λ_=>z00 (λh=>(no k14 h).elim) λ_=>z00 (λh=>(no k15 h).elim) λ_=>z00 (λh=>(no k10 h).elim) λ_=>z00 (λh=>(no k11 h).elim) λ_=>?_⟩
    cases ov with
    |true =>
     cases h2
     dsimp only at hm;rw[hov]at hm
     cases hm
     exact⟨[],hS,sR,Gj,rfl,[],hO2,sR,Gj,rfl,[],hO2,sR,Gj,rfl,sP z3x,rfl,rfl,rfl,rfl,rfl,rfl,Gd⟩
    |false =>
     cases outs with
     |nil =>
      cases h2
      dsimp only at hm;rw[hov]at hm
      exact⟨[],hS,sR,Gj,rfl,[],hO2,sR,Gj,rfl,[],hO2,sR,Gj,rfl,z01 rfl oM0,(e,k+1,w,⟨ins',[q2,q2'],st',code',out',cost',fuel',spent'⟩,q2,q2'),z04 hlt,⟨by omega,hlt,hw,hm⟩,Ge,Gk,rfl,rfl,rfl,rfl⟩
     |cons o os =>
      rw[if_pos (by simp[Nd.outs])]at h2;obtain⟨o',ho,h3⟩:=Ah.1 h2;obtain rfl:o=o':=Bv ho;obtain⟨w2,hv2,rfl⟩:=A1.1 h3;obtain⟨ho0,hol,rfl⟩:=z8s hv2;dsimp only at hm;rw[hov]at hm;exact⟨[],hS,sR,Gj,rfl,[],hO2,sR,Gj,rfl,z00 (λ_=>⟨at0 (a:=eInt o),rfl,by simp[hw],by rw[hw]at hol;simpa using hol,by omega,o.toNat,0,_,by simp[hw],(By _).symm,z02 (f:=eInt) (A5 hol),Bc,[],hO2,sR,Gj,rfl,z01 rfl oM0,(e,k+1,w.set o.toNat y,⟨ins',[q2,q2'],st',code',out',cost',fuel',spent'⟩,q2,q2'),z04 hlt,⟨by omega,hlt,by simp[hw],hm⟩,Ge,⟨rfl,rfl,rwq (by simp[eInt,Bt]),rfl,rfl,rfl,Gd⟩,rfl,rfl,rfl,rfl⟩) λh=>absurd h (by simp[Nd.outs])⟩
 ·rw[A8 (z13 (f:=Nd.enc) rfl hc)]at hm;obtain rfl:=y3e hm;exact⟨sP z3x,rfl,rfl,rfl,rfl,rfl,rfl,Gd⟩
theorem copyA{a:List Int}{i n:Nat}{x:Int}(hx:a[i]?=some x)(hn:a.length<=n):(a.take i++List.replicate (n-i) 0).set i x=a.take (i+1)++List.replicate (n-(i+1)) 0:=by
 have hi:i<a.length:=(A4.1 hx).1;have hl:(a.take i).length=i:=by rw[D6];omega
 rw[De _ _ oM0,hl,Nat.sub_self,show n-i=(n-(i+1))+1 by omega,Fc,Fi,List.take_add_one,hx];simp
theorem sr_call0(u:Un)(hub:∀f∈u.flows,lsW f.body<=34359738368)(D:Nat)(ihL:SRL u D)(hAL:∀d l v s r,z1v u d l v s=some r->r.2.2.ar.length=s.ar.length)(d:Nat)(hd:d<=D)(k:Int)(a:List Int)(s:Rs)(r:Int×Rs)(h:z40 u d k a { s with ar:=[] }=some r):SC Tryz.prog 31 [.ptr 1001 0,iInt k,.pv (ints a)] (rH u { s with ar:=[] }) (λ_=>False) (iInt r.1) (rH u r.2):=by
 refine SC.sameR (SC.vc tb { pb:=[107,110],ids:=[(22,510)] } [] Tryz.func31 rfl rfl ?_) (λk _ h=>h.elim);obtain⟨d1,f,r1,rfl,hk0,hf,hal0,hfl,hlist,rfl⟩:=z65 h;have hif:=z02 (f:=Fl.enc) hf;have hL:=ihL d1 oM0 _ _ _ _ hlist (hub f (A9 hf)) sI0;have hal:=hAL _ _ _ _ _ hlist;obtain⟨⟨ek,el⟩,v3,ins',ar',st',code',out',cost',fuel',spent'⟩:=r1;obtain rfl:ar'=[]:=Au hal;have hO:=z2z u ⟨ins',[],st',code',out',cost',fuel',spent'⟩;dsimp only at hO⊢;generalize z0z ⟨ins',[],st',code',out',cost',fuel',spent'⟩=ov at hO;refine⟨hif,by omega,rfl,rfl,by simp;omega,Nat,λi=>[(9,iInt i)],λi=>[(510,rowI (a.take i++List.replicate (f.types.length-i) 0))],λi=>a.length-i,λi=>i<=a.length,[],0,Ab _,Ge,⟨rwq (by simp[eInt];exact .inr rfl),Gd⟩,?_⟩;intro i hi;refine z00 (λhc=>?_) λhc=>?_
 ·have hlt:=z12 (f:=eInt) rfl hc;obtain⟨x,hx,_,_,_⟩:=z0s hlt;have hvl:(a.take i++List.replicate (f.types.length-i) 0).length=f.types.length:=by simp;omega
  exact⟨z02 (f:=eInt) hx,rfl,by simp;omega,by simp;omega,rfl,i,0,_,by simp;omega,(By _).symm,z02 (f:=eInt) (A5 oM0),Bc,z01 rfl oM0,i+1,z04 hlt,hlt,Ge,⟨rwq (by rw[<- copyA hx oM0];simp[eInt,Bt]),Gd⟩,rfl,rfl,rfl,rfl⟩
 ·have hge:a.take i++List.replicate (f.types.length-i) 0=a++List.replicate (f.types.length-a.length) 0:=by
   have:=z13 (f:=eInt) rfl hc;obtain rfl:i=a.length:=by omega
   rw[E8]
  cases ov with
  |true=>exact⟨[],hL,SubA.same (SubA.same (SubA.cons (slE (by simp;omega)) sR)),⟨rfl,rfl,rwq (by rw[hge]),Gd⟩,rfl,[],hO,sR,Gf,rfl,sI,rfl,rfl,Gd⟩
  |false =>
   cases el with
   |nil=>exact⟨[],hL,SubA.same (SubA.same (SubA.cons (slE (by simp;omega)) sR)),⟨rfl,rfl,rwq (by rw[hge]),Gd⟩,rfl,[],hO,sR,Gf,rfl,sI,rfl,rfl,Gd⟩
   |cons y el=>exact⟨[],hL,SubA.same (SubA.same (SubA.cons (slE (by simp;omega)) sR)),⟨rfl,rfl,rwq (by rw[hge]),Gd⟩,rfl,[],hO,sR,Gf,rfl,at0 (a:=eInt y),rfl,sI,rfl,rfl,Gd⟩
theorem sr_call1(u:Un)(hub:∀f∈u.flows,lsW f.body<=34359738368)(D:Nat)(ihL:SRL u D)(hAL:∀d l v s r,z1v u d l v s=some r->r.2.2.ar.length=s.ar.length)(d:Nat)(hd:d<=D)(k:Int)(a:List Int)(s:Rs)(row:List Int)(r:Int×Rs)(h:z40 u d k a { s with ar:=[row] }=some r):SC Tryz.prog 31 [.ptr 1001 0,iInt k,.pv (ints a)] (rH u { s with ar:=[row] }) (λ_=>False) (iInt r.1) (rH u r.2):=by
 refine SC.sameR (SC.vc tb { pb:=[107,110],ids:=[(22,510)] } [] Tryz.func31 rfl rfl ?_) (λk _ h=>h.elim);obtain⟨d1,f,r1,rfl,hk0,hf,hal0,hfl,hlist,rfl⟩:=z65 h;have hif:=z02 (f:=Fl.enc) hf;have hL:=ihL d1 oM0 _ _ _ _ hlist (hub f (A9 hf)) sI0;have hal:=hAL _ _ _ _ _ hlist;obtain⟨⟨ek,el⟩,v3,ins',ar',st',code',out',cost',fuel',spent'⟩:=r1;obtain⟨q2,rfl⟩:∃q2,ar'=[q2]:=Ci.1 hal;have hO:=z2z u ⟨ins',[q2],st',code',out',cost',fuel',spent'⟩;dsimp only at hO⊢;generalize z0z ⟨ins',[q2],st',code',out',cost',fuel',spent'⟩=ov at hO;refine⟨hif,by omega,rfl,rfl,by simp;omega,Nat,λi=>[(9,iInt i)],λi=>[(510,rowI (a.take i++List.replicate (f.types.length-i) 0))],λi=>a.length-i,λi=>i<=a.length,[],0,Ab _,Ge,⟨rwq (by simp[eInt];exact .inr rfl),Gd⟩,?_⟩;intro i hi;refine z00 (λhc=>?_) λhc=>?_
 ·have hlt:=z12 (f:=eInt) rfl hc;obtain⟨x,hx,_,_,_⟩:=z0s hlt;have hvl:(a.take i++List.replicate (f.types.length-i) 0).length=f.types.length:=by simp;omega
  exact⟨z02 (f:=eInt) hx,rfl,by simp;omega,by simp;omega,rfl,i,0,_,by simp;omega,(By _).symm,z02 (f:=eInt) (A5 oM0),Bc,z01 rfl oM0,i+1,z04 hlt,hlt,Ge,⟨rwq (by rw[<- copyA hx oM0];simp[eInt,Bt]),Gd⟩,rfl,rfl,rfl,rfl⟩
 ·have hge:a.take i++List.replicate (f.types.length-i) 0=a++List.replicate (f.types.length-a.length) 0:=by
   have:=z13 (f:=eInt) rfl hc;obtain rfl:i=a.length:=by omega
   rw[E8]
  cases ov with
  |true=>exact⟨[],hL,SubA.same (SubA.same (SubA.cons (slE (by simp;omega)) sR)),⟨rfl,rfl,rwq (by rw[hge]),rfl,rfl,Gd⟩,rfl,[],hO,sR,Gi,rfl,sI,rfl,rfl,rfl,rfl,Gd⟩
  |false =>
   cases el with
   |nil=>exact⟨[],hL,SubA.same (SubA.same (SubA.cons (slE (by simp;omega)) sR)),⟨rfl,rfl,rwq (by rw[hge]),rfl,rfl,Gd⟩,rfl,[],hO,sR,Gi,rfl,sI,rfl,rfl,rfl,rfl,Gd⟩
   |cons y el=>exact⟨[],hL,SubA.same (SubA.same (SubA.cons (slE (by simp;omega)) sR)),⟨rfl,rfl,rwq (by rw[hge]),rfl,rfl,Gd⟩,rfl,[],hO,sR,Gi,rfl,at0 (a:=eInt y),rfl,sI,rfl,rfl,rfl,rfl,Gd⟩
theorem sr_call2(u:Un)(hub:∀f∈u.flows,lsW f.body<=34359738368)(D:Nat)(ihL:SRL u D)(hAL:∀d l v s r,z1v u d l v s=some r->r.2.2.ar.length=s.ar.length)(d:Nat)(hd:d<=D)(k:Int)(a:List Int)(s:Rs)(row row':List Int)(r:Int×Rs)(h:z40 u d k a { s with ar:=[row,row'] }=some r):SC Tryz.prog 31 [.ptr 1001 0,iInt k,.pv (ints a)] (rH u { s with ar:=[row,row'] }) (λ_=>False) (iInt r.1) (rH u r.2):=by
 refine SC.sameR (SC.vc tb { pb:=[107,110],ids:=[(22,510)] } [] Tryz.func31 rfl rfl ?_) (λk _ h=>h.elim);obtain⟨d1,f,r1,rfl,hk0,hf,hal0,hfl,hlist,rfl⟩:=z65 h;have hif:=z02 (f:=Fl.enc) hf;have hL:=ihL d1 oM0 _ _ _ _ hlist (hub f (A9 hf)) sI0;have hal:=hAL _ _ _ _ _ hlist;obtain⟨⟨ek,el⟩,v3,ins',ar',st',code',out',cost',fuel',spent'⟩:=r1;obtain⟨q2,q2',rfl⟩:=zq5 hal;have hO:=z2z u ⟨ins',[q2,q2'],st',code',out',cost',fuel',spent'⟩;dsimp only at hO⊢;generalize z0z ⟨ins',[q2,q2'],st',code',out',cost',fuel',spent'⟩=ov at hO;refine⟨hif,by omega,rfl,rfl,by simp;omega,Nat,λi=>[(9,iInt i)],λi=>[(510,rowI (a.take i++List.replicate (f.types.length-i) 0))],λi=>a.length-i,λi=>i<=a.length,[],0,Ab _,Ge,⟨rwq (by simp[eInt];exact .inr rfl),Gd⟩,?_⟩;intro i hi;refine z00 (λhc=>?_) λhc=>?_
 ·have hlt:=z12 (f:=eInt) rfl hc;obtain⟨x,hx,_,_,_⟩:=z0s hlt;have hvl:(a.take i++List.replicate (f.types.length-i) 0).length=f.types.length:=by simp;omega
  exact⟨z02 (f:=eInt) hx,rfl,by simp;omega,by simp;omega,rfl,i,0,_,by simp;omega,(By _).symm,z02 (f:=eInt) (A5 oM0),Bc,z01 rfl oM0,i+1,z04 hlt,hlt,Ge,⟨rwq (by rw[<- copyA hx oM0];simp[eInt,Bt]),Gd⟩,rfl,rfl,rfl,rfl⟩
 ·have hge:a.take i++List.replicate (f.types.length-i) 0=a++List.replicate (f.types.length-a.length) 0:=by
   have:=z13 (f:=eInt) rfl hc;obtain rfl:i=a.length:=by omega
   rw[E8]
  cases ov with
  |true=>exact⟨[],hL,SubA.same (SubA.same (SubA.cons (slE (by simp;omega)) sR)),⟨rfl,rfl,rwq (by rw[hge]),rfl,rfl,rfl,Gd⟩,rfl,[],hO,sR,Gj,rfl,sI,rfl,rfl,rfl,rfl,rfl,Gd⟩
  |false =>
   cases el with
   |nil=>exact⟨[],hL,SubA.same (SubA.same (SubA.cons (slE (by simp;omega)) sR)),⟨rfl,rfl,rwq (by rw[hge]),rfl,rfl,rfl,Gd⟩,rfl,[],hO,sR,Gj,rfl,sI,rfl,rfl,rfl,rfl,rfl,Gd⟩
   |cons y el=>exact⟨[],hL,SubA.same (SubA.same (SubA.cons (slE (by simp;omega)) sR)),⟨rfl,rfl,rwq (by rw[hge]),rfl,rfl,rfl,Gd⟩,rfl,[],hO,sR,Gj,rfl,at0 (a:=eInt y),rfl,sI,rfl,rfl,rfl,rfl,rfl,Gd⟩
theorem z50(u:Un)(f:Fl)(set:List Bool)(l want:List Int)(hs:set.length=f.types.length):SC Tryz.prog 137 [.ptr 3 0,.pv (ints l),.pv (ints want)] (ckHp u f 4 set) (λk=>k=3) (iBool (z1u f.types set l want).1) (ckHp u f 4 (z1u f.types set l want).2):=by
 refine SC.sameR (SC.vc tb { gh:=[(0,[.len 1])] } [3] Tryz.func137 rfl rfl ?_) λk _ h=>Ag.2 h;intro hl;simp only[A6]at hl;refine z00 (λh1=>?_) λh1=>?_
 ·have e:((l.length:Int)==want.length)=false:=by simpa using h1
  rw[show z1u f.types set l want=(false,set) by unfold z1u;rw[e];rfl];exact⟨sI,rfl,rfl,Gd⟩
 ·have e:((l.length:Int)==want.length)=true:=by simpa using h1
  have hlw:l.length=want.length:=by
   have:=eq_of_beq e;omega
  rw[show z1u f.types set l want=z2g f.types set l want by unfold z1u;rw[e];rfl];refine⟨Nat×List Bool,λ(k,_)=>[(7,iInt k)],λ(_,S)=>[(4,.row ⟨4,1⟩ (S.map zf7))],λ(k,_)=>l.length-k,λ(k,S)=>k<=l.length/\S.length=set.length/\z2g f.types set l want=z2g f.types S (l.drop k) (want.drop k),[],(0,set),⟨Ab _,rfl,rfl⟩,Ge,Ge,?_⟩;rintro⟨k,S⟩ ⟨hk,hS,hI⟩;have ln:(S.map zf7).length=(set.map zf7).length:=by rw[A6,A6,hS]
  rw[hI];have bx:∀{n m:Nat},n=m->some (HO.box (y4t u f n))=some (HO.box (y4t u f m)):=λh=>by rw[h]
  refine z00 (λhc=>?_) λhc=>?_
  ·have hlt:=z12 (f:=eInt) rfl hc;obtain⟨v,hv,_,hd,_⟩:=z0s hlt;obtain⟨w,hw,_,hd2,_⟩:=z0s (show k<want.length by omega);have iv:=z02 (f:=eInt) hv;have iw:=z02 (f:=eInt) hw;rw[hd,hd2,show z2g f.types S (v::l.drop (k+1)) (w::want.drop (k+1))=if z9r f.types S v w then(false,S)else z2g f.types (S.set v.toNat true) (l.drop (k+1)) (want.drop (k+1))from rfl];refine⟨iv,rfl,z00 (λh2=>?_) λh2=>⟨iv,rfl,z00 (λh3=>?_) λh3=>?_⟩⟩
   ·rw[if_pos (show z9r f.types S v w=true by unfold z9r;rw[show decide (v<0)=true from h2];rfl)];exact⟨sI,bx ln.symm,rfl,Gd⟩
   ·have e3:decide (v≥f.types.length)=true:=by simpa using h3
    rw[if_pos (show z9r f.types S v w=true by unfold z9r;rw[e3];simp)];exact⟨sI,bx ln.symm,rfl,Gd⟩
   ·have e2:decide (v<0)=false:=h2;have e3:decide (v≥f.types.length)=false:=by simpa using h3
    have v0:0<=v:=by simpa using h2
    have v1:v.toNat<f.types.length:=by
     have:¬v≥f.types.length:=by simpa using e3
     omega
    have it:(f.types.map eInt)[v.toNat]?=some (eInt (f.types.getD v.toNat 0)):=z02 (f:=eInt) (by rw[At,A5 v1];rfl);have iS:(S.map zf7)[v.toNat]?=some (zf7 (S.getD v.toNat false)):=z02 (f:=zf7) (by rw[At,A5 oM0];rfl);have vlt:v.toNat<(set.map zf7).length:=by rw[A6];omega
    have vv:v=(v.toNat:Int):=by omega
    refine⟨iv,rfl,ln,vlt,vv,?_⟩
    cases h4:S.getD v.toNat false with
    |true =>
     rw[if_pos (show z9r f.types S v w=true by unfold z9r;rw[h4];simp)];rw[h4]at iS
     exact VRow.mk (i:=v.toNat) (j:=0) ln rfl iS rfl ⟨sI,bx ln.symm,rfl,Gd⟩
    |false =>
     rw[h4]at iS;refine VRow.mk (i:=v.toNat) (j:=0) ln rfl iS rfl ⟨iw,rfl,z00 (λh5=>⟨iv,rfl,it,by omega,iw,rfl,z00 (λh6=>?_) λh6=>?_⟩) λh5=>?_⟩
     ·have e5:(w != 0)=true:=h5;have e6:(f.types.getD v.toNat 0 != w)=true:=h6;rw[if_pos (show z9r f.types S v w=true by unfold z9r;rw[e5,e6];simp)];exact⟨sI,bx ln.symm,rfl,Gd⟩
     ·have e6:(f.types.getD v.toNat 0 != w)=false:=h6;have ok:z9r f.types S v w=false:=by unfold z9r;rw[e2,e3,h4,e6,Dk];rfl
      rw[if_neg (by rw[ok];exact Bool.false_ne_true)];exact⟨iv,rfl,ln,vlt,vv,⟨v.toNat,0,zf7 false,ln,rfl,iS,by decide,z01 rfl oM0,(k+1,S.set v.toNat true),z04 hlt,⟨hlt,by rw[E3,hS],rfl⟩,Ge,⟨by rw[Bt];rfl,Gd⟩,rfl,rfl,rfl,rfl⟩⟩
     ·have e5:(w != 0)=false:=h5;have ok:z9r f.types S v w=false:=by unfold z9r;rw[e2,e3,h4,e5,Cy];rfl
      rw[if_neg (by rw[ok];exact Bool.false_ne_true)];exact⟨iv,rfl,ln,vlt,vv,⟨v.toNat,0,zf7 false,ln,rfl,iS,by decide,z01 rfl oM0,(k+1,S.set v.toNat true),z04 hlt,⟨hlt,by rw[E3,hS],rfl⟩,Ge,⟨by rw[Bt];rfl,Gd⟩,rfl,rfl,rfl,rfl⟩⟩
  ·rw[A8 (z13 (f:=eInt) rfl hc)];exact⟨sI,bx ln.symm,rfl,Gd⟩
theorem yv9(op:Int):SC Tryz.prog 181 [iInt op] [] (λ_=>False) (iBool (z2u op)) []:=by
 refine SC.anyR (SC.vc tb {} [] Tryz.func181 rfl rfl ?_);unfold z2u;refine z00 (λh=>⟨sE ?_,Gd⟩) λh=>⟨sE ?_,Gd⟩
 ·rw[show decide (op≥20)=true from h];rfl
 ·rw[show decide (op≥20)=false from h];rfl
theorem yw0(op:Int):SC Tryz.prog 185 [iInt op] [] (λ_=>False) (iBool (z3q op)) []:=by
 refine SC.anyR (SC.vc tb {} [] Tryz.func185 rfl rfl ?_);unfold z3q;refine z00 (λh=>⟨sE ?_,Gd⟩) λh=>⟨sE ?_,Gd⟩
 ·rw[show decide (op≥1)=true from h];rfl
 ·rw[show decide (op≥1)=false from h];rfl
theorem zw1(op:Int):SC Tryz.prog 184 [iInt op] [] (λ_=>False) (.tup [iInt (z0f op).1,iInt (z0f op).2]) []:=by
 refine SC.anyR (SC.vc tb {} [] Tryz.func184 rfl rfl ?_)
 by_cases h:op=22∨op=18∨op=19∨op=16∨op=17∨op=12∨op=13∨op=14∨op=15
 ·rcases h with rfl|rfl|rfl|rfl|rfl|rfl|rfl|rfl|rfl<;>exact⟨sI,Gd⟩
 ·have hT:z0f op=(1,1):=by
   unfold z0f;rw[if_neg (by simp;omega),if_neg (by simp;omega),if_neg (by simp;omega)]
  rw[hT];refine z00 (λg=>absurd (eq_of_beq g) oM0) λ_=>z00 (λg=>absurd (eq_of_beq g) oM0) λ_=>z00 (λg=>absurd (eq_of_beq g) oM0) λ_=>z00 (λg=>absurd (eq_of_beq g) oM0) λ_=>z00 (λg=>absurd (eq_of_beq g) oM0) λ_=>z00 (λg1=>z00 (λg2=>?_) λg2=>⟨sI,Gd⟩) λ_=>⟨sI,Gd⟩;have g1:op≥12:=Aq g1;have g2:op<=15:=Aq g2;exact absurd h oM0
theorem getD_at8{l:List Int}{i:Nat}(h:i<l.length):l[i]?=some (l.getD i 0):=by simp[h]
theorem ckHp_in{u:Un}{f:Fl}{bt:TypeId}{set:List Bool}{k:Nat}(h:look (up (ckHp u f bt set)) k≠none):k∈[3,4]:=by
 by_cases h3:k=3
 ·subst h3;decide
 ·by_cases h4:k=4
  ·subst h4;decide
  ·exfalso;apply h;simp only[ckHp,up,B3,Cs,look,z49 (C0 h3),z49 (C0 h4)];rfl
theorem ye7(u:Un)(f:Fl)(set:List Bool)(l:List Int)(hb:l.length<=34359738368):SC Tryz.prog 135 [.ptr 3 0,.pv (ints l)] (ckHp u f 4 set) (λk=>k<100) (.pv (ints (r8of f.types l))) (ckHp u f 4 set):=by
 refine SC.sameR (SC.vc tb { gh:=[(2,[.grow 5 1001 3 1]),(8,[.fz 5 1001])] } [3,4] Tryz.func135 rfl rfl ?_) λk h _=>ckHp_in h;have lt1:((f.types.map eInt).length:Int)=f.types.length:=by rw[A6]
 refine⟨Nat,λi=>[(6,iInt ((i:Nat):Int)),(5,.sl 1001 (((l.take i).map λv=>f.types.getD v.toNat 0).map eInt).length)],λi=>[(1001,.row ⟨3,1⟩ (((l.take i).map λv=>f.types.getD v.toNat 0).map eInt))],λi=>l.length-i,λi=>i<=l.length/\(l.take i).all (zr4 f.types)=true,[],0,⟨Ab _,by simp⟩,Gf,Ge,?_⟩;rintro i ⟨hi,ha⟩;refine z00 (λhc=>?_) λhc=>?_
 ·have hlt:i<l.length:=z12 (f:=eInt) rfl hc;obtain⟨x,x1,x2,x3,x4⟩:=z0s hlt;have bad:zr4 f.types x=false->r8of f.types l=[]:=λhv=>by
   unfold r8of;rw[if_neg];intro h;rw[Bg]at h;have:=h x x4;rw[hv]at this;cases this
  refine⟨z02 (f:=eInt) x1,rfl,z00 (λh1=>?_) λh1=>?_⟩
  ·have h1:x<0:=Aq h1;rw[bad (by unfold zr4;rw[Dh (by omega:¬0<=x)];rfl)];exact⟨sN,rfl,rfl,Gd⟩
  have h1:¬x<0:=Ap h1;refine⟨z02 (f:=eInt) x1,rfl,z00 (λh2=>?_) λh2=>?_⟩
  ·have h2:=Aq h2;rw[lt1]at h2;rw[bad (by unfold zr4;rw[Dh (by omega:¬x<f.types.length),Dk])];exact⟨sN,rfl,rfl,Gd⟩
  have h2:=Ap h2;rw[lt1]at h2;have hv:zr4 f.types x=true:=by unfold zr4;rw[C6 (by omega:0<=x),C6 (by omega:x<f.types.length)];rfl
  exact⟨z02 (f:=eInt) x1,rfl,z02 (f:=eInt) (getD_at8 (show x.toNat<f.types.length by omega)),by omega,rfl,z3y rfl,by simp;omega,z01 rfl oM0,i+1,z04 hlt,⟨hlt,by rw[x2];simp[ha,hv]⟩,⟨rfl,slq (by rw[x2];simp),Gd⟩,⟨rwq (by rw[x2];simp[eInt]),Gd⟩,rfl,rfl,rfl,rfl⟩
 ·have hge:l.length<=i:=z13 (f:=eInt) rfl hc;rw[As hge]at ha⊢;have hT:r8of f.types l=l.map λv=>f.types.getD v.toNat 0:=by unfold r8of;rw[if_pos ha]
  rw[hT];exact⟨rfl,sI,rfl,rfl,Gd⟩
theorem yd3{u:Un}{f:Fl}{set:List Bool}{x:Nd}{seen:List Int}{g:Fl}(h:z06 x.name u.flows 0≥0)(hg:u.flows[(z06 x.name u.flows 0).toNat]?=some g) :
 zd3 u f set x seen=andS (z08 f.types seen x.args (g.types.take g.params.toNat)) set (z1u f.types set x.outs [g.ty]):=by
 unfold zd3;rw[if_pos (C6 h),hg]
theorem yd2{u:Un}{f:Fl}{set:List Bool}{x:Nd}{seen:List Int}(h:decide (z06 x.name u.flows 0≥0)=false):zd3 u f set x seen=(false,set):=by
 unfold zd3;rw[h];rfl
theorem ye8(u:Un)(f:Fl)(set:List Bool)(hs:set.length=f.types.length)(hg:∀g∈u.flows,0<=g.params/\g.params<=g.types.length)(x:Nd)(seen:List Int)(wh:Wh):SC Tryz.prog 138 [.ptr 3 0,.pv (ndv x),.pv (ints seen),.pv (whv wh)] (ckHp u f 4 set) (λk=>k=3) (iBool (z1i u f set x seen wh).1) (ckHp u f 4 (z1i u f set x seen wh).2):=by
 refine SC.sameR (SC.vc tb {} [3] Tryz.func138 rfl rfl ?_) λk _ h=>Ag.2 h;obtain⟨kind,op,n,name,args,outs,params,kids⟩:=x;rcases(show kind=1∨kind=2∨kind=3∨kind=4∨kind=5∨kind=6∨kind=7∨kind=9∨kind=8∨kind=12∨kind=13∨kind=14∨kind=15∨(kind≠1/\kind≠2/\kind≠3/\kind≠4/\kind≠5/\kind≠6/\kind≠7/\kind≠8/\kind≠9/\kind≠12/\kind≠13/\kind≠14/\kind≠15) by omega)with rfl|rfl|rfl|rfl|rfl|rfl|rfl|rfl|rfl|rfl|rfl|rfl|rfl|hk
 ·have hT:=z2h u f set args seen [];have hS:=z50 u f set outs [1] hs;rw[show z1i u f set ⟨1,op,n,name,args,outs,params,kids⟩ seen wh=andS (z08 f.types seen args []) set (z1u f.types set outs [1])from rfl];generalize z08 f.types seen args []=b at hT⊢
  cases b with
  |true=>exact⟨[3,4],hT,SubA.same (SubA.same (SubA.same (SubA.cons sN sR))),⟨rfl,rfl,Gd,rfl,rfl,Gd⟩,rfl,[],hS,sR,Gg,rfl,sI,rfl,rfl,Gd⟩
  |false=>exact⟨[3,4],hT,SubA.same (SubA.same (SubA.same (SubA.cons sN sR))),⟨rfl,rfl,Gd,rfl,rfl,Gd⟩,rfl,sI,rfl,rfl,Gd⟩
 ·have hT:=z2h u f set args seen [];have hS:=z50 u f set outs [2] hs;rw[show z1i u f set ⟨2,op,n,name,args,outs,params,kids⟩ seen wh=andS ((n==0||n==1)&&z08 f.types seen args []) set (z1u f.types set outs [2])from rfl];generalize z08 f.types seen args []=b at hT⊢;refine z00 (λh0=>?_) λh0=>?_
  ·rw[show(n==0)=true from h0]
   cases b with
   |true=>exact⟨[3,4],hT,SubA.same (SubA.same (SubA.same (SubA.cons sN sR))),⟨rfl,rfl,Gd,rfl,rfl,Gd⟩,rfl,[],hS,sR,Gg,rfl,sI,rfl,rfl,Gd⟩
   |false=>exact⟨[3,4],hT,SubA.same (SubA.same (SubA.same (SubA.cons sN sR))),⟨rfl,rfl,Gd,rfl,rfl,Gd⟩,rfl,sI,rfl,rfl,Gd⟩
  ·rw[show(n==0)=false from h0];refine z00 (λh1=>?_) λh1=>?_
   ·rw[show(n==1)=true from h1]
    cases b with
    |true=>exact⟨[3,4],hT,SubA.same (SubA.same (SubA.same (SubA.cons sN sR))),⟨rfl,rfl,Gd,rfl,rfl,Gd⟩,rfl,[],hS,sR,Gg,rfl,sI,rfl,rfl,Gd⟩
    |false=>exact⟨[3,4],hT,SubA.same (SubA.same (SubA.same (SubA.cons sN sR))),⟨rfl,rfl,Gd,rfl,rfl,Gd⟩,rfl,sI,rfl,rfl,Gd⟩
   ·rw[show(n==1)=false from h1];exact⟨sI,rfl,rfl,Gd⟩
 ·have hO:=zw1 op;have hT:=z2h u f set args seen [(z0f op).1];have hS:=z50 u f set outs [(z0f op).2] hs;have hI:=yv9 op;rw[show z1i u f set ⟨3,op,n,name,args,outs,params,kids⟩ seen wh=andS (z2u op&&z08 f.types seen args [(z0f op).1]) set (z1u f.types set outs [(z0f op).2])from rfl];generalize z08 f.types seen args [(z0f op).1]=b at hT⊢;generalize z2u op=q at hI⊢
  cases q with
  |true =>
   cases b with
   |true=>exact⟨[],hO,sR,Gd,rfl,[],hI,sR,Gd,rfl,[3,4],hT,sR,⟨rfl,rfl,Gd,rfl,rfl,Gd⟩,rfl,[],hS,sR,Gg,rfl,sI,rfl,rfl,Gd⟩
   |false=>exact⟨[],hO,sR,Gd,rfl,[],hI,sR,Gd,rfl,[3,4],hT,sR,⟨rfl,rfl,Gd,rfl,rfl,Gd⟩,rfl,sI,rfl,rfl,Gd⟩
  |false=>exact⟨[],hO,sR,Gd,rfl,[],hI,sR,Gd,rfl,sI,rfl,rfl,Gd⟩
 ·have hO:=zw1 op;have hT:=z2h u f set args seen [(z0f op).1,(z0f op).1];have hS:=z50 u f set outs [(z0f op).2] hs;have hI:=yw0 op;rw[show z1i u f set ⟨4,op,n,name,args,outs,params,kids⟩ seen wh=andS (z3q op&&z08 f.types seen args [(z0f op).1,(z0f op).1]&&f.types.getD (args.getD 0 0).toNat 0==f.types.getD (args.getD 1 0).toNat 0) set (z1u f.types set outs [(z0f op).2])from rfl]
  cases hb:z08 f.types seen args [(z0f op).1,(z0f op).1]with
  |false =>
   rw[hb]at hT;generalize z3q op=q at hI⊢
   cases q with
   |true=>exact⟨[],hO,sR,Gd,rfl,[],hI,sR,Gd,rfl,[3,4],hT,sR,⟨rfl,rfl,Gd,rfl,rfl,Gd⟩,rfl,sI,rfl,rfl,Gd⟩
   |false=>exact⟨[],hO,sR,Gd,rfl,[],hI,sR,Gd,rfl,sI,rfl,rfl,Gd⟩
  |true =>
   rw[hb]at hT;obtain⟨a,b,rfl,a0,a1,b0,b1⟩:=yd4 hb;have ga:f.types[a.toNat]?=some (f.types.getD a.toNat 0):=by rw[At,A5 a1];rfl
   have gb:f.types[b.toNat]?=some (f.types.getD b.toNat 0):=by rw[At,A5 b1];rfl
   generalize z3q op=q at hI⊢
   cases q with
   |false=>exact⟨[],hO,sR,Gd,rfl,[],hI,sR,Gd,rfl,sI,rfl,rfl,Gd⟩
   |true =>
    rw[show([a,b].getD 0 0:Int)=a from rfl,show([a,b].getD 1 0:Int)=b from rfl];refine⟨[],hO,sR,Gd,rfl,[],hI,sR,Gd,rfl,[3,4],hT,sR,⟨rfl,rfl,Gd,rfl,rfl,Gd⟩,rfl,at0 (a:=eInt a),rfl,z02 (f:=eInt) ga,by omega,at1 (b:=eInt b),rfl,z02 (f:=eInt) gb,by omega,z00 (λh=>?_) λh=>?_⟩
    ·rw[show(f.types.getD a.toNat 0==f.types.getD b.toNat 0)=true from h];exact⟨[],hS,sR,Gg,rfl,sI,rfl,rfl,Gd⟩
    ·rw[show(f.types.getD a.toNat 0==f.types.getD b.toNat 0)=false from h];exact⟨sI,rfl,rfl,Gd⟩
 ·have hA:=z0c u name;have hT:=z2h u f set args seen [1];have hS:=z50 u f set outs [1] hs;rw[show z1i u f set ⟨5,op,n,name,args,outs,params,kids⟩ seen wh=andS (decide (z0i name u.arrays 0≥0)&&z08 f.types seen args [1]) set (z1u f.types set outs [1])from rfl];generalize z08 f.types seen args [1]=b at hT⊢;refine⟨[],hA,sR,Gd,rfl,z00 (λh=>?_) λh=>?_⟩
  ·rw[show decide (z0i name u.arrays 0≥0)=true from h]
   cases b with
   |true=>exact⟨[3,4],hT,sR,⟨rfl,rfl,Gd,rfl,rfl,Gd⟩,rfl,[],hS,sR,Gg,rfl,sI,rfl,rfl,Gd⟩
   |false=>exact⟨[3,4],hT,sR,⟨rfl,rfl,Gd,rfl,rfl,Gd⟩,rfl,sI,rfl,rfl,Gd⟩
  ·rw[show decide (z0i name u.arrays 0≥0)=false from h];exact⟨sI,rfl,rfl,Gd⟩
 ·have hA:=z0c u name;have hT:=z2h u f set args seen [1,1];rw[show z1i u f set ⟨6,op,n,name,args,outs,params,kids⟩ seen wh=(decide (z0i name u.arrays 0≥0)&&z08 f.types seen args [1,1]&&(outs.length:Int)==0,set)from rfl];generalize z08 f.types seen args [1,1]=b at hT⊢;refine⟨[],hA,sR,Gd,rfl,z00 (λh=>?_) λh=>?_⟩
  ·rw[show decide (z0i name u.arrays 0≥0)=true from h]
   cases b with
   |true=>exact⟨[3,4],hT,sR,⟨rfl,rfl,Gd,rfl,rfl,Gd⟩,rfl,sE (by simp[Nd.outs]),rfl,rfl,Gd⟩
   |false=>exact⟨[3,4],hT,sR,⟨rfl,rfl,Gd,rfl,rfl,Gd⟩,rfl,sI,rfl,rfl,Gd⟩
  ·rw[show decide (z0i name u.arrays 0≥0)=false from h];exact⟨sI,rfl,rfl,Gd⟩
 ·have hP:=z3w u name;rw[show z1i u f set ⟨7,op,n,name,args,outs,params,kids⟩ seen wh=zd3 u f set ⟨7,op,n,name,args,outs,params,kids⟩ seen from rfl]
  cases hp:decide (z06 name u.flows 0≥0)with
  |true =>
   have h0:z06 name u.flows 0≥0:=by simpa using hp
   obtain⟨g,hgk,_⟩:=ze5 h0;rw[show zd3 u f set ⟨7,op,n,name,args,outs,params,kids⟩ seen=andS (z08 f.types seen args (g.types.take g.params.toNat)) set (z1u f.types set outs [g.ty])from yd3 h0 hgk];obtain⟨g0,g1⟩:=hg g (A9 hgk);have hT:=z2h u f set args seen (g.types.take g.params.toNat);have hS:=z50 u f set outs [g.ty] hs;have hi:=z02 (f:=Fl.enc) hgk;generalize z08 f.types seen args (g.types.take g.params.toNat)=b at hT⊢
   cases b with
   |true=>exact⟨[],hP,sR,Gd,rfl,z00 (λ_=>⟨hi,by omega,hi,by omega,g.params.toNat,by omega,by omega,by simp;omega,zl2,[3,4],hT,SubA.same (SubA.same (SubA.same (SubA.cons (sE (by simp[ints])) sR))),⟨rfl,rfl,Gd,rfl,rfl,Gd⟩,rfl,hi,by omega,[],hS,sR,Gg,rfl,sI,rfl,rfl,Gd⟩) λh=>absurd (hp.symm.trans h) dC0⟩
   |false=>exact⟨[],hP,sR,Gd,rfl,z00 (λ_=>⟨hi,by omega,hi,by omega,g.params.toNat,by omega,by omega,by simp;omega,zl2,[3,4],hT,SubA.same (SubA.same (SubA.same (SubA.cons (sE (by simp[ints])) sR))),⟨rfl,rfl,Gd,rfl,rfl,Gd⟩,rfl,sI,rfl,rfl,Gd⟩) λh=>absurd (hp.symm.trans h) dC0⟩
  |false =>
   rw[show zd3 u f set ⟨7,op,n,name,args,outs,params,kids⟩ seen=(false,set)from yd2 hp];exact⟨[],hP,sR,Gd,rfl,z00 (λh=>absurd (hp.symm.trans h) dC0) λ_=>⟨sI,rfl,rfl,Gd⟩⟩
 ·have hT:=z2h u f set args seen [1];rw[show z1i u f set ⟨9,op,n,name,args,outs,params,kids⟩ seen wh=(z08 f.types seen args [1]&&(outs.length:Int)==0,set)from rfl];generalize z08 f.types seen args [1]=b at hT⊢
  cases b with
  |true=>exact⟨[3,4],hT,sR,⟨rfl,rfl,Gd,rfl,rfl,Gd⟩,rfl,sE (by simp[Nd.outs]),rfl,rfl,Gd⟩
  |false=>exact⟨[3,4],hT,sR,⟨rfl,rfl,Gd,rfl,rfl,Gd⟩,rfl,sI,rfl,rfl,Gd⟩
 ·have hS:=z50 u f set outs [1] hs;rw[show z1i u f set ⟨8,op,n,name,args,outs,params,kids⟩ seen wh=andS ((args.length:Int)==0) set (z1u f.types set outs [1])from rfl];refine z00 (λh=>?_) λh=>?_
  ·rw[show((args.length:Int)==0)=true by simpa[Nd.args]using h];exact⟨[],hS,sR,Gg,rfl,sI,rfl,rfl,Gd⟩
  ·rw[show((args.length:Int)==0)=false by simpa[Nd.args]using h];exact⟨sI,rfl,rfl,Gd⟩
 ·obtain⟨If,Loop,Yield,Next,Left⟩:=wh;have hT:=z2h u f set args seen Yield;rw[show z1i u f set ⟨12,op,n,name,args,outs,params,kids⟩ seen ⟨If,Loop,Yield,Next,Left⟩=(If&&z08 f.types seen args Yield&&(outs.length:Int)==0,set)from rfl];generalize z08 f.types seen args Yield=b at hT⊢
  cases If with
  |true =>
   cases b with
   |true=>exact⟨[3,4],hT,sR,⟨rfl,rfl,Gd,rfl,rfl,Gd⟩,rfl,sE (by simp[Nd.outs]),rfl,rfl,Gd⟩
   |false=>exact⟨[3,4],hT,sR,⟨rfl,rfl,Gd,rfl,rfl,Gd⟩,rfl,sI,rfl,rfl,Gd⟩
  |false=>exact⟨sI,rfl,rfl,Gd⟩
 ·obtain⟨If,Loop,Yield,Next,Left⟩:=wh;have hT:=z2h u f set args seen Next;rw[show z1i u f set ⟨13,op,n,name,args,outs,params,kids⟩ seen ⟨If,Loop,Yield,Next,Left⟩=(Loop&&z08 f.types seen args Next&&(outs.length:Int)==0,set)from rfl];generalize z08 f.types seen args Next=b at hT⊢
  cases Loop with
  |true =>
   cases b with
   |true=>exact⟨[3,4],hT,sR,⟨rfl,rfl,Gd,rfl,rfl,Gd⟩,rfl,sE (by simp[Nd.outs]),rfl,rfl,Gd⟩
   |false=>exact⟨[3,4],hT,sR,⟨rfl,rfl,Gd,rfl,rfl,Gd⟩,rfl,sI,rfl,rfl,Gd⟩
  |false=>exact⟨sI,rfl,rfl,Gd⟩
 ·obtain⟨If,Loop,Yield,Next,Left⟩:=wh;have hT:=z2h u f set args seen Left;rw[show z1i u f set ⟨14,op,n,name,args,outs,params,kids⟩ seen ⟨If,Loop,Yield,Next,Left⟩=(Loop&&z08 f.types seen args Left&&(outs.length:Int)==0,set)from rfl];generalize z08 f.types seen args Left=b at hT⊢
  cases Loop with
  |true =>
   cases b with
   |true=>exact⟨[3,4],hT,sR,⟨rfl,rfl,Gd,rfl,rfl,Gd⟩,rfl,sE (by simp[Nd.outs]),rfl,rfl,Gd⟩
   |false=>exact⟨[3,4],hT,sR,⟨rfl,rfl,Gd,rfl,rfl,Gd⟩,rfl,sI,rfl,rfl,Gd⟩
  |false=>exact⟨sI,rfl,rfl,Gd⟩
 ·have hT:=z2h u f set args seen [f.ty];rw[show z1i u f set ⟨15,op,n,name,args,outs,params,kids⟩ seen wh=(z08 f.types seen args [f.ty]&&(outs.length:Int)==0,set)from rfl];generalize z08 f.types seen args [f.ty]=b at hT⊢
  cases b with
  |true=>exact⟨[3,4],hT,sR,⟨rfl,rfl,Gd,rfl,rfl,Gd⟩,rfl,sE (by simp[Nd.outs]),rfl,rfl,Gd⟩
  |false=>exact⟨[3,4],hT,sR,⟨rfl,rfl,Gd,rfl,rfl,Gd⟩,rfl,sI,rfl,rfl,Gd⟩
 ·obtain⟨k1,k2,k3,k4,k5,k6,k7,k8,k9,k12,k13,k14,k15⟩:=hk;have no:∀{i:Int},kind≠i->(kind==i)=true->False:=λh e=>h (eq_of_beq e);have ne:∀{i:Int},kind≠i->(kind==i)=false:=λh=>Ad.2 h;rw[show z1i u f set ⟨kind,op,n,name,args,outs,params,kids⟩ seen wh=(false,set) by unfold z1i;simp only[Nd.kind,ne k1,ne k2,ne k3,ne k4,ne k5,ne k6,ne k7,ne k8,ne k9,ne k12,ne k13,ne k14,ne k15];rfl];exact z00 (λh=>(no k1 h).elim) λ_=>z00 (λh=>(no k2 h).elim) λ_=>z00 (λh=>(no k3 h).elim) λ_=>z00 (λh=>(no k4 h).elim) λ_=>z00 (λh=>(no k5 h).elim) λ_=>z00 (λh=>(no k6 h).elim) λ_=>z00 (λh=>(no k7 h).elim) λ_=>z00 (λh=>(no k8 h).elim) λ_=>z00 (λh=>(no k9 h).elim) λ_=>z00 (λh=>(no k12 h).elim) λ_=>z00 (λh=>(no k13 h).elim) λ_=>z00 (λh=>(no k14 h).elim) λ_=>z00 (λh=>(no k15 h).elim) λ_=>⟨sI,rfl,rfl,Gd⟩
theorem j3a(u:Un)(f:Fl)(hg:∀g∈u.flows,0<=g.params/\g.params<=g.types.length)(x:Nd)(deep:Int)(hd:0<=deep/\deep<=100)(wh:Wh)(seen:List Int)(set:List Bool)(hs:set.length=f.types.length)(hb:seen.length+ndW x<=34359738368)(ih:∀q∈x.kids,∀(deep:Int)(w:Wh)(all:List Int)(set:List Bool),0<=deep/\deep<=101->set.length=f.types.length->all.length+lsW q<=34359738368->SC Tryz.prog 48 [.ptr 3 0,.pv (z2e q),.pv (ints all),.pv (whv w),iInt deep] (ckHp u f 4 set) (λk=>k=3) (iBool (z2m u f deep w all set q).1) (ckHp u f 4 (z2m u f deep w all set q).2)):SC Tryz.prog 88 [.ptr 3 0,.pv (ndv x),.pv (ints seen),.pv (whv wh),iInt deep] (ckHp u f 4 set) (λk=>k=3) (iBool (z4z u f deep wh seen set x).1) (ckHp u f 4 (z4z u f deep wh seen set x).2):=by
 refine SC.sameR (SC.vc tb { pb:=[182,213,252],gh:=[(15,[.fz 14 219])] } [3] Tryz.func88 rfl rfl ?_) λk _ h=>Ag.2 h;have hbW:=z87 x;have hbo:x.outs.length<=34359738368:=by omega
 have hbp:x.params.length<=34359738368:=by omega
 have hml:((x.outs.map eInt).length:Int)=x.outs.length:=by simp
 have hBare:=j38 x
 cases hbr:z1k x with
 |false =>
  rw[hbr]at hBare;rw[zi4 u f deep wh seen set hbr]
  exact⟨[],hBare,sR,Gd,rfl,sI,rfl,rfl,Gd⟩
 |true =>
  rw[hbr]at hBare
  by_cases h10:x.kind=10
  ·obtain⟨a,b,hk⟩:=z3f hbr h10;rw[y14 u f deep wh seen set hbr h10 hk];have k0:(x.kids.map eKid)[0]?=some [z2e a]:=by rw[hk];rfl
   have k1:(x.kids.map eKid)[1]?=some [z2e b]:=by rw[hk];rfl
   have hkw:kdW x.kids=1+lsW a+(1+lsW b+0):=by rw[hk];rfl
   have hO:=ye7 u f set x.outs hbo;have hT:=z2h u f set x.args seen [2];generalize z08 f.types seen x.args [2]=tb at hT⊢
   cases tb with
   |false=>exact⟨[],hBare,sR,Gd,rfl,z00 (λ_=>⟨[3,4],hO,sR,⟨rfl,rfl,by decide,rfl,rfl,Gd⟩,rfl,[3,4],hT,sR,⟨rfl,rfl,Gd,rfl,rfl,Gd⟩,rfl,sI,rfl,rfl,Gd⟩) λh=>absurd (Ak.2 h10) (by rw[h];decide)⟩
   |true =>
    rw[if_pos rfl];have hA:=ih a (by rw[hk];exact .head _) (deep+1) ⟨true,wh.Loop,r8of f.types x.outs,wh.Next,wh.Left⟩ seen set oM0 hs oM0;have hl1:=(z9s u f (deep+1) ⟨true,wh.Loop,r8of f.types x.outs,wh.Next,wh.Left⟩ seen set a).trans hs;generalize z2m u f (deep+1) ⟨true,wh.Loop,r8of f.types x.outs,wh.Next,wh.Left⟩ seen set a=ra at hA hl1⊢;obtain⟨ba,s1⟩:=ra
    cases ba with
    |false=>exact⟨[],hBare,sR,Gd,rfl,z00 (λ_=>⟨[3,4],hO,sR,⟨rfl,rfl,by decide,rfl,rfl,Gd⟩,rfl,[3,4],hT,sR,⟨rfl,rfl,Gd,rfl,rfl,Gd⟩,rfl,k0,rfl,z01 rfl oM0,[],hA,sR,Gg,rfl,sI,rfl,rfl,Gd⟩) λh=>absurd (Ak.2 h10) (by rw[h];decide)⟩
    |true =>
     unfold andT;rw[if_pos rfl];dsimp only at hl1;have hB:=ih b (by rw[hk];exact .tail _ (.head _)) (deep+1) ⟨true,wh.Loop,r8of f.types x.outs,wh.Next,wh.Left⟩ seen s1 oM0 hl1 oM0;have hl2:=(z9s u f (deep+1) ⟨true,wh.Loop,r8of f.types x.outs,wh.Next,wh.Left⟩ seen s1 b).trans hl1;dsimp only;generalize z2m u f (deep+1) ⟨true,wh.Loop,r8of f.types x.outs,wh.Next,wh.Left⟩ seen s1 b=rb at hB hl2⊢;obtain⟨bb,s2⟩:=rb
     cases bb with
     |false=>exact⟨[],hBare,sR,Gd,rfl,z00 (λ_=>⟨[3,4],hO,sR,⟨rfl,rfl,by decide,rfl,rfl,Gd⟩,rfl,[3,4],hT,sR,⟨rfl,rfl,Gd,rfl,rfl,Gd⟩,rfl,k0,rfl,z01 rfl oM0,[],hA,sR,Gg,rfl,k1,rfl,z01 rfl oM0,[],hB,sR,Gg,rfl,sI,rfl,rfl,Gd⟩) λh=>absurd (Ak.2 h10) (by rw[h];decide)⟩
     |true =>
      rw[if_pos rfl];dsimp only at hl2⊢;have hE:=z50 u f s2 x.outs (List.replicate x.outs.length 0) hl2;have hC:=zj3 x;unfold zg3;generalize z05 x=cl at hC⊢
      cases ho:((x.outs.length:Int)==0)with
      |true=>exact⟨[],hBare,sR,Gd,rfl,z00 (λ_=>⟨[3,4],hO,sR,⟨rfl,rfl,by decide,rfl,rfl,Gd⟩,rfl,[3,4],hT,sR,⟨rfl,rfl,Gd,rfl,rfl,Gd⟩,rfl,k0,rfl,z01 rfl oM0,[],hA,sR,Gg,rfl,k1,rfl,z01 rfl oM0,[],hB,sR,Gg,rfl,z00 (λ_=>⟨rfl,rfl,by simp;omega,[],hE,SubA.same (SubA.same (SubA.cons (sE (by simp[ints,eInt];exact .inr rfl)) sR)),Gg,rfl,sI,rfl,rfl,Gd⟩) λh=>absurd (ho.symm.trans (show((x.outs.length:Int)==0)=false by rw[hml]at h;exact h)) dC0⟩) λh=>absurd (Ak.2 h10) (by rw[h];decide)⟩
      |false =>
       cases cl with
       |true=>exact⟨[],hBare,sR,Gd,rfl,z00 (λ_=>⟨[3,4],hO,sR,⟨rfl,rfl,by decide,rfl,rfl,Gd⟩,rfl,[3,4],hT,sR,⟨rfl,rfl,Gd,rfl,rfl,Gd⟩,rfl,k0,rfl,z01 rfl oM0,[],hA,sR,Gg,rfl,k1,rfl,z01 rfl oM0,[],hB,sR,Gg,rfl,z00 (λh=>absurd (ho.symm.trans (show((x.outs.length:Int)==0)=true by rw[hml]at h;exact h)) dC0) λ_=>⟨[],hC,sR,Gd,rfl,sI,rfl,rfl,Gd⟩⟩) λh=>absurd (Ak.2 h10) (by rw[h];decide)⟩
       |false=>exact⟨[],hBare,sR,Gd,rfl,z00 (λ_=>⟨[3,4],hO,sR,⟨rfl,rfl,by decide,rfl,rfl,Gd⟩,rfl,[3,4],hT,sR,⟨rfl,rfl,Gd,rfl,rfl,Gd⟩,rfl,k0,rfl,z01 rfl oM0,[],hA,sR,Gg,rfl,k1,rfl,z01 rfl oM0,[],hB,sR,Gg,rfl,z00 (λh=>absurd (ho.symm.trans (show((x.outs.length:Int)==0)=true by rw[hml]at h;exact h)) dC0) λ_=>⟨[],hC,sR,Gd,rfl,rfl,rfl,by simp;omega,[],hE,SubA.same (SubA.same (SubA.cons (sE (by simp[ints,eInt];exact .inr rfl)) sR)),Gg,rfl,sI,rfl,rfl,Gd⟩⟩) λh=>absurd (Ak.2 h10) (by rw[h];decide)⟩
  by_cases h11:x.kind=11
  ·obtain⟨a,hk⟩:=z25 hbr h11;rw[zi5 u f deep wh seen set hbr h11 hk];have k0:(x.kids.map eKid)[0]?=some [z2e a]:=by rw[hk];rfl
   have hkw:kdW x.kids=1+lsW a+0:=by rw[hk];rfl
   have hP:=ye7 u f set x.params hbp;have hO:=ye7 u f set x.outs hbo;have hT:=z2h u f set x.args seen (r8of f.types x.params);generalize z08 f.types seen x.args (r8of f.types x.params)=tb at hT⊢
   cases tb with
   |false=>exact⟨[],hBare,sR,Gd,rfl,z00 (λh=>absurd (eq_of_beq h) h10) λ_=>z00 (λ_=>⟨[3,4],hP,sR,⟨rfl,rfl,by decide,rfl,rfl,Gd⟩,rfl,[3,4],hO,sR,⟨rfl,rfl,by decide,rfl,rfl,Gd⟩,rfl,[3,4],hP,sR,⟨rfl,rfl,by decide,rfl,rfl,Gd⟩,rfl,[3,4],hT,sR,⟨rfl,rfl,Gd,rfl,rfl,Gd⟩,rfl,sI,rfl,rfl,Gd⟩) λh=>absurd (Ak.2 h11) (by rw[h];decide)⟩
   |true =>
    rw[if_pos rfl];have hS:=z50 u f set x.params (List.replicate x.params.length 0) hs;have hl1:=(z7b f.types set x.params (List.replicate x.params.length 0)).trans hs;generalize z1u f.types set x.params (List.replicate x.params.length 0)=rs at hS hl1⊢;obtain⟨bs,s1⟩:=rs
    cases bs with
    |false=>exact⟨[],hBare,sR,Gd,rfl,z00 (λh=>absurd (eq_of_beq h) h10) λ_=>z00 (λ_=>⟨[3,4],hP,sR,⟨rfl,rfl,by decide,rfl,rfl,Gd⟩,rfl,[3,4],hO,sR,⟨rfl,rfl,by decide,rfl,rfl,Gd⟩,rfl,[3,4],hP,sR,⟨rfl,rfl,by decide,rfl,rfl,Gd⟩,rfl,[3,4],hT,sR,⟨rfl,rfl,Gd,rfl,rfl,Gd⟩,rfl,rfl,rfl,by simp;omega,[],hS,SubA.same (SubA.same (SubA.cons (sE (by simp[ints,eInt];exact .inr rfl)) sR)),Gg,rfl,sI,rfl,rfl,Gd⟩) λh=>absurd (Ak.2 h11) (by rw[h];decide)⟩
    |true =>
     unfold andT;rw[if_pos rfl];dsimp only at hl1;have hA:=ih a (by rw[hk];exact .head _) (deep+1) ⟨false,true,[],r8of f.types x.params,r8of f.types x.outs⟩ (seen++x.params) s1 oM0 hl1 (by simp;omega);have hl2:=(z9s u f (deep+1) ⟨false,true,[],r8of f.types x.params,r8of f.types x.outs⟩ (seen++x.params) s1 a).trans hl1;dsimp only;generalize z2m u f (deep+1) ⟨false,true,[],r8of f.types x.params,r8of f.types x.outs⟩ (seen++x.params) s1 a=ra at hA hl2⊢;obtain⟨ba,s2⟩:=ra
     cases ba with
     |false=>exact⟨[],hBare,sR,Gd,rfl,z00 (λh=>absurd (eq_of_beq h) h10) λ_=>z00 (λ_=>⟨[3,4],hP,sR,⟨rfl,rfl,by decide,rfl,rfl,Gd⟩,rfl,[3,4],hO,sR,⟨rfl,rfl,by decide,rfl,rfl,Gd⟩,rfl,[3,4],hP,sR,⟨rfl,rfl,by decide,rfl,rfl,Gd⟩,rfl,[3,4],hT,sR,⟨rfl,rfl,Gd,rfl,rfl,Gd⟩,rfl,rfl,rfl,by simp;omega,[],hS,SubA.same (SubA.same (SubA.cons (sE (by simp[ints,eInt];exact .inr rfl)) sR)),Gg,rfl,rfl,zk7 (λ_ _=>⟨rfl,λy hy=>by simp[eInt]at hy;subst hy;rfl⟩),by simp;omega,rfl,zk7 (λ_ _=>⟨rfl,λy hy=>by simp[eInt]at hy;subst hy;rfl⟩),by simp;omega,by simp,k0,rfl,z01 rfl oM0,[],hA,SubA.same (SubA.same (SubA.cons (sE (by simp[ints])) (SubA.cons (sP (PSub.agg (And.intro (PSub.refl _) (And.intro (PSub.refl _) (And.intro PSub.nil (And.intro (PSub.refl _) (And.intro (PSub.refl _) trivial))))))) sR))),Gg,rfl,sI,rfl,rfl,Gd⟩) λh=>absurd (Ak.2 h11) (by rw[h];decide)⟩
     |true =>
      rw[if_pos rfl];dsimp only at hl2⊢;have hE:=z50 u f s2 x.outs (List.replicate x.outs.length 0) hl2;have hC:=zj3 x;unfold zg3;generalize z05 x=cl at hC⊢
      cases ho:((x.outs.length:Int)==0)with
      |true=>exact⟨[],hBare,sR,Gd,rfl,z00 (λh=>absurd (eq_of_beq h) h10) λ_=>z00 (λ_=>⟨[3,4],hP,sR,⟨rfl,rfl,by decide,rfl,rfl,Gd⟩,rfl,[3,4],hO,sR,⟨rfl,rfl,by decide,rfl,rfl,Gd⟩,rfl,[3,4],hP,sR,⟨rfl,rfl,by decide,rfl,rfl,Gd⟩,rfl,[3,4],hT,sR,⟨rfl,rfl,Gd,rfl,rfl,Gd⟩,rfl,rfl,rfl,by simp;omega,[],hS,SubA.same (SubA.same (SubA.cons (sE (by simp[ints,eInt];exact .inr rfl)) sR)),Gg,rfl,rfl,zk7 (λ_ _=>⟨rfl,λy hy=>by simp[eInt]at hy;subst hy;rfl⟩),by simp;omega,rfl,zk7 (λ_ _=>⟨rfl,λy hy=>by simp[eInt]at hy;subst hy;rfl⟩),by simp;omega,by simp,k0,rfl,z01 rfl oM0,[],hA,SubA.same (SubA.same (SubA.cons (sE (by simp[ints])) (SubA.cons (sP (PSub.agg (And.intro (PSub.refl _) (And.intro (PSub.refl _) (And.intro PSub.nil (And.intro (PSub.refl _) (And.intro (PSub.refl _) trivial))))))) sR))),Gg,rfl,z00 (λ_=>⟨rfl,rfl,by simp;omega,[],hE,SubA.same (SubA.same (SubA.cons (sE (by simp[ints,eInt];exact .inr rfl)) sR)),Gg,rfl,sI,rfl,rfl,Gd⟩) λh=>absurd (ho.symm.trans (show((x.outs.length:Int)==0)=false by rw[hml]at h;exact h)) dC0⟩) λh=>absurd (Ak.2 h11) (by rw[h];decide)⟩
      |false =>
       cases cl with
       |true=>exact⟨[],hBare,sR,Gd,rfl,z00 (λh=>absurd (eq_of_beq h) h10) λ_=>z00 (λ_=>⟨[3,4],hP,sR,⟨rfl,rfl,by decide,rfl,rfl,Gd⟩,rfl,[3,4],hO,sR,⟨rfl,rfl,by decide,rfl,rfl,Gd⟩,rfl,[3,4],hP,sR,⟨rfl,rfl,by decide,rfl,rfl,Gd⟩,rfl,[3,4],hT,sR,⟨rfl,rfl,Gd,rfl,rfl,Gd⟩,rfl,rfl,rfl,by simp;omega,[],hS,SubA.same (SubA.same (SubA.cons (sE (by simp[ints,eInt];exact .inr rfl)) sR)),Gg,rfl,rfl,zk7 (λ_ _=>⟨rfl,λy hy=>by simp[eInt]at hy;subst hy;rfl⟩),by simp;omega,rfl,zk7 (λ_ _=>⟨rfl,λy hy=>by simp[eInt]at hy;subst hy;rfl⟩),by simp;omega,by simp,k0,rfl,z01 rfl oM0,[],hA,SubA.same (SubA.same (SubA.cons (sE (by simp[ints])) (SubA.cons (sP (PSub.agg (And.intro (PSub.refl _) (And.intro (PSub.refl _) (And.intro PSub.nil (And.intro (PSub.refl _) (And.intro (PSub.refl _) trivial))))))) sR))),Gg,rfl,z00 (λh=>absurd (ho.symm.trans (show((x.outs.length:Int)==0)=true by rw[hml]at h;exact h)) dC0) λ_=>⟨[],hC,sR,Gd,rfl,sI,rfl,rfl,Gd⟩⟩) λh=>absurd (Ak.2 h11) (by rw[h];decide)⟩
       |false=>exact⟨[],hBare,sR,Gd,rfl,z00 (λh=>absurd (eq_of_beq h) h10) λ_=>z00 (λ_=>⟨[3,4],hP,sR,⟨rfl,rfl,by decide,rfl,rfl,Gd⟩,rfl,[3,4],hO,sR,⟨rfl,rfl,by decide,rfl,rfl,Gd⟩,rfl,[3,4],hP,sR,⟨rfl,rfl,by decide,rfl,rfl,Gd⟩,rfl,[3,4],hT,sR,⟨rfl,rfl,Gd,rfl,rfl,Gd⟩,rfl,rfl,rfl,by simp;omega,[],hS,SubA.same (SubA.same (SubA.cons (sE (by simp[ints,eInt];exact .inr rfl)) sR)),Gg,rfl,rfl,zk7 (λ_ _=>⟨rfl,λy hy=>by simp[eInt]at hy;subst hy;rfl⟩),by simp;omega,rfl,zk7 (λ_ _=>⟨rfl,λy hy=>by simp[eInt]at hy;subst hy;rfl⟩),by simp;omega,by simp,k0,rfl,z01 rfl oM0,[],hA,SubA.same (SubA.same (SubA.cons (sE (by simp[ints])) (SubA.cons (sP (PSub.agg (And.intro (PSub.refl _) (And.intro (PSub.refl _) (And.intro PSub.nil (And.intro (PSub.refl _) (And.intro (PSub.refl _) trivial))))))) sR))),Gg,rfl,z00 (λh=>absurd (ho.symm.trans (show((x.outs.length:Int)==0)=true by rw[hml]at h;exact h)) dC0) λ_=>⟨[],hC,sR,Gd,rfl,rfl,rfl,by simp;omega,[],hE,SubA.same (SubA.same (SubA.cons (sE (by simp[ints,eInt];exact .inr rfl)) sR)),Gg,rfl,sI,rfl,rfl,Gd⟩⟩) λh=>absurd (Ak.2 h11) (by rw[h];decide)⟩
  ·have e10:(x.kind==10)=false:=by simpa using h10
   have e11:(x.kind==11)=false:=by simpa using h11
   have no:∀{i:Int},x.kind≠i->(x.kind==i)=true->False:=λh e=>h (eq_of_beq e);rw[z9u u f deep wh seen set hbr e10 e11];exact⟨[],hBare,sR,Gd,rfl,z00 (λh=>(no h10 h).elim) λ_=>z00 (λh=>(no h11 h).elim) λ_=>⟨[],ye8 u f set hs hg x seen wh,sR,Gg,rfl,sI,rfl,rfl,Gd⟩⟩
theorem y7k{hp hp2:Hp}{L:List Nat}(hh:agh hp2 hp L):∀{xs ys:List IV},yb3 (look hp) (· ∈ L) xs ys->yb3 (look hp2) (· ∈ L) xs ys
 |[],[],_=>trivial
 |[],_::_,h=>h.elim
 |_::_,[],h=>h.elim
 |x::xs,y::ys,h=>by
  refine⟨?_,y7k hh h.2⟩
  cases h.1 with
  |same=>exact .same
  |row hL hσ hn he=>exact .row hL (hh.at hσ hL) hn he
theorem ym3{P:Program}{o:Oper}{fr:Fr}{hp:Hp}{Rl:List Nat}(L:List Nat){f:FuncId}{os:Array Operand}{tys:Array TypeId}{xs args:List IV}{pre post:List (Nat×HO)}{R:Nat->Prop}{r:IV}(hsc:SC P f args pre R r post)(hf:z6m P f)
 (ho:o.op=.call { callee:=.value (.func f),args:=os,argTypes:=tys }) (hx:evs fr os.toList=some xs) (hl:yb3 (look hp) (· ∈ L) xs args) (hL:∀k∈L,look (up pre) k=none) (hpre:∀p∈pre,look hp p.1=some p.2) (hdom:pre.map (·.1)=post.map (·.1))
 (hR:∀k∈Rl,look (up pre) k=none∨R k) (hr:∃z,r=.pv (.val z)) (hpost:∀k ob,look (up post) k=some ob->y3m ob=true∨(R k/\look (up pre) k=some ob)):OkF P Rl o fr hp ⟨r,up post,post.map (·.1)++L,[]⟩:=by
 intro c fr2 hp2 hc _ hg hh _;refine ok_lend (· ∈ L) hsc hf ho (hg.evs hx λy hy=>?_) (sRf _ _) (y7k (λk hk=>hh k (C4 _ hk)) hl) hL (λk ob hk=>?_) hdom (λk hk=>hR k (hc k hk)) hr hpost
 ·rw[ho];simp only[Op.operands,Call.operands,Dn];exact C4 _ hy
 ·exact hh.at (hpre (k,ob) (z1m hk)) (Bn _ (by rw[<- hdom];exact Db (f:=(·.1)) (z1m hk)))
theorem y62(N:Nat):∀(u:Un)(f:Fl)(hg:∀g∈u.flows,0<=g.params/\g.params<=g.types.length)(l:List Nd)(deep:Int)(wh:Wh)(all:List Int)(set:List Bool)(hd:0<=deep/\deep<=101)(hs:set.length=f.types.length)(hb:all.length+lsW l<=34359738368),SizeOf.sizeOf l<N->SC Tryz.prog 48 [.ptr 3 0,.pv (z2e l),.pv (ints all),.pv (whv wh),iInt deep] (ckHp u f 4 set) (λk=>k=3) (iBool (z2m u f deep wh all set l).1) (ckHp u f 4 (z2m u f deep wh all set l).2):=by
 induction N with
 |zero=>intro u f hg l deep wh all set hd hs hb hN;exact absurd hN (Ai _)
 |succ N ih =>
  intro u f hg l deep wh all set hd hs hb hN;refine SC.sameR (SC.vc tb { pb:=[108],an:=[6011],gh:=[(0,[.len 1]),(2,[.grow 11 111 3 1])] } [3] Tryz.func48 rfl rfl ?_) λk _ h=>Ag.2 h;intro hl;simp only[A6]at hl;have hl:l.length<=9223372036854775807:=hl;have ll:(l.map Nd.enc).length=l.length:=A6 _;unfold z2m;refine⟨rfl,zk7 (λ_ _=>⟨rfl,λy hy=>by simp[eInt]at hy;subst hy;rfl⟩),by simp;omega,Nat×List Int×List Bool,λq=>[(12,iInt ((q.1:Nat):Int)),(11,.sl 111 (q.2.1.map eInt).length)],λq=>(111,.row ⟨3,1⟩ (q.2.1.map eInt))::ckHp u f 4 q.2.2,λq=>l.length-q.1,λq=>q.1<=l.length/\q.2.2.length=f.types.length/\r8go u f deep wh all set l=r8go u f deep wh q.2.1 q.2.2 (l.drop q.1)/\q.2.1.length+lsW (l.drop q.1)<=34359738368,[],(0,all,set),⟨Ab _,hs,rfl,hb⟩,⟨rfl,slq (Bu _),Gd⟩,Gg,?_⟩;rintro⟨i,al,s⟩ ⟨i1,i2,i3,i4⟩;dsimp only at i1 i2 i3 i4;refine z00 (λhc=>?_) λhc=>?_
  ·have hlt:i<l.length:=z12 (f:=Nd.enc) rfl hc;obtain⟨x,x1,x2,x3,x4⟩:=z0s hlt;have hxe:=z87 x;rw[x3,lsW]at i4;rw[x3,r8go]at i3;have hne:∀r,ne l r=r:=λr=>by unfold ne;rw[if_neg (by rw[Ft];intro e;rw[e]at hlt;exact absurd hlt (Ai _))]
   refine z00 (λh1=>?_) λh1=>?_
   ·have h1:deep > 100:=Aq h1;rw[if_pos h1]at i3;rw[i3,hne];exact⟨sI,rfl,rfl,Gd⟩
   have h1:¬deep > 100:=Ap h1;rw[if_neg h1]at i3;have hX:=j3a u f hg x deep ⟨hd.1,by omega⟩ wh al s i2 oM0 λq hq deep w all set hd hs hb=>ih u f hg q deep w all set hd hs hb (Bb (zc4 x4 rfl hq) (C3 hN));have hXl:=(z9t u f x deep wh al s).trans i2;have hck:=ck_lend (u:=u) (f:=f) (bt:=4) (set:=s) (z9t u f x deep wh al s);generalize z4z u f deep wh al s x=r at hX hXl hck i3;obtain⟨b,s2⟩:=r;dsimp only at hX hXl hck;have hR:∀k∈[3],look (up (ckHp u f 4 s)) k=none∨k=3:=λk hk=>.inr (Ag.1 hk);have hL:∀k∈[111],look (up (ckHp u f 4 s)) k=none:=λk hk=>by rw[Ag.1 hk];rfl
   have hpre:∀q∈ckHp u f 4 s,look ((111,some (.row ⟨3,1⟩ (al.map eInt)))::up (ckHp u f 4 s)) q.1=some q.2:=λq hq=>by
    simp only[ckHp,Am,C5,Gb]at hq;rcases hq with rfl|rfl<;>rfl
   cases b
   ·rw[show andT (false,s2) (λs1=>if (z05 x != (l.drop (i+1)).isEmpty)=true then(false,s1)else r8go u f deep wh (al++x.outs) s1 (l.drop (i+1)))=(false,s2)from rfl]at i3;rw[i3,hne];exact⟨z07 x1,rfl,ym3 [111] hX (tb.fok _ rfl) rfl rfl ⟨.same,.same,.row (Ag.2 rfl) rfl rfl rfl,.same,.same,Gd⟩ hL hpre rfl hR ⟨_,rfl⟩ hck,sI,rfl,rfl,Gd⟩
   rw[show andT (true,s2) (λs1=>if (z05 x != (l.drop (i+1)).isEmpty)=true then(false,s1)else r8go u f deep wh (al++x.outs) s1 (l.drop (i+1)))=(if (z05 x != (l.drop (i+1)).isEmpty)=true then(false,s2)else r8go u f deep wh (al++x.outs) s2 (l.drop (i+1)))from rfl]at i3;have hem:(l.drop (i+1)).isEmpty=((i:Int)==((l.map Nd.enc).length:Int)-1):=by
    rw[D3,Ft,List.drop_eq_nil_iff,Ak,ll];omega
   rw[hem]at i3;refine⟨z07 x1,rfl,ym3 [111] hX (tb.fok _ rfl) rfl rfl ⟨.same,.same,.row (Ag.2 rfl) rfl rfl rfl,.same,.same,Gd⟩ hL hpre rfl hR ⟨_,rfl⟩ hck,z07 x1,rfl,[],zj3 x,sR,Gd,rfl,z4b rfl (by rw[ll];omega),z00 (λh2=>?_) λh2=>?_⟩
   ·have h2:(z05 x != ((i:Int)==((l.map Nd.enc).length:Int)-1))=true:=h2;rw[if_pos h2]at i3;rw[i3,hne];exact⟨sI,rfl,rfl,Gd⟩
   ·rw[if_neg (by rw[show(z05 x != ((i:Int)==((l.map Nd.enc).length:Int)-1))=false from h2];decide)]at i3;have hlen:(al++x.outs).length+lsW (l.drop (i+1))<=34359738368:=by rw[B5];omega
    exact⟨z07 x1,rfl,rfl,zk7 (λ_ _=>⟨rfl,λy hy=>by simp[eInt]at hy;subst hy;rfl⟩),by simp;omega,z01 rfl oM0,(i+1,al++x.outs,s2),z04 hlt,⟨hlt,hXl,i3,hlen⟩,⟨rfl,slq sI0,Gd⟩,⟨rwq sI0,rfl,rfl,Gd⟩,rfl,rfl,rfl,rfl⟩
  ·have hge:l.length<=i:=z13 (f:=Nd.enc) rfl hc;have hgo:r8go u f deep wh all set l=(true,s):=by rw[i3,A8 hge,r8go]
   rw[hgo,show ne l (true,s)=(decide ((l.length:Int) > 0),s) by cases l<;>simp[ne]];exact⟨sE (by rw[ll]),rfl,rfl,Gd⟩
theorem j39(u:Un)(f:Fl)(hg:∀g∈u.flows,0<=g.params/\g.params<=g.types.length)(l:List Nd)(deep:Int)(wh:Wh)(all:List Int)(set:List Bool)(hd:0<=deep/\deep<=101)(hs:set.length=f.types.length)(hb:all.length+lsW l<=34359738368):SC Tryz.prog 48 [.ptr 3 0,.pv (z2e l),.pv (ints all),.pv (whv wh),iInt deep] (ckHp u f 4 set) (λk=>k=3) (iBool (z2m u f deep wh all set l).1) (ckHp u f 4 (z2m u f deep wh all set l).2):=y62 _ u f hg l deep wh all set hd hs hb (A7 _)
theorem j37(u:Un)(f:Fl)(hg:∀g∈u.flows,0<=g.params/\g.params<=g.types.length)(hb:lsW f.body<=34000000000):SC Tryz.prog 25 [.pv u.enc,.pv (.agg f.enc)] [] (λ_=>False) (iBool (z5g u f)) []:=by
 refine SC.anyR (SC.vc tb { pb:=[102,103],ids:=[(57,4),(59,3)],gh:=[(10,[.grow 7 107 3 1]),(15,[.fz 7 107])] } [] Tryz.func25 rfl rfl ?_);unfold z5g;have hl:((f.types.map eInt).length:Int)=f.types.length:=by rw[A6]
 refine z00 (λh1=>?_) λh1=>?_
 ·rw[show decide (f.params<0)=true from h1];exact⟨sI,Gd⟩
 rw[show decide (f.params<0)=false from h1];refine z00 (λh2=>?_) λh2=>?_
 ·rw[show decide (f.params > 8)=true from h2];exact⟨sI,Gd⟩
 rw[show decide (f.params > 8)=false from h2];refine z00 (λh3=>?_) λh3=>?_
 ·have h3:decide (f.params > ((f.types.map eInt).length:Int))=true:=h3;rw[hl]at h3;rw[h3];exact⟨sI,Gd⟩
 have h3:decide (f.params > ((f.types.map eInt).length:Int))=false:=h3;rw[hl]at h3;rw[h3];refine z00 (λh4=>?_) λh4=>?_
 ·have h4:decide (((f.types.map eInt).length:Int) > 20000)=true:=h4;rw[hl]at h4;rw[h4];exact⟨sI,Gd⟩
 have h4:decide (((f.types.map eInt).length:Int) > 20000)=false:=h4;rw[hl]at h4;rw[h4];simp only[Dl,B0];have q1:=Ap h1;have q3:=Ap h3;have q4:=Ap h4;have q2:=Ap h2;refine⟨Nat,λi=>[(5,iInt ((i:Nat):Int))],λ_=>[],λi=>f.types.length-i,λi=>i<=f.types.length/\f.types.all (λt=>t==1||t==2)=(f.types.drop i).all (λt=>t==1||t==2),[],0,⟨Ab _,rfl⟩,Ge,Gd,?_⟩;rintro i ⟨i1,i2⟩;refine z00 (λhc=>?_) λhc=>?_
 ·have hlt:i<f.types.length:=z12 (f:=eInt) rfl hc;obtain⟨x,x1,x2,x3,x4⟩:=z0s hlt;rw[x3,D9]at i2;refine⟨z02 (f:=eInt) x1,rfl,z00 (λc1=>?_) λc1=>?_⟩
  ·have c1:(x==1)=false:=by simpa using c1
   refine⟨z02 (f:=eInt) x1,rfl,z00 (λc2=>?_) λc2=>?_⟩
   ·have c2:(x==2)=false:=by simpa using c2
    rw[c1,c2]at i2;rw[i2];exact⟨sI,Gd⟩
   ·have c2:(x==2)=true:=by simpa using c2
    rw[c1,c2]at i2;exact⟨z01 rfl oM0,i+1,z04 hlt,⟨hlt,i2⟩,Ge,Gd,rfl,rfl,rfl,rfl⟩
  ·have c1:(x==1)=true:=by simpa using c1
   rw[c1]at i2;exact⟨z01 rfl oM0,i+1,z04 hlt,⟨hlt,i2⟩,Ge,Gd,rfl,rfl,rfl,rfl⟩
 ·have hge:f.types.length<=i:=z13 (f:=eInt) rfl hc;rw[i2,A8 hge,Fx,B0];have hn:∀k:Nat,((iota k).map eInt).length=k:=λk=>by rw[A6,y0l]
  refine⟨rfl,VNum.mk (n:=f.types.length) hl oM0 ⟨by simp,Nat,λi=>[(8,iInt ((i:Nat):Int)),(7,.sl 107 i)],λi=>(107,.row ⟨3,1⟩ ((iota i).map eInt))::ckHp u f 4 (z5e i f.types.length),λi=>f.params.toNat-i,λi=>(i:Int)<=f.params,[],0,by show((0:Nat):Int)<=_;omega,Gf,⟨rfl,boq (by simp[y4t,z5e];rfl),rwq (by simp[z5e,zf7];exact .inr rfl),Gd⟩,?_⟩⟩;intro i hi;have hsl:=z4k (k:=i) (n:=f.types.length) oM0;refine z00 (λhc=>?_) λhc=>?_
  ·have hlt:(i:Int)<f.params:=Aq hc;have hss:=yr8 (k:=i) (n:=f.types.length) oM0;exact⟨rfl,VIdR.mk (i:=i) (by rw[A6];omega) rfl ⟨i,0,_,rfl,rfl,z02 (f:=zf7) (by rw[A5 (show i<(z5e i f.types.length).length by omega)]),by simp[zf7],hn i,z3y rfl,by simp;omega,z01 rfl oM0,i+1,(by show f.params.toNat-(i+1)<f.params.toNat-i;omega),(by show((i+1:Nat):Int)<=f.params;omega),⟨rfl,slq sI0,Gd⟩,⟨rwq (by rw[<- j0x];simp[eInt]),boq (by rw[<- hss];simp[y4t]),rwq (by rw[<- hss];simp[zf7,Bt]),Gd⟩,rfl,rfl,rfl,rfl⟩⟩
  ·have hge:¬(i:Int)<f.params:=Ap hc;have hi2:i=f.params.toNat:=by omega
   subst hi2;have hL:=j39 u f hg f.body 1 z43 (iota f.params.toNat) (z5e f.params.toNat f.types.length) ⟨by decide,by decide⟩ oM0 (by rw[y0l];omega);exact⟨hn _,[],hL,SubA.same (SubA.same (SubA.same (SubA.cons (sP (z0g _)) (SubA.same SubA.nil)))),Gf,rfl,sI,Gd⟩
inductive Ex where
 |mk (kind op n:Int) (name:ByteArray) (args:List Ex)
inductive St where
 |mk (kind ty:Int) (name:ByteArray) (args:List Ex) (thn els:List St)
structure Pm where
 name:ByteArray
 ty:Int
structure Fu where
 name:ByteArray
 ty:Int
 params:List Pm
 body:List St
structure Pg where
 arrays:List Ar
 funcs:List Fu
structure Tk where
 kind:Int
 text:ByteArray
 line:Int
mutual
def Ex.enc:Ex->List PV
 |.mk kind op n name args=>[vInt kind,vInt op,vInt n,vStr name,.seq (Ex.encL args)]
def Ex.encL:List Ex->List (List PV)
 |[]=>[]
 |x::r=>x.enc::Ex.encL r
end
theorem Ex.encL_eq:∀l,Ex.encL l=l.map Ex.enc
 |[]=>rfl
 |x::r=>by simp[Ex.encL,Ex.encL_eq r]
def exs(l:List Ex):PV:=.seq (l.map Ex.enc)
def Ex.kind:Ex->Int|.mk k _ _ _ _=>k
def Ex.op:Ex->Int|.mk _ o _ _ _=>o
def Ex.n:Ex->Int|.mk _ _ n _ _=>n
def Ex.name:Ex->ByteArray|.mk _ _ _ s _=>s
def Ex.args:Ex->List Ex|.mk _ _ _ _ a=>a
theorem Ex.enc_eq(x:Ex):x.enc=[vInt x.kind,vInt x.op,vInt x.n,vStr x.name,exs x.args]:=by
 cases x
 simp[Ex.enc,Ex.encL_eq,exs,Ex.kind,Ex.op,Ex.n,Ex.name,Ex.args]
theorem z1d{l:List Ex}{i:Nat}{x:Ex}(h:l[i]?=some x):(l.map Ex.enc)[i]?=some [vInt x.kind,vInt x.op,vInt x.n,vStr x.name,exs x.args]:=by
 simp[h,Ex.enc_eq]
def exv(x:Ex):PV:=.agg [vInt x.kind,vInt x.op,vInt x.n,vStr x.name,exs x.args]
mutual
def St.enc:St->List PV
 |.mk kind ty name args thn els=>[vInt kind,vInt ty,vStr name,exs args,.seq (St.encL thn),.seq (St.encL els)]
def St.encL:List St->List (List PV)
 |[]=>[]
 |x::r=>x.enc::St.encL r
end
theorem St.encL_eq:∀l,St.encL l=l.map St.enc
 |[]=>rfl
 |x::r=>by simp[St.encL,St.encL_eq r]
def sts(l:List St):PV:=.seq (l.map St.enc)
def St.kind:St->Int|.mk k _ _ _ _ _=>k
def St.ty:St->Int|.mk _ t _ _ _ _=>t
def St.name:St->ByteArray|.mk _ _ s _ _ _=>s
def St.args:St->List Ex|.mk _ _ _ a _ _=>a
def St.thn:St->List St|.mk _ _ _ _ t _=>t
def St.els:St->List St|.mk _ _ _ _ _ e=>e
theorem St.enc_eq(x:St):x.enc=[vInt x.kind,vInt x.ty,vStr x.name,exs x.args,sts x.thn,sts x.els]:=by
 cases x
 simp[St.enc,St.encL_eq,sts,St.kind,St.ty,St.name,St.args,St.thn,St.els]
theorem zk0{l:List St}{i:Nat}{x:St}(h:l[i]?=some x):(l.map St.enc)[i]?=some [vInt x.kind,vInt x.ty,vStr x.name,exs x.args,sts x.thn,sts x.els]:=by
 simp[h,St.enc_eq]
def stv(x:St):PV:=.agg [vInt x.kind,vInt x.ty,vStr x.name,exs x.args,sts x.thn,sts x.els]
def Pm.enc(p:Pm):List PV:=[vStr p.name,vInt p.ty]
def pms(l:List Pm):PV:=.seq (l.map Pm.enc)
def Fu.enc(f:Fu):List PV:=[vStr f.name,vInt f.ty,pms f.params,sts f.body]
def fus(l:List Fu):PV:=.seq (l.map Fu.enc)
def Pg.enc(p:Pg):PV:=.agg [arrs p.arrays,fus p.funcs]
def Tk.enc(t:Tk):List PV:=[vInt t.kind,vStr t.text,vInt t.line]
def tks(l:List Tk):PV:=.seq (l.map Tk.enc)
mutual
def xz:Ex->Nat
 |.mk _ _ _ _ args=>1+xzL args
def xzL:List Ex->Nat
 |[]=>0
 |x::r=>xz x+xzL r
end
mutual
def sz:St->Nat
 |.mk _ _ _ args thn els=>1+xzL args+szL thn+szL els
def szL:List St->Nat
 |[]=>0
 |x::r=>sz x+szL r
end
theorem j5k:∀a b:List Ex,xzL (a++b)=xzL a+xzL b
 |[],b=>by simp[xzL]
 |x::r,b=>by simp only[B9,xzL,j5k r b];omega
theorem j4h:∀a b:List St,szL (a++b)=szL a+szL b
 |[],b=>by simp[szL]
 |x::r,b=>by simp only[B9,szL,j4h r b];omega
theorem xz_pos(x:Ex):1<=xz x:=by cases x;simp only[xz];omega
theorem sz_pos(x:St):1<=sz x:=by cases x;simp only[sz];omega
theorem zc5:∀l:List Ex,l.length<=xzL l
 |[]=>Ae _
 |x::r=>by
  have:=xz_pos x;have:=zc5 r;simp only[Al,xzL];omega
theorem z8m:∀l:List St,l.length<=szL l
 |[]=>Ae _
 |x::r=>by
  have:=sz_pos x;have:=z8m r;simp only[Al,szL];omega
def maxI:Int:=9223372036854775807
def qVal:Int->List UInt8->Int
 |n,[]=>n
 |n,b::r=>if n > (maxI-((b.toNat:Int)-48)).tdiv 10 then -1 else qVal (n*10+((b.toNat:Int)-48)) r
def z9d(s:ByteArray):Int :=
 if qVal 0 s.data.toList = -1 then -1 else if s.data.toList=[]∨(s.data.toList.length > 1/\s.data.toList.head? = some 48)then -1 else qVal 0 s.data.toList
def zi0(s:ByteArray):Bool:=s.data.toList.all (λb=>z3z b.toNat)&&decide (z9d s≥0)
def sgL:List ByteArray:=[⟨#[62,62,62]⟩,⟨#[60,60]⟩,⟨#[62,62]⟩,⟨#[60,61]⟩,⟨#[62,61]⟩,⟨#[61,61]⟩,⟨#[33,61]⟩,⟨#[38,38]⟩,⟨#[124,124]⟩,⟨#[40]⟩,⟨#[41]⟩,⟨#[123]⟩,⟨#[125]⟩,⟨#[91]⟩,⟨#[93]⟩,⟨#[44]⟩,⟨#[59]⟩,⟨#[61]⟩,⟨#[60]⟩,⟨#[62]⟩,⟨#[43]⟩,⟨#[45]⟩,⟨#[42]⟩,⟨#[47]⟩,⟨#[37]⟩,⟨#[38]⟩,⟨#[124]⟩,⟨#[94]⟩,⟨#[126]⟩,⟨#[33]⟩]
def sgIs(s w:ByteArray):Bool:=decide (w.size<=s.size)&&(s.extract 0 w.size).toList==w.toList
def sgGo(s:ByteArray):List ByteArray->ByteArray
 |[]=>⟨#[]⟩
 |w::r=>if sgIs s w then w else sgGo s r
def sgOf(s:ByteArray):ByteArray:=sgGo s sgL
theorem zz4(s:ByteArray):∀l:List ByteArray,sgGo s l=⟨#[]⟩∨(sgGo s l∈l/\(sgGo s l).size<=s.size)
 |[]=>.inl rfl
 |w::r=>by
  simp only[sgGo];split
  ·rename_i h;simp only[sgIs,A0,B6]at h;exact .inr ⟨.head _,h.1⟩
  ·rcases zz4 s r with h|h
   ·exact .inl h
   ·exact .inr ⟨.tail _ h.1,h.2⟩
def z4e(s:ByteArray)(at_:Nat):Nat:=((s.data.toList.drop at_).takeWhile isLD).length
def zq6(s:ByteArray)(at_:Nat):Nat:=at_+((s.data.toList.drop at_).takeWhile λb=>b != 10).length
inductive TStep where
 |skip (line at_:Nat)
 |tok (t:Tk) (at_:Nat)
 |bad (line:Nat)
def z3c(b:UInt8)(w:ByteArray):Int:=if z1j w then 2 else if z4l b.toNat then 1 else 0
def zt6(s:ByteArray)(line at_:Nat)(b:UInt8):TStep :=
 if b=10 then .skip (line+1) (at_+1)
 else if b=32∨b=9∨b=13 then .skip line (at_+1)
 else if b=47/\s.data.toList[at_+1]?=some 47 then .skip line (zq6 s at_)
 else if z4e s at_ > 0 then
  if (z3c b (s.extract at_ (at_+z4e s at_))=1/\z0m (s.extract at_ (at_+z4e s at_))=false)∨(z3c b (s.extract at_ (at_+z4e s at_))=0/\zi0 (s.extract at_ (at_+z4e s at_))=false)then .bad line
  else .tok ⟨z3c b (s.extract at_ (at_+z4e s at_)),s.extract at_ (at_+z4e s at_),line⟩ (at_+z4e s at_)
 else if (sgOf (s.extract at_ s.size)).size=0 then .bad line
 else .tok ⟨2,sgOf (s.extract at_ s.size),line⟩ (at_+(sgOf (s.extract at_ s.size)).size)
def toks(s:ByteArray):Nat->Nat->Nat->List Tk->List Tk×Int×Int
 |0,_,_,_=>([],0,0)
 |N+1,line,at_,out=>match s.data.toList[at_]? with
  |none=>(out++[⟨3,⟨#[]⟩,line⟩],0,0)
  |some b=>match zt6 s line at_ b with
   |.skip line' at'=>toks s N line' at' out
   |.tok t at'=>toks s N line at' (out++[t])
   |.bad l=>([],20,l)
def z1r(s:ByteArray):List Tk×Int×Int:=if s.size > 100000 then([],2,0)else toks s (s.size+1) 1 0 []
theorem j2s(s:ByteArray)(a:Nat):a+z4e s a<=s.size∨z4e s a=0:=by
 unfold z4e;have h:=F4 (p:=isLD) (l:=s.data.toList.drop a);have h1:=h.length_le;rw[En]at h1;have h2:s.data.toList.length=s.size:=Bs;omega
theorem y3a{s:ByteArray}{a:Nat}{b:UInt8}(h:s.data.toList[a]?=some b)(hb:b≠10):a<zq6 s a/\zq6 s a<=s.size:=by
 have hlt:=(A4.1 h).1;have hd:s.data.toList.drop a=b::s.data.toList.drop (a+1):=by
  rw[D4 hlt,(A4.1 h).2]
 have h2:s.data.toList.length=s.size:=Bs;unfold zq6;rw[hd,E6,if_pos (by simpa using hb)];have h1:=(F4 (p:=λb:UInt8=>b != 10) (l:=s.data.toList.drop (a+1))).length_le;rw[En]at h1;simp only[Al];omega
theorem tStep_at{s:ByteArray}{line a:Nat}{b:UInt8}(h:s.data.toList[a]?=some b) :
 match zt6 s line a b with
 |.skip _ at'=>a<at'/\at'<=s.size
 |.tok t at'=>a<at'/\at'<=s.size/\t.kind≠3/\(t.kind=0->zi0 t.text=true)
 |.bad _=>True:=by
 have hlt:=(A4.1 h).1;have h2:s.data.toList.length=s.size:=Bs;unfold zt6
 by_cases c1:b=10
 ·rw[if_pos c1];exact⟨by omega,by omega⟩
 rw[if_neg c1]
 by_cases c2:b=32∨b=9∨b=13
 ·rw[if_pos c2];exact⟨by omega,by omega⟩
 rw[if_neg c2]
 by_cases c3:b=47/\s.data.toList[a+1]?=some 47
 ·rw[if_pos c3];exact y3a h c1
 rw[if_neg c3]
 by_cases c4:z4e s a > 0
 ·rw[if_pos c4];have h3:=j2s s a;generalize s.extract a (a+z4e s a)=w
  by_cases c5:(z3c b w=1/\z0m w=false)∨(z3c b w=0/\zi0 w=false)
  ·rw[if_pos c5];trivial
  ·rw[if_neg c5];refine⟨by omega,by omega,?_,λe=>?_⟩
   ·show z3c b w≠3;unfold z3c;split
    ·decide
    ·split<;>decide
   ·have e':z3c b w=0:=e
    cases hq:zi0 w with
    |true=>rfl
    |false=>exact absurd (.inr ⟨e',hq⟩) c5
 rw[if_neg c4]
 by_cases c6:(sgOf (s.extract a s.size)).size=0
 ·rw[if_pos c6];trivial
 ·rw[if_neg c6];have h3:=zz4 (s.extract a s.size) sgL;have h4:(s.extract a s.size).size=s.size-a:=by simp[Cm]
  refine⟨by omega,?_,by show(2:Int)≠3;decide,λe=>absurd e (by show(2:Int)≠0;decide)⟩;rcases h3 with h3|h3
  ·exact absurd (by unfold sgOf;rw[h3];rfl) c6
  ·have:=h3.2;unfold sgOf;omega
def TkOk(T:List Tk):Prop:=∃init e,T=init++[e]/\e.kind=3/\(∀t∈init,t.kind≠3/\(t.kind=0->zi0 t.text=true))
theorem yg8(s:ByteArray):∀(N line a:Nat)(out:List Tk),s.size<N+a->a<=s.size->out.length<=a->(∀t∈out,t.kind≠3/\(t.kind=0->zi0 t.text=true))->(toks s N line a out).2.1=0->TkOk (toks s N line a out).1/\(toks s N line a out).1.length<=s.size+1
 |0,_,a,_,h,h',_,_,_=>by omega
 |N+1,line,a,out,hN,ha,hl,ho,h0=>by
  unfold toks at h0⊢
  cases hb:s.data.toList[a]? with
  |none =>
   refine⟨⟨out,⟨3,⟨#[]⟩,line⟩,rfl,rfl,ho⟩,?_⟩;show(out++[_]).length<=_;rw[B5];show out.length+1<=_
   omega
  |some b =>
   rw[hb]at h0;have hs:=tStep_at (line:=line) hb;dsimp only at h0⊢;generalize zt6 s line a b=st at hs h0
   cases st with
   |skip l2 a2=>exact yg8 s N l2 a2 out oM0 hs.2 oM0 ho h0
   |tok t a2 =>
    refine yg8 s N line a2 (out++[t]) oM0 hs.2.1 (by rw[B5];show out.length+1<=_;omega) (λt' ht'=>?_) h0;rcases Aw.1 ht' with ht'|ht'
    ·exact ho t' ht'
    ·rw[Ag.1 ht'];exact hs.2.2
   |bad l=>exact absurd (show(20:Int)=0 from h0) dC0
theorem zo6{s:ByteArray}(h:(z1r s).2.1=0):TkOk (z1r s).1/\(z1r s).1.length<=100001:=by
 unfold z1r at h⊢
 by_cases hs:s.size > 100000
 ·rw[if_pos hs]at h;exact absurd h dC0
 ·rw[if_neg hs]at h⊢;obtain⟨h1,h2⟩:=yg8 s (s.size+1) 1 0 [] oM0 (Ab _) (Ab _) (λt ht=>by simp at ht) h;exact⟨h1,by omega⟩
theorem za0(n:Int):SC Tryz.prog 74 [.pv (vU8 n)] [] (λ_=>False) (iBool (z4l n)) []:=by
 refine SC.anyR (SC.vc tb {} [] Tryz.func74 rfl rfl ?_);unfold z4l;refine z00 (λh1=>z00 (λh2=>⟨sE (by rw[h1,h2];rfl),Gd⟩) λh2=>?_) λh1=>?_
 ·refine z00 (λh3=>z00 (λh4=>⟨sE (by rw[h1,h2,h3,h4];rfl),Gd⟩) λh4=>⟨sE (by rw[h1,h2,h3,h4];rfl),Gd⟩) λh3=>⟨sE (by rw[h1,h2,h3];rfl),Gd⟩
 ·refine z00 (λh3=>z00 (λh4=>⟨sE (by rw[h1,h3,h4];rfl),Gd⟩) λh4=>⟨sE (by rw[h1,h3,h4];rfl),Gd⟩) λh3=>⟨sE (by rw[h1,h3];rfl),Gd⟩
theorem zs2(n:Int):SC Tryz.prog 75 [.pv (vU8 n)] [] (λ_=>False) (iBool (z3z n)) []:=by
 refine SC.anyR (SC.vc tb {} [] Tryz.func75 rfl rfl ?_);unfold z3z;exact z00 (λh1=>⟨sE (by rw[h1];rfl),Gd⟩) λh1=>⟨sE (by rw[h1];rfl),Gd⟩
theorem y1p(s:ByteArray):SC Tryz.prog 76 [iStr s] [] (λ_=>False) (iBool (z1j s)) []:=by
 refine SC.anyR (SC.vc tb {} [] Tryz.func76 rfl rfl ?_);have N:∀{b:Bool}{P:Prop},b=true->b=false->P:=λh g=>by rw[h]at g;cases g
 have T:∀{b:Bool},b=true->SubI (iBool true) (iBool b):=λh=>sE (by rw[h]);exact z00 (λh=>z00 (λ_=>⟨T (by unfold z1j;rw[h];simp only[Bh,Ba]),Gd⟩) λg=>N h g) λh1=>z00 (λh=>z00 (λ_=>⟨T (by unfold z1j;rw[h];simp only[Bh,Ba]),Gd⟩) λg=>N h g) λh2=>z00 (λh=>z00 (λ_=>⟨T (by unfold z1j;rw[h];simp only[Bh,Ba]),Gd⟩) λg=>N h g) λh3=>z00 (λh=>z00 (λ_=>⟨T (by unfold z1j;rw[h];simp only[Bh,Ba]),Gd⟩) λg=>N h g) λh4=>z00 (λh=>z00 (λ_=>⟨T (by unfold z1j;rw[h];simp only[Bh,Ba]),Gd⟩) λg=>N h g) λh5=>z00 (λh=>z00 (λ_=>⟨T (by unfold z1j;rw[h];simp only[Bh,Ba]),Gd⟩) λg=>N h g) λh6=>z00 (λh=>z00 (λ_=>⟨T (by unfold z1j;rw[h];simp only[Bh,Ba]),Gd⟩) λg=>N h g) λh7=>z00 (λh=>z00 (λ_=>⟨T (by unfold z1j;rw[h];simp only[Bh,Ba]),Gd⟩) λg=>N h g) λh8=>z00 (λh=>z00 (λ_=>⟨T (by unfold z1j;rw[h];simp only[Bh,Ba]),Gd⟩) λg=>N h g) λh9=>z00 (λh=>z00 (λ_=>⟨T (by unfold z1j;rw[h];simp only[Bh,Ba]),Gd⟩) λg=>N h g) λh10=>z00 (λh=>z00 (λ_=>⟨T (by unfold z1j;rw[h];simp only[Bh,Ba]),Gd⟩) λg=>N h g) λh11=>z00 (λh=>z00 (λ_=>⟨T (by unfold z1j;rw[h];simp only[Bh,Ba]),Gd⟩) λg=>N h g) λh12=>z00 (λh=>z00 (λ_=>⟨T (by unfold z1j;rw[h];simp only[Bh,Ba]),Gd⟩) λg=>N h g) λh13=>z00 (λh=>z00 (λ_=>⟨T (by unfold z1j;rw[h];simp only[Bh,Ba]),Gd⟩) λg=>N h g) λh14=>z00 (λh=>z00 (λ_=>⟨T (by unfold z1j;rw[h];simp only[Bh,Ba]),Gd⟩) λg=>N h g) λh15=>z00 (λh=>z00 (λ_=>⟨T (by unfold z1j;rw[h];simp only[Bh,Ba]),Gd⟩) λg=>N h g) λh16=>z00 (λh=>z00 (λ_=>⟨T (by unfold z1j;rw[h];simp only[Bh,Ba]),Gd⟩) λg=>N h g) λh17=>z00 (λh=>⟨T (by unfold z1j;rw[h];simp only[Bh,Ba]),Gd⟩) λh18=>⟨sE (by unfold z1j;rw[h1,h2,h3,h4,h5,h6,h7,h8,h9,h10,h11,h12,h13,h14,h15,h16,h17,h18];rfl),Gd⟩
theorem q64{m n z:Int}(hn:n≠0)(h:m.tdiv n=z)(h1:-9223372036854775808<=z/\z<=9223372036854775807):z3i .quo .i64 m n=some (.int .i64 z):=by
 subst h;simp only[z3i];rw[if_neg hn,Cz _ h1]
theorem y5y(s:ByteArray)(h:s.data.toList.all (λb=>z3z b.toNat)=true)(hs:s.size<=1073741824):SC Tryz.prog 83 [.pv (.val (.string s))] [] (λk=>k∈[]) (iInt (z9d s)) []:=by
 refine SC.vc tb {} [] Tryz.func83 rfl rfl ?_;refine⟨Int×Nat,λa=>[(3,iInt a.1),(4,iInt (a.2:Nat))],λ_=>[],λa=>s.size-a.2,λa=>a.2<=s.size/\0<=a.1/\a.1<=maxI/\qVal 0 s.data.toList=qVal a.1 (s.data.toList.drop a.2),[],(0,0),⟨Ab _,by decide,by decide,rfl⟩,Gf,Gd,?_⟩;rintro⟨n,k⟩ ⟨hk,hn0,hn1,hq⟩;refine z00 (λhc=>?_) λhc=>?_
 ·obtain⟨b,hb⟩:∃b,s.data.toList[k]?=some b:=⟨s.data.toList[k]'(by simpa using Aq hc),A5 _⟩;have hd:s.data.toList.drop k=b::s.data.toList.drop (k+1):=by
   obtain⟨h1,h2⟩:=A4.1 hb;rw[D4 h1,h2]
  have hdig:=Bg.1 h b (A9 hb);simp only[z3z,A0,B6]at hdig;have hlt:k<s.size:=by simpa using Aq hc
  rw[hd]at hq;simp only[qVal]at hq;unfold maxI at hn1 hq;have hw:IntKind.i64.wrap (b.toNat:Int)=(b.toNat:Int):=Cz _ oM0;have hb2:s[k]?=some b:=by
   rw[y2t (by rw[z2d];exact(A4.1 hb).1)];simp only[z2d];rw[(A4.1 hb).2]
  generalize hdd:(b.toNat:Int)-48=d at hq;have hd9:0<=d/\d<=9:=by omega
  have hdv:(9223372036854775807-d).tdiv 10=(9223372036854775807-d)/10:=Dt oM0;rw[hdv]at hq;refine⟨hb2,rfl,z4b (z:=d) (by rw[hw];exact hdd) oM0,z4b rfl oM0,q64 (z:=(9223372036854775807-d)/10) dC0 hdv oM0,z00 (λh2=>?_) λh2=>?_⟩
  ·refine⟨sE ?_,Gd⟩;have h2:=Aq h2;unfold z9d;rw[hq,if_pos h2];rfl
  ·have h2:=Ap h2;rw[if_neg h2]at hq;refine⟨y50 rfl oM0,z01 (z:=n*10+d) rfl oM0,z01 rfl (by dsimp only;omega),(n*10+d,k+1),z04 hlt,⟨hlt,by show 0<=n*10+d;omega,by show n*10+d<=maxI;unfold maxI;omega,hq⟩,Gf,Gd,rfl,rfl,rfl,rfl⟩
 ·have hge:s.size<=k:=by simpa using Ap hc
  have hq2:qVal 0 s.data.toList=n:=by
   rw[hq,show s.data.toList.drop k=[]from A8 (by simpa using hge)];rfl
  refine z00 (λhe=>?_) λhe=>?_
  ·refine⟨sE ?_,Gd⟩;have he:s.toList=[]:=by simpa using he
   rw[z2d]at he;unfold z9d;simp[he]
  ·have he:s.toList≠[]:=by simpa using he
   rw[z2d]at he;have hn:n ≠ -1:=by dsimp only at hn0;omega
   have hl:s.data.toList.length=s.size:=Bs;obtain⟨b0,r0,hs0⟩:=Ca he;have hb0:s[0]?=some b0:=by
    rw[y2t (by rw[z2d,hs0];simp)];simp[z2d,hs0]
   have hval:z9d s=if s.size > 1/\b0=48 then -1 else n:=by
    unfold z9d;rw[hq2,if_neg hn,hl,hs0];simp
   refine z00 (λh1=>⟨hb0,rfl,z00 (λh2=>?_) λh2=>?_⟩) λh1=>?_
   ·refine⟨sE ?_,Gd⟩;have h3:b0=48:=UInt8.toNat_inj.1 (by have:=eq_of_beq h2;show b0.toNat=48;omega);rw[hval,if_pos ⟨by have:=Aq h1;omega,h3⟩]
   ·refine⟨sE ?_,Gd⟩;have h3:b0≠48:=λe=>by subst e;simp at h2
    rw[hval,if_neg (λh=>h3 h.2)]
   ·refine⟨sE ?_,Gd⟩;rw[hval,if_neg (λh=>by have:=Ap h1;omega)]
theorem zt8{s:ByteArray}{k:Nat}(h:decide ((k:Int)<(s.size:Int))=true):∃b,s[k]?=some b/\s.data.toList[k]?=some b/\s.data.toList.drop k=b::s.data.toList.drop (k+1)/\k<s.size/\b∈s.data.toList:=by
 have hlt:k<s.size:=by simpa using Aq h
 obtain⟨b,hb⟩:∃b,s.data.toList[k]?=some b:=⟨s.data.toList[k]'(by simpa using hlt),A5 _⟩;obtain⟨h1,h2⟩:=A4.1 hb;refine⟨b,?_,hb,by rw[D4 h1,h2],hlt,A9 hb⟩;rw[y2t (by rw[z2d];exact h1)];simp only[z2d];rw[h2]
theorem zo5{s:ByteArray}{k:Nat}(h:decide ((k:Int)<(s.size:Int))=false):s.data.toList.drop k=[] :=
 A8 (by have h2:s.data.toList.length=s.size:=Bs;have:=Ap h;omega)
theorem j36(s:ByteArray)(hs:s.size<=1073741824):SC Tryz.prog 77 [.pv (.val (.string s))] [] (λk=>k∈[]) (iBool (zi0 s)) []:=by
 refine SC.vc tb {} [] Tryz.func77 rfl rfl ?_;refine⟨Nat,λk=>[(3,iInt (k:Nat))],λ_=>[],λk=>s.size-k,λk=>k<=s.size/\s.data.toList.all (λb=>z3z b.toNat)=(s.data.toList.drop k).all (λb=>z3z b.toNat),[],0,⟨Ab _,rfl⟩,Ge,Gd,?_⟩;rintro k ⟨hk,hq⟩;refine z00 (λhc=>?_) λhc=>?_
 ·obtain⟨b,h1,h2,h3,h4,h5⟩:=zt8 hc;rw[h3,D9]at hq;refine⟨h1,rfl,[],zs2 _,sR,Gd,rfl,z00 (λhd=>?_) λhd=>?_⟩
  ·have hd:z3z b.toNat=false:=by simpa using hd
   refine⟨sE ?_,Gd⟩;unfold zi0;rw[hq,hd];rfl
  ·have hd:z3z b.toNat=true:=by simpa using hd
   rw[hd]at hq;exact⟨z01 rfl oM0,k+1,z04 h4,⟨h4,hq⟩,Ge,Gd,rfl,rfl,rfl,rfl⟩
 ·rw[zo5 hc]at hq;refine⟨[],y5y s hq hs,sR,Gd,rfl,sE ?_,Gd⟩;unfold zi0;rw[hq];rfl
def sgEls:List (List PV):=sgL.map λw=>[.val (.string w)]
theorem y92:sgEls.length=30:=rfl
theorem sg_at{k:Nat}(h:k<30):∃w,sgEls[k]?=some [.val (.string w)]/\sgL.drop k=w::sgL.drop (k+1)/\w.size<=3:=by
 obtain⟨w,h1,h2,h3,h4⟩:=z0s (l:=sgL) (k:=k) h;refine⟨w,by unfold sgEls;rw[B8,h1];rfl,h3,?_⟩;have:∀w∈sgL,w.size<=3:=by decide
 exact this w h4
theorem sc_sign(s:ByteArray)(hs:s.size<=1073741824):SC Tryz.prog 78 [.pv (.val (.string s))] [] (λk=>k∈[]) (.pv (.val (.string (sgOf s)))) []:=by
 refine SC.vc tb {} [] Tryz.func78 rfl rfl ?_;refine⟨Nat,λk=>[(4,iInt (k:Nat)),(3,.pv (.seq sgEls))],λ_=>[],λk=>30-k,λk=>k<=30/\sgOf s=sgGo s (sgL.drop k),[],0,⟨Ab _,rfl⟩,Gf,Gd,?_⟩;rintro k ⟨hk,hq⟩;refine z00 (λhc=>?_) λhc=>?_
 ·have hlt:k<30:=by have:=Aq hc;rw[y92]at this;omega
  obtain⟨w,h1,h2,h3⟩:=sg_at hlt;rw[h2]at hq;simp only[sgGo]at hq;refine⟨h1,rfl,z00 (λh4=>?_) λh4=>?_⟩
  ·have h5:w.size<=s.size:=by have:=Aq h4;omega
   refine⟨h1,rfl,w.size,rfl,Ab _,h5,h1,rfl,z00 (λh6=>?_) λh6=>?_⟩
   ·exact⟨h1,rfl,sE (by rw[hq,if_pos (by unfold sgIs;rw[h6];simp[h5])]),Gd⟩
   ·rw[if_neg (by unfold sgIs;rw[h6];simp)]at hq;exact⟨z01 rfl oM0,k+1,z04 hlt,⟨hlt,hq⟩,Gf,Gd,rfl,rfl,rfl,rfl⟩
  ·have h5:¬w.size<=s.size:=by have:=Ap h4;omega
   rw[if_neg (by unfold sgIs;simp[h5])]at hq;exact⟨z01 rfl oM0,k+1,z04 hlt,⟨hlt,hq⟩,Gf,Gd,rfl,rfl,rfl,rfl⟩
 ·have hge:k=30:=by have:=Ap hc;rw[y92]at this;omega
  subst hge;exact⟨sE (by rw[hq];rfl),Gd⟩
theorem z6t(s:ByteArray):SC Tryz.prog 46 [iStr s] [] (λ_=>False) (iBool (z0m s)) []:=by
 refine SC.anyR (SC.vc tb {} [] Tryz.func46 rfl rfl ?_);have hlen:s.toList.length=s.size:=by rw[z2d];exact Bs
 refine z00 (λh1=>⟨sE ?_,Gd⟩) λh1=>?_
 ·have h1:s.toList=[]:=by simpa using h1
  unfold z0m;rw[h1];rfl
 have h1':s.toList≠[]:=by simpa using h1
 have h1:(s.toList==[])=false:=by simpa using h1'
 refine z00 (λh2=>⟨sE ?_,Gd⟩) λh2=>?_
 ·have:¬(s.size:Int)<=20:=by have:=Aq h2;omega
  unfold z0m;rw[h1,Dh this];rfl
 have h2:(s.size:Int)<=20:=by have:=Ap h2;omega
 obtain⟨b0,r0,hs0⟩:=Ca h1';have hb0:s[0]?=some b0:=by
  rw[y2t (by rw[hs0];simp)];simp[hs0]
 refine⟨hb0,rfl,[],za0 _,sR,Gd,rfl,z00 (λh3=>⟨sE ?_,Gd⟩) λh3=>?_⟩
 ·have h3:z4l b0.toNat=false:=by simpa using h3
  unfold z0m;rw[hs0];simp[h3]
 have h3:z4l b0.toNat=true:=by simpa using h3
 refine⟨[],y1p s,sR,Gd,rfl,z00 (λh4=>⟨sE ?_,Gd⟩) λh4=>?_⟩
 ·unfold z0m;rw[h4];simp
 have hN:z0m s=s.data.toList.all isLD:=by
  unfold z0m;rw[h1,h4,C6 h2];rw[<- z2d];simp[hs0,h3]
 refine⟨Nat,λk=>[(3,iInt (k:Nat))],λ_=>[],λk=>s.size-k,λk=>k<=s.size/\s.data.toList.all isLD=(s.data.toList.drop k).all isLD,[],0,⟨Ab _,rfl⟩,Ge,Gd,?_⟩;rintro k ⟨hk,hq⟩;refine z00 (λhc=>?_) λhc=>?_
 ·obtain⟨b,g1,g2,g3,g4,g5⟩:=zt8 hc;rw[g3,D9]at hq;refine⟨g1,rfl,[],za0 _,sR,Gd,rfl,z00 (λh5=>⟨g1,rfl,[],zs2 _,sR,Gd,rfl,z00 (λh6=>⟨sE ?_,Gd⟩) λh6=>?_⟩) λh5=>?_⟩
  ·rw[hN,hq];unfold isLD;rw[show z4l b.toNat=false by simpa using h5,show z3z b.toNat=false by simpa using h6];rfl
  ·have h7:isLD b=true:=by unfold isLD;rw[show z3z b.toNat=true by simpa using h6];simp
   rw[h7]at hq;exact⟨z01 rfl oM0,k+1,z04 g4,⟨g4,hq⟩,Ge,Gd,rfl,rfl,rfl,rfl⟩
  ·have h7:isLD b=true:=by unfold isLD;rw[show z4l b.toNat=true by simpa using h5];simp
   rw[h7]at hq;exact⟨z01 rfl oM0,k+1,z04 g4,⟨g4,hq⟩,Ge,Gd,rfl,rfl,rfl,rfl⟩
 ·rw[zo5 hc]at hq;exact⟨sE (by rw[hN,hq];rfl),Gd⟩
theorem y8m(u:Un):SC Tryz.prog 24 [.pv u.enc] [] (λ_=>False) (iBool (z1g u)) []:=by
 refine SC.anyR (SC.vc tb { gh:=[(4,[.len 10]),(10,[.len 51])] } [] Tryz.func24 rfl rfl ?_);refine⟨Nat,λk=>[(3,iInt k)],λ_=>[],λk=>u.arrays.length-k,λk=>k<=u.arrays.length/\r8gA u u.arrays 0=r8gA u (u.arrays.drop k) k,[],0,⟨Ab _,rfl⟩,Ge,Gd,?_⟩;rintro k ⟨hk,hA⟩;refine z00 (λhc=>?_) λhc=>?_
 ·have hlt:=z12 (f:=Ar.enc) rfl hc;intro hl;simp only[A6]at hl;obtain⟨a,ha,_,hd,_⟩:=z0s hlt;rw[hd,show r8gA u (a::u.arrays.drop (k+1)) k=(gArr u a k&&r8gA u (u.arrays.drop (k+1)) (k+1))from rfl]at hA;have bad:gArr u a k=false->SubI (iBool false) (iBool (z1g u)):=λh=>sE (by unfold z1g;rw[hA,h];rfl);have hNm:=z6t a.name
  cases hN:z0m a.name with
  |false=>rw[hN]at hNm;exact⟨z02 (f:=Ar.enc) ha,rfl,[],hNm,sR,Gd,rfl,bad (by unfold gArr;rw[hN];rfl),Gd⟩
  |true =>
   rw[hN]at hNm;refine⟨z02 (f:=Ar.enc) ha,rfl,[],hNm,sR,Gd,rfl,z00 (λh1=>⟨bad (by unfold gArr;rw[hN,show decide (a.size<1)=true from h1];rfl),Gd⟩) λh1=>z00 (λh2=>⟨bad (by unfold gArr;rw[hN,show decide (a.size<1)=false from h1,show decide (a.size > 1000)=true from h2];rfl),Gd⟩) λh2=>⟨[],z0c u a.name,sR,Gd,rfl,z00 (λh3=>?_) λh3=>⟨[],z3w u a.name,sR,Gd,rfl,z00 (λh4=>?_) λh4=>?_⟩⟩⟩
   ·have q3:(z0i a.name u.arrays 0==(k:Int))=false:=by simpa using h3
    exact⟨bad (by unfold gArr;rw[hN,show decide (a.size<1)=false from h1,show decide (a.size > 1000)=false from h2,q3];rfl),Gd⟩
   ·have q3:(z0i a.name u.arrays 0==(k:Int))=true:=by simpa using h3
    exact⟨bad (by unfold gArr;rw[hN,show decide (a.size<1)=false from h1,show decide (a.size > 1000)=false from h2,q3,show decide (z06 a.name u.flows 0≥0)=true from h4];rfl),Gd⟩
   ·have q3:(z0i a.name u.arrays 0==(k:Int))=true:=by simpa using h3
    have good:gArr u a k=true:=by unfold gArr;rw[hN,show decide (a.size<1)=false from h1,show decide (a.size > 1000)=false from h2,q3,show decide (z06 a.name u.flows 0≥0)=false from h4];rfl
    exact⟨z01 rfl oM0,k+1,z04 hlt,⟨hlt,by rw[hA,good];rfl⟩,Ge,Gd,rfl,rfl,rfl,rfl⟩
 ·rw[A8 (z13 (f:=Ar.enc) rfl hc),show r8gA u [] k=true from rfl]at hA;refine⟨Nat,λk=>[(5,iInt k)],λ_=>[],λk=>u.flows.length-k,λk=>k<=u.flows.length/\r8gF u u.flows 0=r8gF u (u.flows.drop k) k,[],0,⟨Ab _,rfl⟩,Ge,Gd,?_⟩;rintro k ⟨hk,hF⟩;refine z00 (λhc=>?_) λhc=>?_
  ·have hlt:=z12 (f:=Fl.enc) rfl hc;intro hl;simp only[A6]at hl;obtain⟨f,hf,_,hd,_⟩:=z0s hlt;rw[hd,show r8gF u (f::u.flows.drop (k+1)) k=(gFlw u f k&&r8gF u (u.flows.drop (k+1)) (k+1))from rfl]at hF;have bad:gFlw u f k=false->SubI (iBool false) (iBool (z1g u)):=λh=>sE (by unfold z1g;rw[hA,hF,h];rfl);have hNm:=z6t f.name
   cases hN:z0m f.name with
   |false=>rw[hN]at hNm;exact⟨z02 (f:=Fl.enc) hf,rfl,[],hNm,sR,Gd,rfl,bad (by unfold gFlw;rw[hN];rfl),Gd⟩
   |true =>
    rw[hN]at hNm;have tail:∀(q1:(z06 f.name u.flows 0==(k:Int))=true) (q2:(f.ty==1||f.ty==2)=true),gFlw u f k=(!decide (f.params<0) && !decide (f.params > f.types.length)):=λq1 q2=>by unfold gFlw;rw[hN,q1,q2];rfl
    refine⟨z02 (f:=Fl.enc) hf,rfl,[],hNm,sR,Gd,rfl,[],z3w u f.name,sR,Gd,rfl,z00 (λh1=>?_) λh1=>?_⟩
    ·have q1:(z06 f.name u.flows 0==(k:Int))=false:=by simpa using h1
     exact⟨bad (by unfold gFlw;rw[hN,q1];rfl),Gd⟩
    ·have q1:(z06 f.name u.flows 0==(k:Int))=true:=by simpa using h1
     refine z00 (λh2=>z00 (λh3=>?_) λh3=>?_) λh2=>?_
     ·have e2:(f.ty==1)=false:=by simpa using h2
      have e3:(f.ty==2)=false:=by simpa using h3
      exact⟨bad (by unfold gFlw;rw[hN,q1,e2,e3];rfl),Gd⟩
     ·have e3:(f.ty==2)=true:=by simpa using h3
      have T:=tail q1 (by rw[e3,Bh]);refine z00 (λh4=>⟨bad (by rw[T,show decide (f.params<0)=true from h4];rfl),Gd⟩) λh4=>z00 (λh5=>⟨bad (by rw[T,show decide (f.params<0)=false from h4,show decide (f.params > f.types.length)=true by simpa using h5];rfl),Gd⟩) λh5=>?_;have good:gFlw u f k=true:=by rw[T,show decide (f.params<0)=false from h4,show decide (f.params > f.types.length)=false by simpa using h5];rfl
      exact⟨z01 rfl oM0,k+1,z04 hlt,⟨hlt,by rw[hF,good];rfl⟩,Ge,Gd,rfl,rfl,rfl,rfl⟩
     ·have e2:(f.ty==1)=true:=by simpa using h2
      have T:=tail q1 (by rw[e2,Ba]);refine z00 (λh4=>⟨bad (by rw[T,show decide (f.params<0)=true from h4];rfl),Gd⟩) λh4=>z00 (λh5=>⟨bad (by rw[T,show decide (f.params<0)=false from h4,show decide (f.params > f.types.length)=true by simpa using h5];rfl),Gd⟩) λh5=>?_;have good:gFlw u f k=true:=by rw[T,show decide (f.params<0)=false from h4,show decide (f.params > f.types.length)=false by simpa using h5];rfl
      exact⟨z01 rfl oM0,k+1,z04 hlt,⟨hlt,by rw[hF,good];rfl⟩,Ge,Gd,rfl,rfl,rfl,rfl⟩
  ·rw[A8 (z13 (f:=Fl.enc) rfl hc),show r8gF u [] k=true from rfl]at hF;have hG:z1g u=zb3 u:=by unfold z1g;rw[hA,hF];rfl
   rw[hG];refine⟨[],z3w u z0u,sR,Gd,rfl,?_⟩
   cases hp:decide (z06 z0u u.flows 0≥0)with
   |false=>exact z00 (λh=>absurd (hp.symm.trans h) dC0) λ_=>⟨sE (by unfold zb3;rw[hp];rfl),Gd⟩
   |true =>
    have h0:z06 z0u u.flows 0≥0:=by simpa using hp
    obtain⟨g,hg,_⟩:=ze5 h0;have hD:u.flows.getD (z06 z0u u.flows 0).toNat y78=g:=by rw[At,hg];rfl
    have hi:=z02 (f:=Fl.enc) hg;refine z00 (λ_=>⟨hi,by omega,z00 (λh1=>⟨hi,by omega,sE ?_,Gd⟩) λh1=>⟨sE ?_,Gd⟩⟩) λh=>absurd (hp.symm.trans h) dC0
    ·unfold zb3;rw[hp,hD,show(g.ty==1)=true from h1];rfl
    ·unfold zb3;rw[hp,hD,show(g.ty==1)=false from h1];rfl
theorem z9h{u:Un}{f:Fl}(hf:f∈u.flows):lsW f.body<=z0h u:=by
 have h1:=yh9 hf;have h2:=y7n f.body;unfold z0h z0y at *
 omega
theorem y85(u:Un)(l:List Fl)(i:Nat){f:Fl}(h:l.drop i=f::l.drop (i+1)):z5p u (l.drop i) i=if z5g u f then z5p u (l.drop (i+1)) ((i+1:Nat):Int)else(80,(i:Int)):=by
 rw[h,z5p];rfl
theorem ze9(u:Un)(hW:z0h u<=34000000000):SC Tryz.prog 9 [.pv u.enc] [] (λ_=>False) (.tup [iInt (z18 u).1,iInt (z18 u).2]) []:=by
 refine SC.anyR (SC.vc tb { pb:=[101] } [] Tryz.func9 rfl rfl ?_);have hG:=y8m u;have hw2:u.flows.length<=z0h u:=by unfold z0h;omega
 unfold z18
 cases hh:z1g u
 ·rw[hh]at hG;exact⟨[],hG,sR,Gd,rfl,sI,Gd⟩
 rw[hh]at hG;have hg:=z6x hh;rw[if_pos rfl];refine⟨[],hG,sR,Gd,rfl,Nat,λi=>[(4,iInt ((i:Nat):Int))],λ_=>[],λi=>u.flows.length-i,λi=>i<=u.flows.length/\z5p u u.flows 0=z5p u (u.flows.drop i) i,[],0,⟨Ab _,rfl⟩,Ge,Gd,?_⟩;rintro i ⟨i1,i2⟩;refine z00 (λhc=>?_) λhc=>?_
 ·have hlt:i<u.flows.length:=z12 (f:=Fl.enc) rfl hc;obtain⟨x,x1,x2,x3,x4⟩:=z0s hlt;have hF:=j37 u x hg (Bi (z9h x4) hW);rw[y85 u u.flows i x3]at i2;generalize z5g u x=b at hF i2
  cases b
  ·rw[if_neg dC0]at i2;rw[i2];exact⟨z02 (f:=Fl.enc) x1,rfl,[],hF,sR,Gd,rfl,sI,Gd⟩
  ·rw[if_pos rfl]at i2;exact⟨z02 (f:=Fl.enc) x1,rfl,[],hF,sR,Gd,rfl,z01 rfl oM0,i+1,z04 hlt,⟨hlt,i2⟩,Ge,Gd,rfl,rfl,rfl,rfl⟩
 ·have hge:u.flows.length<=i:=z13 (f:=Fl.enc) rfl hc;rw[i2,A8 hge];exact⟨sI,Gd⟩
theorem y2r(u:Un):∀d,
 (∀l a s r,z1v u d l a s=some r->r.2.2.ar.length=s.ar.length)/\(∀x a p s r,z3h u d x a p s=some r->r.2.2.ar.length=s.ar.length) /\
 (∀k p s r,z40 u d k p s=some r->r.2.ar.length=s.ar.length)/\∀x p s r,mSum u d x p s=some r->r.2.ar.length=s.ar.length
 |0=>⟨λ_ _ _ _ h=>by simp[z1v]at h,λ_ _ _ _ _ h=>by simp[z3h]at h,λ_ _ _ _ h=>by simp[z40]at h,λ_ _ _ _ h=>by simp[mSum]at h⟩
 |d+1=>by
  obtain⟨i1,i2,i3,i4⟩:=y2r u d;refine⟨λl a s r h=>?_,λx a p s r h=>?_,λk p s r h=>?_,λx p s r h=>?_⟩
  ·cases l with
   |nil=>rw[y3e h]
   |cons x l =>
    obtain⟨d1,e,h2⟩:=z7g rfl h;obtain rfl:d1=d:=by omega
    rcases h2 with⟨_,rfl⟩|⟨_,p,r1,_,h3,h4⟩
    ·exact Aa List.length (zm0 s)
    ·have E1:r1.2.2.ar.length=s.ar.length:=by
      rw[<- zm0 s];unfold z5m at h3;split at h3
      ·simp only[Ah,A1]at h3;obtain⟨o,_,v',_,rfl⟩:=h3;rfl
      split at h3
      ·cases h3;rfl
      split at h3
      ·simp only[Ah]at h3;obtain⟨a0,_,q,_,r2,h5,h6⟩:=h3;have h7:=i1 _ _ _ _ h5;split at h6
       ·simp only[A1]at h6;obtain⟨v',_,rfl⟩:=h6;exact h7
       ·cases h6;exact h7
      split at h3
      ·exact i2 _ _ _ _ _ h3
      ·simp only[Ah]at h3;obtain⟨r2,h5,h6⟩:=h3;have h7:=i4 _ _ _ _ h5;split at h6
       ·simp only[Ah,A1]at h6;obtain⟨o,_,v',_,rfl⟩:=h6;exact h7
       ·cases h6;exact h7
     split at h4
     ·cases h4;exact E1
     ·exact(i1 _ _ _ _ h4).trans E1
  ·obtain⟨d1,v2,q,r1,e,_,_,h3,h4⟩:=z4m h;obtain rfl:d1=d:=by omega
   have E1:=i1 _ _ _ _ h3;split at h4
   ·cases h4;exact E1
   split at h4
   ·simp only[A1]at h4;obtain⟨v',_,rfl⟩:=h4;exact E1
   ·exact(i2 _ _ _ _ _ h4).trans E1
  ·obtain⟨d1,f,r1,e,_,_,_,_,h3,rfl⟩:=z65 h;obtain rfl:d1=d:=by omega
   exact i1 _ _ _ _ h3
  ·have ne:∀{i:Int},x.kind≠i->(x.kind==i)=false:=λh=>Ad.2 h
   by_cases k3:x.kind=3
   ·obtain⟨a0,_,rfl⟩:=z9p h (Ak.2 k3);rfl
   by_cases k4:x.kind=4
   ·obtain⟨a0,a1,_,_,rfl⟩:=z86 h (Ak.2 k4);dsimp only;split<;>rfl
   by_cases k5:x.kind=5
   ·obtain⟨a0,b,s',_,h2,h3⟩:=z7h h k5;rcases h3 with⟨rfl,rfl⟩|⟨rfl,row,y,_,_,rfl⟩
    ·exact zl8 h2
    ·rfl
   by_cases k6:x.kind=6
   ·obtain⟨a0,b,s',_,h2,h3⟩:=z67 h k6;rcases h3 with⟨rfl,rfl⟩|⟨rfl,row,y,_,_,rfl⟩
    ·exact zl8 h2
    ·simp[z5x]
   by_cases k7:x.kind=7
   ·have:=i3 _ _ _ _ (zc8 h (Ak.2 k7));exact this
   by_cases k9:x.kind=9
   ·obtain⟨a0,_,_,rfl⟩:=z7i h (Ak.2 k9);rfl
   by_cases k8:x.kind=8
   ·rcases z8w h (Ak.2 k8)with⟨_,rfl⟩|⟨y,q,_,rfl⟩<;>rfl
   ·obtain rfl:=z8v h (ne k3) (ne k4) (ne k5) (ne k6) (ne k7) (ne k9) (ne k8);rfl
theorem y9t{u:Un}{d:Nat}{k:Int}{p:List Int}{s:Rs}{r:Int×Rs}(h:z40 u d k p s=some r):r.2.ar.length=s.ar.length:=(y2r u d).2.2.1 _ _ _ _ h
theorem zf3(u:Un)(hub:∀f∈u.flows,lsW f.body<=34359738368):∀D,SRC u D/\SRL u D
 |0=>⟨λ_ h=>absurd h (Ai _),λ_ h=>absurd h (Ai _)⟩
 |D+1=>by
  obtain⟨i1,i2⟩:=zf3 u hub D;have a1:∀d l v s r,z1v u d l v s=some r->r.2.2.ar.length=s.ar.length:=λd=>(y2r u d).1;have a2:∀d x v a s r,z3h u d x v a s=some r->r.2.2.ar.length=s.ar.length:=λd=>(y2r u d).2.1;have a3:∀d k a s r,z40 u d k a s=some r->r.2.ar.length=s.ar.length:=λd=>(y2r u d).2.2.1;have a4:∀d x a s r,mSum u d x a s=some r->r.2.ar.length=s.ar.length:=λd=>(y2r u d).2.2.2;refine⟨λd hd k a s r h h1=>?_,λd hd l v s r h hb h1=>?_⟩
  ·obtain⟨ins,ar,st,code,out,cost,fuel,spent⟩:=s;rcases ar with _|⟨row,_|⟨row2,_|⟨row3,t⟩⟩⟩
   ·exact sr_call0 u hub D i2 a1 d (C3 hd) k a ⟨ins,[],st,code,out,cost,fuel,spent⟩ r h
   ·exact sr_call1 u hub D i2 a1 d (C3 hd) k a ⟨ins,[],st,code,out,cost,fuel,spent⟩ row r h
   ·exact sr_call2 u hub D i2 a1 d (C3 hd) k a ⟨ins,[],st,code,out,cost,fuel,spent⟩ row row2 r h
   ·simp at h1
  ·obtain⟨ins,ar,st,code,out,cost,fuel,spent⟩:=s;rcases ar with _|⟨row,_|⟨row2,_|⟨row3,t⟩⟩⟩
   ·exact sr_list0 u D i1 i2 a3 a1 a2 a4 d (C3 hd) l v ⟨ins,[],st,code,out,cost,fuel,spent⟩ r h hb
   ·exact sr_list1 u D i1 i2 a3 a1 a2 a4 d (C3 hd) l v ⟨ins,[],st,code,out,cost,fuel,spent⟩ row r h hb
   ·exact sr_list2 u D i1 i2 a3 a1 a2 a4 d (C3 hd) l v ⟨ins,[],st,code,out,cost,fuel,spent⟩ row row2 r h hb
   ·simp at h1
theorem y7m{k:Nat}{o:HO}{hp:Hp}(h:look hp k=none):look ((k,none)::(k,some o)::hp)=look hp:=by
 funext j
 show(bif Nat.beq k j then none else bif Nat.beq k j then some o else look hp j)=look hp j
 by_cases e:k=j
 ·subst e;rw[show Nat.beq k k=true from Df k,h];rfl
 ·rw[z49 e];rfl
theorem SC.give3{P:Program}{f:FuncId}{args:List IV}{pre post:List (Nat×HO)}{R:Nat->Prop}{k n:Nat}{s:RT}{els:List (List PV)}{y z:IV}
 (h:SC P f args pre R (.tup [.sl k n,y,z]) ((k,.row s els)::post)) (hn:els.length=n) (hk:look (up post) k=none):SC P f args pre R (.tup [.pv (.seq els),y,z]) post:=by
 intro F ρ w vs hkept hrel hargs;refine(h F ρ w vs hkept hrel hargs).mono ?_;rintro e w' ⟨ρ',v,he,hv,hrel',t⟩
 cases hv with
 |tup cs ws u hl hv hr =>
  have hl:ws.size=3:=hl;have ha:All ⟨F,R,ρ,look (up pre),w,3⟩ ρ' (look (up ((k,.row s els)::post))) w' [(0,.sl k n),(1,y),(2,z)] { tmps:=ws,defers:=[] }:=by
   refine⟨hrel',λt x hx=>?_,t,rfl,hl,hkept⟩
   match t,hx with
   |0,hx=>cases hx;exact⟨u 0,hv 0 _ rfl,hr 0 _ rfl⟩
   |1,hx=>cases hx;exact⟨u 1,hv 1 _ rfl,hr 1 _ rfl⟩
   |2,hx=>cases hx;exact⟨u 2,hv 2 _ rfl,hr 2 _ rfl⟩
   |t+3,hx=>cases hx
  have hb:=ha.freeze (k:=k) (n:=n) (t:=0) (s:=s) (els:=els) z1f hn rfl;have e2:look ((k,none)::up ((k,.row s els)::post))=look (up post):=y7m hk;rw[e2]at hb;refine⟨_,_,he,.tup _ ws u hl (λj c hj=>?_) λj c hj=>?_,hb.rel,hb.tr⟩
  ·match j,hj with
   |0,hj=>exact hv 0 _ rfl
   |1,hj=>exact hv 1 _ rfl
   |2,hj=>exact hv 2 _ rfl
  ·match j,hj with
   |0,hj => 
    cases hj
    obtain⟨v,h1,h2⟩:=hb.fr 0 _ rfl;rw[show ws[0]?=some (u 0)from hv 0 _ rfl]at h1
    cases h1;exact h2
   |1,hj =>
    cases hj
    obtain⟨v,h1,h2⟩:=hb.fr 1 _ rfl;rw[show ws[1]?=some (u 1)from hv 1 _ rfl]at h1
    cases h1;exact h2
   |2,hj =>
    cases hj
    obtain⟨v,h1,h2⟩:=hb.fr 2 _ rfl;rw[show ws[2]?=some (u 2)from hv 2 _ rfl]at h1
    cases h1;exact h2
theorem SC.give{P:Program}{f:FuncId}{args:List IV}{pre post:List (Nat×HO)}{R:Nat->Prop}{k n:Nat}{s:RT}{els:List (List PV)}
 (h:SC P f args pre R (.sl k n) ((k,.row s els)::post)) (hn:els.length=n) (hk:look (up post) k=none):SC P f args pre R (.pv (.seq els)) post:=by
 intro F ρ w vs hkept hrel hargs;refine(h F ρ w vs hkept hrel hargs).mono ?_;rintro e w' ⟨ρ',v,he,hv,hrel',t⟩;have ha:All ⟨F,R,ρ,look (up pre),w,1⟩ ρ' (look (up ((k,.row s els)::post))) w' [(0,.sl k n)] { tmps:=#[v],defers:=[] }:=by
  refine⟨hrel',λt x hx=>?_,t,rfl,rfl,hkept⟩
  match t,hx with
  |0,hx=>cases hx;exact⟨v,rfl,hv⟩
  |t+1,hx=>cases hx
 have hb:=ha.freeze (k:=k) (n:=n) (t:=0) (s:=s) (els:=els) z1f hn rfl;have e2:look ((k,none)::up ((k,.row s els)::post))=look (up post):=y7m hk;rw[e2]at hb;obtain⟨v2,h1,h2⟩:=hb.fr 0 _ rfl
 cases h1
 exact⟨_,v,he,h2,hb.rel,hb.tr⟩
def tkRt:RT:=⟨113,3⟩
theorem sT3{x x' y z:IV}(h:SubI x x'):SubI (.tup [x,y,z]) (.tup [x',y,z]):=λF ρ σ w v hv=>by
 cases hv with
 |tup cs vs u hl hv hr =>
  refine .tup _ vs u hl (λj c hj=>?_) λj c hj=>?_
  ·match j,hj with
   |0,_=>exact hv 0 x rfl
   |j+1,hj=>exact hv (j+1) c hj
  ·match j,hj with
   |0,hj=>cases hj;exact h _ _ _ _ _ (hr 0 x rfl)
   |j+1,hj=>exact hr (j+1) c hj
theorem yn6{s:ByteArray}{a m:Nat}{b:UInt8}(h:s.data.toList.drop (a+m)=b::s.data.toList.drop (a+m+1))(hb:isLD b=true) :
 ((s.data.toList.drop (a+m)).takeWhile isLD).length=1+((s.data.toList.drop (a+m+1)).takeWhile isLD).length:=by
 rw[h,E6,if_pos hb,Al];omega
theorem run_stop{s:ByteArray}{a m:Nat}{b:UInt8}(h:s.data.toList.drop (a+m)=b::s.data.toList.drop (a+m+1))(hb:isLD b=false) :
 ((s.data.toList.drop (a+m)).takeWhile isLD).length=0:=by
 rw[h,E6,if_neg (by simp[hb])];rfl
theorem b_eq{b:UInt8}{n:Int}(h:((b.toNat:Int)==n)=true){c:UInt8}(hc:(c.toNat:Int)=n):b=c:=UInt8.toNat_inj.1 (by have:=eq_of_beq h;omega)
theorem b_ne{b:UInt8}{n:Int}(h:((b.toNat:Int)==n)=false){c:UInt8}(hc:(c.toNat:Int)=n):¬b=c:=λe=>by subst e;simp[hc]at h
def tkR(t:List Tk×Int×Int):IV:=if t.2.1=0 then .sl 1001 (t.1.map Tk.enc).length else .pv (tks t.1)
def tkPost(t:List Tk×Int×Int):List (Nat×HO):=if t.2.1=0 then[(1001,.row tkRt (t.1.map Tk.enc))]else[]
theorem yv2(s:ByteArray)(hs:s.size<=1073741824):SC Tryz.prog 43 [.pv (.val (.string s))] [] (λk=>k∈[]) (.tup [tkR (z1r s),iInt (z1r s).2.1,iInt (z1r s).2.2]) (tkPost (z1r s)):=by
 refine SC.vc tb { gh:=[(4,[.grow 5 1001 113 3])] } [] Tryz.func43 rfl rfl ?_;unfold z1r;refine z00 (λh=>?_) λh=>?_
 ·have h:s.size > 100000:=by have:=Aq h;omega
  rw[if_pos h];exact⟨sT3 sN,Gd⟩
 have h:¬s.size > 100000:=by have:=Ap h;omega
 rw[if_neg h];generalize hTK:toks s (s.size+1) 1 0 []=TK;refine⟨Nat×Nat×List Tk,λa=>[(6,iInt (a.1:Nat)),(7,iInt (a.2.1:Nat)),(5,.sl 1001 (a.2.2.map Tk.enc).length)],λa=>[(1001,.row tkRt (a.2.2.map Tk.enc))],λa=>s.size-a.2.1,
  λa=>a.1<=a.2.1+1/\a.2.1<=s.size/\a.2.2.length<=a.2.1/\∃N,s.size<N+a.2.1/\TK=toks s N a.1 a.2.1 a.2.2,[],(1,0,[]),⟨Ae _,Ab _,Ae _,s.size+1,by omega,hTK.symm⟩,Gg,Ge,?_⟩
 rintro⟨line,at_,out⟩ ⟨h1,h2,h3,N,h4,h5⟩;dsimp only at h1 h2 h3 h4 h5;refine z00 (λhc=>?_) λhc=>?_
 ·obtain⟨b,g1,g2,g3,g4,g5⟩:=zt8 hc;dsimp only at g1 g2 g3 g4 hc;obtain⟨M,rfl⟩:∃M,N=M+1:=⟨N-1,by omega⟩;unfold toks at h5;simp only[g2]at h5;refine⟨Nat,λm=>[(9,iInt (m:Nat))],λ_=>[],λm=>s.size-m,λm=>at_+m<=s.size/\z4e s at_=m+((s.data.toList.drop (at_+m)).takeWhile isLD).length,[],0,⟨h2,by unfold z4e;simp⟩,Ge,Gd,?_⟩;rintro m ⟨hm,hr⟩;refine⟨z01 rfl (by dsimp only;omega),z00 (λhc2=>?_) λhc2=>?_⟩
  rotate_left
  have hrun:z4e s at_=m:=by rw[hr,zo5 (k:=at_+m) (by simpa using hc2)];rfl
  clear hr hc2
  rotate_left
  obtain⟨b2,k1,k2,k3,k4,k5⟩:=zt8 (k:=at_+m) (by simpa using hc2);refine⟨z01 rfl (by dsimp only;omega),k1,by dsimp only;omega,[],za0 _,sR,Gd,rfl,z00 (λh6=>?_) λh6=>?_⟩;exact⟨z01 rfl oM0,m+1,by omega,⟨by omega,by rw[hr,yn6 k3 (by unfold isLD;rw[h6];rfl),show at_+(m+1)=at_+m+1 from rfl];omega⟩,Ge,Gd,rfl,rfl,rfl,rfl⟩;refine⟨z01 rfl (by dsimp only;omega),k1,by dsimp only;omega,[],zs2 _,sR,Gd,rfl,z00 (λh7=>?_) λh7=>?_⟩;exact⟨z01 rfl oM0,m+1,by omega,⟨by omega,by rw[hr,yn6 k3 (by unfold isLD;rw[h7];simp),show at_+(m+1)=at_+m+1 from rfl];omega⟩,Ge,Gd,rfl,rfl,rfl,rfl⟩;have hrun:z4e s at_=m:=by rw[hr,run_stop k3 (by unfold isLD;rw[h6,h7];rfl)];rfl
  clear hr k1 k2 k3 k4 k5 h6 h7 hc2
  all_goals
   refine⟨g1,rfl,z00 (λb1=>?_) λb1=>?_⟩
   ·rw[zt6,if_pos (b_eq b1 rfl)]at h5;exact⟨z01 rfl (by dsimp only;omega),z01 rfl (by dsimp only;omega),(line+1,at_+1,out),z04 g4,⟨by show line+1<=at_+1+1;omega,g4,by show out.length<=at_+1;omega,M,by show s.size<M+(at_+1);omega,h5⟩,Gg,Ge,rfl,rfl,rfl,rfl⟩
   rw[zt6,if_neg (b_ne b1 rfl)]at h5;have blank:((b.toNat:Int)==32)=true∨((b.toNat:Int)==9)=true∨((b.toNat:Int)==13)=true->TK=toks s M line (at_+1) out:=λe=>by
    rw[if_pos (e.elim (λe=>.inl (b_eq e rfl)) λe=>.inr (e.elim (λe=>.inl (b_eq e rfl)) λe=>.inr (b_eq e rfl)))]at h5;exact h5
   refine⟨g1,rfl,z00 (λb2=>?_) λb2=>⟨g1,rfl,z00 (λb3=>?_) λb3=>⟨g1,rfl,z00 (λb4=>?_) λb4=>?_⟩⟩⟩
   ·have h5:=blank (.inl b2);exact⟨z01 rfl (by dsimp only;omega),(line,at_+1,out),z04 g4,⟨by show line<=at_+1+1;omega,g4,by show out.length<=at_+1;omega,M,by show s.size<M+(at_+1);omega,h5⟩,Gg,Ge,rfl,rfl,rfl,rfl⟩
   ·have h5:=blank (.inr (.inl b3));exact⟨z01 rfl (by dsimp only;omega),(line,at_+1,out),z04 g4,⟨by show line<=at_+1+1;omega,g4,by show out.length<=at_+1;omega,M,by show s.size<M+(at_+1);omega,h5⟩,Gg,Ge,rfl,rfl,rfl,rfl⟩
   ·have h5:=blank (.inr (.inr b4));exact⟨z01 rfl (by dsimp only;omega),(line,at_+1,out),z04 g4,⟨by show line<=at_+1+1;omega,g4,by show out.length<=at_+1;omega,M,by show s.size<M+(at_+1);omega,h5⟩,Gg,Ge,rfl,rfl,rfl,rfl⟩
   rw[if_neg (λe=>e.elim (b_ne b2 rfl) λe=>e.elim (b_ne b3 rfl) (b_ne b4 rfl))]at h5;clear blank;refine⟨g1,rfl,z00 (λb5=>?_) λb5=>?_⟩
   rotate_left
   have c3:¬(b=47/\s.data.toList[at_+1]?=some 47):=λe=>b_ne b5 rfl e.1;clear b5
   rotate_right
   refine⟨z01 rfl (by dsimp only;omega),z00 (λb6=>?_) λb6=>?_⟩
   rotate_left
   have c3:¬(b=47/\s.data.toList[at_+1]?=some 47):=λe=>by
    have:=Ap b6;have h8:=(A4.1 e.2).1;have h9:s.data.toList.length=s.size:=Bs;dsimp only at this;omega
   clear b5 b6
   rotate_right
   obtain⟨q,q1,q2,q3,q4,q5⟩:=zt8 (k:=at_+1) (by simpa using b6);refine⟨z01 rfl (by dsimp only;omega),q1,by dsimp only;omega,z00 (λb7=>?_) λb7=>?_⟩
   rotate_left
   have c3:¬(b=47/\s.data.toList[at_+1]?=some 47):=λe=>by
    rw[q2]at e;exact b_ne b7 rfl (Bv e.2)
   clear b5 b6 b7 q1 q2 q3 q4 q5
   rotate_right
   rw[if_pos ⟨b_eq b5 rfl,by rw[q2,b_eq (c:=47) b7 rfl]⟩]at h5;clear b5 b6 b7 q1 q2 q3 q4 q5
   ·refine⟨Nat,λj=>[(7,iInt (j:Nat))],λ_=>[],λj=>s.size-j,λj=>at_<=j/\j<=s.size/\zq6 s at_=j+((s.data.toList.drop j).takeWhile λb=>b != 10).length,[],at_,⟨Ae _,h2,rfl⟩,Ge,Gd,?_⟩;rintro j ⟨j1,j2,j3⟩;have hend:=y3a g2 (b_ne b1 rfl);have fin:zq6 s at_=j->at_<j/\(line<=j+1/\j<=s.size/\out.length<=j/\∃N,s.size<N+j/\TK=toks s N line j out):=λe=>by
     rw[e]at hend h5;obtain⟨e1,e2⟩:=hend;exact⟨e1,by omega,j2,by omega,M,by omega,h5⟩
    refine z00 (λd1=>?_) λd1=>?_
    ·obtain⟨q,q1,q2,q3,q4,q5⟩:=zt8 (k:=j) d1;refine⟨q1,rfl,z00 (λd2=>?_) λd2=>?_⟩
     ·have d3:q≠10:=λe=>by subst e;simp at d2
      rw[q3,E6,if_pos (by simpa using d3),Al]at j3;exact⟨z01 rfl oM0,j+1,z04 q4,⟨by omega,q4,by rw[j3];omega⟩,Ge,Gd,rfl,rfl,rfl,rfl⟩
     ·have d3:q=10:=b_eq (c:=10) (n:=10) (by simpa using d2) rfl;rw[q3,E6,if_neg (by simp[d3])]at j3;obtain⟨f1,f2⟩:=fin j3;exact⟨(line,j,out),by dsimp only;omega,f2,Gg,Ge,rfl,rfl,rfl,rfl⟩
    ·rw[zo5 d1]at j3;obtain⟨f1,f2⟩:=fin j3;exact⟨(line,j,out),by dsimp only;omega,f2,Gg,Ge,rfl,rfl,rfl,rfl⟩
   all_goals
    rw[if_neg c3,hrun]at h5;clear c3;refine z00 (λd1=>?_) λd1=>?_
    ·have d1:m > 0:=by have:=Aq d1;omega
     rw[if_pos d1]at h5;have hm2:at_+m<=s.size:=hm;generalize hw:s.extract at_ (at_+m)=w at h5;have hws:w.size=m:=by rw[<- hw,Cm];omega
     have nx:∀k:Int,TK=toks s M line (at_+m) (out++[⟨k,w,line⟩])->line<=at_+m+1/\at_+m<=s.size/\(out++[(⟨k,w,line⟩:Tk)]).length<=at_+m/\∃N,s.size<N+(at_+m)/\TK=toks s N line (at_+m) (out++[⟨k,w,line⟩]):=λk e =>
      ⟨by omega,hm2,by rw[B5];show _+1<=_;omega,M,by omega,e⟩
     refine⟨z01 rfl (by dsimp only;omega),at_,rfl,at_+m,by dsimp only;omega,by omega,hm2,?_⟩;rw[hw];refine⟨g1,rfl,[],za0 _,sR,Gd,rfl,z00 (λe1=>?_) λe1=>?_⟩
     ·refine⟨[],y1p w,sR,Gd,rfl,z00 (λe2=>?_) λe2=>?_⟩
      ·rw[show z3c b w=2 by unfold z3c;rw[if_pos e2],if_neg sI0]at h5;exact⟨z01 (z:=((at_+m:Nat):Int)) (by rw[hws];rfl) oM0,rfl,z3y rfl,by simp;omega,(line,at_+m,out++[⟨2,w,line⟩]),by dsimp only;omega,nx 2 h5,⟨rfl,rfl,slq sI0,Gd⟩,⟨rwq (by simp[Tk.enc]),Gd⟩,rfl,rfl,rfl,rfl⟩
      ·rw[show z3c b w=1 by unfold z3c;rw[if_neg (by simp[e2]),if_pos e1]]at h5;refine⟨[],z6t w,sR,Gd,rfl,z00 (λe3=>?_) λe3=>?_⟩
       ·have e3:z0m w=false:=by simpa using e3
        rw[if_pos (.inl ⟨rfl,e3⟩)]at h5;refine⟨?_,?_⟩<;>rw[h5]
        ·exact sT3 sN
        ·trivial
       ·have e3:z0m w=true:=by simpa using e3
        rw[if_neg (by simp[e3])]at h5;exact⟨z01 (z:=((at_+m:Nat):Int)) (by rw[hws];rfl) oM0,rfl,z3y rfl,by simp;omega,(line,at_+m,out++[⟨1,w,line⟩]),by dsimp only;omega,nx 1 h5,⟨rfl,rfl,slq sI0,Gd⟩,⟨rwq (by simp[Tk.enc]),Gd⟩,rfl,rfl,rfl,rfl⟩
     ·refine⟨[],y1p w,sR,Gd,rfl,z00 (λe2=>?_) λe2=>?_⟩
      ·rw[show z3c b w=2 by unfold z3c;rw[if_pos e2],if_neg sI0]at h5;exact⟨z01 (z:=((at_+m:Nat):Int)) (by rw[hws];rfl) oM0,rfl,z3y rfl,by simp;omega,(line,at_+m,out++[⟨2,w,line⟩]),by dsimp only;omega,nx 2 h5,⟨rfl,rfl,slq sI0,Gd⟩,⟨rwq (by simp[Tk.enc]),Gd⟩,rfl,rfl,rfl,rfl⟩
      ·rw[show z3c b w=0 by unfold z3c;rw[if_neg (by simp[e2]),if_neg (by simp[e1])]]at h5;refine⟨[],j36 w oM0,sR,Gd,rfl,z00 (λe3=>?_) λe3=>?_⟩
       ·have e3:zi0 w=false:=by simpa using e3
        rw[if_pos (.inr ⟨rfl,e3⟩)]at h5;refine⟨?_,?_⟩<;>rw[h5]
        ·exact sT3 sN
        ·trivial
       ·have e3:zi0 w=true:=by simpa using e3
        rw[if_neg (by simp[e3])]at h5;exact⟨z01 (z:=((at_+m:Nat):Int)) (by rw[hws];rfl) oM0,rfl,z3y rfl,by simp;omega,(line,at_+m,out++[⟨0,w,line⟩]),by dsimp only;omega,nx 0 h5,⟨rfl,rfl,slq sI0,Gd⟩,⟨rwq (by simp[Tk.enc]),Gd⟩,rfl,rfl,rfl,rfl⟩
    ·have d1:¬m > 0:=by have:=Ap d1;omega
     rw[if_neg d1]at h5;refine⟨at_,rfl,h2,Ae _,[],sc_sign (s.extract at_ s.size) (by rw[Cm];omega),sR,Gd,rfl,?_⟩;have hgl:=zz4 (s.extract at_ s.size) sgL;have hgs:(s.extract at_ s.size).size=s.size-at_:=by rw[Cm];omega
     rw[hgs]at hgl
     change sgOf (s.extract at_ s.size)=⟨#[]⟩∨(sgOf (s.extract at_ s.size)∈sgL/\(sgOf (s.extract at_ s.size)).size<=s.size-at_)at hgl
     generalize sgOf (s.extract at_ s.size)=w at h5 hgl;refine z00 (λe1=>?_) λe1=>?_
     ·have e1:w.toList=[]:=by simpa using e1
      have e2:w.size=0:=by rw[z2d]at e1;have h9:w.data.toList.length=w.size:=Bs;rw[e1]at h9;exact h9.symm
      rw[if_pos e2]at h5;refine⟨?_,?_⟩<;>rw[h5]
      ·exact sT3 sN
      ·trivial
     ·have e1:w.toList≠[]:=by simpa using e1
      have e2:¬w.size=0:=λe=>e1 (by rw[z2d];have h9:w.data.toList.length=w.size:=Bs;exact List.length_eq_zero_iff.1 (h9.trans e));rw[if_neg e2]at h5;have e3:at_+w.size<=s.size:=by
       rcases hgl with e|e
       ·exact absurd (by rw[e];rfl) e2
       ·have:=e.2;omega
      exact⟨z01 (z:=((at_+w.size:Nat):Int)) rfl oM0,rfl,z3y rfl,by simp;omega,(line,at_+w.size,out++[⟨2,w,line⟩]),by dsimp only;omega,
       ⟨by show line<=at_+w.size+1;omega,e3,by rw[B5];show _+1<=at_+w.size;omega,M,by show s.size<M+(at_+w.size);omega,h5⟩,⟨rfl,rfl,slq sI0,Gd⟩,⟨rwq (by simp[Tk.enc]),Gd⟩,rfl,rfl,rfl,rfl⟩
 ·have hc:=zo5 hc;obtain⟨M,rfl⟩:∃M,N=M+1:=⟨N-1,by omega⟩;unfold toks at h5;have hn:s.data.toList[at_]?=none:=by
   rw[<- List.head?_drop];dsimp only at hc;rw[hc];rfl
  simp only[hn]at h5;refine⟨rfl,z3y rfl,by simp;omega,?_⟩;refine⟨?_,?_⟩<;>rw[h5]
  ·exact sE (by simp[tkR])
  ·exact⟨rwq (by simp[Tk.enc];rfl),Gd⟩
theorem j2y(s:ByteArray)(hs:s.size<=1073741824):SC Tryz.prog 43 [.pv (.val (.string s))] [] (λk=>k∈[]) (.tup [.pv (tks (z1r s).1),iInt (z1r s).2.1,iInt (z1r s).2.2]) []:=by
 have h:=yv2 s hs;unfold tkR tkPost at h
 by_cases e:(z1r s).2.1=0
 ·rw[if_pos e,if_pos e]at h;exact h.give3 rfl rfl
 ·rw[if_neg e,if_neg e]at h;exact h
structure Ps where
 at_:Nat
 bad:Bool
 deep:Bool
def Ps.over(s:Ps):Bool:=s.bad||s.deep
def Ps.next(s:Ps):Ps:={ s with at_:=s.at_+1 }
def Ps.setBad(s:Ps):Ps:={ s with bad:=true }
def Ps.setDeep(s:Ps):Ps:={ s with deep:=true }
def s_:ByteArray:=⟨#[]⟩
def tkAt(T:List Tk)(s:Ps):Tk:=T.getD s.at_ ⟨3,s_,0⟩
def pIs(T:List Tk)(w:ByteArray)(s:Ps):Bool:=!s.over&&((tkAt T s).kind==2&&eqS (tkAt T s).text w)
def z8n(T:List Tk)(w:ByteArray)(s:Ps):Bool×Ps:=if pIs T w s then(true,s.next)else(false,s)
def z0p(T:List Tk)(w:ByteArray)(s:Ps):Ps:=if pIs T w s then s.next else if s.deep then s else s.setBad
def z0n(T:List Tk)(k:Int)(s:Ps):ByteArray×Ps:=if s.over then(s_,s)else if (tkAt T s).kind=k then((tkAt T s).text,s.next)else(s_,s.setBad)
def sInt:ByteArray:=⟨#[105,110,116]⟩
def j2t:ByteArray:=⟨#[98,111,111,108]⟩
def sIf:ByteArray:=⟨#[105,102]⟩
def sElse:ByteArray:=⟨#[101,108,115,101]⟩
def yo0:ByteArray:=⟨#[119,104,105,108,101]⟩
def yn7:ByteArray:=⟨#[98,114,101,97,107]⟩
def zn2:ByteArray:=⟨#[99,111,110,116,105,110,117,101]⟩
def y5x:ByteArray:=⟨#[114,101,116,117,114,110]⟩
def yn9:ByteArray:=⟨#[112,114,105,110,116]⟩
def sRead:ByteArray:=⟨#[114,101,97,100]⟩
def sTrue:ByteArray:=⟨#[116,114,117,101]⟩
def yn8:ByteArray:=⟨#[102,97,108,115,101]⟩
def sRo:ByteArray:=⟨#[40]⟩
def sRc:ByteArray:=⟨#[41]⟩
def sBo:ByteArray:=⟨#[123]⟩
def sBc:ByteArray:=⟨#[125]⟩
def sSo:ByteArray:=⟨#[91]⟩
def sSc:ByteArray:=⟨#[93]⟩
def zn1:ByteArray:=⟨#[44]⟩
def z5h:ByteArray:=⟨#[59]⟩
def sEq:ByteArray:=⟨#[61]⟩
def z0t(T:List Tk)(s:Ps):Int×Ps:=if pIs T sInt s then(1,s.next)else(2,z0p T j2t s)
def x0:Ex:=.mk 0 0 0 s_ []
def pUn(T:List Tk)(s:Ps):Option Int:=[20,21,22,23,24,25,26,27,28].find? λo=>pIs T (zp2 o) s
def pOp(T:List Tk)(level:Int)(s:Ps):Int:=([1,2,3,4,5,6,7,8,9,10,11,12,13,14,15,16,17,18,19].find? λo=>decide (z4j o=level)&&pIs T (zp2 o) s).getD 0
def z48(depth:Int)(s:Ps):Ps:=if depth > 100/\s.bad=false then s.setDeep else s
def aGo(T:List Tk)(first:Bool)(s:Ps):Ps:=if first then s else(z8n T zn1 s).2
mutual
def z2y(T:List Tk):Nat->Int->Int->Ps->Ex×Ps
 |0,_,_,s=>(x0,s)
 |N+1,level,depth,s=>if level > 10 then z6s T N depth s else z8u T N level depth (z2y T N (level+1) depth s)
def z8u(T:List Tk):Nat->Int->Int->Ex×Ps->Ex×Ps
 |0,_,_,r=>r
 |N+1,level,depth,r=>if pOp T level r.2=0 then r else
  z8u T N level depth (.mk 5 (pOp T level r.2) 0 s_ [r.1,(z2y T N (level+1) depth r.2.next).1],(z2y T N (level+1) depth r.2.next).2)
def z6s(T:List Tk):Nat->Int->Ps->Ex×Ps
 |0,_,s=>(x0,s)
 |N+1,depth,s=>match pUn T (z48 depth s)with
  |none=>zw8 T N depth (z48 depth s)
  |some op=>if op≥23 then(.mk 4 op 0 s_ [(z2y T N 1 (depth+1) (z0p T sRo (z48 depth s).next)).1],z0p T sRc (z2y T N 1 (depth+1) (z0p T sRo (z48 depth s).next)).2)
   else(.mk 4 op 0 s_ [(z6s T N (depth+1) (z48 depth s).next).1],(z6s T N (depth+1) (z48 depth s).next).2)
def zw8(T:List Tk):Nat->Int->Ps->Ex×Ps
 |0,_,s=>(x0,s)
 |N+1,depth,s=>if s.over then(x0,s)
  else if pIs T sRo s then((z2y T N 1 (depth+1) s.next).1,z0p T sRc (z2y T N 1 (depth+1) s.next).2)
  else if pIs T sTrue s then(.mk 2 0 1 s_ [],s.next)
  else if pIs T yn8 s then(.mk 2 0 0 s_ [],s.next)
  else if pIs T sRead s then(.mk 8 0 0 s_ [],z0p T sRc (z0p T sRo s.next))
  else if (tkAt T s).kind=0 then(.mk 1 0 (z9d (tkAt T s).text) s_ [],s.next)
  else if pIs T sRo (z0n T 1 s).2 then(.mk 7 0 0 (z0n T 1 s).1 (z6w T N (depth+1) (z0n T 1 s).2.next).1,(z6w T N (depth+1) (z0n T 1 s).2.next).2)
  else if pIs T sSo (z0n T 1 s).2 then(.mk 6 0 0 (z0n T 1 s).1 [(z2y T N 1 (depth+1) (z0n T 1 s).2.next).1],z0p T sSc (z2y T N 1 (depth+1) (z0n T 1 s).2.next).2)
  else(.mk 3 0 0 (z0n T 1 s).1 [],(z0n T 1 s).2)
def z6w(T:List Tk):Nat->Int->Ps->List Ex×Ps
 |0,_,s=>([],s)
 |N+1,depth,s=>if pIs T sRc s then([],s.next)else((z85 T N depth true [] s).1,z0p T sRc (z85 T N depth true [] s).2)
def z85(T:List Tk):Nat->Int->Bool->List Ex->Ps->List Ex×Ps
 |0,_,_,out,s=>(out,s)
 |N+1,depth,first,out,s=>if (first||pIs T zn1 s)=true/\(aGo T first s).over=false then
  z85 T N depth false (out++[(z2y T N 1 depth (aGo T first s)).1]) (z2y T N 1 depth (aGo T first s)).2
  else(out,aGo T first s)
end
def big(T:List Tk):Nat:=20*T.length+40
def mE(T:List Tk)(s:Ps):Ex×Ps:=z2y T (big T) 1 1 s
def z1p(T:List Tk)(s:Ps):Ex×Ps:=((mE T (z0p T sRo s)).1,z0p T sRc (mE T (z0p T sRo s)).2)
def z4u(T:List Tk)(s:Ps):St×Ps :=
 if pIs T sRo (z0n T 1 s).2 then(.mk 10 0 s_ [.mk 7 0 0 (z0n T 1 s).1 (z6w T (big T) 2 (z0n T 1 s).2.next).1] [] [],(z6w T (big T) 2 (z0n T 1 s).2.next).2)
 else if pIs T sSo (z0n T 1 s).2 then
  (.mk 3 0 (z0n T 1 s).1 [(mE T (z0n T 1 s).2.next).1,(mE T (z0p T sEq (z0p T sSc (mE T (z0n T 1 s).2.next).2))).1] [] [],(mE T (z0p T sEq (z0p T sSc (mE T (z0n T 1 s).2.next).2))).2)
 else(.mk 2 0 (z0n T 1 s).1 [(mE T (z0p T sEq (z0n T 1 s).2)).1] [] [],(mE T (z0p T sEq (z0n T 1 s).2)).2)
def mLet(T:List Tk)(s:Ps):St×Ps :=
 (.mk 1 (z0t T s).1 (z0n T 1 (z0t T s).2).1 [(mE T (z0p T sEq (z0n T 1 (z0t T s).2).2)).1] [] [],(mE T (z0p T sEq (z0n T 1 (z0t T s).2).2)).2)
def z9m(T:List Tk)(s:Ps):St×Ps :=
 if pIs T yn7 s then(.mk 6 0 s_ [] [] [],s.next)
 else if pIs T zn2 s then(.mk 7 0 s_ [] [] [],s.next)
 else if pIs T y5x s then(.mk 8 0 s_ [(mE T s.next).1] [] [],(mE T s.next).2)
 else if pIs T yn9 s then(.mk 9 0 s_ [(z1p T s.next).1] [] [],(z1p T s.next).2)
 else z4u T s
def z3a(depth:Int)(s:Ps):Ps:=if depth > 100 then s.setDeep else s
mutual
def z5n(T:List Tk):Nat->Int->Ps->St×Ps
 |0,_,s=>(.mk 0 0 s_ [] [] [],s.setBad)
 |N+1,depth,s0 =>
  if pIs T sInt (z3a depth s0)||pIs T j2t (z3a depth s0)then((mLet T (z3a depth s0)).1,z0p T z5h (mLet T (z3a depth s0)).2)
  else if pIs T sIf (z3a depth s0)then
   if pIs T sElse (z1t T N (depth+1) (z1p T (z3a depth s0).next).2).2 then
    (.mk 4 0 s_ [(z1p T (z3a depth s0).next).1] (z1t T N (depth+1) (z1p T (z3a depth s0).next).2).1 (z1t T N (depth+1) (z1t T N (depth+1) (z1p T (z3a depth s0).next).2).2.next).1,(z1t T N (depth+1) (z1t T N (depth+1) (z1p T (z3a depth s0).next).2).2.next).2)
   else(.mk 4 0 s_ [(z1p T (z3a depth s0).next).1] (z1t T N (depth+1) (z1p T (z3a depth s0).next).2).1 [],(z1t T N (depth+1) (z1p T (z3a depth s0).next).2).2)
  else if pIs T yo0 (z3a depth s0)then
   (.mk 5 0 s_ [(z1p T (z3a depth s0).next).1] (z1t T N (depth+1) (z1p T (z3a depth s0).next).2).1 [],(z1t T N (depth+1) (z1p T (z3a depth s0).next).2).2)
  else((z9m T (z3a depth s0)).1,z0p T z5h (z9m T (z3a depth s0)).2)
def z1t(T:List Tk):Nat->Int->Ps->List St×Ps
 |0,_,s=>([],s)
 |N+1,depth,s=>z75 T N depth [] (z0p T sBo s)
def z75(T:List Tk):Nat->Int->List St->Ps->List St×Ps
 |0,_,out,s=>(out,s)
 |N+1,depth,out,s=>if s.over then(out,s)else if pIs T sBc s then(out,s.next)else z75 T N depth (out++[(z5n T N depth s).1]) (z5n T N depth s).2
end
def zb2(T:List Tk):Nat->Bool->List Pm->Ps->List Pm×Ps
 |0,_,out,s=>(out,s)
 |N+1,first,out,s=>if (first||pIs T zn1 s)=true/\(aGo T first s).over=false then
  zb2 T N false (out++[⟨(z0n T 1 (z0t T (aGo T first s)).2).1,(z0t T (aGo T first s)).1⟩]) (z0n T 1 (z0t T (aGo T first s)).2).2
  else(out,aGo T first s)
def z7o(T:List Tk)(s:Ps):List Pm×Ps:=if pIs T sRc s then([],s.next)else((zb2 T (big T) true [] s).1,z0p T sRc (zb2 T (big T) true [] s).2)
def z7a(T:List Tk)(t:Int)(name:ByteArray)(s:Ps):Fu×Ps :=
 (⟨name,t,(z7o T (z0p T sRo s)).1,(z1t T (big T) 1 (z7o T (z0p T sRo s)).2).1⟩,(z1t T (big T) 1 (z7o T (z0p T sRo s)).2).2)
def qArr(T:List Tk)(fs:List Fu)(t:Int)(s:Ps):Bool:=t==1&&fs.length==0&&pIs T sSo s
def z3j(T:List Tk):Nat->Pg->Ps->Pg×Ps
 |0,p,s=>(p,s)
 |N+1,p,s=>if s.over||(tkAt T s).kind==3 then(p,s)
  else if qArr T p.funcs (z0t T s).1 (z0n T 1 (z0t T s).2).2 then
   z3j T N ⟨p.arrays++[⟨(z0n T 1 (z0t T s).2).1,z9d (z0n T 0 (z0n T 1 (z0t T s).2).2.next).1⟩],p.funcs⟩ (z0p T z5h (z0p T sSc (z0n T 0 (z0n T 1 (z0t T s).2).2.next).2))
  else z3j T N ⟨p.arrays,p.funcs++[(z7a T (z0t T s).1 (z0n T 1 (z0t T s).2).1 (z0n T 1 (z0t T s).2).2).1]⟩ (z7a T (z0t T s).1 (z0n T 1 (z0t T s).2).1 (z0n T 1 (z0t T s).2).2).2
def z9n(T:List Tk):Pg×Ps:=z3j T (big T) ⟨[],[]⟩ ⟨0,false,false⟩
section
structure Fw(T:List Tk)(s s':Ps):Prop where
 at_:s.at_<=s'.at_
 ov:s.over=true->s'.over=true
 lt:s.at_<T.length->s'.at_<T.length
variable {T:List Tk}
theorem Fw.rfl{s:Ps}:Fw T s s:=⟨Ae _,id,id⟩
theorem Fw.trans{a b c:Ps}(h:Fw T a b)(k:Fw T b c):Fw T a c:=⟨Bi h.at_ k.at_,λe=>k.ov (h.ov e),λe=>k.lt (h.lt e)⟩
theorem j1h(hT:TkOk T){s:Ps}(h:s.at_<T.length)(hk:(tkAt T s).kind≠3):s.at_+1<T.length:=by
 obtain⟨init,e,rfl,he,_⟩:=hT;rw[B5]at h⊢;rcases Ef (s.at_+1) (init.length+[e].length)with h'|h'
 ·exact h'
 ·refine absurd ?_ hk;have hi:s.at_=init.length:=by simp at h h';omega
  unfold tkAt;rw[hi];simpa using he
theorem z4n{w:ByteArray}{s:Ps}(h:pIs T w s=true):s.over=false/\(tkAt T s).kind=2:=by
 simp only[pIs,A0,Bf,Ak]at h;exact⟨h.1,h.2.1⟩
theorem j0q(hT:TkOk T){s:Ps}(h:s.over=false)(hk:(tkAt T s).kind≠3):Fw T s s.next :=
 ⟨Fe _,λe=>(Bool.noConfusion (h.symm.trans e)),λe=>j1h hT e hk⟩
theorem z11(hT:TkOk T){w:ByteArray}{s:Ps}(h:pIs T w s=true):Fw T s s.next:=by
 have:=z4n h;exact j0q hT this.1 (by rw[this.2];decide)
theorem y0g{s:Ps}:Fw T s s.setBad:=⟨Ae _,λ_=>by simp[Ps.over,Ps.setBad],id⟩
theorem y33{s:Ps}:Fw T s s.setDeep:=⟨Ae _,λ_=>by simp[Ps.over,Ps.setDeep],id⟩
theorem z0a(hT:TkOk T){w:ByteArray}{s:Ps}:Fw T s (z0p T w s):=by
 unfold z0p;split
 ·rename_i h;exact z11 hT h
 ·split
  ·exact .rfl
  ·exact y0g
theorem z1w(hT:TkOk T){k:Int}(hk:k≠3){s:Ps}:Fw T s (z0n T k s).2:=by
 unfold z0n;split
 ·exact .rfl
 ·split
  ·rename_i h1 h2;exact j0q hT (by simpa using h1) (by rw[h2];exact hk)
  ·exact y0g
theorem z5k(hT:TkOk T){s:Ps}:Fw T s (z0t T s).2:=by
 unfold z0t;split
 ·rename_i h;exact z11 hT h
 ·exact z0a hT
theorem zk9{d:Int}{s:Ps}:Fw T s (z48 d s):=by
 unfold z48;split
 ·exact y33
 ·exact .rfl
theorem y7c{d:Int}{s:Ps}:Fw T s (z3a d s):=by
 unfold z3a;split
 ·exact y33
 ·exact .rfl
theorem y32(hT:TkOk T){b:Bool}{s:Ps}:Fw T s (aGo T b s):=by
 unfold aGo z8n;split
 ·exact .rfl
 ·split
  ·rename_i h;exact z11 hT h
  ·exact .rfl
theorem pUn_is{s:Ps}{o:Int}(h:pUn T s=some o):pIs T (zp2 o) s=true:=by
 unfold pUn at h;have:=List.find?_some h;exact this
theorem pOp_is{l:Int}{s:Ps}(h:pOp T l s≠0):pIs T (zp2 (pOp T l s)) s=true:=by
 unfold pOp at h⊢
 cases hq:List.find? (λo=>decide (z4j o=l)&&pIs T (zp2 o) s) [1,2,3,4,5,6,7,8,9,10,11,12,13,14,15,16,17,18,19]with
 |none=>rw[hq]at h;exact absurd _root_.rfl h
 |some o=>have:=List.find?_some hq;simp only[A0]at this;exact this.2
theorem z55(hT:TkOk T):∀N,(∀l d s,Fw T s (z2y T N l d s).2)/\(∀l d r,Fw T r.2 (z8u T N l d r).2)/\(∀d s,Fw T s (z6s T N d s).2)/\(∀d s,Fw T s (zw8 T N d s).2)/\(∀d s,Fw T s (z6w T N d s).2)/\(∀d b out s,Fw T s (z85 T N d b out s).2)
 |0=>⟨λ_ _ _=>.rfl,λ_ _ _=>.rfl,λ_ _=>.rfl,λ_ _=>.rfl,λ_ _=>.rfl,λ_ _ _ _=>.rfl⟩
 |N+1=>by
  obtain⟨iE,iL,iU,iP,iA,iG⟩:=z55 hT N;refine⟨λl d s=>?_,λl d r=>?_,λd s=>?_,λd s=>?_,λd s=>?_,λd b out s=>?_⟩
  ·unfold z2y;split
   ·exact iU _ _
   ·exact(iE _ _ _).trans (iL _ _ _)
  ·unfold z8u;split
   ·exact .rfl
   ·rename_i h;exact(z11 hT (pOp_is h)).trans ((iE (l+1) d r.2.next).trans (iL l d (.mk 5 (pOp T l r.2) 0 s_ [r.1,(z2y T N (l+1) d r.2.next).1],(z2y T N (l+1) d r.2.next).2)))
  ·unfold z6s
   cases h:pUn T (z48 d s)with
   |none=>exact zk9.trans (iP _ _)
   |some o =>
    have h1:=(zk9 (T:=T) (d:=d) (s:=s)).trans (z11 hT (pUn_is h));dsimp only;split
    ·exact h1.trans ((z0a hT).trans ((iE _ _ _).trans (z0a hT)))
    ·exact h1.trans (iU _ _)
  ·unfold zw8;split
   ·exact .rfl
   rename_i ho;split
   ·rename_i h;exact(z11 hT h).trans ((iE _ _ _).trans (z0a hT))
   split
   ·rename_i h;exact z11 hT h
   split
   ·rename_i h;exact z11 hT h
   split
   ·rename_i h;exact(z11 hT h).trans ((z0a hT).trans (z0a hT))
   split
   ·rename_i h;exact j0q hT (by simpa using ho) (by rw[h];decide)
   split
   ·rename_i h;exact(z1w hT dC0).trans ((z11 hT h).trans (iA _ _))
   split
   ·rename_i h;exact(z1w hT dC0).trans ((z11 hT h).trans ((iE _ _ _).trans (z0a hT)))
   ·exact z1w hT dC0
  ·unfold z6w;split
   ·rename_i h;exact z11 hT h
   ·exact(iG _ _ _ _).trans (z0a hT)
  ·unfold z85;split
   ·exact(y32 hT).trans ((iE _ _ _).trans (iG _ _ _ _))
   ·exact y32 hT
theorem z59(hT:TkOk T){s:Ps}:Fw T s (mE T s).2:=by
 unfold mE;exact(z55 hT (big T)).1 1 1 s
attribute [local irreducible] mE z6w
theorem z2s(hT:TkOk T){s:Ps}:Fw T s (z1p T s).2:=by
 unfold z1p;exact(z0a hT).trans ((z59 hT).trans (z0a hT))
theorem yj5(hT:TkOk T){s:Ps}:Fw T s (z4u T s).2:=by
 unfold z4u;split
 ·rename_i h;exact(z1w hT dC0).trans ((z11 hT h).trans ((z55 hT (big T)).2.2.2.2.1 _ _))
 split
 ·rename_i h;exact(z1w hT dC0).trans ((z11 hT h).trans ((z59 hT).trans ((z0a hT (w:=sSc)).trans ((z0a hT (w:=sEq)).trans (z59 hT)))))
 ·exact(z1w hT dC0).trans ((z0a hT).trans (z59 hT))
theorem fw_let(hT:TkOk T){s:Ps}:Fw T s (mLet T s).2:=by
 unfold mLet;exact(z5k hT).trans ((z1w hT dC0).trans ((z0a hT).trans (z59 hT)))
theorem fw_flat(hT:TkOk T){s:Ps}:Fw T s (z9m T s).2:=by
 unfold z9m;split
 ·rename_i h;exact z11 hT h
 split
 ·rename_i h;exact z11 hT h
 split
 ·rename_i h;exact(z11 hT h).trans (z59 hT)
 split
 ·rename_i h;exact(z11 hT h).trans (z2s hT)
 ·exact yj5 hT
theorem z5j(hT:TkOk T):∀N,(∀d s,Fw T s (z5n T N d s).2)/\(∀d s,Fw T s (z1t T N d s).2)/\(∀d out s,Fw T s (z75 T N d out s).2)
 |0=>⟨λ_ _=>y0g,λ_ _=>.rfl,λ_ _ _=>.rfl⟩
 |N+1=>by
  obtain⟨iS,iB,iL⟩:=z5j hT N;refine⟨λd s=>?_,λd s=>?_,λd out s=>?_⟩
  ·unfold z5n;refine(y7c (d:=d)).trans ?_;split
   ·exact(fw_let hT).trans (z0a hT (w:=z5h))
   split
   ·rename_i h;split
    ·rename_i h2;exact(z11 hT h).trans ((z2s hT).trans ((iB _ _).trans ((z11 hT h2).trans (iB _ _))))
    ·exact(z11 hT h).trans ((z2s hT).trans (iB _ _))
   split
   ·rename_i h;exact(z11 hT h).trans ((z2s hT).trans (iB _ _))
   ·exact(fw_flat hT).trans (z0a hT (w:=z5h))
  ·unfold z1t;exact(z0a hT).trans (iL _ _ _)
  ·unfold z75;split
   ·exact .rfl
   split
   ·rename_i h;exact z11 hT h
   ·exact(iS _ _).trans (iL _ _ _)
theorem yj6(hT:TkOk T):∀N b out s,Fw T s (zb2 T N b out s).2
 |0,_,_,_=>.rfl
 |N+1,b,out,s=>by
  unfold zb2;split
  ·exact(y32 hT).trans ((z5k hT).trans ((z1w hT dC0).trans (yj6 hT N _ _ _)))
  ·exact y32 hT
theorem zk8(hT:TkOk T){s:Ps}:Fw T s (z7o T s).2:=by
 unfold z7o;split
 ·rename_i h;exact z11 hT h
 ·exact(yj6 hT _ _ _ _).trans (z0a hT)
theorem ya4(hT:TkOk T){t:Int}{n:ByteArray}{s:Ps}:Fw T s (z7a T t n s).2:=by
 unfold z7a;exact(z0a hT).trans ((zk8 hT).trans ((z5j hT (big T)).2.1 _ _))
def Go1(s s':Ps):Prop:=s'.over=true∨s.at_<s'.at_
theorem Go1.then{a b c:Ps}(h:Go1 a b)(k:Fw T b c):Go1 a c:=h.elim (λe=>.inl (k.ov e)) λe=>.inr (Bb e k.at_)
theorem Go1.after{a b c:Ps}(k:Fw T a b)(h:Go1 b c):Go1 a c:=h.elim .inl λe=>.inr (Nat.lt_of_le_of_lt k.at_ e)
theorem z8k{s:Ps}:Go1 s s.next:=.inr (A7 _)
theorem zh7{w:ByteArray}{s:Ps}:Go1 s (z0p T w s):=by
 unfold z0p;split
 ·exact z8k
 ·split
  ·rename_i h;exact .inl (by simp[Ps.over,h])
  ·exact .inl (by simp[Ps.over,Ps.setBad])
theorem z6v{k:Int}{s:Ps}:Go1 s (z0n T k s).2:=by
 unfold z0n;split
 ·rename_i h;exact .inl h
 ·split
  ·exact z8k
  ·exact .inl (by simp[Ps.over,Ps.setBad])
theorem zl1{s:Ps}:Go1 s (z0t T s).2:=by
 unfold z0t;split
 ·exact z8k
 ·exact zh7
theorem go_named(hT:TkOk T){s:Ps}:Go1 s (z4u T s).2:=by
 unfold z4u;split
 ·rename_i h;exact z6v.then ((z11 hT h).trans ((z55 hT (big T)).2.2.2.2.1 _ _))
 split
 ·rename_i h;exact z6v.then ((z11 hT h).trans ((z59 hT).trans ((z0a hT (w:=sSc)).trans ((z0a hT (w:=sEq)).trans (z59 hT)))))
 ·exact z6v.then ((z0a hT).trans (z59 hT))
theorem go_flat(hT:TkOk T){s:Ps}:Go1 s (z9m T s).2:=by
 unfold z9m;split
 ·exact z8k
 split
 ·exact z8k
 split
 ·exact z8k.then (z59 hT)
 split
 ·exact z8k.then (z2s hT)
 ·exact go_named hT
theorem go_stmt(hT:TkOk T)(N:Nat){d:Int}{s:Ps}:Go1 s (z5n T N d s).2:=by
 cases N with
 |zero=>exact .inl (by simp[z5n,Ps.over,Ps.setBad])
 |succ N =>
 obtain⟨iS,iB,iL⟩:=z5j hT N;unfold z5n;refine Go1.after (y7c (d:=d) (T:=T)) ?_;split
 ·exact zl1.then ((z1w hT (k:=1) dC0).trans ((z0a hT (w:=sEq)).trans ((z59 hT).trans (z0a hT (w:=z5h)))))
 split
 ·rename_i h;split
  ·rename_i h2;exact z8k.then ((z2s hT).trans ((iB _ _).trans ((z11 hT h2).trans (iB _ _))))
  ·exact z8k.then ((z2s hT).trans (iB _ _))
 split
 ·exact z8k.then ((z2s hT).trans (iB _ _))
 ·exact(go_flat hT).then (z0a hT (w:=z5h))
end
def psO(T:List Tk)(s:Ps):List (Nat×HO):=[(1,.box [.pv (tks T),iInt (s.at_:Nat),iBool s.bad,iBool s.deep])]
theorem yg7{T:List Tk}{s:Ps}(h:s.at_<T.length):(T.map Tk.enc)[s.at_]?=some (tkAt T s).enc:=by
 unfold tkAt;rw[B8,At,A5 h];rfl
theorem z7d(T:List Tk)(s:Ps):SC Tryz.prog 79 [.ptr 1 0] (psO T s) (λk=>k∈[1]) (iBool s.over) (psO T s):=by
 refine SC.vc tb {} [1] Tryz.func79 rfl rfl ?_;unfold Ps.over;exact z00 (λh=>⟨sE (by rw[h];rfl),rfl,Gd⟩) λh=>⟨sE (by rw[h];rfl),rfl,Gd⟩
theorem yo4(T:List Tk)(s:Ps)(h:s.at_<T.length)(w:ByteArray):SC Tryz.prog 130 [.ptr 1 0,.pv (.val (.string w))] (psO T s) (λk=>k∈[1]) (iBool (pIs T w s)) (psO T s):=by
 refine SC.vc tb {} [1] Tryz.func130 rfl rfl ?_;refine⟨[1],z7d T s,sR,⟨rfl,rfl,.head _,Gd⟩,rfl,z00 (λh1=>⟨yg7 h,rfl,z00 (λh2=>⟨yg7 h,rfl,sE ?_,rfl,Gd⟩) λh2=>⟨sE ?_,rfl,Gd⟩⟩) λh1=>⟨sE ?_,rfl,Gd⟩⟩
 ·unfold pIs eqS;rw[h1,show((tkAt T s).kind==2)=true from h2];rfl
 ·unfold pIs;rw[h1,show((tkAt T s).kind==2)=false from h2];rfl
 ·unfold pIs;rw[h1];rfl
theorem z45(T:List Tk)(s:Ps)(h:s.at_<T.length)(hb:T.length<=1073741824)(w:ByteArray):SC Tryz.prog 82 [.ptr 1 0,.pv (.val (.string w))] (psO T s) (λk=>k∈[]) (iBool (z8n T w s).1) (psO T (z8n T w s).2):=by
 refine SC.vc tb {} [] Tryz.func82 rfl rfl ?_;unfold z8n;refine⟨[1],yo4 T s h w,sR,Gf,rfl,z00 (λh1=>?_) λh1=>?_⟩
 ·rw[if_pos h1];exact⟨z01 rfl oM0,sE (by rw[h1]),rfl,Gd⟩
 ·rw[if_neg (by rw[h1];decide)];exact⟨sE (by rw[h1]),rfl,Gd⟩
theorem z1a(T:List Tk)(s:Ps)(h:s.at_<T.length)(hb:T.length<=1073741824)(w:ByteArray):SC Tryz.prog 84 [.ptr 1 0,.pv (.val (.string w))] (psO T s) (λk=>k∈[]) (.tup []) (psO T (z0p T w s)):=by
 have ht:=z45 T s h hb w;unfold z8n at ht;refine SC.vc tb {} [] Tryz.func84 rfl rfl ?_;unfold z0p
 cases h1:pIs T w s with
 |true =>
  rw[h1]at ht
  exact⟨[],ht,sR,Ge,rfl,sI,rfl,Gd⟩
 |false =>
  rw[h1]at ht;refine⟨[],ht,sR,Ge,rfl,?_⟩;obtain⟨at_,bad,deep⟩:=s
  cases deep with
  |true=>exact⟨sI,rfl,Gd⟩
  |false=>exact⟨sI,rfl,Gd⟩
theorem z8b(T:List Tk)(s:Ps)(h:s.at_<T.length)(hb:T.length<=1073741824)(k:Int):SC Tryz.prog 81 [.ptr 1 0,.pv (.val (.int .i64 k))] (psO T s) (λk=>k∈[]) (.pv (.val (.string (z0n T k s).1))) (psO T (z0n T k s).2):=by
 refine SC.vc tb {} [] Tryz.func81 rfl rfl ?_;unfold z0n;refine⟨[1],z7d T s,sR,Gf,rfl,z00 (λh1=>?_) λh1=>?_⟩
 ·rw[if_pos h1];exact⟨sI,rfl,Gd⟩
 ·rw[if_neg (by rw[h1];decide)];refine⟨yg7 h,rfl,z00 (λh2=>?_) λh2=>?_⟩
  ·have h2:¬(tkAt T s).kind=k:=by simpa using h2
   rw[if_neg h2];exact⟨sI,rfl,Gd⟩
  ·have h2:(tkAt T s).kind=k:=by simpa using h2
   rw[if_pos h2];exact⟨z01 rfl oM0,sI,rfl,Gd⟩
theorem zn3(T:List Tk)(hT:TkOk T)(s:Ps)(h:s.at_<T.length)(hb:T.length<=1073741824):SC Tryz.prog 80 [.ptr 1 0] (psO T s) (λk=>k∈[]) (iInt (z0t T s).1) (psO T (z0t T s).2):=by
 have ht:=z45 T s h hb sInt;unfold z8n at ht;refine SC.vc tb {} [] Tryz.func80 rfl rfl ?_;unfold z0t
 cases h1:pIs T sInt s with
 |true =>
  rw[h1]at ht
  exact⟨[],ht,sR,Ge,rfl,sI,rfl,Gd⟩
 |false =>
  rw[h1]at ht;exact⟨[],ht,sR,Ge,rfl,[],z1a T s h hb j2t,sR,Ge,rfl,sI,rfl,Gd⟩
def j47:List (List PV):=wSigns.tail.map λs=>[.val (.string s)]
theorem sc_signs:SC Tryz.prog 266 [] [] (λk=>k∈[]) (.pv (.seq j47)) []:=by
 refine SC.vc tb {} [] Tryz.func266 rfl rfl ?_;exact⟨sI,Gd⟩
theorem ops28{op:Int}(h0:1<=op)(h1:op<=28):op=1∨op=2∨op=3∨op=4∨op=5∨op=6∨op=7∨op=8∨op=9∨op=10∨op=11∨op=12∨op=13∨op=14∨op=15∨op=16∨op=17∨op=18∨op=19∨op=20∨op=21∨op=22∨op=23∨op=24∨op=25∨op=26∨op=27∨op=28:=by omega
theorem sign_get{op:Int}(h0:1<=op)(h1:op<=28):j47[(op-1).toNat]?=some [.val (.string (zp2 op))]:=by
 rcases ops28 h0 h1 with rfl|rfl|rfl|rfl|rfl|rfl|rfl|rfl|rfl|rfl|rfl|rfl|rfl|rfl|rfl|rfl|rfl|rfl|rfl|rfl|rfl|rfl|rfl|rfl|rfl|rfl|rfl|rfl<;>rfl
theorem y43(op:Int)(h0:1<=op)(h1:op<=28):SC Tryz.prog 251 [.pv (.val (.int .i64 op))] [] (λk=>k∈[]) (.pv (.val (.string (zp2 op)))) []:=by
 refine SC.vc tb {} [] Tryz.func251 rfl rfl ?_;refine z00 (λh=>?_) λh=>?_
 ·have:=Aq h;omega
 ·refine z00 (λh2=>?_) λh2=>?_
  ·have:=Aq h2;omega
  ·exact⟨[],sc_signs,sR,Gd,rfl,z4b rfl oM0,sign_get h0 h1,by omega,sI,Gd⟩
theorem y42(op:Int)(h0:1<=op)(h1:op<=19):SC Tryz.prog 182 [.pv (.val (.int .i64 op))] [] (λk=>k∈[]) (iInt (z4j op)) []:=by
 refine SC.vc tb {} [] Tryz.func182 rfl rfl ?_;rcases(show op=1∨op=2∨op=3∨op=4∨op=5∨op=6∨op=7∨op=8∨op=9∨op=10∨op=11∨op=12∨op=13∨op=14∨op=15∨op=16∨op=17∨op=18∨op=19 by omega)with rfl|rfl|rfl|rfl|rfl|rfl|rfl|rfl|rfl|rfl|rfl|rfl|rfl|rfl|rfl|rfl|rfl|rfl|rfl<;>exact⟨sI,Gd⟩
def y0z(k n:Nat):List Int:=(List.range n).map λi=>((k+i:Nat):Int)
theorem zv3(k n:Nat):y0z k (n+1)=(k:Int)::y0z (k+1) n:=by
 unfold y0z;rw[List.range_succ_eq_map];simp only[B3,Ed]
 congr 1
 refine List.map_congr_left λi _=>?_;show((k+(i+1):Nat):Int)=((k+1+i:Nat):Int)
 congr 1
 omega
theorem sc_pop(T:List Tk)(s:Ps)(h:s.at_<T.length)(level:Int):SC Tryz.prog 237 [.ptr 1 0,.pv (.val (.int .i64 level))] (psO T s) (λk=>k∈[1]) (iInt (pOp T level s)) (psO T s):=by
 refine SC.vc tb {} [1] Tryz.func237 rfl rfl ?_;refine⟨Nat,λk=>[(5,iInt ((k:Nat):Int))],λ_=>[],λk=>20-k,λk=>1<=k/\k<=20/\pOp T level s=((y0z k (20-k)).find? λo=>decide (z4j o=level)&&pIs T (zp2 o) s).getD 0,[],1,⟨Ae _,by decide,rfl⟩,Ge,Gd,?_⟩;rintro k ⟨h1,h2,h3⟩;refine z00 (λhc=>?_) λhc=>?_
 ·have hk:k<=19:=by have:=Aq hc;omega
  rw[show 20-k=(19-k)+1 by omega,zv3,List.find?_cons]at h3;refine⟨[],y42 k oM0 oM0,sR,Gd,rfl,z00 (λe1=>?_) λe1=>?_⟩
  ·refine⟨[],y43 k oM0 oM0,sR,Gd,rfl,[1],yo4 T s h _,sR,⟨rfl,rfl,.head _,Gd⟩,rfl,z00 (λe2=>?_) λe2=>?_⟩
   ·rw[C6 (eq_of_beq e1),e2]at h3;exact⟨sE (by rw[h3];rfl),rfl,Gd⟩
   ·rw[e2,Dk]at h3;exact⟨z01 rfl oM0,k+1,by omega,⟨by omega,by omega,by rw[h3,show 20-(k+1)=19-k by omega]⟩,Ge,Gd,rfl,rfl,rfl,rfl⟩
  ·rw[Dh (λe=>by rw[e]at e1;simp at e1),Cy]at h3;exact⟨z01 rfl oM0,k+1,by omega,⟨by omega,by omega,by rw[h3,show 20-(k+1)=19-k by omega]⟩,Ge,Gd,rfl,rfl,rfl,rfl⟩
 ·have hk:k=20:=by have:=Ap hc;omega
  subst hk;exact⟨sE (by rw[h3];rfl),rfl,Gd⟩
section
variable {T:List Tk}
theorem y2f(k o n:Int)(s:ByteArray)(a:List Ex):xz (.mk k o n s a)=1+xzL a:=by simp only[xz]
theorem xz_x0:xz x0=1:=rfl
theorem z72(a:Ex):xzL [a]=xz a:=by simp[xzL]
theorem j5l(a b:Ex):xzL [a,b]=xz a+xz b:=by simp[xzL]
theorem z0o(s:Ps):s.next.at_=s.at_+1:=rfl
theorem y4v(hT:TkOk T):∀N,(∀l d s,xz (z2y T N l d s).1+2*s.at_<=1+2*(z2y T N l d s).2.at_)/\(∀l d r,xz (z8u T N l d r).1+2*r.2.at_<=xz r.1+2*(z8u T N l d r).2.at_)/\(∀d s,xz (z6s T N d s).1+2*s.at_<=1+2*(z6s T N d s).2.at_) /\
 (∀d s,xz (zw8 T N d s).1+2*s.at_<=1+2*(zw8 T N d s).2.at_)/\(∀d s,xzL (z6w T N d s).1+2*s.at_<=1+2*(z6w T N d s).2.at_)/\(∀d b out s,xzL (z85 T N d b out s).1+2*s.at_<=xzL out+(bif b then 1 else 0)+2*(z85 T N d b out s).2.at_)
 |0=>⟨λ_ _ _=>Ae _,λ_ _ _=>Ae _,λ_ _=>Ae _,λ_ _=>Ae _,λ_ s=>by show 0+2*s.at_<=1+2*s.at_;omega,λ_ b out s=>by show xzL out+2*s.at_<=_+2*s.at_;omega⟩
 |N+1=>by
  obtain⟨iE,iL,iU,iP,iA,iG⟩:=y4v hT N;refine⟨λl d s=>?_,λl d r=>?_,λd s=>?_,λd s=>?_,λd s=>?_,λd b out s=>?_⟩
  ·unfold z2y;split
   ·exact iU _ _
   ·have h1:=iE (l+1) d s;have h2:=iL l d (z2y T N (l+1) d s);omega
  ·unfold z8u;split
   ·exact Ae _
   ·have h1:=iE (l+1) d r.2.next;have h2:=iL l d (.mk 5 (pOp T l r.2) 0 s_ [r.1,(z2y T N (l+1) d r.2.next).1],(z2y T N (l+1) d r.2.next).2);simp only[y2f,j5l]at h2;rw[z0o]at h1;omega
  ·unfold z6s;have h0:=(zk9 (T:=T) (d:=d) (s:=s)).at_;have h0':(z48 d s).at_=s.at_:=by unfold z48;split<;>rfl
   cases h:pUn T (z48 d s)with
   |none =>
    have:=iP d (z48 d s);dsimp only
    omega
   |some o =>
    dsimp only;split
    ·have h1:=iE 1 (d+1) (z0p T sRo (z48 d s).next);have h2:=(z0a hT (w:=sRo) (s:=(z48 d s).next)).at_;have h3:=(z0a hT (w:=sRc) (s:=(z2y T N 1 (d+1) (z0p T sRo (z48 d s).next)).2)).at_;rw[z0o]at h2;simp only[y2f,z72];omega
    ·have h1:=iU (d+1) (z48 d s).next;rw[z0o]at h1;simp only[y2f,z72];omega
  ·unfold zw8;split
   ·simp[xz_x0]
   split
   ·have h1:=iE 1 (d+1) s.next;have h3:=(z0a hT (w:=sRc) (s:=(z2y T N 1 (d+1) s.next).2)).at_;rw[z0o]at h1;dsimp only;omega
   split
   ·simp only[y2f,xzL,z0o];omega
   split
   ·simp only[y2f,xzL,z0o];omega
   split
   ·have h2:=(z0a hT (w:=sRo) (s:=s.next)).at_;have h3:=(z0a hT (w:=sRc) (s:=z0p T sRo s.next)).at_;rw[z0o]at h2;simp only[y2f,xzL];omega
   split
   ·simp only[y2f,xzL,z0o];omega
   have hx:=(z1w hT (k:=1) dC0 (s:=s)).at_;split
   ·have h1:=iA (d+1) (z0n T 1 s).2.next;rw[z0o]at h1;simp only[y2f];omega
   split
   ·have h1:=iE 1 (d+1) (z0n T 1 s).2.next;have h3:=(z0a hT (w:=sSc) (s:=(z2y T N 1 (d+1) (z0n T 1 s).2.next).2)).at_;rw[z0o]at h1;simp only[y2f,z72];omega
   ·simp only[y2f,xzL];omega
  ·unfold z6w;split
   ·simp only[xzL,z0o];omega
   ·have h1:=iG d true [] s;have h3:=(z0a hT (w:=sRc) (s:=(z85 T N d true [] s).2)).at_;simp only[xzL,E4]at h1;dsimp only;omega
  ·unfold z85;have h0:=(y32 hT (b:=b) (s:=s)).at_;split
   ·rename_i hc;have h1:=iE 1 d (aGo T b s);have h2:=iG d false (out++[(z2y T N 1 d (aGo T b s)).1]) (z2y T N 1 d (aGo T b s)).2;rw[j5k,z72]at h2
    cases b with
    |true =>
     simp only[E4,D2]at h2⊢
     omega
    |false =>
     have hi:pIs T zn1 s=true:=by simpa using hc.1
     have h3:(aGo T false s).at_=s.at_+1:=by simp[aGo,z8n,hi,z0o]
     simp only[D2]at h2⊢;omega
   ·dsimp only;omega
theorem ys4(hT:TkOk T)(s:Ps):xz (mE T s).1+2*s.at_<=1+2*(mE T s).2.at_:=(y4v hT (big T)).1 1 1 s
theorem yl3(hT:TkOk T)(d:Int)(s:Ps):xzL (z6w T (big T) d s).1+2*s.at_<=1+2*(z6w T (big T) d s).2.at_:=(y4v hT (big T)).2.2.2.2.1 d s
theorem y0k(hT:TkOk T)(s:Ps):xz (z1p T s).1+2*s.at_<=1+2*(z1p T s).2.at_:=by
 have h1:=ys4 hT (z0p T sRo s);have h2:=(z0a hT (w:=sRo) (s:=s)).at_;have h3:=(z0a hT (w:=sRc) (s:=(mE T (z0p T sRo s)).2)).at_;unfold z1p;dsimp only;omega
end
def rem(T:List Tk)(s:Ps):Nat:=20*(T.length-s.at_)
def exB(x:Ex):HO:=.box [iInt x.kind,iInt x.op,iInt x.n,.pv (vStr x.name),.pv (exs x.args)]
def psB(T:List Tk)(s:Ps):HO:=.box [.pv (tks T),iInt (s.at_:Nat),iBool s.bad,iBool s.deep]
def dOk(T:List Tk)(d:Int)(s:Ps):Prop:=0<=d/\d+(T.length:Int)<=4294967296+(s.at_:Int)
theorem dOk.fw{T:List Tk}{d:Int}{s s':Ps}(h:dOk T d s)(k:s.at_<=s'.at_):dOk T d s':=⟨h.1,by have:=h.2;omega⟩
theorem dOk.up{T:List Tk}{d:Int}{s s':Ps}(h:dOk T d s)(k:s.at_<s'.at_):dOk T (d+1) s':=⟨by have:=h.1;omega,by have:=h.2;omega⟩
def fE(T:List Tk)(l d:Int)(s:Ps)(r:Ex×Ps):Prop:=SC Tryz.prog 209 [.ptr 1 0,.pv (.val (.int .i64 l)),.pv (.val (.int .i64 d))] (psO T s) (λk=>k∈[]) (.pv (exv r.1)) (psO T r.2)
def fU(T:List Tk)(d:Int)(s:Ps)(r:Ex×Ps):Prop:=SC Tryz.prog 236 [.ptr 1 0,.pv (.val (.int .i64 d))] (psO T s) (λk=>k∈[]) (.pv (exv r.1)) (psO T r.2)
def fP(T:List Tk)(d:Int)(s:Ps)(r:Ex×Ps):Prop:=SC Tryz.prog 252 [.ptr 1 0,.pv (.val (.int .i64 d))] (psO T s) (λk=>k∈[]) (.pv (exv r.1)) (psO T r.2)
def fA(T:List Tk)(d:Int)(s:Ps)(r:List Ex×Ps):Prop:=SC Tryz.prog 238 [.ptr 1 0,.pv (.val (.int .i64 d))] (psO T s) (λk=>k∈[]) (.pv (exs r.1)) (psO T r.2)
def SCE(T:List Tk)(N:Nat):Prop:=∀(l d:Int)(s:Ps),1<=l->l<=11->dOk T d s->s.at_<T.length->rem T s+(14-l).toNat<=N->fE T l d s (z2y T N l d s)
def SCU(T:List Tk)(N:Nat):Prop:=∀(d:Int)(s:Ps),dOk T d s->s.at_<T.length->rem T s+2<=N->fU T d s (z6s T N d s)
def SCP(T:List Tk)(N:Nat):Prop:=∀(d:Int)(s:Ps),dOk T d s->s.at_<T.length->rem T s+1<=N->fP T d s (zw8 T N d s)
def SCA(T:List Tk)(N:Nat):Prop:=∀(d:Int)(s:Ps),dOk T d s->s.at_<T.length->rem T s+17<=N->fA T d s (z6w T N d s)
theorem ex2(a b:Ex):exs [a,b]=.seq [[vInt a.kind,vInt a.op,vInt a.n,vStr a.name,exs a.args],[vInt b.kind,vInt b.op,vInt b.n,vStr b.name,exs b.args]]:=by
 simp only[exs,B3,Cs,Ex.enc_eq]
theorem ex1(a:Ex):exs [a]=.seq [[vInt a.kind,vInt a.op,vInt a.n,vStr a.name,exs a.args]]:=by
 simp only[exs,B3,Cs,Ex.enc_eq]
theorem y8k(T:List Tk)(hT:TkOk T)(hb:T.length<=1073741824)(N:Nat)(ihE:∀M,M<=N->SCE T M)(ihU:SCU T N):SCE T (N+1):=by
 intro l d s h1 h2 hd h hm;refine SC.vc tb {} [] Tryz.func209 rfl rfl ?_;refine z00 (λh3=>?_) λh3=>?_
 ·have h3:=Aq h3;have e:l=11:=by omega
  subst e;have hu:=ihU d s hd h oM0;rw[show z2y T (N+1) 11 d s=z6s T N d s by rw[z2y,if_pos h3]];exact⟨[],hu,sR,Ge,rfl,sI,rfl,Gd⟩
 ·have h3:=Ap h3;have he:=ihE N (Ae _) (l+1) d s oM0 oM0 hd h oM0;have hf:=(z55 hT N).1 (l+1) d s;rw[show z2y T (N+1) l d s=z8u T N l d (z2y T N (l+1) d s) by rw[z2y,if_neg h3]];have hr:rem T (z2y T N (l+1) d s).2<=rem T s:=by have:=hf.at_;unfold rem;omega
  generalize z2y T N (l+1) d s=r0 at he hf hr;refine⟨z01 rfl oM0,[],he,sR,Ge,rfl,Nat×(Ex×Ps),λ_=>[],λa=>[(107,exB a.2.1),(1,psB T a.2.2)],λa=>a.1,
   λa=>z8u T N l d r0=z8u T a.1 l d a.2/\s.at_<=a.2.2.at_/\a.2.2.at_<T.length/\rem T a.2.2+(13-l).toNat<=a.1/\a.1<=N,[],(N,r0),⟨rfl,hf.at_,hf.lt h,by dsimp only;omega,Ae _⟩,Gd,Gf,?_⟩
  rintro⟨n,r⟩ ⟨i1,i0,i2,i3,i4⟩;dsimp only at i1 i0 i2 i3 i4;obtain⟨m,rfl⟩:∃m,n=m+1:=⟨n-1,by unfold rem at i3;omega⟩;rw[z8u]at i1;refine⟨[],sc_pop T r.2 i2 l,sR,Ge,rfl,z00 (λe1=>?_) λe1=>?_⟩
  ·have e1:pOp T l r.2=0:=eq_of_beq e1;rw[if_pos e1]at i1;rw[i1];exact⟨sI,rfl,Gd⟩
  ·have e1:¬pOp T l r.2=0:=by simpa using e1
   rw[if_neg e1]at i1;have hn:=j1h hT i2 (by rw[(z4n (pOp_is e1)).2];decide);have hr2:rem T r.2.next+20<=rem T r.2:=by unfold rem;rw[z0o];omega
   have he2:=ihE m oM0 (l+1) d r.2.next oM0 oM0 (hd.fw (by rw[z0o];omega)) hn oM0;have hf2:=(z55 hT m).1 (l+1) d r.2.next;have hr3:rem T (z2y T m (l+1) d r.2.next).2<=rem T r.2.next:=by have:=hf2.at_;unfold rem;omega
   generalize z2y T m (l+1) d r.2.next=r2 at he2 hf2 hr3 i1;refine⟨z01 rfl oM0,z01 rfl oM0,[],he2,sR,Ge,rfl,(m,(.mk 5 (pOp T l r.2) 0 s_ [r.1,r2.1],r2.2)),A7 _,⟨i1,by have:=hf2.at_;rw[z0o]at this;dsimp only;omega,hf2.lt hn,by dsimp only;omega,by dsimp only;omega⟩,Gd,⟨?_,rfl,Gd⟩,rfl,rfl,rfl,rfl⟩;exact(Aa (λp=>some (HO.box [iInt 5,iInt (pOp T l r.2),iInt 0,.pv (vStr s_),.pv p])) (ex2 r.1 r2.1)).symm
theorem y69(T:List Tk)(hT:TkOk T)(hb:T.length<=1073741824)(N:Nat)(ihE:SCE T N)(ihU:SCU T N)(ihP:SCP T N):SCU T (N+1):=by
 intro d s hd h hm;refine SC.vc tb {} [] Tryz.func236 rfl rfl ?_;obtain⟨s1,es⟩:∃x,x=z48 d s:=⟨_,rfl⟩;have hf1:Fw T s s1:=by rw[es];exact zk9
 have ha1:s1.at_=s.at_:=by rw[es];unfold z48;split<;>rfl
 have hM:z6s T (N+1) d s=match pUn T s1 with
  |none=>zw8 T N d s1
  |some op=>if op≥23 then(.mk 4 op 0 s_ [(z2y T N 1 (d+1) (z0p T sRo s1.next)).1],z0p T sRc (z2y T N 1 (d+1) (z0p T sRo s1.next)).2)
   else(.mk 4 op 0 s_ [(z6s T N (d+1) s1.next).1],(z6s T N (d+1) s1.next).2):=by rw[es];rfl
 generalize z6s T (N+1) d s=R at hM;have hd1:dOk T d s1:=hd.fw hf1.at_;have hl1:s1.at_<T.length:=by rw[ha1];exact h
 have hm1:rem T s1+2<=N+1:=by unfold rem at hm⊢;rw[ha1];exact hm
 clear hd hm hf1;obtain⟨at_,bad,deep⟩:=s
 cases bad
 all_goals refine z00 (λc1=>?_) λc1=>?_
 have e:s1=⟨at_,false,true⟩:=by rw[es];unfold z48;rw[if_pos ⟨Aq c1,rfl⟩];rfl
 rotate_left
 have e:s1=⟨at_,false,deep⟩:=by rw[es];unfold z48;rw[if_neg (λg=>Ap c1 g.1)]
 rotate_left
 have e:s1=⟨at_,true,deep⟩:=by rw[es];unfold z48;rw[if_neg (λg=>by cases g.2)]
 rotate_left
 have e:s1=⟨at_,true,deep⟩:=by rw[es];unfold z48;rw[if_neg (λg=>by cases g.2)]
 rotate_left
 all_goals
  clear es c1;refine⟨Nat,λk=>[(5,iInt ((k:Nat):Int))],λ_=>[(1,psB T s1)],λk=>29-k,λk=>20<=k/\k<=29/\pUn T s1=(y0z k (29-k)).find? λo=>pIs T (zp2 o) s1,[],20,⟨Ae _,by decide,rfl⟩,Ge,⟨by rw[e];rfl,Gd⟩,?_⟩;rintro k ⟨h1,h2,h3⟩;refine z00 (λhc=>?_) λhc=>?_
  ·have hk:k<=28:=by have:=Aq hc;omega
   rw[show 29-k=(28-k)+1 by omega,zv3,List.find?_cons]at h3;have ht:=z45 T s1 hl1 hb (zp2 k);unfold z8n at ht;refine⟨[],y43 k oM0 oM0,sR,Gd,rfl,?_⟩
   cases hp:pIs T (zp2 k) s1 with
   |false =>
    rw[hp]at ht h3
    exact⟨[],ht,sR,Ge,rfl,z01 rfl oM0,k+1,by omega,⟨by omega,by omega,by rw[h3,show 29-(k+1)=28-k by omega]⟩,Ge,Ge,rfl,rfl,rfl,rfl⟩
   |true =>
    rw[hp]at ht h3;dsimp only at h3;rw[h3]at hM;dsimp only at hM;have hn:=(z11 hT hp).lt hl1;have hr:=show rem T s1.next+20<=rem T s1 by unfold rem;rw[z0o]at hn⊢;omega
    have hd2:dOk T (d+1) s1.next:=hd1.up (A7 _);refine⟨[],ht,sR,Ge,rfl,z00 (λg1=>?_) λg1=>?_⟩
    ·have g1:=Aq g1;rw[if_pos g1]at hM;have hf2:=z0a hT (w:=sRo) (s:=s1.next);have he:=ihE 1 (d+1) (z0p T sRo s1.next) oM0 oM0 (hd2.fw hf2.at_) (hf2.lt hn) (by have:=hf2.at_;unfold rem at hr hm1⊢;omega);have hf3:=((z55 hT N).1 1 (d+1) (z0p T sRo s1.next)).lt (hf2.lt hn);generalize z2y T N 1 (d+1) (z0p T sRo s1.next)=r at he hM hf3;subst hM;refine⟨[],z1a T s1.next hn hb sRo,sR,Ge,rfl,z00 (λ_=>?_) λg2=>absurd g1 (Ap g2)⟩;refine⟨z01 rfl (by have:=hd2.1;have:=hd2.2;omega),[],he,sR,Ge,rfl,[],z1a T r.2 hf3 hb sRc,sR,Ge,rfl,?_⟩;exact⟨sE (Aa (λp=>IV.pv (.agg [vInt 4,vInt (k:Int),vInt 0,vStr s_,p])) (ex1 r.1).symm),rfl,Gd⟩
    ·have g1:=Ap g1;rw[if_neg g1]at hM;have hu:=ihU (d+1) s1.next hd2 hn oM0;generalize z6s T N (d+1) s1.next=r at hu hM;subst hM;refine z00 (λg2=>absurd (Aq g2) g1) λ_=>?_;refine⟨z01 rfl (by have:=hd2.1;have:=hd2.2;omega),[],hu,sR,Ge,rfl,?_⟩;exact⟨sE (Aa (λp=>IV.pv (.agg [vInt 4,vInt (k:Int),vInt 0,vStr s_,p])) (ex1 r.1).symm),rfl,Gd⟩
  ·have hk:k=29:=by have:=Ap hc;omega
   subst hk;rw[show pUn T s1=none from h3]at hM;subst hM;exact⟨[],ihP d s1 hd1 hl1 oM0,sR,Ge,rfl,sI,rfl,Gd⟩
theorem zu7{w:ByteArray}(h:zi0 w=true):w.data.toList.all (λb=>z3z b.toNat)=true:=by
 unfold zi0 at h;simp only[A0]at h;exact h.1
def TkSz(T:List Tk):Prop:=∀t∈T,t.text.size<=1073741824
theorem j4n{T:List Tk}{s:Ps}(h:s.at_<T.length):tkAt T s∈T:=by
 unfold tkAt;rw[At,A5 h];exact Cq h
theorem tk_num{T:List Tk}(hT:TkOk T){s:Ps}(h:s.at_<T.length)(hk:(tkAt T s).kind=0):zi0 (tkAt T s).text=true:=by
 have hm:=j4n h;obtain⟨init,e,rfl,he,hi⟩:=hT;rcases Aw.1 hm with hm|hm
 ·exact(hi _ hm).2 hk
 ·rw[Ag.1 hm,he]at hk;cases hk
theorem y8l(T:List Tk)(hT:TkOk T)(hS:TkSz T)(hb:T.length<=1073741824)(N:Nat)(ihE:SCE T N)(ihA:SCA T N):SCP T (N+1):=by
 intro d s hd h hm;refine SC.vc tb {} [] Tryz.func252 rfl rfl ?_;generalize hM:zw8 T (N+1) d s=R;unfold zw8 at hM;have tk:∀w,SC Tryz.prog 82 [.ptr 1 0,.pv (.val (.string w))] (psO T s) (λk=>k∈[]) (iBool (if pIs T w s then(true,s.next)else(false,s)).1) (psO T (if pIs T w s then(true,s.next)else(false,s)).2):=λw=>z45 T s h hb w;have nx:∀{w},pIs T w s=true->s.next.at_<T.length/\rem T s.next+20<=rem T s/\dOk T (d+1) s.next:=λ{w} hp=>by
  have hn:=(z11 hT hp).lt h;exact⟨hn,by unfold rem;rw[z0o]at hn⊢;omega,hd.up (A7 _)⟩
 refine⟨[],z7d T s,sR,Ge,rfl,z00 (λo1=>?_) λo1=>?_⟩
 ·rw[if_pos o1]at hM;subst hM;exact⟨sP (z0g _),rfl,Gd⟩
 rw[if_neg (by rw[o1];decide)]at hM
 cases p1:pIs T sRo s with
 |true =>
  have t:=tk sRo;rw[p1]at t hM;obtain⟨n1,n2,n3⟩:=nx p1;have he:=ihE 1 (d+1) s.next oM0 oM0 n3 n1 oM0;have hf3:=((z55 hT N).1 1 (d+1) s.next).lt n1;rw[if_pos rfl]at hM;generalize z2y T N 1 (d+1) s.next=r at he hM hf3;subst hM
  exact⟨[],t,sR,Ge,rfl,z01 rfl (by have:=n3.1;have:=n3.2;omega),[],he,sR,Ge,rfl,[],z1a T r.2 hf3 hb sRc,sR,Ge,rfl,sI,rfl,Gd⟩
 |false =>
 have t:=tk sRo;rw[p1]at t hM;rw[if_neg dC0]at hM;refine⟨[],t,sR,Ge,rfl,?_⟩
 cases p2:pIs T sTrue s with
 |true =>
  have t:=tk sTrue;rw[p2]at t hM;rw[if_pos rfl]at hM;subst hM
  exact⟨[],t,sR,Ge,rfl,sP (z0g _),rfl,Gd⟩
 |false =>
 have t:=tk sTrue;rw[p2]at t hM;rw[if_neg dC0]at hM;refine⟨[],t,sR,Ge,rfl,?_⟩
 cases p3:pIs T yn8 s with
 |true =>
  have t:=tk yn8;rw[p3]at t hM;rw[if_pos rfl]at hM;subst hM
  exact⟨[],t,sR,Ge,rfl,sP (z0g _),rfl,Gd⟩
 |false =>
 have t:=tk yn8;rw[p3]at t hM;rw[if_neg dC0]at hM;refine⟨[],t,sR,Ge,rfl,?_⟩
 cases p4:pIs T sRead s with
 |true =>
  have t:=tk sRead;rw[p4]at t hM;rw[if_pos rfl]at hM;subst hM;obtain⟨n1,_,_⟩:=nx p4
  exact⟨[],t,sR,Ge,rfl,[],z1a T s.next n1 hb sRo,sR,Ge,rfl,[],z1a T _ ((z0a hT (w:=sRo)).lt n1) hb sRc,sR,Ge,rfl,sP (z0g _),rfl,Gd⟩
 |false =>
 have t:=tk sRead;rw[p4]at t hM;rw[if_neg dC0]at hM;refine⟨[],t,sR,Ge,rfl,yg7 h,rfl,z00 (λk1=>?_) λk1=>?_⟩
 ·have k1:(tkAt T s).kind=0:=eq_of_beq k1;rw[if_pos k1]at hM;subst hM;have hx:=z8b T s h hb 0;have ex:z0n T 0 s=((tkAt T s).text,s.next):=by unfold z0n;rw[if_neg (by rw[o1];decide),if_pos k1]
  rw[ex]at hx;exact⟨[],hx,sR,Ge,rfl,[],y5y _ (zu7 (tk_num hT h k1)) (hS _ (j4n h)),sR,Gd,rfl,sP (z0g _),rfl,Gd⟩
 have k1:¬(tkAt T s).kind=0:=by simpa using k1
 rw[if_neg k1]at hM;have hx:=z8b T s h hb 1;have fx:=z1w hT (k:=1) dC0 (s:=s);generalize z0n T 1 s=x at hx fx hM;have hl:=fx.lt h;have hdx:=hd.fw fx.at_;have hrx:rem T x.2<=rem T s:=by have:=fx.at_;unfold rem;omega
 have tx:∀w,SC Tryz.prog 82 [.ptr 1 0,.pv (.val (.string w))] (psO T x.2) (λk=>k∈[]) (iBool (if pIs T w x.2 then(true,x.2.next)else(false,x.2)).1) (psO T (if pIs T w x.2 then(true,x.2.next)else(false,x.2)).2):=λw=>z45 T x.2 hl hb w;have nx2:∀{w},pIs T w x.2=true->x.2.next.at_<T.length/\rem T x.2.next+20<=rem T x.2/\dOk T (d+1) x.2.next:=λ{w} hp=>by
  have hn:=(z11 hT hp).lt hl;exact⟨hn,by unfold rem;rw[z0o]at hn⊢;omega,hdx.up (A7 _)⟩
 refine⟨[],hx,sR,Ge,rfl,?_⟩
 cases p5:pIs T sRo x.2 with
 |true =>
  have t:=tx sRo;rw[p5]at t hM;obtain⟨n1,n2,n3⟩:=nx2 p5;have ha:=ihA (d+1) x.2.next n3 n1 oM0;rw[if_pos rfl]at hM;generalize z6w T N (d+1) x.2.next=r at ha hM;subst hM
  exact⟨[],t,sR,Ge,rfl,z01 rfl (by have:=n3.1;have:=n3.2;omega),[],ha,sR,Ge,rfl,sI,rfl,Gd⟩
 |false =>
 have t:=tx sRo;rw[p5]at t hM;rw[if_neg dC0]at hM;refine⟨[],t,sR,Ge,rfl,?_⟩
 cases p6:pIs T sSo x.2 with
 |true =>
  have t:=tx sSo;rw[p6]at t hM;obtain⟨n1,n2,n3⟩:=nx2 p6;have he:=ihE 1 (d+1) x.2.next oM0 oM0 n3 n1 oM0;have hf3:=((z55 hT N).1 1 (d+1) x.2.next).lt n1;rw[if_pos rfl]at hM;generalize z2y T N 1 (d+1) x.2.next=r at he hM hf3;subst hM;exact⟨[],t,sR,Ge,rfl,z01 rfl (by have:=n3.1;have:=n3.2;omega),[],he,sR,Ge,rfl,[],z1a T r.2 hf3 hb sSc,sR,Ge,rfl,
   sE (Aa (λp=>IV.pv (.agg [vInt 6,vInt 0,vInt 0,vStr x.1,p])) (ex1 r.1).symm),rfl,Gd⟩
 |false =>
 have t:=tx sSo;rw[p6]at t hM;rw[if_neg dC0]at hM;subst hM;exact⟨[],t,sR,Ge,rfl,sP (z0g _),rfl,Gd⟩
def exRt:RT:=⟨187,5⟩
theorem enc5(out:List Ex)(x:Ex):(out++[x]).map Ex.enc=out.map Ex.enc++[[vInt x.kind,vInt x.op,vInt x.n,vStr x.name,exs x.args]]:=by
 rw[Cl,B3,Cs,Ex.enc_eq]
theorem y8i(T:List Tk)(hT:TkOk T)(hb:T.length<=1073741824)(N:Nat)(ihE:∀M,M<=N->SCE T M):SCA T (N+1):=by
 intro d s hd h hm;refine SC.vc tb { gh:=[(4,[.grow 5 1001 187 5]),(9,[.fz 5 1001])] } [] Tryz.func238 rfl rfl ?_;generalize hM:z6w T (N+1) d s=R;unfold z6w at hM;have t:=z45 T s h hb sRc;unfold z8n at t
 cases p1:pIs T sRc s with
 |true =>
  rw[p1]at t hM;rw[if_pos rfl]at hM;subst hM
  exact⟨[],t,sR,Ge,rfl,sN,rfl,Gd⟩
 |false =>
 rw[p1]at t hM;rw[if_neg dC0]at hM;generalize hL:z85 T N d true [] s=L at hM;refine⟨[],t,sR,Ge,rfl,Nat×Bool×List Ex×Ps,λa=>[(6,iBool a.2.1),(5,.sl 1001 (a.2.2.1.map Ex.enc).length)],λa=>[(1001,.row exRt (a.2.2.1.map Ex.enc)),(1,psB T a.2.2.2)],λa=>a.1,
  λa=>L=z85 T a.1 d a.2.1 a.2.2.1 a.2.2.2/\s.at_<=a.2.2.2.at_/\a.2.2.2.at_<T.length/\rem T a.2.2.2+(bif a.2.1 then 15 else 1)<=a.1/\a.1<=N/\a.2.2.1.length<=a.2.2.2.at_+(bif a.2.1 then 0 else 1),[],(N,true,[],s),
  ⟨hL.symm,Ae _,h,by simp only[E4];omega,Ae _,Ab _⟩,Gf,Gf,?_⟩
 rintro⟨n,first,out,z⟩ ⟨i1,i2,i3,i4,i5,i6⟩;dsimp only at i1 i2 i3 i4 i5 i6;obtain⟨m,rfl⟩:∃m,n=m+1:=⟨n-1,by cases first<;>simp only[E4,D2]at i4<;>omega⟩;rw[z85]at i1
 cases first with
 |true =>
  simp only[E4]at i4 i6;rw[show aGo T true z=z from rfl,Ba]at i1;refine⟨[],z7d T z,sR,Ge,rfl,z00 (λo1=>?_) λo1=>?_⟩
  ·have o1:z.over=false:=by simpa using o1
   rw[if_pos ⟨rfl,o1⟩]at i1;have he:=ihE m oM0 1 d z oM0 oM0 (hd.fw i2) i3 oM0;have hf:=(z55 hT m).1 1 d z;generalize z2y T m 1 d z=r at he hf i1;have h5:=hf.at_;exact⟨[],he,sR,Ge,rfl,rfl,z3y rfl,by simp;omega,(m,false,out++[r.1],r.2),A7 _,
    ⟨i1,by dsimp only;omega,hf.lt i3,by simp only[D2];unfold rem at i4⊢;omega,by dsimp only;omega,by simp only[D2,B5,Al,Az];omega⟩,⟨rfl,slq sI0,Gd⟩,⟨rwq (by rw[enc5]),rfl,Gd⟩,rfl,rfl,rfl,rfl⟩
  ·have o1:z.over=true:=by simpa using o1
   rw[if_neg (λe=>by rw[o1]at e;cases e.2)]at i1;subst i1;subst hM
   exact⟨[],z1a T z i3 hb sRc,sR,Ge,rfl,rfl,sI,rfl,Gd⟩
 |false =>
  simp only[D2]at i4 i6;rw[C9]at i1;have t:=z45 T z i3 hb zn1;unfold z8n at t
  cases p2:pIs T zn1 z with
  |false =>
   rw[p2]at t i1;rw[if_neg (λe=>by cases e.1),show aGo T false z=z by unfold aGo z8n;rw[p2];rfl]at i1;subst i1;subst hM
   exact⟨[],t,sR,Ge,rfl,[],z1a T z i3 hb sRc,sR,Ge,rfl,rfl,sI,rfl,Gd⟩
  |true =>
   rw[p2]at t i1;have hn:=(z11 hT p2).lt i3;have o1:z.next.over=false:=(z4n p2).1;rw[show aGo T false z=z.next by unfold aGo z8n;rw[p2];rfl,if_pos ⟨rfl,o1⟩]at i1;have he:=ihE m oM0 1 d z.next oM0 oM0 (hd.fw (by rw[z0o];omega)) hn (by unfold rem at i4⊢;rw[z0o]at hn⊢;omega);have hf:=(z55 hT m).1 1 d z.next;generalize z2y T m 1 d z.next=r at he hf i1;have h5:=hf.at_;rw[z0o]at h5 hn;have h6:=hf.lt hn;refine⟨[],t,sR,Ge,rfl,[],z7d T z.next,sR,Ge,rfl,z00 (λ_=>?_) λg=>by rw[o1]at g;cases g⟩;exact⟨[],he,sR,Ge,rfl,rfl,z3y rfl,by simp;omega,(m,false,out++[r.1],r.2),A7 _,
    ⟨i1,by dsimp only;omega,h6,by simp only[D2];unfold rem at i4⊢;omega,by dsimp only;omega,by simp only[D2,B5,Al,Az];omega⟩,⟨rfl,slq sI0,Gd⟩,⟨rwq (by rw[enc5]),rfl,Gd⟩,rfl,rfl,rfl,rfl⟩
theorem y60(T:List Tk)(hT:TkOk T)(hS:TkSz T)(hb:T.length<=1073741824):∀N,(∀M,M<=N->SCE T M)/\(∀M,M<=N->SCU T M)/\(∀M,M<=N->SCP T M)/\(∀M,M<=N->SCA T M)
 |0=>by
  refine⟨λM hM l d s h1 h2 hd h hm=>?_,λM hM d s hd h hm=>?_,λM hM d s hd h hm=>?_,λM hM d s hd h hm=>?_⟩<;>exact absurd hm (by unfold rem;omega)
 |N+1=>by
  obtain⟨iE,iU,iP,iA⟩:=y60 T hT hS hb N;refine⟨λM hM=>?_,λM hM=>?_,λM hM=>?_,λM hM=>?_⟩<;>rcases Ef N M with h|h
  ·rw[show M=N+1 by omega];exact y8k T hT hb N iE (iU N (Ae _))
  ·exact iE M h
  ·rw[show M=N+1 by omega];exact y69 T hT hb N (iE N (Ae _)) (iU N (Ae _)) (iP N (Ae _))
  ·exact iU M h
  ·rw[show M=N+1 by omega];exact y8l T hT hS hb N (iE N (Ae _)) (iA N (Ae _))
  ·exact iP M h
  ·rw[show M=N+1 by omega];exact y8i T hT hb N iE
  ·exact iA M h
theorem yv8(T:List Tk)(hT:TkOk T)(hS:TkSz T)(hb:T.length<=1073741824)(s:Ps)(h:s.at_<T.length):fE T 1 1 s (mE T s) :=
 (y60 T hT hS hb (big T)).1 (big T) (Ae _) 1 1 s dC0 dC0 ⟨by decide,by omega⟩ h (by unfold rem big;omega)
theorem sc_mArgs(T:List Tk)(hT:TkOk T)(hS:TkSz T)(hb:T.length<=1073741824)(s:Ps)(h:s.at_<T.length):fA T 2 s (z6w T (big T) 2 s) :=
 (y60 T hT hS hb (big T)).2.2.2 (big T) (Ae _) 2 s ⟨by decide,by omega⟩ h (by unfold rem big;omega)
section
def nilV:PV:=.val (.slice none 0 0)
theorem zt5{k t:Int}{nm:ByteArray}{p:PV}{a:List Ex}(h:exs a=p):SubI (.pv (.agg [vInt k,vInt t,vStr nm,p,nilV,nilV])) (.pv (stv (.mk k t nm a [] []))):=by subst h;exact sP (z0g _)
theorem yp9{k t:Int}{nm:ByteArray}{p:PV}{a:List Ex}{x:List St}(h:exs a=p):SubI (.pv (.agg [vInt k,vInt t,vStr nm,p,sts x,nilV])) (.pv (stv (.mk k t nm a x []))):=by subst h;exact sP (z0g _)
theorem stv_sub2{k t:Int}{nm:ByteArray}{p:PV}{a:List Ex}{x y:List St}(h:exs a=p):SubI (.pv (.agg [vInt k,vInt t,vStr nm,p,sts x,sts y])) (.pv (stv (.mk k t nm a x y))):=by subst h;exact sI
attribute [local irreducible] mE z6w
variable (T:List Tk) (hT:TkOk T) (hS:TkSz T) (hb:T.length<=1073741824)
include hT hS hb
theorem y1m(s:Ps)(h:s.at_<T.length):SC Tryz.prog 210 [.ptr 1 0] (psO T s) (λk=>k∈[]) (.pv (exs [(z1p T s).1])) (psO T (z1p T s).2):=by
 refine SC.vc tb {} [] Tryz.func210 rfl rfl ?_;have h1:=(z0a hT (w:=sRo)).lt h;unfold z1p;have he:=yv8 T hT hS hb _ h1;have h2:=(z59 hT (s:=z0p T sRo s)).lt h1;generalize mE T (z0p T sRo s)=r at he h2;exact⟨[],z1a T s h hb sRo,sR,Ge,rfl,[],he,sR,Ge,rfl,[],z1a T r.2 h2 hb sRc,sR,Ge,rfl,sE (Aa IV.pv (ex1 r.1).symm),rfl,Gd⟩
theorem sc_named(s:Ps)(h:s.at_<T.length):SC Tryz.prog 211 [.ptr 1 0] (psO T s) (λk=>k∈[]) (.pv (stv (z4u T s).1)) (psO T (z4u T s).2):=by
 refine SC.vc tb {} [] Tryz.func211 rfl rfl ?_;generalize hM:z4u T s=R;unfold z4u at hM;have hx:=z8b T s h hb 1;have fx:=z1w hT (k:=1) dC0 (s:=s);generalize z0n T 1 s=x at hx fx hM;have hl:=fx.lt h;have tx:∀w,SC Tryz.prog 82 [.ptr 1 0,.pv (.val (.string w))] (psO T x.2) (λk=>k∈[]) (iBool (if pIs T w x.2 then(true,x.2.next)else(false,x.2)).1) (psO T (if pIs T w x.2 then(true,x.2.next)else(false,x.2)).2):=λw=>z45 T x.2 hl hb w;refine⟨[],hx,sR,Ge,rfl,?_⟩
 cases p5:pIs T sRo x.2 with
 |true =>
  have t:=tx sRo;rw[p5]at t hM;have n1:=(z11 hT p5).lt hl;have ha:=sc_mArgs T hT hS hb x.2.next n1;rw[if_pos rfl]at hM;generalize z6w T (big T) 2 x.2.next=r at ha hM;subst hM
  exact⟨[],t,sR,Ge,rfl,[],ha,sR,Ge,rfl,zt5 (ex1 _),rfl,Gd⟩
 |false =>
 have t:=tx sRo;rw[p5]at t hM;rw[if_neg dC0]at hM;refine⟨[],t,sR,Ge,rfl,?_⟩
 cases p6:pIs T sSo x.2 with
 |true =>
  have t:=tx sSo;rw[p6]at t hM;have n1:=(z11 hT p6).lt hl;have he:=yv8 T hT hS hb x.2.next n1;have n2:=(z59 hT (s:=x.2.next)).lt n1;rw[if_pos rfl]at hM;generalize mE T x.2.next=r at he hM n2;have n3:=(z0a hT (w:=sSc)).lt n2;have n4:=(z0a hT (w:=sEq)).lt n3;have he2:=yv8 T hT hS hb _ n4;generalize mE T (z0p T sEq (z0p T sSc r.2))=r2 at he2 hM;subst hM
  exact⟨[],t,sR,Ge,rfl,[],he,sR,Ge,rfl,[],z1a T r.2 n2 hb sSc,sR,Ge,rfl,[],z1a T _ n3 hb sEq,sR,Ge,rfl,[],he2,sR,Ge,rfl,zt5 (ex2 _ _),rfl,Gd⟩
 |false =>
 have t:=tx sSo;rw[p6]at t hM;rw[if_neg dC0]at hM;have n4:=(z0a hT (w:=sEq)).lt hl;have he2:=yv8 T hT hS hb _ n4;generalize mE T (z0p T sEq x.2)=r2 at he2 hM;subst hM;exact⟨[],t,sR,Ge,rfl,[],z1a T _ hl hb sEq,sR,Ge,rfl,[],he2,sR,Ge,rfl,zt5 (ex1 _),rfl,Gd⟩
end
section
variable {T:List Tk}
theorem y24(k t:Int)(s:ByteArray)(a:List Ex)(x y:List St):sz (.mk k t s a x y)=1+xzL a+szL x+szL y:=by simp only[sz]
theorem szL_one(a:St):szL [a]=sz a:=by simp[szL]
theorem Fw.back{s s':Ps}(h:Fw T s s')(k:s'.over=false):s.over=false:=by
 cases e:s.over with
 |false=>rfl
 |true=>exact absurd (h.ov e) (by rw[k];decide)
theorem Go1.lt{s s':Ps}(h:Go1 s s')(k:s'.over=false):s.at_<s'.at_:=h.elim (λe=>absurd e (by rw[k];decide)) id
attribute [local irreducible] mE z6w
theorem let_sz(hT:TkOk T){s:Ps}(h:(mLet T s).2.over=false):sz (mLet T s).1+3*s.at_<=3*(mLet T s).2.at_:=by
 unfold mLet at h⊢;dsimp only at h⊢;have h1:=ys4 hT (z0p T sEq (z0n T 1 (z0t T s).2).2);have b1:=(z59 hT).back h;have b2:=(z0a hT (w:=sEq)).back b1;have b3:=(z1w hT (k:=1) dC0).back b2;have a1:=(z59 hT (s:=z0p T sEq (z0n T 1 (z0t T s).2).2)).at_;have a2:=zh7.lt b1;have a3:=z6v.lt b2;have a4:=zl1.lt b3;simp only[y24,z72,szL];omega
theorem named_sz(hT:TkOk T){s:Ps}(h:(z4u T s).2.over=false):sz (z4u T s).1+3*s.at_<=3*(z4u T s).2.at_:=by
 unfold z4u at h⊢;split at h
 ·rename_i h1;rw[if_pos h1];dsimp only at h⊢;have h2:=yl3 hT 2 (z0n T 1 s).2.next;have b1:=(z4n h1).1;have a1:=z6v.lt b1;rw[z0o]at h2;simp only[y24,z72,y2f,szL];omega
 rename_i h1;rw[if_neg h1];split at h
 ·rename_i h2;rw[if_pos h2];dsimp only at h⊢;have b1:=(z4n h2).1;have a1:=z6v.lt b1;have c1:=ys4 hT (z0n T 1 s).2.next;have d1:=(z59 hT (s:=(z0n T 1 s).2.next)).at_;rw[z0o]at c1 d1;generalize(mE T (z0n T 1 s).2.next)=e at h c1 d1⊢;have d2:=(z0a hT (w:=sSc) (s:=e.2)).at_;have d3:=(z0a hT (w:=sEq) (s:=z0p T sSc e.2)).at_;have c2:=ys4 hT (z0p T sEq (z0p T sSc e.2));have d4:=(z59 hT (s:=z0p T sEq (z0p T sSc e.2))).at_;simp only[y24,j5l,szL];omega
 ·rename_i h2;rw[if_neg h2];dsimp only at h⊢;have b1:=(z59 hT).back h;have b2:=(z0a hT (w:=sEq)).back b1;have a1:=z6v.lt b2;have a2:=zh7.lt b1;have c1:=ys4 hT (z0p T sEq (z0n T 1 s).2);have a3:=(z59 hT (s:=z0p T sEq (z0n T 1 s).2)).at_;simp only[y24,z72,szL];omega
theorem flat_sz(hT:TkOk T){s:Ps}(h:(z9m T s).2.over=false):sz (z9m T s).1+3*s.at_<=3*(z9m T s).2.at_:=by
 unfold z9m at h⊢;split at h
 ·rename_i h1;rw[if_pos h1];simp only[y24,xzL,szL,z0o];omega
 rename_i h1;rw[if_neg h1];split at h
 ·rename_i h1;rw[if_pos h1];simp only[y24,xzL,szL,z0o];omega
 rename_i h1;rw[if_neg h1];split at h
 ·rename_i h1;rw[if_pos h1];have c1:=ys4 hT s.next;have a1:=(z59 hT (s:=s.next)).at_;rw[z0o]at c1 a1;simp only[y24,z72,szL];omega
 rename_i h1;rw[if_neg h1];split at h
 ·rename_i h1;rw[if_pos h1];have c1:=y0k hT s.next;have a1:=(z2s hT (s:=s.next)).at_;rw[z0o]at c1 a1;simp only[y24,z72,szL];omega
 rename_i h1;rw[if_neg h1];exact named_sz hT h
theorem y22(d:Int)(s:Ps):(z3a d s).at_=s.at_:=by unfold z3a;split<;>rfl
theorem stmt_sz(hT:TkOk T)(N:Nat)(iB:∀d s,(z1t T N d s).2.over=false->szL (z1t T N d s).1+3*s.at_<=3*(z1t T N d s).2.at_)(d:Int)(s:Ps)(h:(z5n T (N+1) d s).2.over=false):sz (z5n T (N+1) d s).1+3*s.at_<=3*(z5n T (N+1) d s).2.at_:=by
 have e:=y22 d s;unfold z5n at h⊢;generalize z3a d s=s at e h⊢;rw[<- e];split at h
 ·rename_i h1;rw[if_pos h1];have b1:=(z0a hT (w:=z5h)).back h;have h2:=let_sz hT b1;have h3:=(z0a hT (w:=z5h) (s:=(mLet T s).2)).at_;dsimp only at h3⊢;omega
 rename_i h1;rw[if_neg h1];split at h
 ·rename_i h1;rw[if_pos h1];have c1:=y0k hT s.next;have a1:=(z2s hT (s:=s.next)).at_;rw[z0o]at c1 a1;split at h
  ·rename_i h2;rw[if_pos h2];have b2:=iB _ _ h;have b3:=iB _ _ (z4n h2).1;rw[z0o]at b2;simp only[y24,z72];omega
  ·rename_i h2;rw[if_neg h2];have b3:=iB _ _ h;simp only[y24,z72,szL];omega
 rename_i h1;rw[if_neg h1];split at h
 ·rename_i h1;rw[if_pos h1];have c1:=y0k hT s.next;have a1:=(z2s hT (s:=s.next)).at_;rw[z0o]at c1 a1;have b3:=iB _ _ h;simp only[y24,z72,szL];omega
 rename_i h1;rw[if_neg h1];have b1:=(z0a hT (w:=z5h)).back h;have h2:=flat_sz hT b1;have h3:=(z0a hT (w:=z5h) (s:=(z9m T s).2)).at_;dsimp only at h3⊢;omega
theorem yp7(hT:TkOk T):∀N,(∀d s,(z5n T N d s).2.over=false->sz (z5n T N d s).1+3*s.at_<=3*(z5n T N d s).2.at_)/\(∀d s,(z1t T N d s).2.over=false->szL (z1t T N d s).1+3*s.at_<=3*(z1t T N d s).2.at_) /\
 (∀d out s,(z75 T N d out s).2.over=false->szL (z75 T N d out s).1+3*s.at_<=szL out+3*(z75 T N d out s).2.at_)
 |0=>⟨λd s h=>absurd h (by simp[z5n,Ps.over,Ps.setBad]),λd s _=>by show 0+3*s.at_<=3*s.at_;omega,λd out s _=>by show szL out+3*s.at_<=szL out+3*s.at_;omega⟩
 |N+1=>by
  obtain⟨iS,iB,iL⟩:=yp7 hT N;refine⟨λd s h=>stmt_sz hT N iB d s h,λd s h=>?_,λd out s h=>?_⟩
  ·unfold z1t at h⊢;have h1:=iL d [] (z0p T sBo s) h;have h2:=(z0a hT (w:=sBo) (s:=s)).at_;simp only[szL]at h1;omega
  ·unfold z75 at h⊢;split at h
   ·rename_i h1;rw[if_pos h1];exact Ae _
   rename_i h1;rw[if_neg h1];split at h
   ·rename_i h1;rw[if_pos h1];simp only[z0o];omega
   rename_i h1;rw[if_neg h1];have b1:=((z5j hT N).2.2 _ _ _).back h;have h2:=iL _ _ _ h;have h3:=iS _ _ b1;rw[j4h,szL_one]at h2;omega
end
def fS(T:List Tk)(d:Int)(s:Ps)(r:St×Ps):Prop:=SC Tryz.prog 180 [.ptr 1 0,.pv (.val (.int .i64 d))] (psO T s) (λk=>k∈[]) (.pv (stv r.1)) (psO T r.2)
def fB(T:List Tk)(d:Int)(s:Ps)(r:List St×Ps):Prop:=SC Tryz.prog 131 [.ptr 1 0,.pv (.val (.int .i64 d))] (psO T s) (λk=>k∈[]) (.pv (sts r.1)) (psO T r.2)
def SCS(T:List Tk)(N:Nat):Prop:=∀(d:Int)(s:Ps),dOk T d s->s.at_<T.length->rem T s+5<=N->fS T d s (z5n T N d s)
def SCB(T:List Tk)(N:Nat):Prop:=∀(d:Int)(s:Ps),dOk T d s->s.at_<T.length->rem T s+8<=N->fB T d s (z1t T N d s)
theorem yp8{k t:Int}{nm:ByteArray}:SubI (.pv (.agg [vInt k,vInt t,vStr nm,nilV,nilV,nilV])) (.pv (stv (.mk k t nm [] [] []))):=sP (z0g _)
attribute [local irreducible] mE z6w z1p z4u
theorem y8v(T:List Tk)(hT:TkOk T)(hS:TkSz T)(hb:T.length<=1073741824)(N:Nat)(ihB:SCB T N):SCS T (N+1):=by
 intro d s hd h hm;refine SC.vc tb {} [] Tryz.func180 rfl rfl ?_;generalize hM:z5n T (N+1) d s=R;unfold z5n at hM;have ha1:=y22 d s;obtain⟨z,ez⟩:∃x,x=z3a d s:=⟨_,rfl⟩;rw[<- ez]at hM ha1;have hd1:dOk T d z:=hd.fw oM0;have hl:z.at_<T.length:=by rw[ha1];exact h
 have hm1:rem T z+5<=N+1:=by unfold rem at hm⊢;rw[ha1];exact hm
 refine z00 (λc1=>?_) λc1=>?_;have e:z=⟨s.at_,s.bad,true⟩:=by rw[ez];unfold z3a;rw[if_pos (Aq c1)];rfl
 rotate_left
 have e:z=⟨s.at_,s.bad,s.deep⟩:=by rw[ez];unfold z3a;rw[if_neg (Ap c1)]
 rotate_left
 all_goals
  have hpre:psO T z=psO T z:=rfl;clear ez c1;have tz:∀w,SC Tryz.prog 82 [.ptr 1 0,.pv (.val (.string w))] (psO T z) (λk=>k∈[]) (iBool (if pIs T w z then(true,z.next)else(false,z)).1) (psO T (if pIs T w z then(true,z.next)else(false,z)).2):=λw=>z45 T z hl hb w;have nx:∀{w},pIs T w z=true->z.next.at_<T.length/\rem T z.next+20<=rem T z/\dOk T (d+1) z.next:=λ{w} hp=>by
   have hn:=(z11 hT hp).lt hl;exact⟨hn,by unfold rem;rw[z0o]at hn⊢;omega,hd1.up (A7 _)⟩
  have letc:(pIs T sInt z||pIs T j2t z)=true->((mLet T z).1,z0p T z5h (mLet T z).2)=R:=λq=>by rw[if_pos q]at hM;exact hM
  have lx:=zn3 T hT z hl hb;have lf:=(z5k hT (s:=z)).lt hl;refine⟨[],yo4 T z hl sInt,sR,⟨by rw[e];rfl,Gd⟩,rfl,z00 (λq1=>?_) λq1=>⟨[],yo4 T z hl j2t,sR,Ge,rfl,z00 (λq2=>?_) λq2=>?_⟩⟩;have hM:=letc (by rw[q1];rfl)
  rotate_left
  have hM:=letc (by rw[q2];simp)
  rotate_right
  iterate 2
   unfold mLet at hM;generalize z0t T z=p at lx lf hM;have hx:=z8b T p.2 lf hb 1;have n1:=(z1w hT (k:=1) dC0 (s:=p.2)).lt lf;generalize z0n T 1 p.2=x at hx n1 hM;have n2:=(z0a hT (w:=sEq)).lt n1;have he:=yv8 T hT hS hb _ n2;have n3:=(z59 hT (s:=z0p T sEq x.2)).lt n2;generalize mE T (z0p T sEq x.2)=r at he n3 hM;subst hM;exact⟨[],lx,sR,Ge,rfl,[],hx,sR,Ge,rfl,[],z1a T _ n1 hb sEq,sR,Ge,rfl,[],he,sR,Ge,rfl,[],z1a T _ n3 hb z5h,sR,Ge,rfl,zt5 (ex1 _),rfl,Gd⟩
  clear letc lx lf;rw[q1,q2,if_neg dC0]at hM
  cases q3:pIs T sIf z with
  |true =>
   have t:=tz sIf;rw[q3]at t hM;rw[if_pos rfl]at hM;obtain⟨n1,n2,n3⟩:=nx q3;have hi:=y1m T hT hS hb z.next n1;have fi:=z2s hT (s:=z.next);generalize z1p T z.next=i at hi fi hM;have n4:=fi.lt n1;have n5:rem T i.2<=rem T z.next:=by have:=fi.at_;unfold rem;omega
   have n6:=n3.fw fi.at_;have hB:=ihB (d+1) i.2 n6 n4 oM0;have fb:=(z5j hT N).2.1 (d+1) i.2;generalize z1t T N (d+1) i.2=b at hB fb hM;have n7:=fb.lt n4;have n8:rem T b.2<=rem T i.2:=by have:=fb.at_;unfold rem;omega
   have te:=z45 T b.2 n7 hb sElse;unfold z8n at te
   cases q4:pIs T sElse b.2 with
   |true =>
    rw[q4]at te hM;rw[if_pos rfl]at hM;have m1:=(z11 hT q4).lt n7;have hB2:=ihB (d+1) b.2.next ((n6.fw fb.at_).fw (Fe _)) m1 (by unfold rem at *;rw[z0o]at *;omega);generalize z1t T N (d+1) b.2.next=b2 at hB2 hM;subst hM
    exact⟨[],t,sR,Ge,rfl,[],hi,sR,Ge,rfl,z01 rfl (by have:=n3.1;have:=n3.2;omega),[],hB,sR,Ge,rfl,[],te,sR,Ge,rfl,z01 rfl (by have:=n3.1;have:=n3.2;omega),[],hB2,sR,Ge,rfl,stv_sub2 rfl,rfl,Gd⟩
   |false =>
    rw[q4]at te hM;rw[if_neg dC0]at hM;subst hM
    exact⟨[],t,sR,Ge,rfl,[],hi,sR,Ge,rfl,z01 rfl (by have:=n3.1;have:=n3.2;omega),[],hB,sR,Ge,rfl,[],te,sR,Ge,rfl,yp9 rfl,rfl,Gd⟩
  |false =>
  have t:=tz sIf;rw[q3]at t hM;rw[if_neg dC0]at hM;refine⟨[],t,sR,Ge,rfl,?_⟩;clear t
  cases q5:pIs T yo0 z with
  |true =>
   have t:=tz yo0;rw[q5]at t hM;rw[if_pos rfl]at hM;obtain⟨n1,n2,n3⟩:=nx q5;have hi:=y1m T hT hS hb z.next n1;have fi:=z2s hT (s:=z.next);generalize z1p T z.next=i at hi fi hM;have n4:=fi.lt n1;have n5:rem T i.2<=rem T z.next:=by have:=fi.at_;unfold rem;omega
   have n6:=n3.fw fi.at_;have hB:=ihB (d+1) i.2 n6 n4 oM0;generalize z1t T N (d+1) i.2=b at hB hM;subst hM
   exact⟨[],t,sR,Ge,rfl,[],hi,sR,Ge,rfl,z01 rfl (by have:=n3.1;have:=n3.2;omega),[],hB,sR,Ge,rfl,yp9 rfl,rfl,Gd⟩
  |false =>
  have t:=tz yo0;rw[q5]at t hM;rw[if_neg dC0]at hM;refine⟨[],t,sR,Ge,rfl,?_⟩;clear t;unfold z9m at hM
  cases q6:pIs T yn7 z with
  |true =>
   have t:=tz yn7;rw[q6]at t hM;rw[if_pos rfl]at hM;obtain⟨n1,_,_⟩:=nx q6;subst hM
   exact⟨[],t,sR,Ge,rfl,[],z1a T _ n1 hb z5h,sR,Ge,rfl,yp8,rfl,Gd⟩
  |false =>
  have t:=tz yn7;rw[q6]at t hM;rw[if_neg dC0]at hM;refine⟨[],t,sR,Ge,rfl,?_⟩;clear t
  cases q7:pIs T zn2 z with
  |true =>
   have t:=tz zn2;rw[q7]at t hM;rw[if_pos rfl]at hM;obtain⟨n1,_,_⟩:=nx q7;subst hM
   exact⟨[],t,sR,Ge,rfl,[],z1a T _ n1 hb z5h,sR,Ge,rfl,yp8,rfl,Gd⟩
  |false =>
  have t:=tz zn2;rw[q7]at t hM;rw[if_neg dC0]at hM;refine⟨[],t,sR,Ge,rfl,?_⟩;clear t
  cases q8:pIs T y5x z with
  |true =>
   have t:=tz y5x;rw[q8]at t hM;rw[if_pos rfl]at hM;obtain⟨n1,_,_⟩:=nx q8;have he:=yv8 T hT hS hb _ n1;have n2:=(z59 hT (s:=z.next)).lt n1;generalize mE T z.next=r at he n2 hM;subst hM
   exact⟨[],t,sR,Ge,rfl,[],he,sR,Ge,rfl,[],z1a T _ n2 hb z5h,sR,Ge,rfl,zt5 (ex1 _),rfl,Gd⟩
  |false =>
  have t:=tz y5x;rw[q8]at t hM;rw[if_neg dC0]at hM;refine⟨[],t,sR,Ge,rfl,?_⟩;clear t
  cases q9:pIs T yn9 z with
  |true =>
   have t:=tz yn9;rw[q9]at t hM;rw[if_pos rfl]at hM;obtain⟨n1,_,_⟩:=nx q9;have hi:=y1m T hT hS hb z.next n1;have n2:=(z2s hT (s:=z.next)).lt n1;generalize z1p T z.next=i at hi n2 hM;subst hM
   exact⟨[],t,sR,Ge,rfl,[],hi,sR,Ge,rfl,[],z1a T _ n2 hb z5h,sR,Ge,rfl,zt5 rfl,rfl,Gd⟩
  |false =>
  have t:=tz yn9;rw[q9]at t hM;rw[if_neg dC0]at hM;have hn:=sc_named T hT hS hb z hl;have n2:=(yj5 hT (s:=z)).lt hl;generalize z4u T z=r at hn n2 hM;subst hM;exact⟨[],t,sR,Ge,rfl,[],hn,sR,Ge,rfl,[],z1a T _ n2 hb z5h,sR,Ge,rfl,sI,rfl,Gd⟩
def stRt:RT:=⟨149,6⟩
theorem enc6(out:List St)(x:St):(out++[x]).map St.enc=out.map St.enc++[[vInt x.kind,vInt x.ty,vStr x.name,exs x.args,sts x.thn,sts x.els]]:=by
 rw[Cl,B3,Cs,St.enc_eq]
theorem y5z(T:List Tk)(hT:TkOk T)(hb:T.length<=1073741824)(N:Nat)(ihS:∀M,M<=N->SCS T M):SCB T (N+1):=by
 intro d s hd h hm;refine SC.vc tb { gh:=[(2,[.grow 5 1001 149 6]),(5,[.fz 5 1001])] } [] Tryz.func131 rfl rfl ?_;have hf0:=z0a hT (w:=sBo) (s:=s);have hl0:=hf0.lt h;have hr0:rem T (z0p T sBo s)<=rem T s:=by have:=hf0.at_;unfold rem;omega
 generalize hM:z1t T (N+1) d s=R;unfold z1t at hM;refine⟨[],z1a T s h hb sBo,sR,Ge,rfl,Nat×List St×Ps,λa=>[(5,.sl 1001 (a.2.1.map St.enc).length)],λa=>[(1001,.row stRt (a.2.1.map St.enc)),(1,psB T a.2.2)],λa=>a.1,
  λa=>R=z75 T a.1 d a.2.1 a.2.2/\s.at_<=a.2.2.at_/\a.2.2.at_<T.length/\(a.2.2.over=true∨rem T a.2.2+6<=a.1)/\1<=a.1/\a.1<=N/\(a.2.1.length<=a.2.2.at_∨(a.2.2.over=true/\a.2.1.length<=a.2.2.at_+1)),[],(N,[],z0p T sBo s),
  ⟨hM.symm,hf0.at_,hl0,.inr (by dsimp only;omega),by dsimp only;omega,Ae _,.inl (Ab _)⟩,Ge,Gf,?_⟩
 rintro⟨n,out,z⟩ ⟨i1,i2,i3,i4,i5,i6,i7⟩;dsimp only at i1 i2 i3 i4 i5 i6 i7;obtain⟨m,rfl⟩:∃m,n=m+1:=⟨n-1,by omega⟩;rw[z75]at i1;have t:=z45 T z i3 hb sBc;unfold z8n at t;refine⟨[],z7d T z,sR,Ge,rfl,z00 (λo1=>?_) λo1=>?_⟩
 ·have o1:z.over=false:=by simpa using o1
  rw[if_neg (by rw[o1];decide)]at i1
  cases p2:pIs T sBc z with
  |true =>
   rw[p2]at t i1;rw[if_pos rfl]at i1;subst i1
   exact⟨[],t,sR,Ge,rfl,rfl,sI,rfl,Gd⟩
  |false =>
   rw[p2]at t i1;rw[if_neg dC0]at i1;have i4:rem T z+6<=m+1:=i4.resolve_left (by rw[o1];decide);have i7:out.length<=z.at_:=i7.resolve_right (λe=>by rw[o1]at e;cases e.1);have hs:=ihS m oM0 d z (hd.fw i2) i3 oM0;have hf:=(z5j hT m).1 d z;have hg:=go_stmt hT m (d:=d) (s:=z);generalize z5n T m d z=r at hs hf hg i1;have h5:=hf.at_;refine⟨[],t,sR,Ge,rfl,[],hs,sR,Ge,rfl,rfl,z3y rfl,by simp;omega,(m,out++[r.1],r.2),A7 _,⟨i1,by dsimp only;omega,hf.lt i3,?_,?_,by dsimp only;omega,?_⟩,⟨slq sI0,Gd⟩,⟨rwq (by rw[enc6]),rfl,Gd⟩,rfl,rfl,rfl,rfl⟩
   ·rcases hg with g|g
    ·exact .inl g
    ·exact .inr (by dsimp only;unfold rem at i4⊢;omega)
   ·dsimp only;unfold rem at i4;omega
   ·dsimp only;rw[B5];rcases hg with g|g
    ·exact .inr ⟨g,by show _+1<=_;omega⟩
    ·exact .inl (by show _+1<=_;omega)
 ·have o1:z.over=true:=by simpa using o1
  rw[if_pos o1]at i1;subst i1;exact⟨rfl,sI,rfl,Gd⟩
theorem yp1(T:List Tk)(hT:TkOk T)(hS:TkSz T)(hb:T.length<=1073741824):∀N,(∀M,M<=N->SCS T M)/\(∀M,M<=N->SCB T M)
 |0=>by
  refine⟨λM hM d s hd h hm=>?_,λM hM d s hd h hm=>?_⟩<;>exact absurd hm (by unfold rem;omega)
 |N+1=>by
  obtain⟨iS,iB⟩:=yp1 T hT hS hb N;refine⟨λM hM=>?_,λM hM=>?_⟩<;>rcases Ef N M with h|h
  ·rw[show M=N+1 by omega];exact y8v T hT hS hb N (iB N (Ae _))
  ·exact iS M h
  ·rw[show M=N+1 by omega];exact y5z T hT hb N iS
  ·exact iB M h
theorem j35(T:List Tk)(hT:TkOk T)(hS:TkSz T)(hb:T.length<=1073741824)(s:Ps)(h:s.at_<T.length):fB T 1 s (z1t T (big T) 1 s) :=
 (yp1 T hT hS hb (big T)).2 (big T) (Ae _) 1 s ⟨by decide,by omega⟩ h (by unfold rem big;omega)
def pmRt:RT:=⟨102,2⟩
def fuv(f:Fu):PV:=.agg f.enc
theorem j1z(out:List Pm)(x:Pm):(out++[x]).map Pm.enc=out.map Pm.enc++[[vStr x.name,vInt x.ty]]:=by rw[Cl];rfl
attribute [local irreducible] z1t
theorem ye4(T:List Tk)(hT:TkOk T)(hS:TkSz T)(hb:T.length<=1073741824)(t:Int)(name:ByteArray)(s:Ps)(h:s.at_<T.length) :
 SC Tryz.prog 85 [.ptr 1 0,.pv (.val (.int .i64 t)),.pv (.val (.string name))] (psO T s) (λk=>k∈[]) (.pv (fuv (z7a T t name s).1)) (psO T (z7a T t name s).2):=by
 refine SC.vc tb { gh:=[(4,[.growC 107 2 1001 102 2]),(9,[.fzC 107 2 1001])] } [] Tryz.func85 rfl rfl ?_;generalize hM:z7a T t name s=R;unfold z7a at hM;have h1:=(z0a hT (w:=sRo)).lt h;refine⟨[],z1a T s h hb sRo,sR,Ge,rfl,?_⟩;generalize z0p T sRo s=y at h1 hM;have hp:=(zk8 hT (s:=y)).lt h1;have hB:=j35 T hT hS hb _ hp;generalize hP:z7o T y=P at hp hB hM;unfold z7o at hP;generalize z1t T (big T) 1 P.2=B at hB hM;have tk:=z45 T y h1 hb sRc;unfold z8n at tk
 cases p1:pIs T sRc y with
 |true =>
  rw[p1]at tk hP;rw[if_pos rfl]at hP;subst hP;subst hM
  exact⟨[],tk,sR,Ge,rfl,[],hB,sR,Ge,rfl,sP (z0g _),rfl,Gd⟩
 |false =>
 rw[p1]at tk hP;rw[if_neg dC0]at hP;refine⟨[],tk,sR,Ge,rfl,?_⟩;generalize hL:zb2 T (big T) true [] y=L at hP;refine⟨Nat×Bool×List Pm×Ps,λa=>[(8,iBool a.2.1)],λa=>[(1001,.row pmRt (a.2.2.1.map Pm.enc)),(107,.box [.pv (vStr name),iInt t,.sl 1001 (a.2.2.1.map Pm.enc).length,.pv (.val (.slice none 0 0))]),(1,psB T a.2.2.2)],λa=>a.1,
  λa=>L=zb2 T a.1 a.2.1 a.2.2.1 a.2.2.2/\a.2.2.2.at_<T.length/\rem T a.2.2.2+(bif a.2.1 then 15 else 1)<=a.1/\a.2.2.1.length<=a.2.2.2.at_+(bif a.2.1 then 0 else 1),[],(big T,true,[],y),
  ⟨hL.symm,h1,by simp only[E4];unfold rem big;omega,Ab _⟩,Ge,Gg,?_⟩
 rintro⟨n,first,out,z⟩ ⟨i1,i3,i4,i6⟩;dsimp only at i1 i3 i4 i6;obtain⟨m,rfl⟩:∃m,n=m+1:=⟨n-1,by cases first<;>simp only[E4,D2]at i4<;>omega⟩;rw[zb2]at i1;have exit_:L=(out,z)->P=(out,z0p T sRc z):=λe=>by rw[<- hP,e]
 cases first with
 |true =>
  simp only[E4]at i4 i6;rw[show aGo T true z=z from rfl,Ba]at i1;refine⟨[],z7d T z,sR,Ge,rfl,z00 (λo1=>?_) λo1=>?_⟩
  ·have o1:z.over=false:=by simpa using o1
   rw[if_pos ⟨rfl,o1⟩]at i1;have lx:=zn3 T hT z i3 hb;have lf:=z5k hT (s:=z);generalize z0t T z=p at lx lf i1;have hx:=z8b T p.2 (lf.lt i3) hb 1;have fx:=z1w hT (k:=1) dC0 (s:=p.2);generalize z0n T 1 p.2=x at hx fx i1;have f1:=lf.at_;have f2:=fx.at_;exact⟨[],lx,sR,Ge,rfl,[],hx,sR,Ge,rfl,rfl,z3y rfl,by simp;omega,by simp,(m,false,out++[⟨x.1,p.1⟩],x.2),A7 _,
    ⟨i1,fx.lt (lf.lt i3),by simp only[D2];unfold rem at i4⊢;omega,by simp only[D2,B5,Al,Az];omega⟩,Ge,⟨rwq (by rw[j1z]),boq sI0,rfl,Gd⟩,rfl,rfl,rfl,rfl⟩
  ·have o1:z.over=true:=by simpa using o1
   rw[if_neg (λe=>by rw[o1]at e;cases e.2)]at i1;have e:=exit_ i1;subst e;subst hM
   exact⟨rfl,[],z1a T z i3 hb sRc,sR,Ge,rfl,[],hB,sR,Ge,rfl,sI,rfl,Gd⟩
 |false =>
  simp only[D2]at i4 i6;rw[C9]at i1;have tk:=z45 T z i3 hb zn1;unfold z8n at tk
  cases p2:pIs T zn1 z with
  |false =>
   rw[p2]at tk i1;rw[if_neg (λe=>by cases e.1),show aGo T false z=z by unfold aGo z8n;rw[p2];rfl]at i1;have e:=exit_ i1;subst e;subst hM
   exact⟨[],tk,sR,Ge,rfl,rfl,[],z1a T z i3 hb sRc,sR,Ge,rfl,[],hB,sR,Ge,rfl,sI,rfl,Gd⟩
  |true =>
   rw[p2]at tk i1;have hn:=(z11 hT p2).lt i3;have o1:z.next.over=false:=(z4n p2).1;rw[show aGo T false z=z.next by unfold aGo z8n;rw[p2];rfl,if_pos ⟨rfl,o1⟩]at i1;have lx:=zn3 T hT z.next hn hb;have lf:=z5k hT (s:=z.next);generalize z0t T z.next=p at lx lf i1;have hx:=z8b T p.2 (lf.lt hn) hb 1;have fx:=z1w hT (k:=1) dC0 (s:=p.2);generalize z0n T 1 p.2=x at hx fx i1;have f1:=lf.at_;have f2:=fx.at_;have f3:=fx.lt (lf.lt hn);rw[z0o]at f1 hn;refine⟨[],tk,sR,Ge,rfl,[],z7d T z.next,sR,Ge,rfl,z00 (λ_=>?_) λg=>by rw[o1]at g;cases g⟩;exact⟨[],lx,sR,Ge,rfl,[],hx,sR,Ge,rfl,rfl,z3y rfl,by simp;omega,by simp,(m,false,out++[⟨x.1,p.1⟩],x.2),A7 _,
    ⟨i1,f3,by simp only[D2];unfold rem at i4⊢;omega,by simp only[D2,B5,Al,Az];omega⟩,Ge,⟨rwq (by rw[j1z]),boq sI0,rfl,Gd⟩,rfl,rfl,rfl,rfl⟩
end Go.Proofs.YtjlaalpfpecikaaGreatDoor
