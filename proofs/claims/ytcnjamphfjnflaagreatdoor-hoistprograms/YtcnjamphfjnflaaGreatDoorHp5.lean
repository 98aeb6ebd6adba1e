/- PART 5 of 9 of a proof: see the last part. -/
import Derived.Test.YtcnjamphfjnflaaGreatDoorHp4
set_option maxRecDepth 20000
set_option maxHeartbeats 8000000
set_option linter.unusedSimpArgs false
set_option linter.unusedVariables false
set_option linter.unusedSectionVars false
namespace Go.Proofs.YtcnjamphfjnflaaGreatDoor
open Go
theorem zt9:∀{l:List Nd},l.length<=lsW l/\∀x∈l,ndW x<=lsW l
 |[]=>⟨Ac _,λx h=>by cases h⟩
 |y::r=>by
  obtain⟨h1,h2⟩:=@zt9 r;have h3:=z86 y;refine⟨by simp only[lsW,A1];omega,λx hx=>?_⟩;rcases Aj.1 hx with rfl|hx
  ·simp only[lsW];omega
  ·have:=h2 x hx;simp only[lsW];omega
theorem zl5(s:Rs):(z98 s).2.ar=s.ar:=by
 unfold z98;split
 ·rfl
 ·split<;>rfl
theorem sr_list0(u:Un)(D:Nat)(ihC:SRC u D)(ihL:SRL u D)(hA:∀d k a s r,z40 u d k a s=some r->r.2.ar.length=s.ar.length)(hAL:∀d l v s r,z1u u d l v s=some r->r.2.2.ar.length=s.ar.length)(hALo:∀d x v a s r,z3j u d x v a s=some r->r.2.2.ar.length=s.ar.length)(hAS:∀d x a s r,mSum u d x a s=some r->r.2.ar.length=s.ar.length)(d:Nat)(hd:d<=D)(l:List Nd)(v:List Int)(s:Rs)(r:Rres)(h:z1u u d l v { s with ar:=[] }=some r)(hb:lsW l<=34359738368):SC Tryz.prog 55 [.ptr 1001 0,.pv (z1p l),.sl 510 (v.map eInt).length] (rHV u { s with ar:=[] } v) (λ_=>False) (.pv (endv r.1)) (rHV u r.2.2 r.2.1):=by
 refine SC.sameR (SC.vc tb {} [] Tryz.func55 rfl rfl ?_) (λk _ h=>h.elim);have hll:=(@zt9 l).1;refine⟨Nat×Nat×List Int×Rs,λ(e,k,w,z)=>[(7,iInt k)],λ(e,k,w,z)=>[(1001,rBox u { z with ar:=[] }),(1002,rowI z.out),(510,rowI w)],λ(e,k,w,z)=>l.length-k,λ(e,k,w,z)=>e<=D/\k<=l.length/\w.length=v.length/\z1u u e (l.drop k) w { z with ar:=[] }=some r,[],(d,0,v,s),⟨hd,Ac _,rfl,h⟩,Ge,Gg,?_⟩;rintro⟨e,k,w,z⟩ ⟨he,hk,hw,hm⟩;refine z00 (λhc=>?_) λhc=>?_
 ·have hlt:=z0x (f:=Nd.enc) rfl hc;obtain⟨x,hx,_,hdr,hmem⟩:=z0o hlt;rw[hdr]at hm;have hxw:=(@zt9 l).2 x hmem;have hxe:=z86 x;obtain⟨e,rfl,hm2⟩:=z78 rfl hm;clear hm;have hSt:=yf7 u { z with ar:=[] };have har:=zl5 { z with ar:=[] };generalize z98 { z with ar:=[] }=p at hm2 hSt har;obtain⟨b,ins,ar,st,code,out,cost,fuel,spent⟩:=p;obtain rfl:ar=[]:=har;rcases hm2 with⟨hb0,rfl⟩|⟨hb0,a,r1,ha,hn,hm⟩
  ·obtain rfl:b=false:=hb0;exact⟨z06 hx,rfl,[],hSt,sR,Gf,rfl,sP z3x,rfl,rfl,rfl,Gd⟩
  ·obtain rfl:b=true:=hb0;have hOf:=sr_of w x.args a ha oM0;have hO:=z2z u ⟨ins,[],st,code,out,cost,fuel,spent⟩;obtain⟨kind,op,n,name,args,outs,params,kids⟩:=x;rcases(show kind=1∨kind=2∨kind=12∨kind=13∨kind=14∨kind=15∨kind=10∨kind=11∨(kind≠1/\kind≠2/\kind≠12/\kind≠13/\kind≠14/\kind≠15/\kind≠10/\kind≠11) by omega)with rfl|rfl|rfl|rfl|rfl|rfl|rfl|rfl|hkk
   ·obtain⟨o,w2,ho,hv2,rfl⟩:=z6i hn rfl;obtain⟨ho0,hol,rfl⟩:=z8n hv2;dsimp only at hm;generalize z10 ⟨ins,[],st,code,out,cost,fuel,spent⟩=ov at hm hO
    cases ov with
    |true =>
     cases hm
     exact⟨z06 hx,rfl,[],hSt,sR,Gf,rfl,[],hOf,SubA.cons (slE (by simp[hw])) sR,Ge,rfl,z02 (f:=eInt) ho,rfl,by simp[hw],by rw[hw]at hol;simpa using hol,by omega,o.toNat,0,_,by simp[hw],(Bz _).symm,z02 (f:=eInt) (A9 hol),Bf,[],hO,sR,Gf,rfl,sP z3x,rfl,rfl,rwq (by simp[eInt,By,Nd.n]),Gd⟩
    |false =>
     exact⟨z06 hx,rfl,[],hSt,sR,Gf,rfl,[],hOf,SubA.cons (slE (by simp[hw])) sR,Ge,rfl,z02 (f:=eInt) ho,rfl,by simp[hw],by rw[hw]at hol;simpa using hol,by omega,o.toNat,0,_,by simp[hw],(Bz _).symm,z02 (f:=eInt) (A9 hol),Bf,[],hO,sR,Gf,rfl,z01 rfl oM0,(e,k+1,w.set o.toNat n,⟨ins,[],st,code,out,cost,fuel,spent⟩),z03 hlt,⟨by omega,hlt,by simp[hw],hm⟩,Ge,⟨rfl,rfl,rwq (by simp[eInt,By,Nd.n]),Gd⟩,rfl,rfl,rfl,rfl⟩
   ·obtain⟨o,w2,ho,hv2,rfl⟩:=z6i hn rfl;obtain⟨ho0,hol,rfl⟩:=z8n hv2;dsimp only at hm;generalize z10 ⟨ins,[],st,code,out,cost,fuel,spent⟩=ov at hm hO
    cases ov with
    |true =>
     cases hm
     exact⟨z06 hx,rfl,[],hSt,sR,Gf,rfl,[],hOf,SubA.cons (slE (by simp[hw])) sR,Ge,rfl,z02 (f:=eInt) ho,rfl,by simp[hw],by rw[hw]at hol;simpa using hol,by omega,o.toNat,0,_,by simp[hw],(Bz _).symm,z02 (f:=eInt) (A9 hol),Bf,[],hO,sR,Gf,rfl,sP z3x,rfl,rfl,rwq (by simp[eInt,By,Nd.n]),Gd⟩
    |false =>
     exact⟨z06 hx,rfl,[],hSt,sR,Gf,rfl,[],hOf,SubA.cons (slE (by simp[hw])) sR,Ge,rfl,z02 (f:=eInt) ho,rfl,by simp[hw],by rw[hw]at hol;simpa using hol,by omega,o.toNat,0,_,by simp[hw],(Bz _).symm,z02 (f:=eInt) (A9 hol),Bf,[],hO,sR,Gf,rfl,z01 rfl oM0,(e,k+1,w.set o.toNat n,⟨ins,[],st,code,out,cost,fuel,spent⟩),z03 hlt,⟨by omega,hlt,by simp[hw],hm⟩,Ge,⟨rfl,rfl,rwq (by simp[eInt,By,Nd.n]),Gd⟩,rfl,rfl,rfl,rfl⟩
   ·obtain rfl:=z3e hn rfl;have hm3:=(if_pos (by simp[Nd.kind])).symm.trans hm
    cases hm3
    exact⟨z06 hx,rfl,[],hSt,sR,Gf,rfl,[],hOf,SubA.cons (slE (by simp[hw])) sR,Ge,rfl,sI,rfl,rfl,rfl,Gd⟩
   ·obtain rfl:=z3e hn rfl;have hm3:=(if_pos (by simp[Nd.kind])).symm.trans hm
    cases hm3
    exact⟨z06 hx,rfl,[],hSt,sR,Gf,rfl,[],hOf,SubA.cons (slE (by simp[hw])) sR,Ge,rfl,sI,rfl,rfl,rfl,Gd⟩
   ·obtain rfl:=z3e hn rfl;have hm3:=(if_pos (by simp[Nd.kind])).symm.trans hm
    cases hm3
    exact⟨z06 hx,rfl,[],hSt,sR,Gf,rfl,[],hOf,SubA.cons (slE (by simp[hw])) sR,Ge,rfl,sI,rfl,rfl,rfl,Gd⟩
   ·obtain rfl:=z3e hn rfl;have hm3:=(if_pos (by simp[Nd.kind])).symm.trans hm
    cases hm3
    exact⟨z06 hx,rfl,[],hSt,sR,Gf,rfl,[],hOf,SubA.cons (slE (by simp[hw])) sR,Ge,rfl,sI,rfl,rfl,rfl,Gd⟩
   ·obtain⟨a0,q0,r2,h1,h2,h3,h4⟩:=zd5 hn rfl;have hi:=z02 (f:=eInt) h1;have hkw:lsW q0<=34359738368:=by have:=z6q (Ae h2);dsimp only[Nd.kids]at this hxe;omega
    have hL:=ihL e oM0 _ _ _ _ h3 hkw sI0;have hl2:r2.2.1.length=w.length:=z6h h3;have hal:=hAL _ _ _ _ _ h3;obtain⟨⟨ek,el⟩,v3,ins',ar',st',code',out',cost',fuel',spent'⟩:=r2;obtain rfl:ar'=[]:=Aw hal;have hO2:=z2z u ⟨ins',[],st',code',out',cost',fuel',spent'⟩;clear hO;dsimp only at h4 hl2 hO2 hm;generalize hov:z10 ⟨ins',[],st',code',out',cost',fuel',spent'⟩=ov at h4 hO2;refine⟨z06 hx,rfl,[],hSt,sR,Gf,rfl,[],hOf,SubA.cons (slE (by simp[hw])) sR,Ge,rfl,hi,rfl,z00 (λhc0=>?_) λhc0=>?_⟩
    ·rw[show(a0 != 0)=true from hc0]at h2;have hkl:=z02 (f:=eKid) h2
     cases ov with
     |true =>
      cases h4
      rw[hov]at hm
      cases hm
      exact⟨hkl,rfl,[],hL,SubA.same (SubA.same (SubA.cons (slE (by simp[hw])) SubA.nil)),Gg,rfl,[],hO2,sR,Gf,rfl,[],hO2,sR,Gf,rfl,sI,rfl,rfl,rfl,Gd⟩
     |false =>
      refine⟨hkl,rfl,[],hL,SubA.same (SubA.same (SubA.cons (slE (by simp[hw])) SubA.nil)),Gg,rfl,[],hO2,sR,Gf,rfl,z00 (λh5=>?_) λh5=>?_⟩
      ·rw[show(ek==12)=true from h5]at h4;obtain⟨v4,h7,rfl⟩:=A7.1 h4;dsimp only at hm;rw[hov]at hm;exact⟨[],z9y _ _ _ _ h7,SubA.cons (slE (by simp[hl2,hw])) sR,Ge,rfl,[],hO2,sR,Gf,rfl,z01 rfl oM0,(e,k+1,v4,⟨ins',[],st',code',out',cost',fuel',spent'⟩),z03 hlt,⟨by omega,hlt,by rw[z3r h7,hl2,hw],hm⟩,Ge,Gg,rfl,rfl,rfl,rfl⟩
      ·rw[show(ek==12)=false from h5]at h4
       cases h4
       dsimp only at hm;rw[hov]at hm;refine⟨[],hO2,sR,Gf,rfl,z00 (λh6=>?_) λh6=>?_⟩
       ·rw[show(ek != 0)=true from h6]at hm
        cases hm
        exact⟨sI,rfl,rfl,rfl,Gd⟩
       ·rw[show(ek != 0)=false from h6]at hm;exact⟨z01 rfl oM0,(e,k+1,v3,⟨ins',[],st',code',out',cost',fuel',spent'⟩),z03 hlt,⟨by omega,hlt,by rw[hl2,hw],hm⟩,Ge,Gg,rfl,rfl,rfl,rfl⟩
    ·rw[show(a0 != 0)=false from hc0]at h2;have hkl:=z02 (f:=eKid) h2
     cases ov with
     |true =>
      cases h4
      rw[hov]at hm
      cases hm
      exact⟨hkl,rfl,[],hL,SubA.same (SubA.same (SubA.cons (slE (by simp[hw])) SubA.nil)),Gg,rfl,[],hO2,sR,Gf,rfl,[],hO2,sR,Gf,rfl,sI,rfl,rfl,rfl,Gd⟩
     |false =>
      refine⟨hkl,rfl,[],hL,SubA.same (SubA.same (SubA.cons (slE (by simp[hw])) SubA.nil)),Gg,rfl,[],hO2,sR,Gf,rfl,z00 (λh5=>?_) λh5=>?_⟩
      ·rw[show(ek==12)=true from h5]at h4;obtain⟨v4,h7,rfl⟩:=A7.1 h4;dsimp only at hm;rw[hov]at hm;exact⟨[],z9y _ _ _ _ h7,SubA.cons (slE (by simp[hl2,hw])) sR,Ge,rfl,[],hO2,sR,Gf,rfl,z01 rfl oM0,(e,k+1,v4,⟨ins',[],st',code',out',cost',fuel',spent'⟩),z03 hlt,⟨by omega,hlt,by rw[z3r h7,hl2,hw],hm⟩,Ge,Gg,rfl,rfl,rfl,rfl⟩
      ·rw[show(ek==12)=false from h5]at h4
       cases h4
       dsimp only at hm;rw[hov]at hm;refine⟨[],hO2,sR,Gf,rfl,z00 (λh6=>?_) λh6=>?_⟩
       ·rw[show(ek != 0)=true from h6]at hm
        cases hm
        exact⟨sI,rfl,rfl,rfl,Gd⟩
       ·rw[show(ek != 0)=false from h6]at hm;exact⟨z01 rfl oM0,(e,k+1,v3,⟨ins',[],st',code',out',cost',fuel',spent'⟩),z03 hlt,⟨by omega,hlt,by rw[hl2,hw],hm⟩,Ge,Gg,rfl,rfl,rfl,rfl⟩
   ·have h3:=z62 hn rfl;have hL:=sr_loop0 u D ihL hAL e oM0 _ oM0 _ _ ⟨ins,[],st,code,out,cost,fuel,spent⟩ _ h3;have hl2:r1.2.1.length=w.length:=(zh8 u e).2 _ _ _ _ _ h3;have hal:=hALo _ _ _ _ _ _ h3;obtain⟨⟨ek,el⟩,v3,ins',ar',st',code',out',cost',fuel',spent'⟩:=r1;obtain rfl:ar'=[]:=Aw hal;have hO2:=z2z u ⟨ins',[],st',code',out',cost',fuel',spent'⟩;clear hO;dsimp only at hl2 hO2 hm;generalize hov:z10 ⟨ins',[],st',code',out',cost',fuel',spent'⟩=ov at hm hO2
    cases ov with
    |true =>
     cases hm
     exact⟨z06 hx,rfl,[],hSt,sR,Gf,rfl,[],hOf,SubA.cons (slE (by simp[hw])) sR,Ge,rfl,[],hL,SubA.same (SubA.same (SubA.cons (slE (by simp[hw])) sR)),Gg,rfl,[],hO2,sR,Gf,rfl,sI,rfl,rfl,rfl,Gd⟩
    |false =>
     refine⟨z06 hx,rfl,[],hSt,sR,Gf,rfl,[],hOf,SubA.cons (slE (by simp[hw])) sR,Ge,rfl,[],hL,SubA.same (SubA.same (SubA.cons (slE (by simp[hw])) sR)),Gg,rfl,[],hO2,sR,Gf,rfl,z00 (λh6=>?_) λh6=>?_⟩
     ·rw[show(ek != 0)=true from h6]at hm
      cases hm
      exact⟨sI,rfl,rfl,rfl,Gd⟩
     ·rw[show(ek != 0)=false from h6]at hm;exact⟨z01 rfl oM0,(e,k+1,v3,⟨ins',[],st',code',out',cost',fuel',spent'⟩),z03 hlt,⟨by omega,hlt,by rw[hl2,hw],hm⟩,Ge,Gg,rfl,rfl,rfl,rfl⟩
   ·obtain⟨k1,k2,k12,k13,k14,k15,k10,k11⟩:=hkk;have ne:∀{i:Int},kind≠i->(kind==i)=false:=λh=>Aa.2 h;have no:∀{i:Int},kind≠i->(kind==i)=true->False:=λh e=>h (eq_of_beq e);obtain⟨r2,h1,h2⟩:=z7f hn (by simp only[Nd.kind,ne k1,ne k2];rfl) (by simp only[Nd.kind,ne k12,ne k13,ne k14,ne k15];rfl) (ne k10) (ne k11);have hS:=j3j u D ihC hA e oM0 _ a _ _ h1 sI0;have hal:=hAS _ _ _ _ _ h1;obtain⟨y,ins',ar',st',code',out',cost',fuel',spent'⟩:=r2;obtain rfl:ar'=[]:=Aw hal;have hO2:=z2z u ⟨ins',[],st',code',out',cost',fuel',spent'⟩;clear hO;dsimp only at h2 hO2;generalize hov:z10 ⟨ins',[],st',code',out',cost',fuel',spent'⟩=ov at h2 hO2;refine⟨z06 hx,rfl,[],hSt,sR,Gf,rfl,[],hOf,SubA.cons (slE (by simp[hw])) sR,Ge,rfl,z00 (λh=>(no k1 h).elim) λ_=>z00 (λh=>(no k2 h).elim) λ_=>z00 (λh=>(no k12 h).elim) λ_=>z00 (λh=>(no k13 h).elim) λ_=>z00 (λh=>(no k14 h).elim) λ_=>z00 (λh=>(no k15 h).elim) λ_=>z00 (λh=>(no k10 h).elim) λ_=>z00 (λh=>(no k11 h).elim) λ_=>?_⟩
    cases ov with
    |true =>
     cases h2
     dsimp only at hm;rw[hov]at hm
     cases hm
     exact⟨[],hS,sR,Gf,rfl,[],hO2,sR,Gf,rfl,[],hO2,sR,Gf,rfl,sP z3x,rfl,rfl,rfl,Gd⟩
    |false =>
     cases outs with
     |nil =>
      cases h2
      dsimp only at hm;rw[hov]at hm
      exact⟨[],hS,sR,Gf,rfl,[],hO2,sR,Gf,rfl,[],hO2,sR,Gf,rfl,z01 rfl oM0,(e,k+1,w,⟨ins',[],st',code',out',cost',fuel',spent'⟩),z03 hlt,⟨by omega,hlt,hw,hm⟩,Ge,Gg,rfl,rfl,rfl,rfl⟩
     |cons o os =>
      rw[if_pos (by simp[Nd.outs])]at h2;obtain⟨o',ho,h3⟩:=Ao.1 h2;obtain rfl:o=o':=C7 ho;obtain⟨w2,hv2,rfl⟩:=A7.1 h3;obtain⟨ho0,hol,rfl⟩:=z8n hv2;dsimp only at hm;rw[hov]at hm;exact⟨[],hS,sR,Gf,rfl,[],hO2,sR,Gf,rfl,z00 (λ_=>⟨at0 (a:=eInt o),rfl,by simp[hw],by rw[hw]at hol;simpa using hol,by omega,o.toNat,0,_,by simp[hw],(Bz _).symm,z02 (f:=eInt) (A9 hol),Bf,[],hO2,sR,Gf,rfl,z01 rfl oM0,(e,k+1,w.set o.toNat y,⟨ins',[],st',code',out',cost',fuel',spent'⟩),z03 hlt,⟨by omega,hlt,by simp[hw],hm⟩,Ge,⟨rfl,rfl,rwq (by simp[eInt,By]),Gd⟩,rfl,rfl,rfl,rfl⟩) λh=>absurd h (by simp[Nd.outs])⟩
 ·rw[Ad (z0y (f:=Nd.enc) rfl hc)]at hm;obtain rfl:=y3d hm;exact⟨sP z3x,rfl,rfl,rfl,Gd⟩
theorem sr_list1(u:Un)(D:Nat)(ihC:SRC u D)(ihL:SRL u D)(hA:∀d k a s r,z40 u d k a s=some r->r.2.ar.length=s.ar.length)(hAL:∀d l v s r,z1u u d l v s=some r->r.2.2.ar.length=s.ar.length)(hALo:∀d x v a s r,z3j u d x v a s=some r->r.2.2.ar.length=s.ar.length)(hAS:∀d x a s r,mSum u d x a s=some r->r.2.ar.length=s.ar.length)(d:Nat)(hd:d<=D)(l:List Nd)(v:List Int)(s:Rs)(row:List Int)(r:Rres)(h:z1u u d l v { s with ar:=[row] }=some r)(hb:lsW l<=34359738368):SC Tryz.prog 55 [.ptr 1001 0,.pv (z1p l),.sl 510 (v.map eInt).length] (rHV u { s with ar:=[row] } v) (λ_=>False) (.pv (endv r.1)) (rHV u r.2.2 r.2.1):=by
 refine SC.sameR (SC.vc tb {} [] Tryz.func55 rfl rfl ?_) (λk _ h=>h.elim);have hll:=(@zt9 l).1;refine⟨Nat×Nat×List Int×Rs×List Int,λ(e,k,w,z,q)=>[(7,iInt k)],λ(e,k,w,z,q)=>[(1001,rBox u { z with ar:=[q] }),(1002,rowI z.out),(510,rowI w),(1003,.box [.sl 1004 (q.map eInt).length]),(1004,rowI q)],λ(e,k,w,z,q)=>l.length-k,λ(e,k,w,z,q)=>e<=D/\k<=l.length/\w.length=v.length/\z1u u e (l.drop k) w { z with ar:=[q] }=some r,[],(d,0,v,s,row),⟨hd,Ac _,rfl,h⟩,Ge,Gj,?_⟩;rintro⟨e,k,w,z,q⟩ ⟨he,hk,hw,hm⟩;refine z00 (λhc=>?_) λhc=>?_
 ·have hlt:=z0x (f:=Nd.enc) rfl hc;obtain⟨x,hx,_,hdr,hmem⟩:=z0o hlt;rw[hdr]at hm;have hxw:=(@zt9 l).2 x hmem;have hxe:=z86 x;obtain⟨e,rfl,hm2⟩:=z78 rfl hm;clear hm;have hSt:=yf7 u { z with ar:=[q] };have har:=zl5 { z with ar:=[q] };generalize z98 { z with ar:=[q] }=p at hm2 hSt har;obtain⟨b,ins,ar,st,code,out,cost,fuel,spent⟩:=p;obtain rfl:ar=[q]:=har;rcases hm2 with⟨hb0,rfl⟩|⟨hb0,a,r1,ha,hn,hm⟩
  ·obtain rfl:b=false:=hb0;exact⟨z06 hx,rfl,[],hSt,sR,Gi,rfl,sP z3x,rfl,rfl,rfl,rfl,rfl,Gd⟩
  ·obtain rfl:b=true:=hb0;have hOf:=sr_of w x.args a ha oM0;have hO:=z2z u ⟨ins,[q],st,code,out,cost,fuel,spent⟩;obtain⟨kind,op,n,name,args,outs,params,kids⟩:=x;rcases(show kind=1∨kind=2∨kind=12∨kind=13∨kind=14∨kind=15∨kind=10∨kind=11∨(kind≠1/\kind≠2/\kind≠12/\kind≠13/\kind≠14/\kind≠15/\kind≠10/\kind≠11) by omega)with rfl|rfl|rfl|rfl|rfl|rfl|rfl|rfl|hkk
   ·obtain⟨o,w2,ho,hv2,rfl⟩:=z6i hn rfl;obtain⟨ho0,hol,rfl⟩:=z8n hv2;dsimp only at hm;generalize z10 ⟨ins,[q],st,code,out,cost,fuel,spent⟩=ov at hm hO
    cases ov with
    |true =>
     cases hm
     exact⟨z06 hx,rfl,[],hSt,sR,Gi,rfl,[],hOf,SubA.cons (slE (by simp[hw])) sR,Ge,rfl,z02 (f:=eInt) ho,rfl,by simp[hw],by rw[hw]at hol;simpa using hol,by omega,o.toNat,0,_,by simp[hw],(Bz _).symm,z02 (f:=eInt) (A9 hol),Bf,[],hO,sR,Gi,rfl,sP z3x,rfl,rfl,rwq (by simp[eInt,By,Nd.n]),rfl,rfl,Gd⟩
    |false =>
     exact⟨z06 hx,rfl,[],hSt,sR,Gi,rfl,[],hOf,SubA.cons (slE (by simp[hw])) sR,Ge,rfl,z02 (f:=eInt) ho,rfl,by simp[hw],by rw[hw]at hol;simpa using hol,by omega,o.toNat,0,_,by simp[hw],(Bz _).symm,z02 (f:=eInt) (A9 hol),Bf,[],hO,sR,Gi,rfl,z01 rfl oM0,(e,k+1,w.set o.toNat n,⟨ins,[q],st,code,out,cost,fuel,spent⟩,q),z03 hlt,⟨by omega,hlt,by simp[hw],hm⟩,Ge,⟨rfl,rfl,rwq (by simp[eInt,By,Nd.n]),rfl,rfl,Gd⟩,rfl,rfl,rfl,rfl⟩
   ·obtain⟨o,w2,ho,hv2,rfl⟩:=z6i hn rfl;obtain⟨ho0,hol,rfl⟩:=z8n hv2;dsimp only at hm;generalize z10 ⟨ins,[q],st,code,out,cost,fuel,spent⟩=ov at hm hO
    cases ov with
    |true =>
     cases hm
     exact⟨z06 hx,rfl,[],hSt,sR,Gi,rfl,[],hOf,SubA.cons (slE (by simp[hw])) sR,Ge,rfl,z02 (f:=eInt) ho,rfl,by simp[hw],by rw[hw]at hol;simpa using hol,by omega,o.toNat,0,_,by simp[hw],(Bz _).symm,z02 (f:=eInt) (A9 hol),Bf,[],hO,sR,Gi,rfl,sP z3x,rfl,rfl,rwq (by simp[eInt,By,Nd.n]),rfl,rfl,Gd⟩
    |false =>
     exact⟨z06 hx,rfl,[],hSt,sR,Gi,rfl,[],hOf,SubA.cons (slE (by simp[hw])) sR,Ge,rfl,z02 (f:=eInt) ho,rfl,by simp[hw],by rw[hw]at hol;simpa using hol,by omega,o.toNat,0,_,by simp[hw],(Bz _).symm,z02 (f:=eInt) (A9 hol),Bf,[],hO,sR,Gi,rfl,z01 rfl oM0,(e,k+1,w.set o.toNat n,⟨ins,[q],st,code,out,cost,fuel,spent⟩,q),z03 hlt,⟨by omega,hlt,by simp[hw],hm⟩,Ge,⟨rfl,rfl,rwq (by simp[eInt,By,Nd.n]),rfl,rfl,Gd⟩,rfl,rfl,rfl,rfl⟩
   ·obtain rfl:=z3e hn rfl;have hm3:=(if_pos (by simp[Nd.kind])).symm.trans hm
    cases hm3
    exact⟨z06 hx,rfl,[],hSt,sR,Gi,rfl,[],hOf,SubA.cons (slE (by simp[hw])) sR,Ge,rfl,sI,rfl,rfl,rfl,rfl,rfl,Gd⟩
   ·obtain rfl:=z3e hn rfl;have hm3:=(if_pos (by simp[Nd.kind])).symm.trans hm
    cases hm3
    exact⟨z06 hx,rfl,[],hSt,sR,Gi,rfl,[],hOf,SubA.cons (slE (by simp[hw])) sR,Ge,rfl,sI,rfl,rfl,rfl,rfl,rfl,Gd⟩
   ·obtain rfl:=z3e hn rfl;have hm3:=(if_pos (by simp[Nd.kind])).symm.trans hm
    cases hm3
    exact⟨z06 hx,rfl,[],hSt,sR,Gi,rfl,[],hOf,SubA.cons (slE (by simp[hw])) sR,Ge,rfl,sI,rfl,rfl,rfl,rfl,rfl,Gd⟩
   ·obtain rfl:=z3e hn rfl;have hm3:=(if_pos (by simp[Nd.kind])).symm.trans hm
    cases hm3
    exact⟨z06 hx,rfl,[],hSt,sR,Gi,rfl,[],hOf,SubA.cons (slE (by simp[hw])) sR,Ge,rfl,sI,rfl,rfl,rfl,rfl,rfl,Gd⟩
   ·obtain⟨a0,q0,r2,h1,h2,h3,h4⟩:=zd5 hn rfl;have hi:=z02 (f:=eInt) h1;have hkw:lsW q0<=34359738368:=by have:=z6q (Ae h2);dsimp only[Nd.kids]at this hxe;omega
    have hL:=ihL e oM0 _ _ _ _ h3 hkw sI0;have hl2:r2.2.1.length=w.length:=z6h h3;have hal:=hAL _ _ _ _ _ h3;obtain⟨⟨ek,el⟩,v3,ins',ar',st',code',out',cost',fuel',spent'⟩:=r2;obtain⟨q2,rfl⟩:∃q2,ar'=[q2]:=Ce.1 hal;have hO2:=z2z u ⟨ins',[q2],st',code',out',cost',fuel',spent'⟩;clear hO;dsimp only at h4 hl2 hO2 hm;generalize hov:z10 ⟨ins',[q2],st',code',out',cost',fuel',spent'⟩=ov at h4 hO2;refine⟨z06 hx,rfl,[],hSt,sR,Gi,rfl,[],hOf,SubA.cons (slE (by simp[hw])) sR,Ge,rfl,hi,rfl,z00 (λhc0=>?_) λhc0=>?_⟩
    ·rw[show(a0 != 0)=true from hc0]at h2;have hkl:=z02 (f:=eKid) h2
     cases ov with
     |true =>
      cases h4
      rw[hov]at hm
      cases hm
      exact⟨hkl,rfl,[],hL,SubA.same (SubA.same (SubA.cons (slE (by simp[hw])) SubA.nil)),Gj,rfl,[],hO2,sR,Gi,rfl,[],hO2,sR,Gi,rfl,sI,rfl,rfl,rfl,rfl,rfl,Gd⟩
     |false =>
      refine⟨hkl,rfl,[],hL,SubA.same (SubA.same (SubA.cons (slE (by simp[hw])) SubA.nil)),Gj,rfl,[],hO2,sR,Gi,rfl,z00 (λh5=>?_) λh5=>?_⟩
      ·rw[show(ek==12)=true from h5]at h4;obtain⟨v4,h7,rfl⟩:=A7.1 h4;dsimp only at hm;rw[hov]at hm;exact⟨[],z9y _ _ _ _ h7,SubA.cons (slE (by simp[hl2,hw])) sR,Ge,rfl,[],hO2,sR,Gi,rfl,z01 rfl oM0,(e,k+1,v4,⟨ins',[q2],st',code',out',cost',fuel',spent'⟩,q2),z03 hlt,⟨by omega,hlt,by rw[z3r h7,hl2,hw],hm⟩,Ge,Gj,rfl,rfl,rfl,rfl⟩
      ·rw[show(ek==12)=false from h5]at h4
       cases h4
       dsimp only at hm;rw[hov]at hm;refine⟨[],hO2,sR,Gi,rfl,z00 (λh6=>?_) λh6=>?_⟩
       ·rw[show(ek != 0)=true from h6]at hm
        cases hm
        exact⟨sI,rfl,rfl,rfl,rfl,rfl,Gd⟩
       ·rw[show(ek != 0)=false from h6]at hm;exact⟨z01 rfl oM0,(e,k+1,v3,⟨ins',[q2],st',code',out',cost',fuel',spent'⟩,q2),z03 hlt,⟨by omega,hlt,by rw[hl2,hw],hm⟩,Ge,Gj,rfl,rfl,rfl,rfl⟩
    ·rw[show(a0 != 0)=false from hc0]at h2;have hkl:=z02 (f:=eKid) h2
     cases ov with
     |true =>
      cases h4
      rw[hov]at hm
      cases hm
      exact⟨hkl,rfl,[],hL,SubA.same (SubA.same (SubA.cons (slE (by simp[hw])) SubA.nil)),Gj,rfl,[],hO2,sR,Gi,rfl,[],hO2,sR,Gi,rfl,sI,rfl,rfl,rfl,rfl,rfl,Gd⟩
     |false =>
      refine⟨hkl,rfl,[],hL,SubA.same (SubA.same (SubA.cons (slE (by simp[hw])) SubA.nil)),Gj,rfl,[],hO2,sR,Gi,rfl,z00 (λh5=>?_) λh5=>?_⟩
      ·rw[show(ek==12)=true from h5]at h4;obtain⟨v4,h7,rfl⟩:=A7.1 h4;dsimp only at hm;rw[hov]at hm;exact⟨[],z9y _ _ _ _ h7,SubA.cons (slE (by simp[hl2,hw])) sR,Ge,rfl,[],hO2,sR,Gi,rfl,z01 rfl oM0,(e,k+1,v4,⟨ins',[q2],st',code',out',cost',fuel',spent'⟩,q2),z03 hlt,⟨by omega,hlt,by rw[z3r h7,hl2,hw],hm⟩,Ge,Gj,rfl,rfl,rfl,rfl⟩
      ·rw[show(ek==12)=false from h5]at h4
       cases h4
       dsimp only at hm;rw[hov]at hm;refine⟨[],hO2,sR,Gi,rfl,z00 (λh6=>?_) λh6=>?_⟩
       ·rw[show(ek != 0)=true from h6]at hm
        cases hm
        exact⟨sI,rfl,rfl,rfl,rfl,rfl,Gd⟩
       ·rw[show(ek != 0)=false from h6]at hm;exact⟨z01 rfl oM0,(e,k+1,v3,⟨ins',[q2],st',code',out',cost',fuel',spent'⟩,q2),z03 hlt,⟨by omega,hlt,by rw[hl2,hw],hm⟩,Ge,Gj,rfl,rfl,rfl,rfl⟩
   ·have h3:=z62 hn rfl;have hL:=sr_loop1 u D ihL hAL e oM0 _ oM0 _ _ ⟨ins,[],st,code,out,cost,fuel,spent⟩ q _ h3;have hl2:r1.2.1.length=w.length:=(zh8 u e).2 _ _ _ _ _ h3;have hal:=hALo _ _ _ _ _ _ h3;obtain⟨⟨ek,el⟩,v3,ins',ar',st',code',out',cost',fuel',spent'⟩:=r1;obtain⟨q2,rfl⟩:∃q2,ar'=[q2]:=Ce.1 hal;have hO2:=z2z u ⟨ins',[q2],st',code',out',cost',fuel',spent'⟩;clear hO;dsimp only at hl2 hO2 hm;generalize hov:z10 ⟨ins',[q2],st',code',out',cost',fuel',spent'⟩=ov at hm hO2
    cases ov with
    |true =>
     cases hm
     exact⟨z06 hx,rfl,[],hSt,sR,Gi,rfl,[],hOf,SubA.cons (slE (by simp[hw])) sR,Ge,rfl,[],hL,SubA.same (SubA.same (SubA.cons (slE (by simp[hw])) sR)),Gj,rfl,[],hO2,sR,Gi,rfl,sI,rfl,rfl,rfl,rfl,rfl,Gd⟩
    |false =>
     refine⟨z06 hx,rfl,[],hSt,sR,Gi,rfl,[],hOf,SubA.cons (slE (by simp[hw])) sR,Ge,rfl,[],hL,SubA.same (SubA.same (SubA.cons (slE (by simp[hw])) sR)),Gj,rfl,[],hO2,sR,Gi,rfl,z00 (λh6=>?_) λh6=>?_⟩
     ·rw[show(ek != 0)=true from h6]at hm
      cases hm
      exact⟨sI,rfl,rfl,rfl,rfl,rfl,Gd⟩
     ·rw[show(ek != 0)=false from h6]at hm;exact⟨z01 rfl oM0,(e,k+1,v3,⟨ins',[q2],st',code',out',cost',fuel',spent'⟩,q2),z03 hlt,⟨by omega,hlt,by rw[hl2,hw],hm⟩,Ge,Gj,rfl,rfl,rfl,rfl⟩
   ·obtain⟨k1,k2,k12,k13,k14,k15,k10,k11⟩:=hkk;have ne:∀{i:Int},kind≠i->(kind==i)=false:=λh=>Aa.2 h;have no:∀{i:Int},kind≠i->(kind==i)=true->False:=λh e=>h (eq_of_beq e);obtain⟨r2,h1,h2⟩:=z7f hn (by simp only[Nd.kind,ne k1,ne k2];rfl) (by simp only[Nd.kind,ne k12,ne k13,ne k14,ne k15];rfl) (ne k10) (ne k11);have hS:=j3j u D ihC hA e oM0 _ a _ _ h1 sI0;have hal:=hAS _ _ _ _ _ h1;obtain⟨y,ins',ar',st',code',out',cost',fuel',spent'⟩:=r2;obtain⟨q2,rfl⟩:∃q2,ar'=[q2]:=Ce.1 hal;have hO2:=z2z u ⟨ins',[q2],st',code',out',cost',fuel',spent'⟩;clear hO;dsimp only at h2 hO2;generalize hov:z10 ⟨ins',[q2],st',code',out',cost',fuel',spent'⟩=ov at h2 hO2;refine⟨z06 hx,rfl,[],hSt,sR,Gi,rfl,[],hOf,SubA.cons (slE (by simp[hw])) sR,Ge,rfl,z00 (λh=>(no k1 h).elim) λ_=>z00 (λh=>(no k2 h).elim) λ_=>z00 (λh=>(no k12 h).elim) λ_=>z00 (λh=>(no k13 h).elim) λ_=>z00 (λh=>(no k14 h).elim) λ_=>z00 (λh=>(no k15 h).elim) λ_=>z00 (λh=>(no k10 h).elim) λ_=>z00 (λh=>(no k11 h).elim) λ_=>?_⟩
    cases ov with
    |true =>
     cases h2
     dsimp only at hm;rw[hov]at hm
     cases hm
     exact⟨[],hS,sR,Gi,rfl,[],hO2,sR,Gi,rfl,[],hO2,sR,Gi,rfl,sP z3x,rfl,rfl,rfl,rfl,rfl,Gd⟩
    |false =>
     cases outs with
     |nil =>
      cases h2
      dsimp only at hm;rw[hov]at hm
      exact⟨[],hS,sR,Gi,rfl,[],hO2,sR,Gi,rfl,[],hO2,sR,Gi,rfl,z01 rfl oM0,(e,k+1,w,⟨ins',[q2],st',code',out',cost',fuel',spent'⟩,q2),z03 hlt,⟨by omega,hlt,hw,hm⟩,Ge,Gj,rfl,rfl,rfl,rfl⟩
     |cons o os =>
      rw[if_pos (by simp[Nd.outs])]at h2;obtain⟨o',ho,h3⟩:=Ao.1 h2;obtain rfl:o=o':=C7 ho;obtain⟨w2,hv2,rfl⟩:=A7.1 h3;obtain⟨ho0,hol,rfl⟩:=z8n hv2;dsimp only at hm;rw[hov]at hm;exact⟨[],hS,sR,Gi,rfl,[],hO2,sR,Gi,rfl,z00 (λ_=>⟨at0 (a:=eInt o),rfl,by simp[hw],by rw[hw]at hol;simpa using hol,by omega,o.toNat,0,_,by simp[hw],(Bz _).symm,z02 (f:=eInt) (A9 hol),Bf,[],hO2,sR,Gi,rfl,z01 rfl oM0,(e,k+1,w.set o.toNat y,⟨ins',[q2],st',code',out',cost',fuel',spent'⟩,q2),z03 hlt,⟨by omega,hlt,by simp[hw],hm⟩,Ge,⟨rfl,rfl,rwq (by simp[eInt,By]),rfl,rfl,Gd⟩,rfl,rfl,rfl,rfl⟩) λh=>absurd h (by simp[Nd.outs])⟩
 ·rw[Ad (z0y (f:=Nd.enc) rfl hc)]at hm;obtain rfl:=y3d hm;exact⟨sP z3x,rfl,rfl,rfl,rfl,rfl,Gd⟩
theorem sr_list2(u:Un)(D:Nat)(ihC:SRC u D)(ihL:SRL u D)(hA:∀d k a s r,z40 u d k a s=some r->r.2.ar.length=s.ar.length)(hAL:∀d l v s r,z1u u d l v s=some r->r.2.2.ar.length=s.ar.length)(hALo:∀d x v a s r,z3j u d x v a s=some r->r.2.2.ar.length=s.ar.length)(hAS:∀d x a s r,mSum u d x a s=some r->r.2.ar.length=s.ar.length)(d:Nat)(hd:d<=D)(l:List Nd)(v:List Int)(s:Rs)(row row':List Int)(r:Rres)(h:z1u u d l v { s with ar:=[row,row'] }=some r)(hb:lsW l<=34359738368):SC Tryz.prog 55 [.ptr 1001 0,.pv (z1p l),.sl 510 (v.map eInt).length] (rHV u { s with ar:=[row,row'] } v) (λ_=>False) (.pv (endv r.1)) (rHV u r.2.2 r.2.1):=by
 refine SC.sameR (SC.vc tb {} [] Tryz.func55 rfl rfl ?_) (λk _ h=>h.elim);have hll:=(@zt9 l).1;refine⟨Nat×Nat×List Int×Rs×List Int×List Int,λ(e,k,w,z,q,q')=>[(7,iInt k)],λ(e,k,w,z,q,q')=>[(1001,rBox u { z with ar:=[q,q'] }),(1002,rowI z.out),(510,rowI w),(1013,.box [.sl 1004 (q.map eInt).length,.sl 1014 (q'.map eInt).length]),(1004,rowI q),(1014,rowI q')],λ(e,k,w,z,q,q')=>l.length-k,λ(e,k,w,z,q,q')=>e<=D/\k<=l.length/\w.length=v.length/\z1u u e (l.drop k) w { z with ar:=[q,q'] }=some r,[],(d,0,v,s,row,row'),⟨hd,Ac _,rfl,h⟩,Ge,Gk,?_⟩;rintro⟨e,k,w,z,q,q'⟩ ⟨he,hk,hw,hm⟩;refine z00 (λhc=>?_) λhc=>?_
 ·have hlt:=z0x (f:=Nd.enc) rfl hc;obtain⟨x,hx,_,hdr,hmem⟩:=z0o hlt;rw[hdr]at hm;have hxw:=(@zt9 l).2 x hmem;have hxe:=z86 x;obtain⟨e,rfl,hm2⟩:=z78 rfl hm;clear hm;have hSt:=yf7 u { z with ar:=[q,q'] };have har:=zl5 { z with ar:=[q,q'] };generalize z98 { z with ar:=[q,q'] }=p at hm2 hSt har;obtain⟨b,ins,ar,st,code,out,cost,fuel,spent⟩:=p;obtain rfl:ar=[q,q']:=har;rcases hm2 with⟨hb0,rfl⟩|⟨hb0,a,r1,ha,hn,hm⟩
  ·obtain rfl:b=false:=hb0;exact⟨z06 hx,rfl,[],hSt,sR,Gj,rfl,sP z3x,rfl,rfl,rfl,rfl,rfl,rfl,Gd⟩
  ·obtain rfl:b=true:=hb0;have hOf:=sr_of w x.args a ha oM0;have hO:=z2z u ⟨ins,[q,q'],st,code,out,cost,fuel,spent⟩;obtain⟨kind,op,n,name,args,outs,params,kids⟩:=x;rcases(show kind=1∨kind=2∨kind=12∨kind=13∨kind=14∨kind=15∨kind=10∨kind=11∨(kind≠1/\kind≠2/\kind≠12/\kind≠13/\kind≠14/\kind≠15/\kind≠10/\kind≠11) by omega)with rfl|rfl|rfl|rfl|rfl|rfl|rfl|rfl|hkk
   ·obtain⟨o,w2,ho,hv2,rfl⟩:=z6i hn rfl;obtain⟨ho0,hol,rfl⟩:=z8n hv2;dsimp only at hm;generalize z10 ⟨ins,[q,q'],st,code,out,cost,fuel,spent⟩=ov at hm hO
    cases ov with
    |true =>
     cases hm
     exact⟨z06 hx,rfl,[],hSt,sR,Gj,rfl,[],hOf,SubA.cons (slE (by simp[hw])) sR,Ge,rfl,z02 (f:=eInt) ho,rfl,by simp[hw],by rw[hw]at hol;simpa using hol,by omega,o.toNat,0,_,by simp[hw],(Bz _).symm,z02 (f:=eInt) (A9 hol),Bf,[],hO,sR,Gj,rfl,sP z3x,rfl,rfl,rwq (by simp[eInt,By,Nd.n]),rfl,rfl,rfl,Gd⟩
    |false =>
     exact⟨z06 hx,rfl,[],hSt,sR,Gj,rfl,[],hOf,SubA.cons (slE (by simp[hw])) sR,Ge,rfl,z02 (f:=eInt) ho,rfl,by simp[hw],by rw[hw]at hol;simpa using hol,by omega,o.toNat,0,_,by simp[hw],(Bz _).symm,z02 (f:=eInt) (A9 hol),Bf,[],hO,sR,Gj,rfl,z01 rfl oM0,(e,k+1,w.set o.toNat n,⟨ins,[q,q'],st,code,out,cost,fuel,spent⟩,q,q'),z03 hlt,⟨by omega,hlt,by simp[hw],hm⟩,Ge,⟨rfl,rfl,rwq (by simp[eInt,By,Nd.n]),rfl,rfl,rfl,Gd⟩,rfl,rfl,rfl,rfl⟩
   ·obtain⟨o,w2,ho,hv2,rfl⟩:=z6i hn rfl;obtain⟨ho0,hol,rfl⟩:=z8n hv2;dsimp only at hm;generalize z10 ⟨ins,[q,q'],st,code,out,cost,fuel,spent⟩=ov at hm hO
    cases ov with
    |true =>
     cases hm
     exact⟨z06 hx,rfl,[],hSt,sR,Gj,rfl,[],hOf,SubA.cons (slE (by simp[hw])) sR,Ge,rfl,z02 (f:=eInt) ho,rfl,by simp[hw],by rw[hw]at hol;simpa using hol,by omega,o.toNat,0,_,by simp[hw],(Bz _).symm,z02 (f:=eInt) (A9 hol),Bf,[],hO,sR,Gj,rfl,sP z3x,rfl,rfl,rwq (by simp[eInt,By,Nd.n]),rfl,rfl,rfl,Gd⟩
    |false =>
     exact⟨z06 hx,rfl,[],hSt,sR,Gj,rfl,[],hOf,SubA.cons (slE (by simp[hw])) sR,Ge,rfl,z02 (f:=eInt) ho,rfl,by simp[hw],by rw[hw]at hol;simpa using hol,by omega,o.toNat,0,_,by simp[hw],(Bz _).symm,z02 (f:=eInt) (A9 hol),Bf,[],hO,sR,Gj,rfl,z01 rfl oM0,(e,k+1,w.set o.toNat n,⟨ins,[q,q'],st,code,out,cost,fuel,spent⟩,q,q'),z03 hlt,⟨by omega,hlt,by simp[hw],hm⟩,Ge,⟨rfl,rfl,rwq (by simp[eInt,By,Nd.n]),rfl,rfl,rfl,Gd⟩,rfl,rfl,rfl,rfl⟩
   ·obtain rfl:=z3e hn rfl;have hm3:=(if_pos (by simp[Nd.kind])).symm.trans hm
    cases hm3
    exact⟨z06 hx,rfl,[],hSt,sR,Gj,rfl,[],hOf,SubA.cons (slE (by simp[hw])) sR,Ge,rfl,sI,rfl,rfl,rfl,rfl,rfl,rfl,Gd⟩
   ·obtain rfl:=z3e hn rfl;have hm3:=(if_pos (by simp[Nd.kind])).symm.trans hm
    cases hm3
    exact⟨z06 hx,rfl,[],hSt,sR,Gj,rfl,[],hOf,SubA.cons (slE (by simp[hw])) sR,Ge,rfl,sI,rfl,rfl,rfl,rfl,rfl,rfl,Gd⟩
   ·obtain rfl:=z3e hn rfl;have hm3:=(if_pos (by simp[Nd.kind])).symm.trans hm
    cases hm3
    exact⟨z06 hx,rfl,[],hSt,sR,Gj,rfl,[],hOf,SubA.cons (slE (by simp[hw])) sR,Ge,rfl,sI,rfl,rfl,rfl,rfl,rfl,rfl,Gd⟩
   ·obtain rfl:=z3e hn rfl;have hm3:=(if_pos (by simp[Nd.kind])).symm.trans hm
    cases hm3
    exact⟨z06 hx,rfl,[],hSt,sR,Gj,rfl,[],hOf,SubA.cons (slE (by simp[hw])) sR,Ge,rfl,sI,rfl,rfl,rfl,rfl,rfl,rfl,Gd⟩
   ·obtain⟨a0,q0,r2,h1,h2,h3,h4⟩:=zd5 hn rfl;have hi:=z02 (f:=eInt) h1;have hkw:lsW q0<=34359738368:=by have:=z6q (Ae h2);dsimp only[Nd.kids]at this hxe;omega
    have hL:=ihL e oM0 _ _ _ _ h3 hkw sI0;have hl2:r2.2.1.length=w.length:=z6h h3;have hal:=hAL _ _ _ _ _ h3;obtain⟨⟨ek,el⟩,v3,ins',ar',st',code',out',cost',fuel',spent'⟩:=r2;obtain⟨q2,q2',rfl⟩:=zq1 hal;have hO2:=z2z u ⟨ins',[q2,q2'],st',code',out',cost',fuel',spent'⟩;clear hO;dsimp only at h4 hl2 hO2 hm;generalize hov:z10 ⟨ins',[q2,q2'],st',code',out',cost',fuel',spent'⟩=ov at h4 hO2;refine⟨z06 hx,rfl,[],hSt,sR,Gj,rfl,[],hOf,SubA.cons (slE (by simp[hw])) sR,Ge,rfl,hi,rfl,z00 (λhc0=>?_) λhc0=>?_⟩
    ·rw[show(a0 != 0)=true from hc0]at h2;have hkl:=z02 (f:=eKid) h2
     cases ov with
     |true =>
      cases h4
      rw[hov]at hm
      cases hm
      exact⟨hkl,rfl,[],hL,SubA.same (SubA.same (SubA.cons (slE (by simp[hw])) SubA.nil)),Gk,rfl,[],hO2,sR,Gj,rfl,[],hO2,sR,Gj,rfl,sI,rfl,rfl,rfl,rfl,rfl,rfl,Gd⟩
     |false =>
      refine⟨hkl,rfl,[],hL,SubA.same (SubA.same (SubA.cons (slE (by simp[hw])) SubA.nil)),Gk,rfl,[],hO2,sR,Gj,rfl,z00 (λh5=>?_) λh5=>?_⟩
      ·rw[show(ek==12)=true from h5]at h4;obtain⟨v4,h7,rfl⟩:=A7.1 h4;dsimp only at hm;rw[hov]at hm;exact⟨[],z9y _ _ _ _ h7,SubA.cons (slE (by simp[hl2,hw])) sR,Ge,rfl,[],hO2,sR,Gj,rfl,z01 rfl oM0,(e,k+1,v4,⟨ins',[q2,q2'],st',code',out',cost',fuel',spent'⟩,q2,q2'),z03 hlt,⟨by omega,hlt,by rw[z3r h7,hl2,hw],hm⟩,Ge,Gk,rfl,rfl,rfl,rfl⟩
      ·rw[show(ek==12)=false from h5]at h4
       cases h4
       dsimp only at hm;rw[hov]at hm;refine⟨[],hO2,sR,Gj,rfl,z00 (λh6=>?_) λh6=>?_⟩
       ·rw[show(ek != 0)=true from h6]at hm
        cases hm
        exact⟨sI,rfl,rfl,rfl,rfl,rfl,rfl,Gd⟩
       ·rw[show(ek != 0)=false from h6]at hm;exact⟨z01 rfl oM0,(e,k+1,v3,⟨ins',[q2,q2'],st',code',out',cost',fuel',spent'⟩,q2,q2'),z03 hlt,⟨by omega,hlt,by rw[hl2,hw],hm⟩,Ge,Gk,rfl,rfl,rfl,rfl⟩
    ·rw[show(a0 != 0)=false from hc0]at h2;have hkl:=z02 (f:=eKid) h2
     cases ov with
     |true =>
      cases h4
      rw[hov]at hm
      cases hm
      exact⟨hkl,rfl,[],hL,SubA.same (SubA.same (SubA.cons (slE (by simp[hw])) SubA.nil)),Gk,rfl,[],hO2,sR,Gj,rfl,[],hO2,sR,Gj,rfl,sI,rfl,rfl,rfl,rfl,rfl,rfl,Gd⟩
     |false =>
      refine⟨hkl,rfl,[],hL,SubA.same (SubA.same (SubA.cons (slE (by simp[hw])) SubA.nil)),Gk,rfl,[],hO2,sR,Gj,rfl,z00 (λh5=>?_) λh5=>?_⟩
      ·rw[show(ek==12)=true from h5]at h4;obtain⟨v4,h7,rfl⟩:=A7.1 h4;dsimp only at hm;rw[hov]at hm;exact⟨[],z9y _ _ _ _ h7,SubA.cons (slE (by simp[hl2,hw])) sR,Ge,rfl,[],hO2,sR,Gj,rfl,z01 rfl oM0,(e,k+1,v4,⟨ins',[q2,q2'],st',code',out',cost',fuel',spent'⟩,q2,q2'),z03 hlt,⟨by omega,hlt,by rw[z3r h7,hl2,hw],hm⟩,Ge,Gk,rfl,rfl,rfl,rfl⟩
      ·rw[show(ek==12)=false from h5]at h4
       cases h4
       dsimp only at hm;rw[hov]at hm;refine⟨[],hO2,sR,Gj,rfl,z00 (λh6=>?_) λh6=>?_⟩
       ·rw[show(ek != 0)=true from h6]at hm
        cases hm
        exact⟨sI,rfl,rfl,rfl,rfl,rfl,rfl,Gd⟩
       ·rw[show(ek != 0)=false from h6]at hm;exact⟨z01 rfl oM0,(e,k+1,v3,⟨ins',[q2,q2'],st',code',out',cost',fuel',spent'⟩,q2,q2'),z03 hlt,⟨by omega,hlt,by rw[hl2,hw],hm⟩,Ge,Gk,rfl,rfl,rfl,rfl⟩
   ·have h3:=z62 hn rfl;have hL:=sr_loop2 u D ihL hAL e oM0 _ oM0 _ _ ⟨ins,[],st,code,out,cost,fuel,spent⟩ q q' _ h3;have hl2:r1.2.1.length=w.length:=(zh8 u e).2 _ _ _ _ _ h3;have hal:=hALo _ _ _ _ _ _ h3;obtain⟨⟨ek,el⟩,v3,ins',ar',st',code',out',cost',fuel',spent'⟩:=r1;obtain⟨q2,q2',rfl⟩:=zq1 hal;have hO2:=z2z u ⟨ins',[q2,q2'],st',code',out',cost',fuel',spent'⟩;clear hO;dsimp only at hl2 hO2 hm;generalize hov:z10 ⟨ins',[q2,q2'],st',code',out',cost',fuel',spent'⟩=ov at hm hO2
    cases ov with
    |true =>
     cases hm
     exact⟨z06 hx,rfl,[],hSt,sR,Gj,rfl,[],hOf,SubA.cons (slE (by simp[hw])) sR,Ge,rfl,[],hL,SubA.same (SubA.same (SubA.cons (slE (by simp[hw])) sR)),Gk,rfl,[],hO2,sR,Gj,rfl,sI,rfl,rfl,rfl,rfl,rfl,rfl,Gd⟩
    |false =>
     refine⟨z06 hx,rfl,[],hSt,sR,Gj,rfl,[],hOf,SubA.cons (slE (by simp[hw])) sR,Ge,rfl,[],hL,SubA.same (SubA.same (SubA.cons (slE (by simp[hw])) sR)),Gk,rfl,[],hO2,sR,Gj,rfl,z00 (λh6=>?_) λh6=>?_⟩
     ·rw[show(ek != 0)=true from h6]at hm
      cases hm
      exact⟨sI,rfl,rfl,rfl,rfl,rfl,rfl,Gd⟩
     ·rw[show(ek != 0)=false from h6]at hm;exact⟨z01 rfl oM0,(e,k+1,v3,⟨ins',[q2,q2'],st',code',out',cost',fuel',spent'⟩,q2,q2'),z03 hlt,⟨by omega,hlt,by rw[hl2,hw],hm⟩,Ge,Gk,rfl,rfl,rfl,rfl⟩
   ·obtain⟨k1,k2,k12,k13,k14,k15,k10,k11⟩:=hkk;have ne:∀{i:Int},kind≠i->(kind==i)=false:=λh=>Aa.2 h;have no:∀{i:Int},kind≠i->(kind==i)=true->False:=λh e=>h (eq_of_beq e);obtain⟨r2,h1,h2⟩:=z7f hn (by simp only[Nd.kind,ne k1,ne k2];rfl) (by simp only[Nd.kind,ne k12,ne k13,ne k14,ne k15];rfl) (ne k10) (ne k11);have hS:=j3j u D ihC hA e oM0 _ a _ _ h1 sI0;have hal:=hAS _ _ _ _ _ h1;obtain⟨y,ins',ar',st',code',out',cost',fuel',spent'⟩:=r2;obtain⟨q2,q2',rfl⟩:=zq1 hal;have hO2:=z2z u ⟨ins',[q2,q2'],st',code',out',cost',fuel',spent'⟩;clear hO;dsimp only at h2 hO2;generalize hov:z10 ⟨ins',[q2,q2'],st',code',out',cost',fuel',spent'⟩=ov at h2 hO2;refine⟨z06 hx,rfl,[],hSt,sR,Gj,rfl,[],hOf,SubA.cons (slE (by simp[hw])) sR,Ge,rfl,z00 (λh=>(no k1 h).elim) λ_=>z00 (λh=>(no k2 h).elim) λ_=>z00 (λh=>(no k12 h).elim) λ_=>z00 (λh=>(no k13 h).elim) λ_=>z00 (λh=>(no k14 h).elim) λ_=>z00 (λh=>(no k15 h).elim) λ_=>z00 (λh=>(no k10 h).elim) λ_=>z00 (λh=>(no k11 h).elim) λ_=>?_⟩
    cases ov with
    |true =>
     cases h2
     dsimp only at hm;rw[hov]at hm
     cases hm
     exact⟨[],hS,sR,Gj,rfl,[],hO2,sR,Gj,rfl,[],hO2,sR,Gj,rfl,sP z3x,rfl,rfl,rfl,rfl,rfl,rfl,Gd⟩
    |false =>
     cases outs with
     |nil =>
      cases h2
      dsimp only at hm;rw[hov]at hm
      exact⟨[],hS,sR,Gj,rfl,[],hO2,sR,Gj,rfl,[],hO2,sR,Gj,rfl,z01 rfl oM0,(e,k+1,w,⟨ins',[q2,q2'],st',code',out',cost',fuel',spent'⟩,q2,q2'),z03 hlt,⟨by omega,hlt,hw,hm⟩,Ge,Gk,rfl,rfl,rfl,rfl⟩
     |cons o os =>
      rw[if_pos (by simp[Nd.outs])]at h2;obtain⟨o',ho,h3⟩:=Ao.1 h2;obtain rfl:o=o':=C7 ho;obtain⟨w2,hv2,rfl⟩:=A7.1 h3;obtain⟨ho0,hol,rfl⟩:=z8n hv2;dsimp only at hm;rw[hov]at hm;exact⟨[],hS,sR,Gj,rfl,[],hO2,sR,Gj,rfl,z00 (λ_=>⟨at0 (a:=eInt o),rfl,by simp[hw],by rw[hw]at hol;simpa using hol,by omega,o.toNat,0,_,by simp[hw],(Bz _).symm,z02 (f:=eInt) (A9 hol),Bf,[],hO2,sR,Gj,rfl,z01 rfl oM0,(e,k+1,w.set o.toNat y,⟨ins',[q2,q2'],st',code',out',cost',fuel',spent'⟩,q2,q2'),z03 hlt,⟨by omega,hlt,by simp[hw],hm⟩,Ge,⟨rfl,rfl,rwq (by simp[eInt,By]),rfl,rfl,rfl,Gd⟩,rfl,rfl,rfl,rfl⟩) λh=>absurd h (by simp[Nd.outs])⟩
 ·rw[Ad (z0y (f:=Nd.enc) rfl hc)]at hm;obtain rfl:=y3d hm;exact⟨sP z3x,rfl,rfl,rfl,rfl,rfl,rfl,Gd⟩
theorem copyA{a:List Int}{i n:Nat}{x:Int}(hx:a[i]?=some x)(hn:a.length<=n):(a.take i++List.replicate (n-i) 0).set i x=a.take (i+1)++List.replicate (n-(i+1)) 0:=by
 have hi:i<a.length:=(A6.1 hx).1;have hl:(a.take i).length=i:=by rw[Dg];omega
 rw[Db _ _ oM0,hl,Nat.sub_self,show n-i=(n-(i+1))+1 by omega,Fb,Fh,List.take_add_one,hx];simp
theorem sr_call0(u:Un)(hub:∀f∈u.flows,lsW f.body<=34359738368)(D:Nat)(ihL:SRL u D)(hAL:∀d l v s r,z1u u d l v s=some r->r.2.2.ar.length=s.ar.length)(d:Nat)(hd:d<=D)(k:Int)(a:List Int)(s:Rs)(r:Int×Rs)(h:z40 u d k a { s with ar:=[] }=some r):SC Tryz.prog 31 [.ptr 1001 0,iInt k,.pv (ints a)] (rH u { s with ar:=[] }) (λ_=>False) (iInt r.1) (rH u r.2):=by
 refine SC.sameR (SC.vc tb { pb:=[107,110],ids:=[(22,510)] } [] Tryz.func31 rfl rfl ?_) (λk _ h=>h.elim);obtain⟨d1,f,r1,rfl,hk0,hf,hal0,hfl,hlist,rfl⟩:=z61 h;have hif:=z02 (f:=Fl.enc) hf;have hL:=ihL d1 oM0 _ _ _ _ hlist (hub f (Ae hf)) sI0;have hal:=hAL _ _ _ _ _ hlist;obtain⟨⟨ek,el⟩,v3,ins',ar',st',code',out',cost',fuel',spent'⟩:=r1;obtain rfl:ar'=[]:=Aw hal;have hO:=z2z u ⟨ins',[],st',code',out',cost',fuel',spent'⟩;dsimp only at hO⊢;generalize z10 ⟨ins',[],st',code',out',cost',fuel',spent'⟩=ov at hO;refine⟨hif,by omega,rfl,rfl,by simp;omega,Nat,λi=>[(9,iInt i)],λi=>[(510,rowI (a.take i++List.replicate (f.types.length-i) 0))],λi=>a.length-i,λi=>i<=a.length,[],0,Ac _,Ge,⟨rwq (by simp[eInt];exact .inr rfl),Gd⟩,?_⟩;intro i hi;refine z00 (λhc=>?_) λhc=>?_
 ·have hlt:=z0x (f:=eInt) rfl hc;obtain⟨x,hx,_,_,_⟩:=z0o hlt;have hvl:(a.take i++List.replicate (f.types.length-i) 0).length=f.types.length:=by simp;omega
  exact⟨z02 (f:=eInt) hx,rfl,by simp;omega,by simp;omega,rfl,i,0,_,by simp;omega,(Bz _).symm,z02 (f:=eInt) (A9 oM0),Bf,z01 rfl oM0,i+1,z03 hlt,hlt,Ge,⟨rwq (by rw[<- copyA hx oM0];simp[eInt,By]),Gd⟩,rfl,rfl,rfl,rfl⟩
 ·have hge:a.take i++List.replicate (f.types.length-i) 0=a++List.replicate (f.types.length-a.length) 0:=by
   have:=z0y (f:=eInt) rfl hc;obtain rfl:i=a.length:=by omega
   rw[E6]
  cases ov with
  |true=>exact⟨[],hL,SubA.same (SubA.same (SubA.cons (slE (by simp;omega)) sR)),⟨rfl,rfl,rwq (by rw[hge]),Gd⟩,rfl,[],hO,sR,Gf,rfl,sI,rfl,rfl,Gd⟩
  |false =>
   cases el with
   |nil=>exact⟨[],hL,SubA.same (SubA.same (SubA.cons (slE (by simp;omega)) sR)),⟨rfl,rfl,rwq (by rw[hge]),Gd⟩,rfl,[],hO,sR,Gf,rfl,sI,rfl,rfl,Gd⟩
   |cons y el=>exact⟨[],hL,SubA.same (SubA.same (SubA.cons (slE (by simp;omega)) sR)),⟨rfl,rfl,rwq (by rw[hge]),Gd⟩,rfl,[],hO,sR,Gf,rfl,at0 (a:=eInt y),rfl,sI,rfl,rfl,Gd⟩
theorem sr_call1(u:Un)(hub:∀f∈u.flows,lsW f.body<=34359738368)(D:Nat)(ihL:SRL u D)(hAL:∀d l v s r,z1u u d l v s=some r->r.2.2.ar.length=s.ar.length)(d:Nat)(hd:d<=D)(k:Int)(a:List Int)(s:Rs)(row:List Int)(r:Int×Rs)(h:z40 u d k a { s with ar:=[row] }=some r):SC Tryz.prog 31 [.ptr 1001 0,iInt k,.pv (ints a)] (rH u { s with ar:=[row] }) (λ_=>False) (iInt r.1) (rH u r.2):=by
 refine SC.sameR (SC.vc tb { pb:=[107,110],ids:=[(22,510)] } [] Tryz.func31 rfl rfl ?_) (λk _ h=>h.elim);obtain⟨d1,f,r1,rfl,hk0,hf,hal0,hfl,hlist,rfl⟩:=z61 h;have hif:=z02 (f:=Fl.enc) hf;have hL:=ihL d1 oM0 _ _ _ _ hlist (hub f (Ae hf)) sI0;have hal:=hAL _ _ _ _ _ hlist;obtain⟨⟨ek,el⟩,v3,ins',ar',st',code',out',cost',fuel',spent'⟩:=r1;obtain⟨q2,rfl⟩:∃q2,ar'=[q2]:=Ce.1 hal;have hO:=z2z u ⟨ins',[q2],st',code',out',cost',fuel',spent'⟩;dsimp only at hO⊢;generalize z10 ⟨ins',[q2],st',code',out',cost',fuel',spent'⟩=ov at hO;refine⟨hif,by omega,rfl,rfl,by simp;omega,Nat,λi=>[(9,iInt i)],λi=>[(510,rowI (a.take i++List.replicate (f.types.length-i) 0))],λi=>a.length-i,λi=>i<=a.length,[],0,Ac _,Ge,⟨rwq (by simp[eInt];exact .inr rfl),Gd⟩,?_⟩;intro i hi;refine z00 (λhc=>?_) λhc=>?_
 ·have hlt:=z0x (f:=eInt) rfl hc;obtain⟨x,hx,_,_,_⟩:=z0o hlt;have hvl:(a.take i++List.replicate (f.types.length-i) 0).length=f.types.length:=by simp;omega
  exact⟨z02 (f:=eInt) hx,rfl,by simp;omega,by simp;omega,rfl,i,0,_,by simp;omega,(Bz _).symm,z02 (f:=eInt) (A9 oM0),Bf,z01 rfl oM0,i+1,z03 hlt,hlt,Ge,⟨rwq (by rw[<- copyA hx oM0];simp[eInt,By]),Gd⟩,rfl,rfl,rfl,rfl⟩
 ·have hge:a.take i++List.replicate (f.types.length-i) 0=a++List.replicate (f.types.length-a.length) 0:=by
   have:=z0y (f:=eInt) rfl hc;obtain rfl:i=a.length:=by omega
   rw[E6]
  cases ov with
  |true=>exact⟨[],hL,SubA.same (SubA.same (SubA.cons (slE (by simp;omega)) sR)),⟨rfl,rfl,rwq (by rw[hge]),rfl,rfl,Gd⟩,rfl,[],hO,sR,Gi,rfl,sI,rfl,rfl,rfl,rfl,Gd⟩
  |false =>
   cases el with
   |nil=>exact⟨[],hL,SubA.same (SubA.same (SubA.cons (slE (by simp;omega)) sR)),⟨rfl,rfl,rwq (by rw[hge]),rfl,rfl,Gd⟩,rfl,[],hO,sR,Gi,rfl,sI,rfl,rfl,rfl,rfl,Gd⟩
   |cons y el=>exact⟨[],hL,SubA.same (SubA.same (SubA.cons (slE (by simp;omega)) sR)),⟨rfl,rfl,rwq (by rw[hge]),rfl,rfl,Gd⟩,rfl,[],hO,sR,Gi,rfl,at0 (a:=eInt y),rfl,sI,rfl,rfl,rfl,rfl,Gd⟩
theorem sr_call2(u:Un)(hub:∀f∈u.flows,lsW f.body<=34359738368)(D:Nat)(ihL:SRL u D)(hAL:∀d l v s r,z1u u d l v s=some r->r.2.2.ar.length=s.ar.length)(d:Nat)(hd:d<=D)(k:Int)(a:List Int)(s:Rs)(row row':List Int)(r:Int×Rs)(h:z40 u d k a { s with ar:=[row,row'] }=some r):SC Tryz.prog 31 [.ptr 1001 0,iInt k,.pv (ints a)] (rH u { s with ar:=[row,row'] }) (λ_=>False) (iInt r.1) (rH u r.2):=by
 refine SC.sameR (SC.vc tb { pb:=[107,110],ids:=[(22,510)] } [] Tryz.func31 rfl rfl ?_) (λk _ h=>h.elim);obtain⟨d1,f,r1,rfl,hk0,hf,hal0,hfl,hlist,rfl⟩:=z61 h;have hif:=z02 (f:=Fl.enc) hf;have hL:=ihL d1 oM0 _ _ _ _ hlist (hub f (Ae hf)) sI0;have hal:=hAL _ _ _ _ _ hlist;obtain⟨⟨ek,el⟩,v3,ins',ar',st',code',out',cost',fuel',spent'⟩:=r1;obtain⟨q2,q2',rfl⟩:=zq1 hal;have hO:=z2z u ⟨ins',[q2,q2'],st',code',out',cost',fuel',spent'⟩;dsimp only at hO⊢;generalize z10 ⟨ins',[q2,q2'],st',code',out',cost',fuel',spent'⟩=ov at hO;refine⟨hif,by omega,rfl,rfl,by simp;omega,Nat,λi=>[(9,iInt i)],λi=>[(510,rowI (a.take i++List.replicate (f.types.length-i) 0))],λi=>a.length-i,λi=>i<=a.length,[],0,Ac _,Ge,⟨rwq (by simp[eInt];exact .inr rfl),Gd⟩,?_⟩;intro i hi;refine z00 (λhc=>?_) λhc=>?_
 ·have hlt:=z0x (f:=eInt) rfl hc;obtain⟨x,hx,_,_,_⟩:=z0o hlt;have hvl:(a.take i++List.replicate (f.types.length-i) 0).length=f.types.length:=by simp;omega
  exact⟨z02 (f:=eInt) hx,rfl,by simp;omega,by simp;omega,rfl,i,0,_,by simp;omega,(Bz _).symm,z02 (f:=eInt) (A9 oM0),Bf,z01 rfl oM0,i+1,z03 hlt,hlt,Ge,⟨rwq (by rw[<- copyA hx oM0];simp[eInt,By]),Gd⟩,rfl,rfl,rfl,rfl⟩
 ·have hge:a.take i++List.replicate (f.types.length-i) 0=a++List.replicate (f.types.length-a.length) 0:=by
   have:=z0y (f:=eInt) rfl hc;obtain rfl:i=a.length:=by omega
   rw[E6]
  cases ov with
  |true=>exact⟨[],hL,SubA.same (SubA.same (SubA.cons (slE (by simp;omega)) sR)),⟨rfl,rfl,rwq (by rw[hge]),rfl,rfl,rfl,Gd⟩,rfl,[],hO,sR,Gj,rfl,sI,rfl,rfl,rfl,rfl,rfl,Gd⟩
  |false =>
   cases el with
   |nil=>exact⟨[],hL,SubA.same (SubA.same (SubA.cons (slE (by simp;omega)) sR)),⟨rfl,rfl,rwq (by rw[hge]),rfl,rfl,rfl,Gd⟩,rfl,[],hO,sR,Gj,rfl,sI,rfl,rfl,rfl,rfl,rfl,Gd⟩
   |cons y el=>exact⟨[],hL,SubA.same (SubA.same (SubA.cons (slE (by simp;omega)) sR)),⟨rfl,rfl,rwq (by rw[hge]),rfl,rfl,rfl,Gd⟩,rfl,[],hO,sR,Gj,rfl,at0 (a:=eInt y),rfl,sI,rfl,rfl,rfl,rfl,rfl,Gd⟩
theorem z4z(u:Un)(f:Fl)(set:List Bool)(l want:List Int)(hs:set.length=f.types.length):SC Tryz.prog 135 [.ptr 3 0,.pv (ints l),.pv (ints want)] (ckHp u f 4 set) (λk=>k=3) (iBool (z1s f.types set l want).1) (ckHp u f 4 (z1s f.types set l want).2):=by
 refine SC.sameR (SC.vc tb { gh:=[(0,[.len 1])] } [3] Tryz.func135 rfl rfl ?_) λk _ h=>An.2 h;intro hl;simp only[A8]at hl;refine z00 (λh1=>?_) λh1=>?_
 ·have e:((l.length:Int)==want.length)=false:=by simpa using h1
  rw[show z1s f.types set l want=(false,set) by unfold z1s;rw[e];rfl];exact⟨sI,rfl,rfl,Gd⟩
 ·have e:((l.length:Int)==want.length)=true:=by simpa using h1
  have hlw:l.length=want.length:=by
   have:=eq_of_beq e;omega
  rw[show z1s f.types set l want=z2h f.types set l want by unfold z1s;rw[e];rfl];refine⟨Nat×List Bool,λ(k,_)=>[(7,iInt k)],λ(_,S)=>[(4,.row ⟨4,1⟩ (S.map zf0))],λ(k,_)=>l.length-k,λ(k,S)=>k<=l.length/\S.length=set.length/\z2h f.types set l want=z2h f.types S (l.drop k) (want.drop k),[],(0,set),⟨Ac _,rfl,rfl⟩,Ge,Ge,?_⟩;rintro⟨k,S⟩ ⟨hk,hS,hI⟩;have ln:(S.map zf0).length=(set.map zf0).length:=by rw[A8,A8,hS]
  rw[hI];have bx:∀{n m:Nat},n=m->some (HO.box (y4l u f n))=some (HO.box (y4l u f m)):=λh=>by rw[h]
  refine z00 (λhc=>?_) λhc=>?_
  ·have hlt:=z0x (f:=eInt) rfl hc;obtain⟨v,hv,_,hd,_⟩:=z0o hlt;obtain⟨w,hw,_,hd2,_⟩:=z0o (show k<want.length by omega);have iv:=z02 (f:=eInt) hv;have iw:=z02 (f:=eInt) hw;rw[hd,hd2,show z2h f.types S (v::l.drop (k+1)) (w::want.drop (k+1))=if z99 f.types S v w then(false,S)else z2h f.types (S.set v.toNat true) (l.drop (k+1)) (want.drop (k+1))from rfl];refine⟨iv,rfl,z00 (λh2=>?_) λh2=>⟨iv,rfl,z00 (λh3=>?_) λh3=>?_⟩⟩
   ·rw[if_pos (show z99 f.types S v w=true by unfold z99;rw[show decide (v<0)=true from h2];rfl)];exact⟨sI,bx ln.symm,rfl,Gd⟩
   ·have e3:decide (v≥f.types.length)=true:=by simpa using h3
    rw[if_pos (show z99 f.types S v w=true by unfold z99;rw[e3];simp)];exact⟨sI,bx ln.symm,rfl,Gd⟩
   ·have e2:decide (v<0)=false:=h2;have e3:decide (v≥f.types.length)=false:=by simpa using h3
    have v0:0<=v:=by simpa using h2
    have v1:v.toNat<f.types.length:=by
     have:¬v≥f.types.length:=by simpa using e3
     omega
    have it:(f.types.map eInt)[v.toNat]?=some (eInt (f.types.getD v.toNat 0)):=z02 (f:=eInt) (by rw[Ay,A9 v1];rfl);have iS:(S.map zf0)[v.toNat]?=some (zf0 (S.getD v.toNat false)):=z02 (f:=zf0) (by rw[Ay,A9 oM0];rfl);have vlt:v.toNat<(set.map zf0).length:=by rw[A8];omega
    have vv:v=(v.toNat:Int):=by omega
    refine⟨iv,rfl,ln,vlt,vv,?_⟩
    cases h4:S.getD v.toNat false with
    |true =>
     rw[if_pos (show z99 f.types S v w=true by unfold z99;rw[h4];simp)];rw[h4]at iS
     exact VRow.mk (i:=v.toNat) (j:=0) ln rfl iS rfl ⟨sI,bx ln.symm,rfl,Gd⟩
    |false =>
     rw[h4]at iS;refine VRow.mk (i:=v.toNat) (j:=0) ln rfl iS rfl ⟨iw,rfl,z00 (λh5=>⟨iv,rfl,it,by omega,iw,rfl,z00 (λh6=>?_) λh6=>?_⟩) λh5=>?_⟩
     ·have e5:(w != 0)=true:=h5;have e6:(f.types.getD v.toNat 0 != w)=true:=h6;rw[if_pos (show z99 f.types S v w=true by unfold z99;rw[e5,e6];simp)];exact⟨sI,bx ln.symm,rfl,Gd⟩
     ·have e6:(f.types.getD v.toNat 0 != w)=false:=h6;have ok:z99 f.types S v w=false:=by unfold z99;rw[e2,e3,h4,e6,Cy];rfl
      rw[if_neg (by rw[ok];exact Bool.false_ne_true)];exact⟨iv,rfl,ln,vlt,vv,⟨v.toNat,0,zf0 false,ln,rfl,iS,by decide,z01 rfl oM0,(k+1,S.set v.toNat true),z03 hlt,⟨hlt,by rw[Dn,hS],rfl⟩,Ge,⟨by rw[By];rfl,Gd⟩,rfl,rfl,rfl,rfl⟩⟩
     ·have e5:(w != 0)=false:=h5;have ok:z99 f.types S v w=false:=by unfold z99;rw[e2,e3,h4,e5,Cz];rfl
      rw[if_neg (by rw[ok];exact Bool.false_ne_true)];exact⟨iv,rfl,ln,vlt,vv,⟨v.toNat,0,zf0 false,ln,rfl,iS,by decide,z01 rfl oM0,(k+1,S.set v.toNat true),z03 hlt,⟨hlt,by rw[Dn,hS],rfl⟩,Ge,⟨by rw[By];rfl,Gd⟩,rfl,rfl,rfl,rfl⟩⟩
  ·rw[Ad (z0y (f:=eInt) rfl hc)];exact⟨sI,bx ln.symm,rfl,Gd⟩
theorem yu2(op:Int):SC Tryz.prog 178 [iInt op] [] (λ_=>False) (iBool (z2y op)) []:=by
 refine SC.anyR (SC.vc tb {} [] Tryz.func178 rfl rfl ?_);unfold z2y;refine z00 (λh=>⟨sE ?_,Gd⟩) λh=>⟨sE ?_,Gd⟩
 ·rw[show decide (op≥20)=true from h];rfl
 ·rw[show decide (op≥20)=false from h];rfl
theorem yu3(op:Int):SC Tryz.prog 182 [iInt op] [] (λ_=>False) (iBool (z42 op)) []:=by
 refine SC.anyR (SC.vc tb {} [] Tryz.func182 rfl rfl ?_);unfold z42;refine z00 (λh=>⟨sE ?_,Gd⟩) λh=>⟨sE ?_,Gd⟩
 ·rw[show decide (op≥1)=true from h];rfl
 ·rw[show decide (op≥1)=false from h];rfl
theorem zv3(op:Int):SC Tryz.prog 181 [iInt op] [] (λ_=>False) (.tup [iInt (z0p op).1,iInt (z0p op).2]) []:=by
 refine SC.anyR (SC.vc tb {} [] Tryz.func181 rfl rfl ?_)
 by_cases h:op=22∨op=18∨op=19∨op=16∨op=17∨op=12∨op=13∨op=14∨op=15
 ·rcases h with rfl|rfl|rfl|rfl|rfl|rfl|rfl|rfl|rfl<;>exact⟨sI,Gd⟩
 ·have hT:z0p op=(1,1):=by
   unfold z0p;rw[if_neg (by simp;omega),if_neg (by simp;omega),if_neg (by simp;omega)]
  rw[hT];refine z00 (λg=>absurd (eq_of_beq g) oM0) λ_=>z00 (λg=>absurd (eq_of_beq g) oM0) λ_=>z00 (λg=>absurd (eq_of_beq g) oM0) λ_=>z00 (λg=>absurd (eq_of_beq g) oM0) λ_=>z00 (λg=>absurd (eq_of_beq g) oM0) λ_=>z00 (λg1=>z00 (λg2=>?_) λg2=>⟨sI,Gd⟩) λ_=>⟨sI,Gd⟩;have g1:op≥12:=Am g1;have g2:op<=15:=Am g2;exact absurd h oM0
theorem getD_at8{l:List Int}{i:Nat}(h:i<l.length):l[i]?=some (l.getD i 0):=by simp[h]
theorem ckHp_in{u:Un}{f:Fl}{bt:TypeId}{set:List Bool}{k:Nat}(h:look (up (ckHp u f bt set)) k≠none):k∈[3,4]:=by
 by_cases h3:k=3
 ·subst h3;decide
 ·by_cases h4:k=4
  ·subst h4;decide
  ·exfalso;apply h;simp only[ckHp,up,B8,D6,look,z49 (C4 h3),z49 (C4 h4)];rfl
theorem ye0(u:Un)(f:Fl)(set:List Bool)(l:List Int)(hb:l.length<=34359738368):SC Tryz.prog 133 [.ptr 3 0,.pv (ints l)] (ckHp u f 4 set) (λk=>k<100) (.pv (ints (r8of f.types l))) (ckHp u f 4 set):=by
 refine SC.sameR (SC.vc tb { gh:=[(2,[.grow 5 1001 3 1]),(8,[.fz 5 1001])] } [3,4] Tryz.func133 rfl rfl ?_) λk h _=>ckHp_in h;have lt1:((f.types.map eInt).length:Int)=f.types.length:=by rw[A8]
 refine⟨Nat,λi=>[(6,iInt ((i:Nat):Int)),(5,.sl 1001 (((l.take i).map λv=>f.types.getD v.toNat 0).map eInt).length)],λi=>[(1001,.row ⟨3,1⟩ (((l.take i).map λv=>f.types.getD v.toNat 0).map eInt))],λi=>l.length-i,λi=>i<=l.length/\(l.take i).all (zq9 f.types)=true,[],0,⟨Ac _,by simp⟩,Gf,Ge,?_⟩;rintro i ⟨hi,ha⟩;refine z00 (λhc=>?_) λhc=>?_
 ·have hlt:i<l.length:=z0x (f:=eInt) rfl hc;obtain⟨x,x1,x2,x3,x4⟩:=z0o hlt;have bad:zq9 f.types x=false->r8of f.types l=[]:=λhv=>by
   unfold r8of;rw[if_neg];intro h;rw[Bi]at h;have:=h x x4;rw[hv]at this;cases this
  refine⟨z02 (f:=eInt) x1,rfl,z00 (λh1=>?_) λh1=>?_⟩
  ·have h1:x<0:=Am h1;rw[bad (by unfold zq9;rw[De (by omega:¬0<=x)];rfl)];exact⟨sN,rfl,rfl,Gd⟩
  have h1:¬x<0:=Ak h1;refine⟨z02 (f:=eInt) x1,rfl,z00 (λh2=>?_) λh2=>?_⟩
  ·have h2:=Am h2;rw[lt1]at h2;rw[bad (by unfold zq9;rw[De (by omega:¬x<f.types.length),Cy])];exact⟨sN,rfl,rfl,Gd⟩
  have h2:=Ak h2;rw[lt1]at h2;have hv:zq9 f.types x=true:=by unfold zq9;rw[Cb (by omega:0<=x),Cb (by omega:x<f.types.length)];rfl
  exact⟨z02 (f:=eInt) x1,rfl,z02 (f:=eInt) (getD_at8 (show x.toNat<f.types.length by omega)),by omega,rfl,z3y rfl,by simp;omega,z01 rfl oM0,i+1,z03 hlt,⟨hlt,by rw[x2];simp[ha,hv]⟩,⟨rfl,slq (by rw[x2];simp),Gd⟩,⟨rwq (by rw[x2];simp[eInt]),Gd⟩,rfl,rfl,rfl,rfl⟩
 ·have hge:l.length<=i:=z0y (f:=eInt) rfl hc;rw[At hge]at ha⊢;have hT:r8of f.types l=l.map λv=>f.types.getD v.toNat 0:=by unfold r8of;rw[if_pos ha]
  rw[hT];exact⟨rfl,sI,rfl,rfl,Gd⟩
theorem yc6{u:Un}{f:Fl}{set:List Bool}{x:Nd}{seen:List Int}{g:Fl}(h:z05 x.name u.flows 0≥0)(hg:u.flows[(z05 x.name u.flows 0).toNat]?=some g) :
 zc2 u f set x seen=andS (z07 f.types seen x.args (g.types.take g.params.toNat)) set (z1s f.types set x.outs [g.ty]):=by
 unfold zc2;rw[if_pos (Cb h),hg]
theorem yc5{u:Un}{f:Fl}{set:List Bool}{x:Nd}{seen:List Int}(h:decide (z05 x.name u.flows 0≥0)=false):zc2 u f set x seen=(false,set):=by
 unfold zc2;rw[h];rfl
theorem ye1(u:Un)(f:Fl)(set:List Bool)(hs:set.length=f.types.length)(hg:∀g∈u.flows,0<=g.params/\g.params<=g.types.length)(x:Nd)(seen:List Int)(wh:Wh):SC Tryz.prog 136 [.ptr 3 0,.pv (ndv x),.pv (ints seen),.pv (whv wh)] (ckHp u f 4 set) (λk=>k=3) (iBool (z1h u f set x seen wh).1) (ckHp u f 4 (z1h u f set x seen wh).2):=by
 refine SC.sameR (SC.vc tb {} [3] Tryz.func136 rfl rfl ?_) λk _ h=>An.2 h;obtain⟨kind,op,n,name,args,outs,params,kids⟩:=x;rcases(show kind=1∨kind=2∨kind=3∨kind=4∨kind=5∨kind=6∨kind=7∨kind=9∨kind=8∨kind=12∨kind=13∨kind=14∨kind=15∨(kind≠1/\kind≠2/\kind≠3/\kind≠4/\kind≠5/\kind≠6/\kind≠7/\kind≠8/\kind≠9/\kind≠12/\kind≠13/\kind≠14/\kind≠15) by omega)with rfl|rfl|rfl|rfl|rfl|rfl|rfl|rfl|rfl|rfl|rfl|rfl|rfl|hk
 ·have hT:=z2i u f set args seen [];have hS:=z4z u f set outs [1] hs;rw[show z1h u f set ⟨1,op,n,name,args,outs,params,kids⟩ seen wh=andS (z07 f.types seen args []) set (z1s f.types set outs [1])from rfl];generalize z07 f.types seen args []=b at hT⊢
  cases b with
  |true=>exact⟨[3,4],hT,SubA.same (SubA.same (SubA.same (SubA.cons sN sR))),⟨rfl,rfl,Gd,rfl,rfl,Gd⟩,rfl,[],hS,sR,Gg,rfl,sI,rfl,rfl,Gd⟩
  |false=>exact⟨[3,4],hT,SubA.same (SubA.same (SubA.same (SubA.cons sN sR))),⟨rfl,rfl,Gd,rfl,rfl,Gd⟩,rfl,sI,rfl,rfl,Gd⟩
 ·have hT:=z2i u f set args seen [];have hS:=z4z u f set outs [2] hs;rw[show z1h u f set ⟨2,op,n,name,args,outs,params,kids⟩ seen wh=andS ((n==0||n==1)&&z07 f.types seen args []) set (z1s f.types set outs [2])from rfl];generalize z07 f.types seen args []=b at hT⊢;refine z00 (λh0=>?_) λh0=>?_
  ·rw[show(n==0)=true from h0]
   cases b with
   |true=>exact⟨[3,4],hT,SubA.same (SubA.same (SubA.same (SubA.cons sN sR))),⟨rfl,rfl,Gd,rfl,rfl,Gd⟩,rfl,[],hS,sR,Gg,rfl,sI,rfl,rfl,Gd⟩
   |false=>exact⟨[3,4],hT,SubA.same (SubA.same (SubA.same (SubA.cons sN sR))),⟨rfl,rfl,Gd,rfl,rfl,Gd⟩,rfl,sI,rfl,rfl,Gd⟩
  ·rw[show(n==0)=false from h0];refine z00 (λh1=>?_) λh1=>?_
   ·rw[show(n==1)=true from h1]
    cases b with
    |true=>exact⟨[3,4],hT,SubA.same (SubA.same (SubA.same (SubA.cons sN sR))),⟨rfl,rfl,Gd,rfl,rfl,Gd⟩,rfl,[],hS,sR,Gg,rfl,sI,rfl,rfl,Gd⟩
    |false=>exact⟨[3,4],hT,SubA.same (SubA.same (SubA.same (SubA.cons sN sR))),⟨rfl,rfl,Gd,rfl,rfl,Gd⟩,rfl,sI,rfl,rfl,Gd⟩
   ·rw[show(n==1)=false from h1];exact⟨sI,rfl,rfl,Gd⟩
 ·have hO:=zv3 op;have hT:=z2i u f set args seen [(z0p op).1];have hS:=z4z u f set outs [(z0p op).2] hs;have hI:=yu2 op;rw[show z1h u f set ⟨3,op,n,name,args,outs,params,kids⟩ seen wh=andS (z2y op&&z07 f.types seen args [(z0p op).1]) set (z1s f.types set outs [(z0p op).2])from rfl];generalize z07 f.types seen args [(z0p op).1]=b at hT⊢;generalize z2y op=q at hI⊢
  cases q with
  |true =>
   cases b with
   |true=>exact⟨[],hO,sR,Gd,rfl,[],hI,sR,Gd,rfl,[3,4],hT,sR,⟨rfl,rfl,Gd,rfl,rfl,Gd⟩,rfl,[],hS,sR,Gg,rfl,sI,rfl,rfl,Gd⟩
   |false=>exact⟨[],hO,sR,Gd,rfl,[],hI,sR,Gd,rfl,[3,4],hT,sR,⟨rfl,rfl,Gd,rfl,rfl,Gd⟩,rfl,sI,rfl,rfl,Gd⟩
  |false=>exact⟨[],hO,sR,Gd,rfl,[],hI,sR,Gd,rfl,sI,rfl,rfl,Gd⟩
 ·have hO:=zv3 op;have hT:=z2i u f set args seen [(z0p op).1,(z0p op).1];have hS:=z4z u f set outs [(z0p op).2] hs;have hI:=yu3 op;rw[show z1h u f set ⟨4,op,n,name,args,outs,params,kids⟩ seen wh=andS (z42 op&&z07 f.types seen args [(z0p op).1,(z0p op).1]&&f.types.getD (args.getD 0 0).toNat 0==f.types.getD (args.getD 1 0).toNat 0) set (z1s f.types set outs [(z0p op).2])from rfl]
  cases hb:z07 f.types seen args [(z0p op).1,(z0p op).1]with
  |false =>
   rw[hb]at hT;generalize z42 op=q at hI⊢
   cases q with
   |true=>exact⟨[],hO,sR,Gd,rfl,[],hI,sR,Gd,rfl,[3,4],hT,sR,⟨rfl,rfl,Gd,rfl,rfl,Gd⟩,rfl,sI,rfl,rfl,Gd⟩
   |false=>exact⟨[],hO,sR,Gd,rfl,[],hI,sR,Gd,rfl,sI,rfl,rfl,Gd⟩
  |true =>
   rw[hb]at hT;obtain⟨a,b,rfl,a0,a1,b0,b1⟩:=yc7 hb;have ga:f.types[a.toNat]?=some (f.types.getD a.toNat 0):=by rw[Ay,A9 a1];rfl
   have gb:f.types[b.toNat]?=some (f.types.getD b.toNat 0):=by rw[Ay,A9 b1];rfl
   generalize z42 op=q at hI⊢
   cases q with
   |false=>exact⟨[],hO,sR,Gd,rfl,[],hI,sR,Gd,rfl,sI,rfl,rfl,Gd⟩
   |true =>
    rw[show([a,b].getD 0 0:Int)=a from rfl,show([a,b].getD 1 0:Int)=b from rfl];refine⟨[],hO,sR,Gd,rfl,[],hI,sR,Gd,rfl,[3,4],hT,sR,⟨rfl,rfl,Gd,rfl,rfl,Gd⟩,rfl,at0 (a:=eInt a),rfl,z02 (f:=eInt) ga,by omega,at1 (b:=eInt b),rfl,z02 (f:=eInt) gb,by omega,z00 (λh=>?_) λh=>?_⟩
    ·rw[show(f.types.getD a.toNat 0==f.types.getD b.toNat 0)=true from h];exact⟨[],hS,sR,Gg,rfl,sI,rfl,rfl,Gd⟩
    ·rw[show(f.types.getD a.toNat 0==f.types.getD b.toNat 0)=false from h];exact⟨sI,rfl,rfl,Gd⟩
 ·have hA:=z0e u name;have hT:=z2i u f set args seen [1];have hS:=z4z u f set outs [1] hs;rw[show z1h u f set ⟨5,op,n,name,args,outs,params,kids⟩ seen wh=andS (decide (z0h name u.arrays 0≥0)&&z07 f.types seen args [1]) set (z1s f.types set outs [1])from rfl];generalize z07 f.types seen args [1]=b at hT⊢;refine⟨[],hA,sR,Gd,rfl,z00 (λh=>?_) λh=>?_⟩
  ·rw[show decide (z0h name u.arrays 0≥0)=true from h]
   cases b with
   |true=>exact⟨[3,4],hT,sR,⟨rfl,rfl,Gd,rfl,rfl,Gd⟩,rfl,[],hS,sR,Gg,rfl,sI,rfl,rfl,Gd⟩
   |false=>exact⟨[3,4],hT,sR,⟨rfl,rfl,Gd,rfl,rfl,Gd⟩,rfl,sI,rfl,rfl,Gd⟩
  ·rw[show decide (z0h name u.arrays 0≥0)=false from h];exact⟨sI,rfl,rfl,Gd⟩
 ·have hA:=z0e u name;have hT:=z2i u f set args seen [1,1];rw[show z1h u f set ⟨6,op,n,name,args,outs,params,kids⟩ seen wh=(decide (z0h name u.arrays 0≥0)&&z07 f.types seen args [1,1]&&(outs.length:Int)==0,set)from rfl];generalize z07 f.types seen args [1,1]=b at hT⊢;refine⟨[],hA,sR,Gd,rfl,z00 (λh=>?_) λh=>?_⟩
  ·rw[show decide (z0h name u.arrays 0≥0)=true from h]
   cases b with
   |true=>exact⟨[3,4],hT,sR,⟨rfl,rfl,Gd,rfl,rfl,Gd⟩,rfl,sE (by simp[Nd.outs]),rfl,rfl,Gd⟩
   |false=>exact⟨[3,4],hT,sR,⟨rfl,rfl,Gd,rfl,rfl,Gd⟩,rfl,sI,rfl,rfl,Gd⟩
  ·rw[show decide (z0h name u.arrays 0≥0)=false from h];exact⟨sI,rfl,rfl,Gd⟩
 ·have hP:=z3w u name;rw[show z1h u f set ⟨7,op,n,name,args,outs,params,kids⟩ seen wh=zc2 u f set ⟨7,op,n,name,args,outs,params,kids⟩ seen from rfl]
  cases hp:decide (z05 name u.flows 0≥0)with
  |true =>
   have h0:z05 name u.flows 0≥0:=by simpa using hp
   obtain⟨g,hgk,_⟩:=ze0 h0;rw[show zc2 u f set ⟨7,op,n,name,args,outs,params,kids⟩ seen=andS (z07 f.types seen args (g.types.take g.params.toNat)) set (z1s f.types set outs [g.ty])from yc6 h0 hgk];obtain⟨g0,g1⟩:=hg g (Ae hgk);have hT:=z2i u f set args seen (g.types.take g.params.toNat);have hS:=z4z u f set outs [g.ty] hs;have hi:=z02 (f:=Fl.enc) hgk;generalize z07 f.types seen args (g.types.take g.params.toNat)=b at hT⊢
   cases b with
   |true=>exact⟨[],hP,sR,Gd,rfl,z00 (λ_=>⟨hi,by omega,hi,by omega,g.params.toNat,by omega,by omega,by simp;omega,zk8,[3,4],hT,SubA.same (SubA.same (SubA.same (SubA.cons (sE (by simp[ints])) sR))),⟨rfl,rfl,Gd,rfl,rfl,Gd⟩,rfl,hi,by omega,[],hS,sR,Gg,rfl,sI,rfl,rfl,Gd⟩) λh=>absurd (hp.symm.trans h) dC0⟩
   |false=>exact⟨[],hP,sR,Gd,rfl,z00 (λ_=>⟨hi,by omega,hi,by omega,g.params.toNat,by omega,by omega,by simp;omega,zk8,[3,4],hT,SubA.same (SubA.same (SubA.same (SubA.cons (sE (by simp[ints])) sR))),⟨rfl,rfl,Gd,rfl,rfl,Gd⟩,rfl,sI,rfl,rfl,Gd⟩) λh=>absurd (hp.symm.trans h) dC0⟩
  |false =>
   rw[show zc2 u f set ⟨7,op,n,name,args,outs,params,kids⟩ seen=(false,set)from yc5 hp];exact⟨[],hP,sR,Gd,rfl,z00 (λh=>absurd (hp.symm.trans h) dC0) λ_=>⟨sI,rfl,rfl,Gd⟩⟩
 ·have hT:=z2i u f set args seen [1];rw[show z1h u f set ⟨9,op,n,name,args,outs,params,kids⟩ seen wh=(z07 f.types seen args [1]&&(outs.length:Int)==0,set)from rfl];generalize z07 f.types seen args [1]=b at hT⊢
  cases b with
  |true=>exact⟨[3,4],hT,sR,⟨rfl,rfl,Gd,rfl,rfl,Gd⟩,rfl,sE (by simp[Nd.outs]),rfl,rfl,Gd⟩
  |false=>exact⟨[3,4],hT,sR,⟨rfl,rfl,Gd,rfl,rfl,Gd⟩,rfl,sI,rfl,rfl,Gd⟩
 ·have hS:=z4z u f set outs [1] hs;rw[show z1h u f set ⟨8,op,n,name,args,outs,params,kids⟩ seen wh=andS ((args.length:Int)==0) set (z1s f.types set outs [1])from rfl];refine z00 (λh=>?_) λh=>?_
  ·rw[show((args.length:Int)==0)=true by simpa[Nd.args]using h];exact⟨[],hS,sR,Gg,rfl,sI,rfl,rfl,Gd⟩
  ·rw[show((args.length:Int)==0)=false by simpa[Nd.args]using h];exact⟨sI,rfl,rfl,Gd⟩
 ·obtain⟨If,Loop,Yield,Next,Left⟩:=wh;have hT:=z2i u f set args seen Yield;rw[show z1h u f set ⟨12,op,n,name,args,outs,params,kids⟩ seen ⟨If,Loop,Yield,Next,Left⟩=(If&&z07 f.types seen args Yield&&(outs.length:Int)==0,set)from rfl];generalize z07 f.types seen args Yield=b at hT⊢
  cases If with
  |true =>
   cases b with
   |true=>exact⟨[3,4],hT,sR,⟨rfl,rfl,Gd,rfl,rfl,Gd⟩,rfl,sE (by simp[Nd.outs]),rfl,rfl,Gd⟩
   |false=>exact⟨[3,4],hT,sR,⟨rfl,rfl,Gd,rfl,rfl,Gd⟩,rfl,sI,rfl,rfl,Gd⟩
  |false=>exact⟨sI,rfl,rfl,Gd⟩
 ·obtain⟨If,Loop,Yield,Next,Left⟩:=wh;have hT:=z2i u f set args seen Next;rw[show z1h u f set ⟨13,op,n,name,args,outs,params,kids⟩ seen ⟨If,Loop,Yield,Next,Left⟩=(Loop&&z07 f.types seen args Next&&(outs.length:Int)==0,set)from rfl];generalize z07 f.types seen args Next=b at hT⊢
  cases Loop with
  |true =>
   cases b with
   |true=>exact⟨[3,4],hT,sR,⟨rfl,rfl,Gd,rfl,rfl,Gd⟩,rfl,sE (by simp[Nd.outs]),rfl,rfl,Gd⟩
   |false=>exact⟨[3,4],hT,sR,⟨rfl,rfl,Gd,rfl,rfl,Gd⟩,rfl,sI,rfl,rfl,Gd⟩
  |false=>exact⟨sI,rfl,rfl,Gd⟩
 ·obtain⟨If,Loop,Yield,Next,Left⟩:=wh;have hT:=z2i u f set args seen Left;rw[show z1h u f set ⟨14,op,n,name,args,outs,params,kids⟩ seen ⟨If,Loop,Yield,Next,Left⟩=(Loop&&z07 f.types seen args Left&&(outs.length:Int)==0,set)from rfl];generalize z07 f.types seen args Left=b at hT⊢
  cases Loop with
  |true =>
   cases b with
   |true=>exact⟨[3,4],hT,sR,⟨rfl,rfl,Gd,rfl,rfl,Gd⟩,rfl,sE (by simp[Nd.outs]),rfl,rfl,Gd⟩
   |false=>exact⟨[3,4],hT,sR,⟨rfl,rfl,Gd,rfl,rfl,Gd⟩,rfl,sI,rfl,rfl,Gd⟩
  |false=>exact⟨sI,rfl,rfl,Gd⟩
 ·have hT:=z2i u f set args seen [f.ty];rw[show z1h u f set ⟨15,op,n,name,args,outs,params,kids⟩ seen wh=(z07 f.types seen args [f.ty]&&(outs.length:Int)==0,set)from rfl];generalize z07 f.types seen args [f.ty]=b at hT⊢
  cases b with
  |true=>exact⟨[3,4],hT,sR,⟨rfl,rfl,Gd,rfl,rfl,Gd⟩,rfl,sE (by simp[Nd.outs]),rfl,rfl,Gd⟩
  |false=>exact⟨[3,4],hT,sR,⟨rfl,rfl,Gd,rfl,rfl,Gd⟩,rfl,sI,rfl,rfl,Gd⟩
 ·obtain⟨k1,k2,k3,k4,k5,k6,k7,k8,k9,k12,k13,k14,k15⟩:=hk;have no:∀{i:Int},kind≠i->(kind==i)=true->False:=λh e=>h (eq_of_beq e);have ne:∀{i:Int},kind≠i->(kind==i)=false:=λh=>Aa.2 h;rw[show z1h u f set ⟨kind,op,n,name,args,outs,params,kids⟩ seen wh=(false,set) by unfold z1h;simp only[Nd.kind,ne k1,ne k2,ne k3,ne k4,ne k5,ne k6,ne k7,ne k8,ne k9,ne k12,ne k13,ne k14,ne k15];rfl];exact z00 (λh=>(no k1 h).elim) λ_=>z00 (λh=>(no k2 h).elim) λ_=>z00 (λh=>(no k3 h).elim) λ_=>z00 (λh=>(no k4 h).elim) λ_=>z00 (λh=>(no k5 h).elim) λ_=>z00 (λh=>(no k6 h).elim) λ_=>z00 (λh=>(no k7 h).elim) λ_=>z00 (λh=>(no k8 h).elim) λ_=>z00 (λh=>(no k9 h).elim) λ_=>z00 (λh=>(no k12 h).elim) λ_=>z00 (λh=>(no k13 h).elim) λ_=>z00 (λh=>(no k14 h).elim) λ_=>z00 (λh=>(no k15 h).elim) λ_=>⟨sI,rfl,rfl,Gd⟩
theorem j2i(u:Un)(f:Fl)(hg:∀g∈u.flows,0<=g.params/\g.params<=g.types.length)(x:Nd)(deep:Int)(hd:0<=deep/\deep<=100)(wh:Wh)(seen:List Int)(set:List Bool)(hs:set.length=f.types.length)(hb:seen.length+ndW x<=34359738368)(ih:∀q∈x.kids,∀(deep:Int)(w:Wh)(all:List Int)(set:List Bool),0<=deep/\deep<=101->set.length=f.types.length->all.length+lsW q<=34359738368->SC Tryz.prog 48 [.ptr 3 0,.pv (z1p q),.pv (ints all),.pv (whv w),iInt deep] (ckHp u f 4 set) (λk=>k=3) (iBool (z2o u f deep w all set q).1) (ckHp u f 4 (z2o u f deep w all set q).2)):SC Tryz.prog 87 [.ptr 3 0,.pv (ndv x),.pv (ints seen),.pv (whv wh),iInt deep] (ckHp u f 4 set) (λk=>k=3) (iBool (z4y u f deep wh seen set x).1) (ckHp u f 4 (z4y u f deep wh seen set x).2):=by
 refine SC.sameR (SC.vc tb { pb:=[182,213,252],gh:=[(15,[.fz 14 219])] } [3] Tryz.func87 rfl rfl ?_) λk _ h=>An.2 h;have hbW:=z86 x;have hbo:x.outs.length<=34359738368:=by omega
 have hbp:x.params.length<=34359738368:=by omega
 have hml:((x.outs.map eInt).length:Int)=x.outs.length:=by simp
 have hBare:=j2g x
 cases hbr:z1n x with
 |false =>
  rw[hbr]at hBare;rw[zi3 u f deep wh seen set hbr]
  exact⟨[],hBare,sR,Gd,rfl,sI,rfl,rfl,Gd⟩
 |true =>
  rw[hbr]at hBare
  by_cases h10:x.kind=10
  ·obtain⟨a,b,hk⟩:=z3v hbr h10;rw[y12 u f deep wh seen set hbr h10 hk];have k0:(x.kids.map eKid)[0]?=some [z1p a]:=by rw[hk];rfl
   have k1:(x.kids.map eKid)[1]?=some [z1p b]:=by rw[hk];rfl
   have hkw:kdW x.kids=1+lsW a+(1+lsW b+0):=by rw[hk];rfl
   have hO:=ye0 u f set x.outs hbo;have hT:=z2i u f set x.args seen [2];generalize z07 f.types seen x.args [2]=tb at hT⊢
   cases tb with
   |false=>exact⟨[],hBare,sR,Gd,rfl,z00 (λ_=>⟨[3,4],hO,sR,⟨rfl,rfl,by decide,rfl,rfl,Gd⟩,rfl,[3,4],hT,sR,⟨rfl,rfl,Gd,rfl,rfl,Gd⟩,rfl,sI,rfl,rfl,Gd⟩) λh=>absurd (Av.2 h10) (by rw[h];decide)⟩
   |true =>
    rw[if_pos rfl];have hA:=ih a (by rw[hk];exact .head _) (deep+1) ⟨true,wh.Loop,r8of f.types x.outs,wh.Next,wh.Left⟩ seen set oM0 hs oM0;have hl1:=(z9a u f (deep+1) ⟨true,wh.Loop,r8of f.types x.outs,wh.Next,wh.Left⟩ seen set a).trans hs;generalize z2o u f (deep+1) ⟨true,wh.Loop,r8of f.types x.outs,wh.Next,wh.Left⟩ seen set a=ra at hA hl1⊢;obtain⟨ba,s1⟩:=ra
    cases ba with
    |false=>exact⟨[],hBare,sR,Gd,rfl,z00 (λ_=>⟨[3,4],hO,sR,⟨rfl,rfl,by decide,rfl,rfl,Gd⟩,rfl,[3,4],hT,sR,⟨rfl,rfl,Gd,rfl,rfl,Gd⟩,rfl,k0,rfl,z01 rfl oM0,[],hA,sR,Gg,rfl,sI,rfl,rfl,Gd⟩) λh=>absurd (Av.2 h10) (by rw[h];decide)⟩
    |true =>
     unfold andT;rw[if_pos rfl];dsimp only at hl1;have hB:=ih b (by rw[hk];exact .tail _ (.head _)) (deep+1) ⟨true,wh.Loop,r8of f.types x.outs,wh.Next,wh.Left⟩ seen s1 oM0 hl1 oM0;have hl2:=(z9a u f (deep+1) ⟨true,wh.Loop,r8of f.types x.outs,wh.Next,wh.Left⟩ seen s1 b).trans hl1;dsimp only;generalize z2o u f (deep+1) ⟨true,wh.Loop,r8of f.types x.outs,wh.Next,wh.Left⟩ seen s1 b=rb at hB hl2⊢;obtain⟨bb,s2⟩:=rb
     cases bb with
     |false=>exact⟨[],hBare,sR,Gd,rfl,z00 (λ_=>⟨[3,4],hO,sR,⟨rfl,rfl,by decide,rfl,rfl,Gd⟩,rfl,[3,4],hT,sR,⟨rfl,rfl,Gd,rfl,rfl,Gd⟩,rfl,k0,rfl,z01 rfl oM0,[],hA,sR,Gg,rfl,k1,rfl,z01 rfl oM0,[],hB,sR,Gg,rfl,sI,rfl,rfl,Gd⟩) λh=>absurd (Av.2 h10) (by rw[h];decide)⟩
     |true =>
      rw[if_pos rfl];dsimp only at hl2⊢;have hE:=z4z u f s2 x.outs (List.replicate x.outs.length 0) hl2;have hC:=zj0 x;unfold zf8;generalize z08 x=cl at hC⊢
      cases ho:((x.outs.length:Int)==0)with
      |true=>exact⟨[],hBare,sR,Gd,rfl,z00 (λ_=>⟨[3,4],hO,sR,⟨rfl,rfl,by decide,rfl,rfl,Gd⟩,rfl,[3,4],hT,sR,⟨rfl,rfl,Gd,rfl,rfl,Gd⟩,rfl,k0,rfl,z01 rfl oM0,[],hA,sR,Gg,rfl,k1,rfl,z01 rfl oM0,[],hB,sR,Gg,rfl,z00 (λ_=>⟨rfl,rfl,by simp;omega,[],hE,SubA.same (SubA.same (SubA.cons (sE (by simp[ints,eInt];exact .inr rfl)) sR)),Gg,rfl,sI,rfl,rfl,Gd⟩) λh=>absurd (ho.symm.trans (show((x.outs.length:Int)==0)=false by rw[hml]at h;exact h)) dC0⟩) λh=>absurd (Av.2 h10) (by rw[h];decide)⟩
      |false =>
       cases cl with
       |true=>exact⟨[],hBare,sR,Gd,rfl,z00 (λ_=>⟨[3,4],hO,sR,⟨rfl,rfl,by decide,rfl,rfl,Gd⟩,rfl,[3,4],hT,sR,⟨rfl,rfl,Gd,rfl,rfl,Gd⟩,rfl,k0,rfl,z01 rfl oM0,[],hA,sR,Gg,rfl,k1,rfl,z01 rfl oM0,[],hB,sR,Gg,rfl,z00 (λh=>absurd (ho.symm.trans (show((x.outs.length:Int)==0)=true by rw[hml]at h;exact h)) dC0) λ_=>⟨[],hC,sR,Gd,rfl,sI,rfl,rfl,Gd⟩⟩) λh=>absurd (Av.2 h10) (by rw[h];decide)⟩
       |false=>exact⟨[],hBare,sR,Gd,rfl,z00 (λ_=>⟨[3,4],hO,sR,⟨rfl,rfl,by decide,rfl,rfl,Gd⟩,rfl,[3,4],hT,sR,⟨rfl,rfl,Gd,rfl,rfl,Gd⟩,rfl,k0,rfl,z01 rfl oM0,[],hA,sR,Gg,rfl,k1,rfl,z01 rfl oM0,[],hB,sR,Gg,rfl,z00 (λh=>absurd (ho.symm.trans (show((x.outs.length:Int)==0)=true by rw[hml]at h;exact h)) dC0) λ_=>⟨[],hC,sR,Gd,rfl,rfl,rfl,by simp;omega,[],hE,SubA.same (SubA.same (SubA.cons (sE (by simp[ints,eInt];exact .inr rfl)) sR)),Gg,rfl,sI,rfl,rfl,Gd⟩⟩) λh=>absurd (Av.2 h10) (by rw[h];decide)⟩
  by_cases h11:x.kind=11
  ·obtain⟨a,hk⟩:=z25 hbr h11;rw[zi4 u f deep wh seen set hbr h11 hk];have k0:(x.kids.map eKid)[0]?=some [z1p a]:=by rw[hk];rfl
   have hkw:kdW x.kids=1+lsW a+0:=by rw[hk];rfl
   have hP:=ye0 u f set x.params hbp;have hO:=ye0 u f set x.outs hbo;have hT:=z2i u f set x.args seen (r8of f.types x.params);generalize z07 f.types seen x.args (r8of f.types x.params)=tb at hT⊢
   cases tb with
   |false=>exact⟨[],hBare,sR,Gd,rfl,z00 (λh=>absurd (eq_of_beq h) h10) λ_=>z00 (λ_=>⟨[3,4],hP,sR,⟨rfl,rfl,by decide,rfl,rfl,Gd⟩,rfl,[3,4],hO,sR,⟨rfl,rfl,by decide,rfl,rfl,Gd⟩,rfl,[3,4],hP,sR,⟨rfl,rfl,by decide,rfl,rfl,Gd⟩,rfl,[3,4],hT,sR,⟨rfl,rfl,Gd,rfl,rfl,Gd⟩,rfl,sI,rfl,rfl,Gd⟩) λh=>absurd (Av.2 h11) (by rw[h];decide)⟩
   |true =>
    rw[if_pos rfl];have hS:=z4z u f set x.params (List.replicate x.params.length 0) hs;have hl1:=(z74 f.types set x.params (List.replicate x.params.length 0)).trans hs;generalize z1s f.types set x.params (List.replicate x.params.length 0)=rs at hS hl1⊢;obtain⟨bs,s1⟩:=rs
    cases bs with
    |false=>exact⟨[],hBare,sR,Gd,rfl,z00 (λh=>absurd (eq_of_beq h) h10) λ_=>z00 (λ_=>⟨[3,4],hP,sR,⟨rfl,rfl,by decide,rfl,rfl,Gd⟩,rfl,[3,4],hO,sR,⟨rfl,rfl,by decide,rfl,rfl,Gd⟩,rfl,[3,4],hP,sR,⟨rfl,rfl,by decide,rfl,rfl,Gd⟩,rfl,[3,4],hT,sR,⟨rfl,rfl,Gd,rfl,rfl,Gd⟩,rfl,rfl,rfl,by simp;omega,[],hS,SubA.same (SubA.same (SubA.cons (sE (by simp[ints,eInt];exact .inr rfl)) sR)),Gg,rfl,sI,rfl,rfl,Gd⟩) λh=>absurd (Av.2 h11) (by rw[h];decide)⟩
    |true =>
     unfold andT;rw[if_pos rfl];dsimp only at hl1;have hA:=ih a (by rw[hk];exact .head _) (deep+1) ⟨false,true,[],r8of f.types x.params,r8of f.types x.outs⟩ (seen++x.params) s1 oM0 hl1 (by simp;omega);have hl2:=(z9a u f (deep+1) ⟨false,true,[],r8of f.types x.params,r8of f.types x.outs⟩ (seen++x.params) s1 a).trans hl1;dsimp only;generalize z2o u f (deep+1) ⟨false,true,[],r8of f.types x.params,r8of f.types x.outs⟩ (seen++x.params) s1 a=ra at hA hl2⊢;obtain⟨ba,s2⟩:=ra
     cases ba with
     |false=>exact⟨[],hBare,sR,Gd,rfl,z00 (λh=>absurd (eq_of_beq h) h10) λ_=>z00 (λ_=>⟨[3,4],hP,sR,⟨rfl,rfl,by decide,rfl,rfl,Gd⟩,rfl,[3,4],hO,sR,⟨rfl,rfl,by decide,rfl,rfl,Gd⟩,rfl,[3,4],hP,sR,⟨rfl,rfl,by decide,rfl,rfl,Gd⟩,rfl,[3,4],hT,sR,⟨rfl,rfl,Gd,rfl,rfl,Gd⟩,rfl,rfl,rfl,by simp;omega,[],hS,SubA.same (SubA.same (SubA.cons (sE (by simp[ints,eInt];exact .inr rfl)) sR)),Gg,rfl,rfl,zf1 (λ_ _=>⟨rfl,λy hy=>by simp[eInt]at hy;subst hy;rfl⟩),by simp;omega,rfl,zf1 (λ_ _=>⟨rfl,λy hy=>by simp[eInt]at hy;subst hy;rfl⟩),by simp;omega,by simp,k0,rfl,z01 rfl oM0,[],hA,SubA.same (SubA.same (SubA.cons (sE (by simp[ints])) (SubA.cons (sP (PSub.agg (And.intro (PSub.refl _) (And.intro (PSub.refl _) (And.intro PSub.nil (And.intro (PSub.refl _) (And.intro (PSub.refl _) trivial))))))) sR))),Gg,rfl,sI,rfl,rfl,Gd⟩) λh=>absurd (Av.2 h11) (by rw[h];decide)⟩
     |true =>
      rw[if_pos rfl];dsimp only at hl2⊢;have hE:=z4z u f s2 x.outs (List.replicate x.outs.length 0) hl2;have hC:=zj0 x;unfold zf8;generalize z08 x=cl at hC⊢
      cases ho:((x.outs.length:Int)==0)with
      |true=>exact⟨[],hBare,sR,Gd,rfl,z00 (λh=>absurd (eq_of_beq h) h10) λ_=>z00 (λ_=>⟨[3,4],hP,sR,⟨rfl,rfl,by decide,rfl,rfl,Gd⟩,rfl,[3,4],hO,sR,⟨rfl,rfl,by decide,rfl,rfl,Gd⟩,rfl,[3,4],hP,sR,⟨rfl,rfl,by decide,rfl,rfl,Gd⟩,rfl,[3,4],hT,sR,⟨rfl,rfl,Gd,rfl,rfl,Gd⟩,rfl,rfl,rfl,by simp;omega,[],hS,SubA.same (SubA.same (SubA.cons (sE (by simp[ints,eInt];exact .inr rfl)) sR)),Gg,rfl,rfl,zf1 (λ_ _=>⟨rfl,λy hy=>by simp[eInt]at hy;subst hy;rfl⟩),by simp;omega,rfl,zf1 (λ_ _=>⟨rfl,λy hy=>by simp[eInt]at hy;subst hy;rfl⟩),by simp;omega,by simp,k0,rfl,z01 rfl oM0,[],hA,SubA.same (SubA.same (SubA.cons (sE (by simp[ints])) (SubA.cons (sP (PSub.agg (And.intro (PSub.refl _) (And.intro (PSub.refl _) (And.intro PSub.nil (And.intro (PSub.refl _) (And.intro (PSub.refl _) trivial))))))) sR))),Gg,rfl,z00 (λ_=>⟨rfl,rfl,by simp;omega,[],hE,SubA.same (SubA.same (SubA.cons (sE (by simp[ints,eInt];exact .inr rfl)) sR)),Gg,rfl,sI,rfl,rfl,Gd⟩) λh=>absurd (ho.symm.trans (show((x.outs.length:Int)==0)=false by rw[hml]at h;exact h)) dC0⟩) λh=>absurd (Av.2 h11) (by rw[h];decide)⟩
      |false =>
       cases cl with
       |true=>exact⟨[],hBare,sR,Gd,rfl,z00 (λh=>absurd (eq_of_beq h) h10) λ_=>z00 (λ_=>⟨[3,4],hP,sR,⟨rfl,rfl,by decide,rfl,rfl,Gd⟩,rfl,[3,4],hO,sR,⟨rfl,rfl,by decide,rfl,rfl,Gd⟩,rfl,[3,4],hP,sR,⟨rfl,rfl,by decide,rfl,rfl,Gd⟩,rfl,[3,4],hT,sR,⟨rfl,rfl,Gd,rfl,rfl,Gd⟩,rfl,rfl,rfl,by simp;omega,[],hS,SubA.same (SubA.same (SubA.cons (sE (by simp[ints,eInt];exact .inr rfl)) sR)),Gg,rfl,rfl,zf1 (λ_ _=>⟨rfl,λy hy=>by simp[eInt]at hy;subst hy;rfl⟩),by simp;omega,rfl,zf1 (λ_ _=>⟨rfl,λy hy=>by simp[eInt]at hy;subst hy;rfl⟩),by simp;omega,by simp,k0,rfl,z01 rfl oM0,[],hA,SubA.same (SubA.same (SubA.cons (sE (by simp[ints])) (SubA.cons (sP (PSub.agg (And.intro (PSub.refl _) (And.intro (PSub.refl _) (And.intro PSub.nil (And.intro (PSub.refl _) (And.intro (PSub.refl _) trivial))))))) sR))),Gg,rfl,z00 (λh=>absurd (ho.symm.trans (show((x.outs.length:Int)==0)=true by rw[hml]at h;exact h)) dC0) λ_=>⟨[],hC,sR,Gd,rfl,sI,rfl,rfl,Gd⟩⟩) λh=>absurd (Av.2 h11) (by rw[h];decide)⟩
       |false=>exact⟨[],hBare,sR,Gd,rfl,z00 (λh=>absurd (eq_of_beq h) h10) λ_=>z00 (λ_=>⟨[3,4],hP,sR,⟨rfl,rfl,by decide,rfl,rfl,Gd⟩,rfl,[3,4],hO,sR,⟨rfl,rfl,by decide,rfl,rfl,Gd⟩,rfl,[3,4],hP,sR,⟨rfl,rfl,by decide,rfl,rfl,Gd⟩,rfl,[3,4],hT,sR,⟨rfl,rfl,Gd,rfl,rfl,Gd⟩,rfl,rfl,rfl,by simp;omega,[],hS,SubA.same (SubA.same (SubA.cons (sE (by simp[ints,eInt];exact .inr rfl)) sR)),Gg,rfl,rfl,zf1 (λ_ _=>⟨rfl,λy hy=>by simp[eInt]at hy;subst hy;rfl⟩),by simp;omega,rfl,zf1 (λ_ _=>⟨rfl,λy hy=>by simp[eInt]at hy;subst hy;rfl⟩),by simp;omega,by simp,k0,rfl,z01 rfl oM0,[],hA,SubA.same (SubA.same (SubA.cons (sE (by simp[ints])) (SubA.cons (sP (PSub.agg (And.intro (PSub.refl _) (And.intro (PSub.refl _) (And.intro PSub.nil (And.intro (PSub.refl _) (And.intro (PSub.refl _) trivial))))))) sR))),Gg,rfl,z00 (λh=>absurd (ho.symm.trans (show((x.outs.length:Int)==0)=true by rw[hml]at h;exact h)) dC0) λ_=>⟨[],hC,sR,Gd,rfl,rfl,rfl,by simp;omega,[],hE,SubA.same (SubA.same (SubA.cons (sE (by simp[ints,eInt];exact .inr rfl)) sR)),Gg,rfl,sI,rfl,rfl,Gd⟩⟩) λh=>absurd (Av.2 h11) (by rw[h];decide)⟩
  ·have e10:(x.kind==10)=false:=by simpa using h10
   have e11:(x.kind==11)=false:=by simpa using h11
   have no:∀{i:Int},x.kind≠i->(x.kind==i)=true->False:=λh e=>h (eq_of_beq e);rw[z9c u f deep wh seen set hbr e10 e11];exact⟨[],hBare,sR,Gd,rfl,z00 (λh=>(no h10 h).elim) λ_=>z00 (λh=>(no h11 h).elim) λ_=>⟨[],ye1 u f set hs hg x seen wh,sR,Gg,rfl,sI,rfl,rfl,Gd⟩⟩
theorem y79{hp hp2:Hp}{L:List Nat}(hh:agh hp2 hp L):∀{xs ys:List IV},ya5 (look hp) (· ∈ L) xs ys->ya5 (look hp2) (· ∈ L) xs ys
 |[],[],_=>trivial
 |[],_::_,h=>h.elim
 |_::_,[],h=>h.elim
 |x::xs,y::ys,h=>by
  refine⟨?_,y79 hh h.2⟩
  cases h.1 with
  |same=>exact .same
  |row hL hσ hn he=>exact .row hL (hh.at hσ hL) hn he
theorem yl0{P:Program}{o:Oper}{fr:Fr}{hp:Hp}{Rl:List Nat}(L:List Nat){f:FuncId}{os:Array Operand}{tys:Array TypeId}{xs args:List IV}{pre post:List (Nat×HO)}{R:Nat->Prop}{r:IV}(hsc:SC P f args pre R r post)(hf:z6e P f)
 (ho:o.op=.call { callee:=.value (.func f),args:=os,argTypes:=tys }) (hx:evs fr os.toList=some xs) (hl:ya5 (look hp) (· ∈ L) xs args) (hL:∀k∈L,look (up pre) k=none) (hpre:∀p∈pre,look hp p.1=some p.2) (hdom:pre.map (·.1)=post.map (·.1))
 (hR:∀k∈Rl,look (up pre) k=none∨R k) (hr:∃z,r=.pv (.val z)) (hpost:∀k ob,look (up post) k=some ob->y3k ob=true∨(R k/\look (up pre) k=some ob)):OkF P Rl o fr hp ⟨r,up post,post.map (·.1)++L,[]⟩:=by
 intro c fr2 hp2 hc _ hg hh _;refine ok_lend (· ∈ L) hsc hf ho (hg.evs hx λy hy=>?_) (sRf _ _) (y79 (λk hk=>hh k (B7 _ hk)) hl) hL (λk ob hk=>?_) hdom (λk hk=>hR k (hc k hk)) hr hpost
 ·rw[ho];simp only[Op.operands,Call.operands,Dl];exact B7 _ hy
 ·exact hh.at (hpre (k,ob) (z1j hk)) (Au _ (by rw[<- hdom];exact D4 (f:=(·.1)) (z1j hk)))
theorem y5z(N:Nat):∀(u:Un)(f:Fl)(hg:∀g∈u.flows,0<=g.params/\g.params<=g.types.length)(l:List Nd)(deep:Int)(wh:Wh)(all:List Int)(set:List Bool)(hd:0<=deep/\deep<=101)(hs:set.length=f.types.length)(hb:all.length+lsW l<=34359738368),SizeOf.sizeOf l<N->SC Tryz.prog 48 [.ptr 3 0,.pv (z1p l),.pv (ints all),.pv (whv wh),iInt deep] (ckHp u f 4 set) (λk=>k=3) (iBool (z2o u f deep wh all set l).1) (ckHp u f 4 (z2o u f deep wh all set l).2):=by
 induction N with
 |zero=>intro u f hg l deep wh all set hd hs hb hN;exact absurd hN (Al _)
 |succ N ih =>
  intro u f hg l deep wh all set hd hs hb hN;refine SC.sameR (SC.vc tb { pb:=[108],an:=[6011],gh:=[(0,[.len 1]),(2,[.grow 11 111 3 1])] } [3] Tryz.func48 rfl rfl ?_) λk _ h=>An.2 h;intro hl;simp only[A8]at hl;have hl:l.length<=9223372036854775807:=hl;have ll:(l.map Nd.enc).length=l.length:=A8 _;unfold z2o;refine⟨rfl,zf1 (λ_ _=>⟨rfl,λy hy=>by simp[eInt]at hy;subst hy;rfl⟩),by simp;omega,Nat×List Int×List Bool,λq=>[(12,iInt ((q.1:Nat):Int)),(11,.sl 111 (q.2.1.map eInt).length)],λq=>(111,.row ⟨3,1⟩ (q.2.1.map eInt))::ckHp u f 4 q.2.2,λq=>l.length-q.1,λq=>q.1<=l.length/\q.2.2.length=f.types.length/\r8go u f deep wh all set l=r8go u f deep wh q.2.1 q.2.2 (l.drop q.1)/\q.2.1.length+lsW (l.drop q.1)<=34359738368,[],(0,all,set),⟨Ac _,hs,rfl,hb⟩,⟨rfl,slq (C0 _),Gd⟩,Gg,?_⟩;rintro⟨i,al,s⟩ ⟨i1,i2,i3,i4⟩;dsimp only at i1 i2 i3 i4;refine z00 (λhc=>?_) λhc=>?_
  ·have hlt:i<l.length:=z0x (f:=Nd.enc) rfl hc;obtain⟨x,x1,x2,x3,x4⟩:=z0o hlt;have hxe:=z86 x;rw[x3,lsW]at i4;rw[x3,r8go]at i3;have hne:∀r,ne l r=r:=λr=>by unfold ne;rw[if_neg (by rw[Fs];intro e;rw[e]at hlt;exact absurd hlt (Al _))]
   refine z00 (λh1=>?_) λh1=>?_
   ·have h1:deep > 100:=Am h1;rw[if_pos h1]at i3;rw[i3,hne];exact⟨sI,rfl,rfl,Gd⟩
   have h1:¬deep > 100:=Ak h1;rw[if_neg h1]at i3;have hX:=j2i u f hg x deep ⟨hd.1,by omega⟩ wh al s i2 oM0 λq hq deep w all set hd hs hb=>ih u f hg q deep w all set hd hs hb (Bc (z9t x4 rfl hq) (C1 hN));have hXl:=(z9b u f x deep wh al s).trans i2;have hck:=ck_lend (u:=u) (f:=f) (bt:=4) (set:=s) (z9b u f x deep wh al s);generalize z4y u f deep wh al s x=r at hX hXl hck i3;obtain⟨b,s2⟩:=r;dsimp only at hX hXl hck;have hR:∀k∈[3],look (up (ckHp u f 4 s)) k=none∨k=3:=λk hk=>.inr (An.1 hk);have hL:∀k∈[111],look (up (ckHp u f 4 s)) k=none:=λk hk=>by rw[An.1 hk];rfl
   have hpre:∀q∈ckHp u f 4 s,look ((111,some (.row ⟨3,1⟩ (al.map eInt)))::up (ckHp u f 4 s)) q.1=some q.2:=λq hq=>by
    simp only[ckHp,Aj,Bs,Ez]at hq;rcases hq with rfl|rfl<;>rfl
   cases b
   ·rw[show andT (false,s2) (λs1=>if (z08 x != (l.drop (i+1)).isEmpty)=true then(false,s1)else r8go u f deep wh (al++x.outs) s1 (l.drop (i+1)))=(false,s2)from rfl]at i3;rw[i3,hne];exact⟨z06 x1,rfl,yl0 [111] hX (tb.fok _ rfl) rfl rfl ⟨.same,.same,.row (An.2 rfl) rfl rfl rfl,.same,.same,Gd⟩ hL hpre rfl hR ⟨_,rfl⟩ hck,sI,rfl,rfl,Gd⟩
   rw[show andT (true,s2) (λs1=>if (z08 x != (l.drop (i+1)).isEmpty)=true then(false,s1)else r8go u f deep wh (al++x.outs) s1 (l.drop (i+1)))=(if (z08 x != (l.drop (i+1)).isEmpty)=true then(false,s2)else r8go u f deep wh (al++x.outs) s2 (l.drop (i+1)))from rfl]at i3;have hem:(l.drop (i+1)).isEmpty=((i:Int)==((l.map Nd.enc).length:Int)-1):=by
    rw[Ck,Fs,List.drop_eq_nil_iff,Av,ll];omega
   rw[hem]at i3;refine⟨z06 x1,rfl,yl0 [111] hX (tb.fok _ rfl) rfl rfl ⟨.same,.same,.row (An.2 rfl) rfl rfl rfl,.same,.same,Gd⟩ hL hpre rfl hR ⟨_,rfl⟩ hck,z06 x1,rfl,[],zj0 x,sR,Gd,rfl,z2x rfl (by rw[ll];omega),z00 (λh2=>?_) λh2=>?_⟩
   ·have h2:(z08 x != ((i:Int)==((l.map Nd.enc).length:Int)-1))=true:=h2;rw[if_pos h2]at i3;rw[i3,hne];exact⟨sI,rfl,rfl,Gd⟩
   ·rw[if_neg (by rw[show(z08 x != ((i:Int)==((l.map Nd.enc).length:Int)-1))=false from h2];decide)]at i3;have hlen:(al++x.outs).length+lsW (l.drop (i+1))<=34359738368:=by rw[B4];omega
    exact⟨z06 x1,rfl,rfl,zf1 (λ_ _=>⟨rfl,λy hy=>by simp[eInt]at hy;subst hy;rfl⟩),by simp;omega,z01 rfl oM0,(i+1,al++x.outs,s2),z03 hlt,⟨hlt,hXl,i3,hlen⟩,⟨rfl,slq sI0,Gd⟩,⟨rwq sI0,rfl,rfl,Gd⟩,rfl,rfl,rfl,rfl⟩
  ·have hge:l.length<=i:=z0y (f:=Nd.enc) rfl hc;have hgo:r8go u f deep wh all set l=(true,s):=by rw[i3,Ad hge,r8go]
   rw[hgo,show ne l (true,s)=(decide ((l.length:Int) > 0),s) by cases l<;>simp[ne]];exact⟨sE (by rw[ll]),rfl,rfl,Gd⟩
theorem j2h(u:Un)(f:Fl)(hg:∀g∈u.flows,0<=g.params/\g.params<=g.types.length)(l:List Nd)(deep:Int)(wh:Wh)(all:List Int)(set:List Bool)(hd:0<=deep/\deep<=101)(hs:set.length=f.types.length)(hb:all.length+lsW l<=34359738368):SC Tryz.prog 48 [.ptr 3 0,.pv (z1p l),.pv (ints all),.pv (whv wh),iInt deep] (ckHp u f 4 set) (λk=>k=3) (iBool (z2o u f deep wh all set l).1) (ckHp u f 4 (z2o u f deep wh all set l).2):=y5z _ u f hg l deep wh all set hd hs hb (Ab _)
theorem j2f(u:Un)(f:Fl)(hg:∀g∈u.flows,0<=g.params/\g.params<=g.types.length)(hb:lsW f.body<=34000000000):SC Tryz.prog 25 [.pv u.enc,.pv (.agg f.enc)] [] (λ_=>False) (iBool (z5x u f)) []:=by
 refine SC.anyR (SC.vc tb { pb:=[102,103],ids:=[(57,4),(59,3)],gh:=[(10,[.grow 7 107 3 1]),(15,[.fz 7 107])] } [] Tryz.func25 rfl rfl ?_);unfold z5x;have hl:((f.types.map eInt).length:Int)=f.types.length:=by rw[A8]
 refine z00 (λh1=>?_) λh1=>?_
 ·rw[show decide (f.params<0)=true from h1];exact⟨sI,Gd⟩
 rw[show decide (f.params<0)=false from h1];refine z00 (λh2=>?_) λh2=>?_
 ·rw[show decide (f.params > 8)=true from h2];exact⟨sI,Gd⟩
 rw[show decide (f.params > 8)=false from h2];refine z00 (λh3=>?_) λh3=>?_
 ·have h3:decide (f.params > ((f.types.map eInt).length:Int))=true:=h3;rw[hl]at h3;rw[h3];exact⟨sI,Gd⟩
 have h3:decide (f.params > ((f.types.map eInt).length:Int))=false:=h3;rw[hl]at h3;rw[h3];refine z00 (λh4=>?_) λh4=>?_
 ·have h4:decide (((f.types.map eInt).length:Int) > 20000)=true:=h4;rw[hl]at h4;rw[h4];exact⟨sI,Gd⟩
 have h4:decide (((f.types.map eInt).length:Int) > 20000)=false:=h4;rw[hl]at h4;rw[h4];simp only[Dv,B5];have q1:=Ak h1;have q3:=Ak h3;have q4:=Ak h4;have q2:=Ak h2;refine⟨Nat,λi=>[(5,iInt ((i:Nat):Int))],λ_=>[],λi=>f.types.length-i,λi=>i<=f.types.length/\f.types.all (λt=>t==1||t==2)=(f.types.drop i).all (λt=>t==1||t==2),[],0,⟨Ac _,rfl⟩,Ge,Gd,?_⟩;rintro i ⟨i1,i2⟩;refine z00 (λhc=>?_) λhc=>?_
 ·have hlt:i<f.types.length:=z0x (f:=eInt) rfl hc;obtain⟨x,x1,x2,x3,x4⟩:=z0o hlt;rw[x3,D8]at i2;refine⟨z02 (f:=eInt) x1,rfl,z00 (λc1=>?_) λc1=>?_⟩
  ·have c1:(x==1)=false:=by simpa using c1
   refine⟨z02 (f:=eInt) x1,rfl,z00 (λc2=>?_) λc2=>?_⟩
   ·have c2:(x==2)=false:=by simpa using c2
    rw[c1,c2]at i2;rw[i2];exact⟨sI,Gd⟩
   ·have c2:(x==2)=true:=by simpa using c2
    rw[c1,c2]at i2;exact⟨z01 rfl oM0,i+1,z03 hlt,⟨hlt,i2⟩,Ge,Gd,rfl,rfl,rfl,rfl⟩
  ·have c1:(x==1)=true:=by simpa using c1
   rw[c1]at i2;exact⟨z01 rfl oM0,i+1,z03 hlt,⟨hlt,i2⟩,Ge,Gd,rfl,rfl,rfl,rfl⟩
 ·have hge:f.types.length<=i:=z0y (f:=eInt) rfl hc;rw[i2,Ad hge,Fv,B5];have hn:∀k:Nat,((iota k).map eInt).length=k:=λk=>by rw[A8,y0c]
  refine⟨rfl,VNum.mk (n:=f.types.length) hl oM0 ⟨by simp,Nat,λi=>[(8,iInt ((i:Nat):Int)),(7,.sl 107 i)],λi=>(107,.row ⟨3,1⟩ ((iota i).map eInt))::ckHp u f 4 (z5g i f.types.length),λi=>f.params.toNat-i,λi=>(i:Int)<=f.params,[],0,by show((0:Nat):Int)<=_;omega,Gf,⟨rfl,boq (by simp[y4l,z5g];rfl),rwq (by simp[z5g,zf0];exact .inr rfl),Gd⟩,?_⟩⟩;intro i hi;have hsl:=z3p (k:=i) (n:=f.types.length) oM0;refine z00 (λhc=>?_) λhc=>?_
  ·have hlt:(i:Int)<f.params:=Am hc;have hss:=yq0 (k:=i) (n:=f.types.length) oM0;exact⟨rfl,VIdR.mk (i:=i) (by rw[A8];omega) rfl ⟨i,0,_,rfl,rfl,z02 (f:=zf0) (by rw[A9 (show i<(z5g i f.types.length).length by omega)]),by simp[zf0],hn i,z3y rfl,by simp;omega,z01 rfl oM0,i+1,(by show f.params.toNat-(i+1)<f.params.toNat-i;omega),(by show((i+1:Nat):Int)<=f.params;omega),⟨rfl,slq sI0,Gd⟩,⟨rwq (by rw[<- j0g];simp[eInt]),boq (by rw[<- hss];simp[y4l]),rwq (by rw[<- hss];simp[zf0,By]),Gd⟩,rfl,rfl,rfl,rfl⟩⟩
  ·have hge:¬(i:Int)<f.params:=Ak hc;have hi2:i=f.params.toNat:=by omega
   subst hi2;have hL:=j2h u f hg f.body 1 z39 (iota f.params.toNat) (z5g f.params.toNat f.types.length) ⟨by decide,by decide⟩ oM0 (by rw[y0c];omega);exact⟨hn _,[],hL,SubA.same (SubA.same (SubA.same (SubA.cons (sP (z0g _)) (SubA.same SubA.nil)))),Gf,rfl,sI,Gd⟩
inductive Ex where
 |mk (kind op n:Int) (name:ByteArray) (args:List Ex)
inductive St where
 |mk (kind ty:Int) (name:ByteArray) (args:List Ex) (thn els:List St)
structure Pm where
 name:ByteArray
 ty:Int
structure Fu where
 name:ByteArray
 ty:Int
 params:List Pm
 body:List St
structure Pg where
 arrays:List Ar
 funcs:List Fu
structure Tk where
 kind:Int
 text:ByteArray
 line:Int
mutual
def Ex.enc:Ex->List PV
 |.mk kind op n name args=>[vInt kind,vInt op,vInt n,vStr name,.seq (Ex.encL args)]
def Ex.encL:List Ex->List (List PV)
 |[]=>[]
 |x::r=>x.enc::Ex.encL r
end
theorem Ex.encL_eq:∀l,Ex.encL l=l.map Ex.enc
 |[]=>rfl
 |x::r=>by simp[Ex.encL,Ex.encL_eq r]
def exs(l:List Ex):PV:=.seq (l.map Ex.enc)
def Ex.kind:Ex->Int|.mk k _ _ _ _=>k
def Ex.op:Ex->Int|.mk _ o _ _ _=>o
def Ex.n:Ex->Int|.mk _ _ n _ _=>n
def Ex.name:Ex->ByteArray|.mk _ _ _ s _=>s
def Ex.args:Ex->List Ex|.mk _ _ _ _ a=>a
theorem Ex.enc_eq(x:Ex):x.enc=[vInt x.kind,vInt x.op,vInt x.n,vStr x.name,exs x.args]:=by
 cases x
 simp[Ex.enc,Ex.encL_eq,exs,Ex.kind,Ex.op,Ex.n,Ex.name,Ex.args]
theorem z1c{l:List Ex}{i:Nat}{x:Ex}(h:l[i]?=some x):(l.map Ex.enc)[i]?=some [vInt x.kind,vInt x.op,vInt x.n,vStr x.name,exs x.args]:=by
 simp[h,Ex.enc_eq]
def exv(x:Ex):PV:=.agg [vInt x.kind,vInt x.op,vInt x.n,vStr x.name,exs x.args]
mutual
def St.enc:St->List PV
 |.mk kind ty name args thn els=>[vInt kind,vInt ty,vStr name,exs args,.seq (St.encL thn),.seq (St.encL els)]
def St.encL:List St->List (List PV)
 |[]=>[]
 |x::r=>x.enc::St.encL r
end
theorem St.encL_eq:∀l,St.encL l=l.map St.enc
 |[]=>rfl
 |x::r=>by simp[St.encL,St.encL_eq r]
def sts(l:List St):PV:=.seq (l.map St.enc)
def St.kind:St->Int|.mk k _ _ _ _ _=>k
def St.ty:St->Int|.mk _ t _ _ _ _=>t
def St.name:St->ByteArray|.mk _ _ s _ _ _=>s
def St.args:St->List Ex|.mk _ _ _ a _ _=>a
def St.thn:St->List St|.mk _ _ _ _ t _=>t
def St.els:St->List St|.mk _ _ _ _ _ e=>e
theorem St.enc_eq(x:St):x.enc=[vInt x.kind,vInt x.ty,vStr x.name,exs x.args,sts x.thn,sts x.els]:=by
 cases x
 simp[St.enc,St.encL_eq,sts,St.kind,St.ty,St.name,St.args,St.thn,St.els]
theorem zj7{l:List St}{i:Nat}{x:St}(h:l[i]?=some x):(l.map St.enc)[i]?=some [vInt x.kind,vInt x.ty,vStr x.name,exs x.args,sts x.thn,sts x.els]:=by
 simp[h,St.enc_eq]
def stv(x:St):PV:=.agg [vInt x.kind,vInt x.ty,vStr x.name,exs x.args,sts x.thn,sts x.els]
def Pm.enc(p:Pm):List PV:=[vStr p.name,vInt p.ty]
def pms(l:List Pm):PV:=.seq (l.map Pm.enc)
def Fu.enc(f:Fu):List PV:=[vStr f.name,vInt f.ty,pms f.params,sts f.body]
def fus(l:List Fu):PV:=.seq (l.map Fu.enc)
def Pg.enc(p:Pg):PV:=.agg [arrs p.arrays,fus p.funcs]
def Tk.enc(t:Tk):List PV:=[vInt t.kind,vStr t.text,vInt t.line]
def tks(l:List Tk):PV:=.seq (l.map Tk.enc)
mutual
def xz:Ex->Nat
 |.mk _ _ _ _ args=>1+xzL args
def xzL:List Ex->Nat
 |[]=>0
 |x::r=>xz x+xzL r
end
mutual
def sz:St->Nat
 |.mk _ _ _ args thn els=>1+xzL args+szL thn+szL els
def szL:List St->Nat
 |[]=>0
 |x::r=>sz x+szL r
end
theorem j4k:∀a b:List Ex,xzL (a++b)=xzL a+xzL b
 |[],b=>by simp[xzL]
 |x::r,b=>by simp only[B9,xzL,j4k r b];omega
theorem j3l:∀a b:List St,szL (a++b)=szL a+szL b
 |[],b=>by simp[szL]
 |x::r,b=>by simp only[B9,szL,j3l r b];omega
theorem xz_pos(x:Ex):1<=xz x:=by cases x;simp only[xz];omega
theorem sz_pos(x:St):1<=sz x:=by cases x;simp only[sz];omega
theorem zb0:∀l:List Ex,l.length<=xzL l
 |[]=>Ag _
 |x::r=>by
  have:=xz_pos x;have:=zb0 r;simp only[A1,xzL];omega
theorem z8j:∀l:List St,l.length<=szL l
 |[]=>Ag _
 |x::r=>by
  have:=sz_pos x;have:=z8j r;simp only[A1,szL];omega
def maxI:Int:=9223372036854775807
def qVal:Int->List UInt8->Int
 |n,[]=>n
 |n,b::r=>if n > (maxI-((b.toNat:Int)-48)).tdiv 10 then -1 else qVal (n*10+((b.toNat:Int)-48)) r
def zg7(s:ByteArray):Int :=
 if qVal 0 s.data.toList = -1 then -1 else if s.data.toList=[]∨(s.data.toList.length > 1/\s.data.toList.head? = some 48)then -1 else qVal 0 s.data.toList
def zl0(s:ByteArray):Bool:=s.data.toList.all (λb=>z3z b.toNat)&&decide (zg7 s≥0)
def sgL:List ByteArray:=[⟨#[62,62,62]⟩,⟨#[60,60]⟩,⟨#[62,62]⟩,⟨#[60,61]⟩,⟨#[62,61]⟩,⟨#[61,61]⟩,⟨#[33,61]⟩,⟨#[38,38]⟩,⟨#[124,124]⟩,⟨#[40]⟩,⟨#[41]⟩,⟨#[123]⟩,⟨#[125]⟩,⟨#[91]⟩,⟨#[93]⟩,⟨#[44]⟩,⟨#[59]⟩,⟨#[61]⟩,⟨#[60]⟩,⟨#[62]⟩,⟨#[43]⟩,⟨#[45]⟩,⟨#[42]⟩,⟨#[47]⟩,⟨#[37]⟩,⟨#[38]⟩,⟨#[124]⟩,⟨#[94]⟩,⟨#[126]⟩,⟨#[33]⟩]
def sgIs(s w:ByteArray):Bool:=decide (w.size<=s.size)&&(s.extract 0 w.size).toList==w.toList
def sgGo(s:ByteArray):List ByteArray->ByteArray
 |[]=>⟨#[]⟩
 |w::r=>if sgIs s w then w else sgGo s r
def sgOf(s:ByteArray):ByteArray:=sgGo s sgL
theorem zy3(s:ByteArray):∀l:List ByteArray,sgGo s l=⟨#[]⟩∨(sgGo s l∈l/\(sgGo s l).size<=s.size)
 |[]=>.inl rfl
 |w::r=>by
  simp only[sgGo];split
  ·rename_i h;simp only[sgIs,A0,Bj]at h;exact .inr ⟨.head _,h.1⟩
  ·rcases zy3 s r with h|h
   ·exact .inl h
   ·exact .inr ⟨.tail _ h.1,h.2⟩
def z4f(s:ByteArray)(at_:Nat):Nat:=((s.data.toList.drop at_).takeWhile isLD).length
def zq2(s:ByteArray)(at_:Nat):Nat:=at_+((s.data.toList.drop at_).takeWhile λb=>b != 10).length
inductive TStep where
 |skip (line at_:Nat)
 |tok (t:Tk) (at_:Nat)
 |bad (line:Nat)
def z3c(b:UInt8)(w:ByteArray):Int:=if z1i w then 2 else if z4l b.toNat then 1 else 0
def zs7(s:ByteArray)(line at_:Nat)(b:UInt8):TStep :=
 if b=10 then .skip (line+1) (at_+1)
 else if b=32∨b=9∨b=13 then .skip line (at_+1)
 else if b=47/\s.data.toList[at_+1]?=some 47 then .skip line (zq2 s at_)
 else if z4f s at_ > 0 then
  if (z3c b (s.extract at_ (at_+z4f s at_))=1/\z0k (s.extract at_ (at_+z4f s at_))=false)∨(z3c b (s.extract at_ (at_+z4f s at_))=0/\zl0 (s.extract at_ (at_+z4f s at_))=false)then .bad line
  else .tok ⟨z3c b (s.extract at_ (at_+z4f s at_)),s.extract at_ (at_+z4f s at_),line⟩ (at_+z4f s at_)
 else if (sgOf (s.extract at_ s.size)).size=0 then .bad line
 else .tok ⟨2,sgOf (s.extract at_ s.size),line⟩ (at_+(sgOf (s.extract at_ s.size)).size)
def toks(s:ByteArray):Nat->Nat->Nat->List Tk->List Tk×Int×Int
 |0,_,_,_=>([],0,0)
 |N+1,line,at_,out=>match s.data.toList[at_]? with
  |none=>(out++[⟨3,⟨#[]⟩,line⟩],0,0)
  |some b=>match zs7 s line at_ b with
   |.skip line' at'=>toks s N line' at' out
   |.tok t at'=>toks s N line at' (out++[t])
   |.bad l=>([],20,l)
def z1t(s:ByteArray):List Tk×Int×Int:=if s.size > 100000 then([],2,0)else toks s (s.size+1) 1 0 []
theorem j21(s:ByteArray)(a:Nat):a+z4f s a<=s.size∨z4f s a=0:=by
 unfold z4f;have h:=F2 (p:=isLD) (l:=s.data.toList.drop a);have h1:=h.length_le;rw[Em]at h1;have h2:s.data.toList.length=s.size:=Bx;omega
theorem y3a{s:ByteArray}{a:Nat}{b:UInt8}(h:s.data.toList[a]?=some b)(hb:b≠10):a<zq2 s a/\zq2 s a<=s.size:=by
 have hlt:=(A6.1 h).1;have hd:s.data.toList.drop a=b::s.data.toList.drop (a+1):=by
  rw[D1 hlt,(A6.1 h).2]
 have h2:s.data.toList.length=s.size:=Bx;unfold zq2;rw[hd,E3,if_pos (by simpa using hb)];have h1:=(F2 (p:=λb:UInt8=>b != 10) (l:=s.data.toList.drop (a+1))).length_le;rw[Em]at h1;simp only[A1];omega
theorem tStep_at{s:ByteArray}{line a:Nat}{b:UInt8}(h:s.data.toList[a]?=some b) :
 match zs7 s line a b with
 |.skip _ at'=>a<at'/\at'<=s.size
 |.tok t at'=>a<at'/\at'<=s.size/\t.kind≠3/\(t.kind=0->zl0 t.text=true)
 |.bad _=>True:=by
 have hlt:=(A6.1 h).1;have h2:s.data.toList.length=s.size:=Bx;unfold zs7
 by_cases c1:b=10
 ·rw[if_pos c1];exact⟨by omega,by omega⟩
 rw[if_neg c1]
 by_cases c2:b=32∨b=9∨b=13
 ·rw[if_pos c2];exact⟨by omega,by omega⟩
 rw[if_neg c2]
 by_cases c3:b=47/\s.data.toList[a+1]?=some 47
 ·rw[if_pos c3];exact y3a h c1
 rw[if_neg c3]
 by_cases c4:z4f s a > 0
 ·rw[if_pos c4];have h3:=j21 s a;generalize s.extract a (a+z4f s a)=w
  by_cases c5:(z3c b w=1/\z0k w=false)∨(z3c b w=0/\zl0 w=false)
  ·rw[if_pos c5];trivial
  ·rw[if_neg c5];refine⟨by omega,by omega,?_,λe=>?_⟩
   ·show z3c b w≠3;unfold z3c;split
    ·decide
    ·split<;>decide
   ·have e':z3c b w=0:=e
    cases hq:zl0 w with
    |true=>rfl
    |false=>exact absurd (.inr ⟨e',hq⟩) c5
 rw[if_neg c4]
 by_cases c6:(sgOf (s.extract a s.size)).size=0
 ·rw[if_pos c6];trivial
 ·rw[if_neg c6];have h3:=zy3 (s.extract a s.size) sgL;have h4:(s.extract a s.size).size=s.size-a:=by simp[Cj]
  refine⟨by omega,?_,by show(2:Int)≠3;decide,λe=>absurd e (by show(2:Int)≠0;decide)⟩;rcases h3 with h3|h3
  ·exact absurd (by unfold sgOf;rw[h3];rfl) c6
  ·have:=h3.2;unfold sgOf;omega
def TkOk(T:List Tk):Prop:=∃init e,T=init++[e]/\e.kind=3/\(∀t∈init,t.kind≠3/\(t.kind=0->zl0 t.text=true))
theorem yg1(s:ByteArray):∀(N line a:Nat)(out:List Tk),s.size<N+a->a<=s.size->out.length<=a->(∀t∈out,t.kind≠3/\(t.kind=0->zl0 t.text=true))->(toks s N line a out).2.1=0->TkOk (toks s N line a out).1/\(toks s N line a out).1.length<=s.size+1
 |0,_,a,_,h,h',_,_,_=>by omega
 |N+1,line,a,out,hN,ha,hl,ho,h0=>by
  unfold toks at h0⊢
  cases hb:s.data.toList[a]? with
  |none =>
   refine⟨⟨out,⟨3,⟨#[]⟩,line⟩,rfl,rfl,ho⟩,?_⟩;show(out++[_]).length<=_;rw[B4];show out.length+1<=_
   omega
  |some b =>
   rw[hb]at h0;have hs:=tStep_at (line:=line) hb;dsimp only at h0⊢;generalize zs7 s line a b=st at hs h0
   cases st with
   |skip l2 a2=>exact yg1 s N l2 a2 out oM0 hs.2 oM0 ho h0
   |tok t a2 =>
    refine yg1 s N line a2 (out++[t]) oM0 hs.2.1 (by rw[B4];show out.length+1<=_;omega) (λt' ht'=>?_) h0;rcases Ax.1 ht' with ht'|ht'
    ·exact ho t' ht'
    ·rw[An.1 ht'];exact hs.2.2
   |bad l=>exact absurd (show(20:Int)=0 from h0) dC0
theorem y25{s:ByteArray}(h:(z1t s).2.1=0):TkOk (z1t s).1/\(z1t s).1.length<=100001:=by
 unfold z1t at h⊢
 by_cases hs:s.size > 100000
 ·rw[if_pos hs]at h;exact absurd h dC0
 ·rw[if_neg hs]at h⊢;obtain⟨h1,h2⟩:=yg1 s (s.size+1) 1 0 [] oM0 (Ac _) (Ac _) (λt ht=>by simp at ht) h;exact⟨h1,by omega⟩
theorem z9j(n:Int):SC Tryz.prog 73 [.pv (vU8 n)] [] (λ_=>False) (iBool (z4l n)) []:=by
 refine SC.anyR (SC.vc tb {} [] Tryz.func73 rfl rfl ?_);unfold z4l;refine z00 (λh1=>z00 (λh2=>⟨sE (by rw[h1,h2];rfl),Gd⟩) λh2=>?_) λh1=>?_
 ·refine z00 (λh3=>z00 (λh4=>⟨sE (by rw[h1,h2,h3,h4];rfl),Gd⟩) λh4=>⟨sE (by rw[h1,h2,h3,h4];rfl),Gd⟩) λh3=>⟨sE (by rw[h1,h2,h3];rfl),Gd⟩
 ·refine z00 (λh3=>z00 (λh4=>⟨sE (by rw[h1,h3,h4];rfl),Gd⟩) λh4=>⟨sE (by rw[h1,h3,h4];rfl),Gd⟩) λh3=>⟨sE (by rw[h1,h3];rfl),Gd⟩
theorem zr7(n:Int):SC Tryz.prog 74 [.pv (vU8 n)] [] (λ_=>False) (iBool (z3z n)) []:=by
 refine SC.anyR (SC.vc tb {} [] Tryz.func74 rfl rfl ?_);unfold z3z;exact z00 (λh1=>⟨sE (by rw[h1];rfl),Gd⟩) λh1=>⟨sE (by rw[h1];rfl),Gd⟩
theorem y1o(s:ByteArray):SC Tryz.prog 75 [iStr s] [] (λ_=>False) (iBool (z1i s)) []:=by
 refine SC.anyR (SC.vc tb {} [] Tryz.func75 rfl rfl ?_);have N:∀{b:Bool}{P:Prop},b=true->b=false->P:=λh g=>by rw[h]at g;cases g
 have T:∀{b:Bool},b=true->SubI (iBool true) (iBool b):=λh=>sE (by rw[h]);exact z00 (λh=>z00 (λ_=>⟨T (by unfold z1i;rw[h];simp only[Bh,Bb]),Gd⟩) λg=>N h g) λh1=>z00 (λh=>z00 (λ_=>⟨T (by unfold z1i;rw[h];simp only[Bh,Bb]),Gd⟩) λg=>N h g) λh2=>z00 (λh=>z00 (λ_=>⟨T (by unfold z1i;rw[h];simp only[Bh,Bb]),Gd⟩) λg=>N h g) λh3=>z00 (λh=>z00 (λ_=>⟨T (by unfold z1i;rw[h];simp only[Bh,Bb]),Gd⟩) λg=>N h g) λh4=>z00 (λh=>z00 (λ_=>⟨T (by unfold z1i;rw[h];simp only[Bh,Bb]),Gd⟩) λg=>N h g) λh5=>z00 (λh=>z00 (λ_=>⟨T (by unfold z1i;rw[h];simp only[Bh,Bb]),Gd⟩) λg=>N h g) λh6=>z00 (λh=>z00 (λ_=>⟨T (by unfold z1i;rw[h];simp only[Bh,Bb]),Gd⟩) λg=>N h g) λh7=>z00 (λh=>z00 (λ_=>⟨T (by unfold z1i;rw[h];simp only[Bh,Bb]),Gd⟩) λg=>N h g) λh8=>z00 (λh=>z00 (λ_=>⟨T (by unfold z1i;rw[h];simp only[Bh,Bb]),Gd⟩) λg=>N h g) λh9=>z00 (λh=>z00 (λ_=>⟨T (by unfold z1i;rw[h];simp only[Bh,Bb]),Gd⟩) λg=>N h g) λh10=>z00 (λh=>z00 (λ_=>⟨T (by unfold z1i;rw[h];simp only[Bh,Bb]),Gd⟩) λg=>N h g) λh11=>z00 (λh=>z00 (λ_=>⟨T (by unfold z1i;rw[h];simp only[Bh,Bb]),Gd⟩) λg=>N h g) λh12=>z00 (λh=>z00 (λ_=>⟨T (by unfold z1i;rw[h];simp only[Bh,Bb]),Gd⟩) λg=>N h g) λh13=>z00 (λh=>z00 (λ_=>⟨T (by unfold z1i;rw[h];simp only[Bh,Bb]),Gd⟩) λg=>N h g) λh14=>z00 (λh=>z00 (λ_=>⟨T (by unfold z1i;rw[h];simp only[Bh,Bb]),Gd⟩) λg=>N h g) λh15=>z00 (λh=>z00 (λ_=>⟨T (by unfold z1i;rw[h];simp only[Bh,Bb]),Gd⟩) λg=>N h g) λh16=>z00 (λh=>z00 (λ_=>⟨T (by unfold z1i;rw[h];simp only[Bh,Bb]),Gd⟩) λg=>N h g) λh17=>z00 (λh=>⟨T (by unfold z1i;rw[h];simp only[Bh,Bb]),Gd⟩) λh18=>⟨sE (by unfold z1i;rw[h1,h2,h3,h4,h5,h6,h7,h8,h9,h10,h11,h12,h13,h14,h15,h16,h17,h18];rfl),Gd⟩
theorem q64{m n z:Int}(hn:n≠0)(h:m.tdiv n=z)(h1:-9223372036854775808<=z/\z<=9223372036854775807):z3d .quo .i64 m n=some (.int .i64 z):=by
 subst h;simp only[z3d];rw[if_neg hn,D0 _ h1]
theorem y5t(s:ByteArray)(h:s.data.toList.all (λb=>z3z b.toNat)=true)(hs:s.size<=1073741824):SC Tryz.prog 82 [.pv (.val (.string s))] [] (λk=>k∈[]) (iInt (zg7 s)) []:=by
 refine SC.vc tb {} [] Tryz.func82 rfl rfl ?_;refine⟨Int×Nat,λa=>[(3,iInt a.1),(4,iInt (a.2:Nat))],λ_=>[],λa=>s.size-a.2,λa=>a.2<=s.size/\0<=a.1/\a.1<=maxI/\qVal 0 s.data.toList=qVal a.1 (s.data.toList.drop a.2),[],(0,0),⟨Ac _,by decide,by decide,rfl⟩,Gf,Gd,?_⟩;rintro⟨n,k⟩ ⟨hk,hn0,hn1,hq⟩;refine z00 (λhc=>?_) λhc=>?_
 ·obtain⟨b,hb⟩:∃b,s.data.toList[k]?=some b:=⟨s.data.toList[k]'(by simpa using Am hc),A9 _⟩;have hd:s.data.toList.drop k=b::s.data.toList.drop (k+1):=by
   obtain⟨h1,h2⟩:=A6.1 hb;rw[D1 h1,h2]
  have hdig:=Bi.1 h b (Ae hb);simp only[z3z,A0,Bj]at hdig;have hlt:k<s.size:=by simpa using Am hc
  rw[hd]at hq;simp only[qVal]at hq;unfold maxI at hn1 hq;have hw:IntKind.i64.wrap (b.toNat:Int)=(b.toNat:Int):=D0 _ oM0;have hb2:s[k]?=some b:=by
   rw[y2t (by rw[z2e];exact(A6.1 hb).1)];simp only[z2e];rw[(A6.1 hb).2]
  generalize hdd:(b.toNat:Int)-48=d at hq;have hd9:0<=d/\d<=9:=by omega
  have hdv:(9223372036854775807-d).tdiv 10=(9223372036854775807-d)/10:=Eh oM0;rw[hdv]at hq;refine⟨hb2,rfl,z2x (z:=d) (by rw[hw];exact hdd) oM0,z2x rfl oM0,q64 (z:=(9223372036854775807-d)/10) dC0 hdv oM0,z00 (λh2=>?_) λh2=>?_⟩
  ·refine⟨sE ?_,Gd⟩;have h2:=Am h2;unfold zg7;rw[hq,if_pos h2];rfl
  ·have h2:=Ak h2;rw[if_neg h2]at hq;refine⟨y4v rfl oM0,z01 (z:=n*10+d) rfl oM0,z01 rfl (by dsimp only;omega),(n*10+d,k+1),z03 hlt,⟨hlt,by show 0<=n*10+d;omega,by show n*10+d<=maxI;unfold maxI;omega,hq⟩,Gf,Gd,rfl,rfl,rfl,rfl⟩
 ·have hge:s.size<=k:=by simpa using Ak hc
  have hq2:qVal 0 s.data.toList=n:=by
   rw[hq,show s.data.toList.drop k=[]from Ad (by simpa using hge)];rfl
  refine z00 (λhe=>?_) λhe=>?_
  ·refine⟨sE ?_,Gd⟩;have he:s.toList=[]:=by simpa using he
   rw[z2e]at he;unfold zg7;simp[he]
  ·have he:s.toList≠[]:=by simpa using he
   rw[z2e]at he;have hn:n ≠ -1:=by dsimp only at hn0;omega
   have hl:s.data.toList.length=s.size:=Bx;obtain⟨b0,r0,hs0⟩:=C2 he;have hb0:s[0]?=some b0:=by
    rw[y2t (by rw[z2e,hs0];simp)];simp[z2e,hs0]
   have hval:zg7 s=if s.size > 1/\b0=48 then -1 else n:=by
    unfold zg7;rw[hq2,if_neg hn,hl,hs0];simp
   refine z00 (λh1=>⟨hb0,rfl,z00 (λh2=>?_) λh2=>?_⟩) λh1=>?_
   ·refine⟨sE ?_,Gd⟩;have h3:b0=48:=UInt8.toNat_inj.1 (by have:=eq_of_beq h2;show b0.toNat=48;omega);rw[hval,if_pos ⟨by have:=Am h1;omega,h3⟩]
   ·refine⟨sE ?_,Gd⟩;have h3:b0≠48:=λe=>by subst e;simp at h2
    rw[hval,if_neg (λh=>h3 h.2)]
   ·refine⟨sE ?_,Gd⟩;rw[hval,if_neg (λh=>by have:=Ak h1;omega)]
theorem zs9{s:ByteArray}{k:Nat}(h:decide ((k:Int)<(s.size:Int))=true):∃b,s[k]?=some b/\s.data.toList[k]?=some b/\s.data.toList.drop k=b::s.data.toList.drop (k+1)/\k<s.size/\b∈s.data.toList:=by
 have hlt:k<s.size:=by simpa using Am h
 obtain⟨b,hb⟩:∃b,s.data.toList[k]?=some b:=⟨s.data.toList[k]'(by simpa using hlt),A9 _⟩;obtain⟨h1,h2⟩:=A6.1 hb;refine⟨b,?_,hb,by rw[D1 h1,h2],hlt,Ae hb⟩;rw[y2t (by rw[z2e];exact h1)];simp only[z2e];rw[h2]
theorem zo0{s:ByteArray}{k:Nat}(h:decide ((k:Int)<(s.size:Int))=false):s.data.toList.drop k=[] :=
 Ad (by have h2:s.data.toList.length=s.size:=Bx;have:=Ak h;omega)
theorem j2d(s:ByteArray)(hs:s.size<=1073741824):SC Tryz.prog 76 [.pv (.val (.string s))] [] (λk=>k∈[]) (iBool (zl0 s)) []:=by
 refine SC.vc tb {} [] Tryz.func76 rfl rfl ?_;refine⟨Nat,λk=>[(3,iInt (k:Nat))],λ_=>[],λk=>s.size-k,λk=>k<=s.size/\s.data.toList.all (λb=>z3z b.toNat)=(s.data.toList.drop k).all (λb=>z3z b.toNat),[],0,⟨Ac _,rfl⟩,Ge,Gd,?_⟩;rintro k ⟨hk,hq⟩;refine z00 (λhc=>?_) λhc=>?_
 ·obtain⟨b,h1,h2,h3,h4,h5⟩:=zs9 hc;rw[h3,D8]at hq;refine⟨h1,rfl,[],zr7 _,sR,Gd,rfl,z00 (λhd=>?_) λhd=>?_⟩
  ·have hd:z3z b.toNat=false:=by simpa using hd
   refine⟨sE ?_,Gd⟩;unfold zl0;rw[hq,hd];rfl
  ·have hd:z3z b.toNat=true:=by simpa using hd
   rw[hd]at hq;exact⟨z01 rfl oM0,k+1,z03 h4,⟨h4,hq⟩,Ge,Gd,rfl,rfl,rfl,rfl⟩
 ·rw[zo0 hc]at hq;refine⟨[],y5t s hq hs,sR,Gd,rfl,sE ?_,Gd⟩;unfold zl0;rw[hq];rfl
def sgEls:List (List PV):=sgL.map λw=>[.val (.string w)]
theorem y8q:sgEls.length=30:=rfl
theorem sg_at{k:Nat}(h:k<30):∃w,sgEls[k]?=some [.val (.string w)]/\sgL.drop k=w::sgL.drop (k+1)/\w.size<=3:=by
 obtain⟨w,h1,h2,h3,h4⟩:=z0o (l:=sgL) (k:=k) h;refine⟨w,by unfold sgEls;rw[Ba,h1];rfl,h3,?_⟩;have:∀w∈sgL,w.size<=3:=by decide
 exact this w h4
theorem sc_sign(s:ByteArray)(hs:s.size<=1073741824):SC Tryz.prog 77 [.pv (.val (.string s))] [] (λk=>k∈[]) (.pv (.val (.string (sgOf s)))) []:=by
 refine SC.vc tb {} [] Tryz.func77 rfl rfl ?_;refine⟨Nat,λk=>[(4,iInt (k:Nat)),(3,.pv (.seq sgEls))],λ_=>[],λk=>30-k,λk=>k<=30/\sgOf s=sgGo s (sgL.drop k),[],0,⟨Ac _,rfl⟩,Gf,Gd,?_⟩;rintro k ⟨hk,hq⟩;refine z00 (λhc=>?_) λhc=>?_
 ·have hlt:k<30:=by have:=Am hc;rw[y8q]at this;omega
  obtain⟨w,h1,h2,h3⟩:=sg_at hlt;rw[h2]at hq;simp only[sgGo]at hq;refine⟨h1,rfl,z00 (λh4=>?_) λh4=>?_⟩
  ·have h5:w.size<=s.size:=by have:=Am h4;omega
   refine⟨h1,rfl,w.size,rfl,Ac _,h5,h1,rfl,z00 (λh6=>?_) λh6=>?_⟩
   ·exact⟨h1,rfl,sE (by rw[hq,if_pos (by unfold sgIs;rw[h6];simp[h5])]),Gd⟩
   ·rw[if_neg (by unfold sgIs;rw[h6];simp)]at hq;exact⟨z01 rfl oM0,k+1,z03 hlt,⟨hlt,hq⟩,Gf,Gd,rfl,rfl,rfl,rfl⟩
  ·have h5:¬w.size<=s.size:=by have:=Ak h4;omega
   rw[if_neg (by unfold sgIs;simp[h5])]at hq;exact⟨z01 rfl oM0,k+1,z03 hlt,⟨hlt,hq⟩,Gf,Gd,rfl,rfl,rfl,rfl⟩
 ·have hge:k=30:=by have:=Ak hc;rw[y8q]at this;omega
  subst hge;exact⟨sE (by rw[hq];rfl),Gd⟩
theorem z6l(s:ByteArray):SC Tryz.prog 46 [iStr s] [] (λ_=>False) (iBool (z0k s)) []:=by
 refine SC.anyR (SC.vc tb {} [] Tryz.func46 rfl rfl ?_);have hlen:s.toList.length=s.size:=by rw[z2e];exact Bx
 refine z00 (λh1=>⟨sE ?_,Gd⟩) λh1=>?_
 ·have h1:s.toList=[]:=by simpa using h1
  unfold z0k;rw[h1];rfl
 have h1':s.toList≠[]:=by simpa using h1
 have h1:(s.toList==[])=false:=by simpa using h1'
 refine z00 (λh2=>⟨sE ?_,Gd⟩) λh2=>?_
 ·have:¬(s.size:Int)<=20:=by have:=Am h2;omega
  unfold z0k;rw[h1,De this];rfl
 have h2:(s.size:Int)<=20:=by have:=Ak h2;omega
 obtain⟨b0,r0,hs0⟩:=C2 h1';have hb0:s[0]?=some b0:=by
  rw[y2t (by rw[hs0];simp)];simp[hs0]
 refine⟨hb0,rfl,[],z9j _,sR,Gd,rfl,z00 (λh3=>⟨sE ?_,Gd⟩) λh3=>?_⟩
 ·have h3:z4l b0.toNat=false:=by simpa using h3
  unfold z0k;rw[hs0];simp[h3]
 have h3:z4l b0.toNat=true:=by simpa using h3
 refine⟨[],y1o s,sR,Gd,rfl,z00 (λh4=>⟨sE ?_,Gd⟩) λh4=>?_⟩
 ·unfold z0k;rw[h4];simp
 have hN:z0k s=s.data.toList.all isLD:=by
  unfold z0k;rw[h1,h4,Cb h2];rw[<- z2e];simp[hs0,h3]
 refine⟨Nat,λk=>[(3,iInt (k:Nat))],λ_=>[],λk=>s.size-k,λk=>k<=s.size/\s.data.toList.all isLD=(s.data.toList.drop k).all isLD,[],0,⟨Ac _,rfl⟩,Ge,Gd,?_⟩;rintro k ⟨hk,hq⟩;refine z00 (λhc=>?_) λhc=>?_
 ·obtain⟨b,g1,g2,g3,g4,g5⟩:=zs9 hc;rw[g3,D8]at hq;refine⟨g1,rfl,[],z9j _,sR,Gd,rfl,z00 (λh5=>⟨g1,rfl,[],zr7 _,sR,Gd,rfl,z00 (λh6=>⟨sE ?_,Gd⟩) λh6=>?_⟩) λh5=>?_⟩
  ·rw[hN,hq];unfold isLD;rw[show z4l b.toNat=false by simpa using h5,show z3z b.toNat=false by simpa using h6];rfl
  ·have h7:isLD b=true:=by unfold isLD;rw[show z3z b.toNat=true by simpa using h6];simp
   rw[h7]at hq;exact⟨z01 rfl oM0,k+1,z03 g4,⟨g4,hq⟩,Ge,Gd,rfl,rfl,rfl,rfl⟩
  ·have h7:isLD b=true:=by unfold isLD;rw[show z4l b.toNat=true by simpa using h5];simp
   rw[h7]at hq;exact⟨z01 rfl oM0,k+1,z03 g4,⟨g4,hq⟩,Ge,Gd,rfl,rfl,rfl,rfl⟩
 ·rw[zo0 hc]at hq;exact⟨sE (by rw[hN,hq];rfl),Gd⟩
theorem y8b(u:Un):SC Tryz.prog 24 [.pv u.enc] [] (λ_=>False) (iBool (z1f u)) []:=by
 refine SC.anyR (SC.vc tb { gh:=[(4,[.len 10]),(10,[.len 51])] } [] Tryz.func24 rfl rfl ?_);refine⟨Nat,λk=>[(3,iInt k)],λ_=>[],λk=>u.arrays.length-k,λk=>k<=u.arrays.length/\r8gA u u.arrays 0=r8gA u (u.arrays.drop k) k,[],0,⟨Ac _,rfl⟩,Ge,Gd,?_⟩;rintro k ⟨hk,hA⟩;refine z00 (λhc=>?_) λhc=>?_
 ·have hlt:=z0x (f:=Ar.enc) rfl hc;intro hl;simp only[A8]at hl;obtain⟨a,ha,_,hd,_⟩:=z0o hlt;rw[hd,show r8gA u (a::u.arrays.drop (k+1)) k=(gArr u a k&&r8gA u (u.arrays.drop (k+1)) (k+1))from rfl]at hA;have bad:gArr u a k=false->SubI (iBool false) (iBool (z1f u)):=λh=>sE (by unfold z1f;rw[hA,h];rfl);have hNm:=z6l a.name
  cases hN:z0k a.name with
  |false=>rw[hN]at hNm;exact⟨z02 (f:=Ar.enc) ha,rfl,[],hNm,sR,Gd,rfl,bad (by unfold gArr;rw[hN];rfl),Gd⟩
  |true =>
   rw[hN]at hNm;refine⟨z02 (f:=Ar.enc) ha,rfl,[],hNm,sR,Gd,rfl,z00 (λh1=>⟨bad (by unfold gArr;rw[hN,show decide (a.size<1)=true from h1];rfl),Gd⟩) λh1=>z00 (λh2=>⟨bad (by unfold gArr;rw[hN,show decide (a.size<1)=false from h1,show decide (a.size > 1000)=true from h2];rfl),Gd⟩) λh2=>⟨[],z0e u a.name,sR,Gd,rfl,z00 (λh3=>?_) λh3=>⟨[],z3w u a.name,sR,Gd,rfl,z00 (λh4=>?_) λh4=>?_⟩⟩⟩
   ·have q3:(z0h a.name u.arrays 0==(k:Int))=false:=by simpa using h3
    exact⟨bad (by unfold gArr;rw[hN,show decide (a.size<1)=false from h1,show decide (a.size > 1000)=false from h2,q3];rfl),Gd⟩
   ·have q3:(z0h a.name u.arrays 0==(k:Int))=true:=by simpa using h3
    exact⟨bad (by unfold gArr;rw[hN,show decide (a.size<1)=false from h1,show decide (a.size > 1000)=false from h2,q3,show decide (z05 a.name u.flows 0≥0)=true from h4];rfl),Gd⟩
   ·have q3:(z0h a.name u.arrays 0==(k:Int))=true:=by simpa using h3
    have good:gArr u a k=true:=by unfold gArr;rw[hN,show decide (a.size<1)=false from h1,show decide (a.size > 1000)=false from h2,q3,show decide (z05 a.name u.flows 0≥0)=false from h4];rfl
    exact⟨z01 rfl oM0,k+1,z03 hlt,⟨hlt,by rw[hA,good];rfl⟩,Ge,Gd,rfl,rfl,rfl,rfl⟩
 ·rw[Ad (z0y (f:=Ar.enc) rfl hc),show r8gA u [] k=true from rfl]at hA;refine⟨Nat,λk=>[(5,iInt k)],λ_=>[],λk=>u.flows.length-k,λk=>k<=u.flows.length/\r8gF u u.flows 0=r8gF u (u.flows.drop k) k,[],0,⟨Ac _,rfl⟩,Ge,Gd,?_⟩;rintro k ⟨hk,hF⟩;refine z00 (λhc=>?_) λhc=>?_
  ·have hlt:=z0x (f:=Fl.enc) rfl hc;intro hl;simp only[A8]at hl;obtain⟨f,hf,_,hd,_⟩:=z0o hlt;rw[hd,show r8gF u (f::u.flows.drop (k+1)) k=(gFlw u f k&&r8gF u (u.flows.drop (k+1)) (k+1))from rfl]at hF;have bad:gFlw u f k=false->SubI (iBool false) (iBool (z1f u)):=λh=>sE (by unfold z1f;rw[hA,hF,h];rfl);have hNm:=z6l f.name
   cases hN:z0k f.name with
   |false=>rw[hN]at hNm;exact⟨z02 (f:=Fl.enc) hf,rfl,[],hNm,sR,Gd,rfl,bad (by unfold gFlw;rw[hN];rfl),Gd⟩
   |true =>
    rw[hN]at hNm;have tail:∀(q1:(z05 f.name u.flows 0==(k:Int))=true) (q2:(f.ty==1||f.ty==2)=true),gFlw u f k=(!decide (f.params<0) && !decide (f.params > f.types.length)):=λq1 q2=>by unfold gFlw;rw[hN,q1,q2];rfl
    refine⟨z02 (f:=Fl.enc) hf,rfl,[],hNm,sR,Gd,rfl,[],z3w u f.name,sR,Gd,rfl,z00 (λh1=>?_) λh1=>?_⟩
    ·have q1:(z05 f.name u.flows 0==(k:Int))=false:=by simpa using h1
     exact⟨bad (by unfold gFlw;rw[hN,q1];rfl),Gd⟩
    ·have q1:(z05 f.name u.flows 0==(k:Int))=true:=by simpa using h1
     refine z00 (λh2=>z00 (λh3=>?_) λh3=>?_) λh2=>?_
     ·have e2:(f.ty==1)=false:=by simpa using h2
      have e3:(f.ty==2)=false:=by simpa using h3
      exact⟨bad (by unfold gFlw;rw[hN,q1,e2,e3];rfl),Gd⟩
     ·have e3:(f.ty==2)=true:=by simpa using h3
      have T:=tail q1 (by rw[e3,Bh]);refine z00 (λh4=>⟨bad (by rw[T,show decide (f.params<0)=true from h4];rfl),Gd⟩) λh4=>z00 (λh5=>⟨bad (by rw[T,show decide (f.params<0)=false from h4,show decide (f.params > f.types.length)=true by simpa using h5];rfl),Gd⟩) λh5=>?_;have good:gFlw u f k=true:=by rw[T,show decide (f.params<0)=false from h4,show decide (f.params > f.types.length)=false by simpa using h5];rfl
      exact⟨z01 rfl oM0,k+1,z03 hlt,⟨hlt,by rw[hF,good];rfl⟩,Ge,Gd,rfl,rfl,rfl,rfl⟩
     ·have e2:(f.ty==1)=true:=by simpa using h2
      have T:=tail q1 (by rw[e2,Bb]);refine z00 (λh4=>⟨bad (by rw[T,show decide (f.params<0)=true from h4];rfl),Gd⟩) λh4=>z00 (λh5=>⟨bad (by rw[T,show decide (f.params<0)=false from h4,show decide (f.params > f.types.length)=true by simpa using h5];rfl),Gd⟩) λh5=>?_;have good:gFlw u f k=true:=by rw[T,show decide (f.params<0)=false from h4,show decide (f.params > f.types.length)=false by simpa using h5];rfl
      exact⟨z01 rfl oM0,k+1,z03 hlt,⟨hlt,by rw[hF,good];rfl⟩,Ge,Gd,rfl,rfl,rfl,rfl⟩
  ·rw[Ad (z0y (f:=Fl.enc) rfl hc),show r8gF u [] k=true from rfl]at hF;have hG:z1f u=z9w u:=by unfold z1f;rw[hA,hF];rfl
   rw[hG];refine⟨[],z3w u z0t,sR,Gd,rfl,?_⟩
   cases hp:decide (z05 z0t u.flows 0≥0)with
   |false=>exact z00 (λh=>absurd (hp.symm.trans h) dC0) λ_=>⟨sE (by unfold z9w;rw[hp];rfl),Gd⟩
   |true =>
    have h0:z05 z0t u.flows 0≥0:=by simpa using hp
    obtain⟨g,hg,_⟩:=ze0 h0;have hD:u.flows.getD (z05 z0t u.flows 0).toNat y6w=g:=by rw[Ay,hg];rfl
    have hi:=z02 (f:=Fl.enc) hg;refine z00 (λ_=>⟨hi,by omega,z00 (λh1=>⟨hi,by omega,sE ?_,Gd⟩) λh1=>⟨sE ?_,Gd⟩⟩) λh=>absurd (hp.symm.trans h) dC0
    ·unfold z9w;rw[hp,hD,show(g.ty==1)=true from h1];rfl
    ·unfold z9w;rw[hp,hD,show(g.ty==1)=false from h1];rfl
theorem z94{u:Un}{f:Fl}(hf:f∈u.flows):lsW f.body<=z0i u:=by
 have h1:=yh3 hf;have h2:=y7c f.body;unfold z0i z1b at *
 omega
theorem y7v(u:Un)(l:List Fl)(i:Nat){f:Fl}(h:l.drop i=f::l.drop (i+1)):z5p u (l.drop i) i=if z5x u f then z5p u (l.drop (i+1)) ((i+1:Nat):Int)else(80,(i:Int)):=by
 rw[h,z5p];rfl
theorem ze4(u:Un)(hW:z0i u<=34000000000):SC Tryz.prog 9 [.pv u.enc] [] (λ_=>False) (.tup [iInt (z1e u).1,iInt (z1e u).2]) []:=by
 refine SC.anyR (SC.vc tb { pb:=[101] } [] Tryz.func9 rfl rfl ?_);have hG:=y8b u;have hw2:u.flows.length<=z0i u:=by unfold z0i;omega
 unfold z1e
 cases hh:z1f u
 ·rw[hh]at hG;exact⟨[],hG,sR,Gd,rfl,sI,Gd⟩
 rw[hh]at hG;have hg:=z55 hh;rw[if_pos rfl];refine⟨[],hG,sR,Gd,rfl,Nat,λi=>[(4,iInt ((i:Nat):Int))],λ_=>[],λi=>u.flows.length-i,λi=>i<=u.flows.length/\z5p u u.flows 0=z5p u (u.flows.drop i) i,[],0,⟨Ac _,rfl⟩,Ge,Gd,?_⟩;rintro i ⟨i1,i2⟩;refine z00 (λhc=>?_) λhc=>?_
 ·have hlt:i<u.flows.length:=z0x (f:=Fl.enc) rfl hc;obtain⟨x,x1,x2,x3,x4⟩:=z0o hlt;have hF:=j2f u x hg (Bn (z94 x4) hW);rw[y7v u u.flows i x3]at i2;generalize z5x u x=b at hF i2
  cases b
  ·rw[if_neg dC0]at i2;rw[i2];exact⟨z02 (f:=Fl.enc) x1,rfl,[],hF,sR,Gd,rfl,sI,Gd⟩
  ·rw[if_pos rfl]at i2;exact⟨z02 (f:=Fl.enc) x1,rfl,[],hF,sR,Gd,rfl,z01 rfl oM0,i+1,z03 hlt,⟨hlt,i2⟩,Ge,Gd,rfl,rfl,rfl,rfl⟩
 ·have hge:u.flows.length<=i:=z0y (f:=Fl.enc) rfl hc;rw[i2,Ad hge];exact⟨sI,Gd⟩
theorem y2r(u:Un):∀d,
 (∀l a s r,z1u u d l a s=some r->r.2.2.ar.length=s.ar.length)/\(∀x a p s r,z3j u d x a p s=some r->r.2.2.ar.length=s.ar.length) /\
 (∀k p s r,z40 u d k p s=some r->r.2.ar.length=s.ar.length)/\∀x p s r,mSum u d x p s=some r->r.2.ar.length=s.ar.length
 |0=>⟨λ_ _ _ _ h=>by simp[z1u]at h,λ_ _ _ _ _ h=>by simp[z3j]at h,λ_ _ _ _ h=>by simp[z40]at h,λ_ _ _ _ h=>by simp[mSum]at h⟩
 |d+1=>by
  obtain⟨i1,i2,i3,i4⟩:=y2r u d;refine⟨λl a s r h=>?_,λx a p s r h=>?_,λk p s r h=>?_,λx p s r h=>?_⟩
  ·cases l with
   |nil=>rw[y3d h]
   |cons x l =>
    obtain⟨d1,e,h2⟩:=z78 rfl h;obtain rfl:d1=d:=by omega
    rcases h2 with⟨_,rfl⟩|⟨_,p,r1,_,h3,h4⟩
    ·exact Af List.length (zl5 s)
    ·have E1:r1.2.2.ar.length=s.ar.length:=by
      rw[<- zl5 s];unfold z5n at h3;split at h3
      ·simp only[Ao,A7]at h3;obtain⟨o,_,v',_,rfl⟩:=h3;rfl
      split at h3
      ·cases h3;rfl
      split at h3
      ·simp only[Ao]at h3;obtain⟨a0,_,q,_,r2,h5,h6⟩:=h3;have h7:=i1 _ _ _ _ h5;split at h6
       ·simp only[A7]at h6;obtain⟨v',_,rfl⟩:=h6;exact h7
       ·cases h6;exact h7
      split at h3
      ·exact i2 _ _ _ _ _ h3
      ·simp only[Ao]at h3;obtain⟨r2,h5,h6⟩:=h3;have h7:=i4 _ _ _ _ h5;split at h6
       ·simp only[Ao,A7]at h6;obtain⟨o,_,v',_,rfl⟩:=h6;exact h7
       ·cases h6;exact h7
     split at h4
     ·cases h4;exact E1
     ·exact(i1 _ _ _ _ h4).trans E1
  ·obtain⟨d1,v2,q,r1,e,_,_,h3,h4⟩:=z4m h;obtain rfl:d1=d:=by omega
   have E1:=i1 _ _ _ _ h3;split at h4
   ·cases h4;exact E1
   split at h4
   ·simp only[A7]at h4;obtain⟨v',_,rfl⟩:=h4;exact E1
   ·exact(i2 _ _ _ _ _ h4).trans E1
  ·obtain⟨d1,f,r1,e,_,_,_,_,h3,rfl⟩:=z61 h;obtain rfl:d1=d:=by omega
   exact i1 _ _ _ _ h3
  ·have ne:∀{i:Int},x.kind≠i->(x.kind==i)=false:=λh=>Aa.2 h
   by_cases k3:x.kind=3
   ·obtain⟨a0,_,rfl⟩:=zd6 h (Av.2 k3);rfl
   by_cases k4:x.kind=4
   ·obtain⟨a0,a1,_,_,rfl⟩:=zd7 h (Av.2 k4);dsimp only;split<;>rfl
   by_cases k5:x.kind=5
   ·obtain⟨a0,b,s',_,h2,h3⟩:=z8p h k5;rcases h3 with⟨rfl,rfl⟩|⟨rfl,row,y,_,_,rfl⟩
    ·exact zl3 h2
    ·rfl
   by_cases k6:x.kind=6
   ·obtain⟨a0,b,s',_,h2,h3⟩:=z7h h k6;rcases h3 with⟨rfl,rfl⟩|⟨rfl,row,y,_,_,rfl⟩
    ·exact zl3 h2
    ·simp[z5w]
   by_cases k7:x.kind=7
   ·have:=i3 _ _ _ _ (zb3 h (Av.2 k7));exact this
   by_cases k9:x.kind=9
   ·obtain⟨a0,_,_,rfl⟩:=z8q h (Av.2 k9);rfl
   by_cases k8:x.kind=8
   ·rcases zb5 h (Av.2 k8)with⟨_,rfl⟩|⟨y,q,_,rfl⟩<;>rfl
   ·obtain rfl:=zb4 h (ne k3) (ne k4) (ne k5) (ne k6) (ne k7) (ne k9) (ne k8);rfl
theorem y9f{u:Un}{d:Nat}{k:Int}{p:List Int}{s:Rs}{r:Int×Rs}(h:z40 u d k p s=some r):r.2.ar.length=s.ar.length:=(y2r u d).2.2.1 _ _ _ _ h
theorem ze9(u:Un)(hub:∀f∈u.flows,lsW f.body<=34359738368):∀D,SRC u D/\SRL u D
 |0=>⟨λ_ h=>absurd h (Al _),λ_ h=>absurd h (Al _)⟩
 |D+1=>by
  obtain⟨i1,i2⟩:=ze9 u hub D;have a1:∀d l v s r,z1u u d l v s=some r->r.2.2.ar.length=s.ar.length:=λd=>(y2r u d).1;have a2:∀d x v a s r,z3j u d x v a s=some r->r.2.2.ar.length=s.ar.length:=λd=>(y2r u d).2.1;have a3:∀d k a s r,z40 u d k a s=some r->r.2.ar.length=s.ar.length:=λd=>(y2r u d).2.2.1;have a4:∀d x a s r,mSum u d x a s=some r->r.2.ar.length=s.ar.length:=λd=>(y2r u d).2.2.2;refine⟨λd hd k a s r h h1=>?_,λd hd l v s r h hb h1=>?_⟩
  ·obtain⟨ins,ar,st,code,out,cost,fuel,spent⟩:=s;rcases ar with _|⟨row,_|⟨row2,_|⟨row3,t⟩⟩⟩
   ·exact sr_call0 u hub D i2 a1 d (C1 hd) k a ⟨ins,[],st,code,out,cost,fuel,spent⟩ r h
   ·exact sr_call1 u hub D i2 a1 d (C1 hd) k a ⟨ins,[],st,code,out,cost,fuel,spent⟩ row r h
   ·exact sr_call2 u hub D i2 a1 d (C1 hd) k a ⟨ins,[],st,code,out,cost,fuel,spent⟩ row row2 r h
   ·simp at h1
  ·obtain⟨ins,ar,st,code,out,cost,fuel,spent⟩:=s;rcases ar with _|⟨row,_|⟨row2,_|⟨row3,t⟩⟩⟩
   ·exact sr_list0 u D i1 i2 a3 a1 a2 a4 d (C1 hd) l v ⟨ins,[],st,code,out,cost,fuel,spent⟩ r h hb
   ·exact sr_list1 u D i1 i2 a3 a1 a2 a4 d (C1 hd) l v ⟨ins,[],st,code,out,cost,fuel,spent⟩ row r h hb
   ·exact sr_list2 u D i1 i2 a3 a1 a2 a4 d (C1 hd) l v ⟨ins,[],st,code,out,cost,fuel,spent⟩ row row2 r h hb
   ·simp at h1
theorem y7b{k:Nat}{o:HO}{hp:Hp}(h:look hp k=none):look ((k,none)::(k,some o)::hp)=look hp:=by
 funext j
 show(bif Nat.beq k j then none else bif Nat.beq k j then some o else look hp j)=look hp j
 by_cases e:k=j
 ·subst e;rw[show Nat.beq k k=true from Dc k,h];rfl
 ·rw[z49 e];rfl
theorem SC.give3{P:Program}{f:FuncId}{args:List IV}{pre post:List (Nat×HO)}{R:Nat->Prop}{k n:Nat}{s:RT}{els:List (List PV)}{y z:IV}
 (h:SC P f args pre R (.tup [.sl k n,y,z]) ((k,.row s els)::post)) (hn:els.length=n) (hk:look (up post) k=none):SC P f args pre R (.tup [.pv (.seq els),y,z]) post:=by
 intro F ρ w vs hkept hrel hargs;refine(h F ρ w vs hkept hrel hargs).mono ?_;rintro e w' ⟨ρ',v,he,hv,hrel',t⟩
 cases hv with
 |tup cs ws u hl hv hr =>
  have hl:ws.size=3:=hl;have ha:All ⟨F,R,ρ,look (up pre),w,3⟩ ρ' (look (up ((k,.row s els)::post))) w' [(0,.sl k n),(1,y),(2,z)] { tmps:=ws,defers:=[] }:=by
   refine⟨hrel',λt x hx=>?_,t,rfl,hl,hkept⟩
   match t,hx with
   |0,hx=>cases hx;exact⟨u 0,hv 0 _ rfl,hr 0 _ rfl⟩
   |1,hx=>cases hx;exact⟨u 1,hv 1 _ rfl,hr 1 _ rfl⟩
   |2,hx=>cases hx;exact⟨u 2,hv 2 _ rfl,hr 2 _ rfl⟩
   |t+3,hx=>cases hx
  have hb:=ha.freeze (k:=k) (n:=n) (t:=0) (s:=s) (els:=els) z17 hn rfl;have e2:look ((k,none)::up ((k,.row s els)::post))=look (up post):=y7b hk;rw[e2]at hb;refine⟨_,_,he,.tup _ ws u hl (λj c hj=>?_) λj c hj=>?_,hb.rel,hb.tr⟩
  ·match j,hj with
   |0,hj=>exact hv 0 _ rfl
   |1,hj=>exact hv 1 _ rfl
   |2,hj=>exact hv 2 _ rfl
  ·match j,hj with
   |0,hj => 
    cases hj
    obtain⟨v,h1,h2⟩:=hb.fr 0 _ rfl;rw[show ws[0]?=some (u 0)from hv 0 _ rfl]at h1
    cases h1;exact h2
   |1,hj =>
    cases hj
    obtain⟨v,h1,h2⟩:=hb.fr 1 _ rfl;rw[show ws[1]?=some (u 1)from hv 1 _ rfl]at h1
    cases h1;exact h2
   |2,hj =>
    cases hj
    obtain⟨v,h1,h2⟩:=hb.fr 2 _ rfl;rw[show ws[2]?=some (u 2)from hv 2 _ rfl]at h1
    cases h1;exact h2
theorem SC.give{P:Program}{f:FuncId}{args:List IV}{pre post:List (Nat×HO)}{R:Nat->Prop}{k n:Nat}{s:RT}{els:List (List PV)}
 (h:SC P f args pre R (.sl k n) ((k,.row s els)::post)) (hn:els.length=n) (hk:look (up post) k=none):SC P f args pre R (.pv (.seq els)) post:=by
 intro F ρ w vs hkept hrel hargs;refine(h F ρ w vs hkept hrel hargs).mono ?_;rintro e w' ⟨ρ',v,he,hv,hrel',t⟩;have ha:All ⟨F,R,ρ,look (up pre),w,1⟩ ρ' (look (up ((k,.row s els)::post))) w' [(0,.sl k n)] { tmps:=#[v],defers:=[] }:=by
  refine⟨hrel',λt x hx=>?_,t,rfl,rfl,hkept⟩
  match t,hx with
  |0,hx=>cases hx;exact⟨v,rfl,hv⟩
  |t+1,hx=>cases hx
 have hb:=ha.freeze (k:=k) (n:=n) (t:=0) (s:=s) (els:=els) z17 hn rfl;have e2:look ((k,none)::up ((k,.row s els)::post))=look (up post):=y7b hk;rw[e2]at hb;obtain⟨v2,h1,h2⟩:=hb.fr 0 _ rfl
 cases h1
 exact⟨_,v,he,h2,hb.rel,hb.tr⟩
def tkRt:RT:=⟨109,3⟩
theorem sT3{x x' y z:IV}(h:SubI x x'):SubI (.tup [x,y,z]) (.tup [x',y,z]):=λF ρ σ w v hv=>by
 cases hv with
 |tup cs vs u hl hv hr =>
  refine .tup _ vs u hl (λj c hj=>?_) λj c hj=>?_
  ·match j,hj with
   |0,_=>exact hv 0 x rfl
   |j+1,hj=>exact hv (j+1) c hj
  ·match j,hj with
   |0,hj=>cases hj;exact h _ _ _ _ _ (hr 0 x rfl)
   |j+1,hj=>exact hr (j+1) c hj
theorem ym2{s:ByteArray}{a m:Nat}{b:UInt8}(h:s.data.toList.drop (a+m)=b::s.data.toList.drop (a+m+1))(hb:isLD b=true) :
 ((s.data.toList.drop (a+m)).takeWhile isLD).length=1+((s.data.toList.drop (a+m+1)).takeWhile isLD).length:=by
 rw[h,E3,if_pos hb,A1];omega
theorem run_stop{s:ByteArray}{a m:Nat}{b:UInt8}(h:s.data.toList.drop (a+m)=b::s.data.toList.drop (a+m+1))(hb:isLD b=false) :
 ((s.data.toList.drop (a+m)).takeWhile isLD).length=0:=by
 rw[h,E3,if_neg (by simp[hb])];rfl
theorem b_eq{b:UInt8}{n:Int}(h:((b.toNat:Int)==n)=true){c:UInt8}(hc:(c.toNat:Int)=n):b=c:=UInt8.toNat_inj.1 (by have:=eq_of_beq h;omega)
theorem b_ne{b:UInt8}{n:Int}(h:((b.toNat:Int)==n)=false){c:UInt8}(hc:(c.toNat:Int)=n):¬b=c:=λe=>by subst e;simp[hc]at h
def tkR(t:List Tk×Int×Int):IV:=if t.2.1=0 then .sl 1001 (t.1.map Tk.enc).length else .pv (tks t.1)
def tkPost(t:List Tk×Int×Int):List (Nat×HO):=if t.2.1=0 then[(1001,.row tkRt (t.1.map Tk.enc))]else[]
theorem yt5(s:ByteArray)(hs:s.size<=1073741824):SC Tryz.prog 43 [.pv (.val (.string s))] [] (λk=>k∈[]) (.tup [tkR (z1t s),iInt (z1t s).2.1,iInt (z1t s).2.2]) (tkPost (z1t s)):=by
 refine SC.vc tb { gh:=[(4,[.grow 5 1001 109 3])] } [] Tryz.func43 rfl rfl ?_;unfold z1t;refine z00 (λh=>?_) λh=>?_
 ·have h:s.size > 100000:=by have:=Am h;omega
  rw[if_pos h];exact⟨sT3 sN,Gd⟩
 have h:¬s.size > 100000:=by have:=Ak h;omega
 rw[if_neg h];generalize hTK:toks s (s.size+1) 1 0 []=TK;refine⟨Nat×Nat×List Tk,λa=>[(6,iInt (a.1:Nat)),(7,iInt (a.2.1:Nat)),(5,.sl 1001 (a.2.2.map Tk.enc).length)],λa=>[(1001,.row tkRt (a.2.2.map Tk.enc))],λa=>s.size-a.2.1,
  λa=>a.1<=a.2.1+1/\a.2.1<=s.size/\a.2.2.length<=a.2.1/\∃N,s.size<N+a.2.1/\TK=toks s N a.1 a.2.1 a.2.2,[],(1,0,[]),⟨Ag _,Ac _,Ag _,s.size+1,by omega,hTK.symm⟩,Gg,Ge,?_⟩
 rintro⟨line,at_,out⟩ ⟨h1,h2,h3,N,h4,h5⟩;dsimp only at h1 h2 h3 h4 h5;refine z00 (λhc=>?_) λhc=>?_
 ·obtain⟨b,g1,g2,g3,g4,g5⟩:=zs9 hc;dsimp only at g1 g2 g3 g4 hc;obtain⟨M,rfl⟩:∃M,N=M+1:=⟨N-1,by omega⟩;unfold toks at h5;simp only[g2]at h5;refine⟨Nat,λm=>[(9,iInt (m:Nat))],λ_=>[],λm=>s.size-m,λm=>at_+m<=s.size/\z4f s at_=m+((s.data.toList.drop (at_+m)).takeWhile isLD).length,[],0,⟨h2,by unfold z4f;simp⟩,Ge,Gd,?_⟩;rintro m ⟨hm,hr⟩;refine⟨z01 rfl (by dsimp only;omega),z00 (λhc2=>?_) λhc2=>?_⟩
  rotate_left
  have hrun:z4f s at_=m:=by rw[hr,zo0 (k:=at_+m) (by simpa using hc2)];rfl
  clear hr hc2
  rotate_left
  obtain⟨b2,k1,k2,k3,k4,k5⟩:=zs9 (k:=at_+m) (by simpa using hc2);refine⟨z01 rfl (by dsimp only;omega),k1,by dsimp only;omega,[],z9j _,sR,Gd,rfl,z00 (λh6=>?_) λh6=>?_⟩;exact⟨z01 rfl oM0,m+1,by omega,⟨by omega,by rw[hr,ym2 k3 (by unfold isLD;rw[h6];rfl),show at_+(m+1)=at_+m+1 from rfl];omega⟩,Ge,Gd,rfl,rfl,rfl,rfl⟩;refine⟨z01 rfl (by dsimp only;omega),k1,by dsimp only;omega,[],zr7 _,sR,Gd,rfl,z00 (λh7=>?_) λh7=>?_⟩;exact⟨z01 rfl oM0,m+1,by omega,⟨by omega,by rw[hr,ym2 k3 (by unfold isLD;rw[h7];simp),show at_+(m+1)=at_+m+1 from rfl];omega⟩,Ge,Gd,rfl,rfl,rfl,rfl⟩;have hrun:z4f s at_=m:=by rw[hr,run_stop k3 (by unfold isLD;rw[h6,h7];rfl)];rfl
  clear hr k1 k2 k3 k4 k5 h6 h7 hc2
  all_goals
   refine⟨g1,rfl,z00 (λb1=>?_) λb1=>?_⟩
   ·rw[zs7,if_pos (b_eq b1 rfl)]at h5;exact⟨z01 rfl (by dsimp only;omega),z01 rfl (by dsimp only;omega),(line+1,at_+1,out),z03 g4,⟨by show line+1<=at_+1+1;omega,g4,by show out.length<=at_+1;omega,M,by show s.size<M+(at_+1);omega,h5⟩,Gg,Ge,rfl,rfl,rfl,rfl⟩
   rw[zs7,if_neg (b_ne b1 rfl)]at h5;have blank:((b.toNat:Int)==32)=true∨((b.toNat:Int)==9)=true∨((b.toNat:Int)==13)=true->TK=toks s M line (at_+1) out:=λe=>by
    rw[if_pos (e.elim (λe=>.inl (b_eq e rfl)) λe=>.inr (e.elim (λe=>.inl (b_eq e rfl)) λe=>.inr (b_eq e rfl)))]at h5;exact h5
   refine⟨g1,rfl,z00 (λb2=>?_) λb2=>⟨g1,rfl,z00 (λb3=>?_) λb3=>⟨g1,rfl,z00 (λb4=>?_) λb4=>?_⟩⟩⟩
   ·have h5:=blank (.inl b2);exact⟨z01 rfl (by dsimp only;omega),(line,at_+1,out),z03 g4,⟨by show line<=at_+1+1;omega,g4,by show out.length<=at_+1;omega,M,by show s.size<M+(at_+1);omega,h5⟩,Gg,Ge,rfl,rfl,rfl,rfl⟩
   ·have h5:=blank (.inr (.inl b3));exact⟨z01 rfl (by dsimp only;omega),(line,at_+1,out),z03 g4,⟨by show line<=at_+1+1;omega,g4,by show out.length<=at_+1;omega,M,by show s.size<M+(at_+1);omega,h5⟩,Gg,Ge,rfl,rfl,rfl,rfl⟩
   ·have h5:=blank (.inr (.inr b4));exact⟨z01 rfl (by dsimp only;omega),(line,at_+1,out),z03 g4,⟨by show line<=at_+1+1;omega,g4,by show out.length<=at_+1;omega,M,by show s.size<M+(at_+1);omega,h5⟩,Gg,Ge,rfl,rfl,rfl,rfl⟩
   rw[if_neg (λe=>e.elim (b_ne b2 rfl) λe=>e.elim (b_ne b3 rfl) (b_ne b4 rfl))]at h5;clear blank;refine⟨g1,rfl,z00 (λb5=>?_) λb5=>?_⟩
   rotate_left
   have c3:¬(b=47/\s.data.toList[at_+1]?=some 47):=λe=>b_ne b5 rfl e.1;clear b5
   rotate_right
   refine⟨z01 rfl (by dsimp only;omega),z00 (λb6=>?_) λb6=>?_⟩
   rotate_left
   have c3:¬(b=47/\s.data.toList[at_+1]?=some 47):=λe=>by
    have:=Ak b6;have h8:=(A6.1 e.2).1;have h9:s.data.toList.length=s.size:=Bx;dsimp only at this;omega
   clear b5 b6
   rotate_right
   obtain⟨q,q1,q2,q3,q4,q5⟩:=zs9 (k:=at_+1) (by simpa using b6);refine⟨z01 rfl (by dsimp only;omega),q1,by dsimp only;omega,z00 (λb7=>?_) λb7=>?_⟩
   rotate_left
   have c3:¬(b=47/\s.data.toList[at_+1]?=some 47):=λe=>by
    rw[q2]at e;exact b_ne b7 rfl (C7 e.2)
   clear b5 b6 b7 q1 q2 q3 q4 q5
   rotate_right
   rw[if_pos ⟨b_eq b5 rfl,by rw[q2,b_eq (c:=47) b7 rfl]⟩]at h5;clear b5 b6 b7 q1 q2 q3 q4 q5
   ·refine⟨Nat,λj=>[(7,iInt (j:Nat))],λ_=>[],λj=>s.size-j,λj=>at_<=j/\j<=s.size/\zq2 s at_=j+((s.data.toList.drop j).takeWhile λb=>b != 10).length,[],at_,⟨Ag _,h2,rfl⟩,Ge,Gd,?_⟩;rintro j ⟨j1,j2,j3⟩;have hend:=y3a g2 (b_ne b1 rfl);have fin:zq2 s at_=j->at_<j/\(line<=j+1/\j<=s.size/\out.length<=j/\∃N,s.size<N+j/\TK=toks s N line j out):=λe=>by
     rw[e]at hend h5;obtain⟨e1,e2⟩:=hend;exact⟨e1,by omega,j2,by omega,M,by omega,h5⟩
    refine z00 (λd1=>?_) λd1=>?_
    ·obtain⟨q,q1,q2,q3,q4,q5⟩:=zs9 (k:=j) d1;refine⟨q1,rfl,z00 (λd2=>?_) λd2=>?_⟩
     ·have d3:q≠10:=λe=>by subst e;simp at d2
      rw[q3,E3,if_pos (by simpa using d3),A1]at j3;exact⟨z01 rfl oM0,j+1,z03 q4,⟨by omega,q4,by rw[j3];omega⟩,Ge,Gd,rfl,rfl,rfl,rfl⟩
     ·have d3:q=10:=b_eq (c:=10) (n:=10) (by simpa using d2) rfl;rw[q3,E3,if_neg (by simp[d3])]at j3;obtain⟨f1,f2⟩:=fin j3;exact⟨(line,j,out),by dsimp only;omega,f2,Gg,Ge,rfl,rfl,rfl,rfl⟩
    ·rw[zo0 d1]at j3;obtain⟨f1,f2⟩:=fin j3;exact⟨(line,j,out),by dsimp only;omega,f2,Gg,Ge,rfl,rfl,rfl,rfl⟩
   all_goals
    rw[if_neg c3,hrun]at h5;clear c3;refine z00 (λd1=>?_) λd1=>?_
    ·have d1:m > 0:=by have:=Am d1;omega
     rw[if_pos d1]at h5;have hm2:at_+m<=s.size:=hm;generalize hw:s.extract at_ (at_+m)=w at h5;have hws:w.size=m:=by rw[<- hw,Cj];omega
     have nx:∀k:Int,TK=toks s M line (at_+m) (out++[⟨k,w,line⟩])->line<=at_+m+1/\at_+m<=s.size/\(out++[(⟨k,w,line⟩:Tk)]).length<=at_+m/\∃N,s.size<N+(at_+m)/\TK=toks s N line (at_+m) (out++[⟨k,w,line⟩]):=λk e =>
      ⟨by omega,hm2,by rw[B4];show _+1<=_;omega,M,by omega,e⟩
     refine⟨z01 rfl (by dsimp only;omega),at_,rfl,at_+m,by dsimp only;omega,by omega,hm2,?_⟩;rw[hw];refine⟨g1,rfl,[],z9j _,sR,Gd,rfl,z00 (λe1=>?_) λe1=>?_⟩
     ·refine⟨[],y1o w,sR,Gd,rfl,z00 (λe2=>?_) λe2=>?_⟩
      ·rw[show z3c b w=2 by unfold z3c;rw[if_pos e2],if_neg sI0]at h5;exact⟨z01 (z:=((at_+m:Nat):Int)) (by rw[hws];rfl) oM0,rfl,z3y rfl,by simp;omega,(line,at_+m,out++[⟨2,w,line⟩]),by dsimp only;omega,nx 2 h5,⟨rfl,rfl,slq sI0,Gd⟩,⟨rwq (by simp[Tk.enc]),Gd⟩,rfl,rfl,rfl,rfl⟩
      ·rw[show z3c b w=1 by unfold z3c;rw[if_neg (by simp[e2]),if_pos e1]]at h5;refine⟨[],z6l w,sR,Gd,rfl,z00 (λe3=>?_) λe3=>?_⟩
       ·have e3:z0k w=false:=by simpa using e3
        rw[if_pos (.inl ⟨rfl,e3⟩)]at h5;refine⟨?_,?_⟩<;>rw[h5]
        ·exact sT3 sN
        ·trivial
       ·have e3:z0k w=true:=by simpa using e3
        rw[if_neg (by simp[e3])]at h5;exact⟨z01 (z:=((at_+m:Nat):Int)) (by rw[hws];rfl) oM0,rfl,z3y rfl,by simp;omega,(line,at_+m,out++[⟨1,w,line⟩]),by dsimp only;omega,nx 1 h5,⟨rfl,rfl,slq sI0,Gd⟩,⟨rwq (by simp[Tk.enc]),Gd⟩,rfl,rfl,rfl,rfl⟩
     ·refine⟨[],y1o w,sR,Gd,rfl,z00 (λe2=>?_) λe2=>?_⟩
      ·rw[show z3c b w=2 by unfold z3c;rw[if_pos e2],if_neg sI0]at h5;exact⟨z01 (z:=((at_+m:Nat):Int)) (by rw[hws];rfl) oM0,rfl,z3y rfl,by simp;omega,(line,at_+m,out++[⟨2,w,line⟩]),by dsimp only;omega,nx 2 h5,⟨rfl,rfl,slq sI0,Gd⟩,⟨rwq (by simp[Tk.enc]),Gd⟩,rfl,rfl,rfl,rfl⟩
      ·rw[show z3c b w=0 by unfold z3c;rw[if_neg (by simp[e2]),if_neg (by simp[e1])]]at h5;refine⟨[],j2d w oM0,sR,Gd,rfl,z00 (λe3=>?_) λe3=>?_⟩
       ·have e3:zl0 w=false:=by simpa using e3
        rw[if_pos (.inr ⟨rfl,e3⟩)]at h5;refine⟨?_,?_⟩<;>rw[h5]
        ·exact sT3 sN
        ·trivial
       ·have e3:zl0 w=true:=by simpa using e3
        rw[if_neg (by simp[e3])]at h5;exact⟨z01 (z:=((at_+m:Nat):Int)) (by rw[hws];rfl) oM0,rfl,z3y rfl,by simp;omega,(line,at_+m,out++[⟨0,w,line⟩]),by dsimp only;omega,nx 0 h5,⟨rfl,rfl,slq sI0,Gd⟩,⟨rwq (by simp[Tk.enc]),Gd⟩,rfl,rfl,rfl,rfl⟩
    ·have d1:¬m > 0:=by have:=Ak d1;omega
     rw[if_neg d1]at h5;refine⟨at_,rfl,h2,Ag _,[],sc_sign (s.extract at_ s.size) (by rw[Cj];omega),sR,Gd,rfl,?_⟩;have hgl:=zy3 (s.extract at_ s.size) sgL;have hgs:(s.extract at_ s.size).size=s.size-at_:=by rw[Cj];omega
     rw[hgs]at hgl
     change sgOf (s.extract at_ s.size)=⟨#[]⟩∨(sgOf (s.extract at_ s.size)∈sgL/\(sgOf (s.extract at_ s.size)).size<=s.size-at_)at hgl
     generalize sgOf (s.extract at_ s.size)=w at h5 hgl;refine z00 (λe1=>?_) λe1=>?_
     ·have e1:w.toList=[]:=by simpa using e1
      have e2:w.size=0:=by rw[z2e]at e1;have h9:w.data.toList.length=w.size:=Bx;rw[e1]at h9;exact h9.symm
      rw[if_pos e2]at h5;refine⟨?_,?_⟩<;>rw[h5]
      ·exact sT3 sN
      ·trivial
     ·have e1:w.toList≠[]:=by simpa using e1
      have e2:¬w.size=0:=λe=>e1 (by rw[z2e];have h9:w.data.toList.length=w.size:=Bx;exact List.length_eq_zero_iff.1 (h9.trans e));rw[if_neg e2]at h5;have e3:at_+w.size<=s.size:=by
       rcases hgl with e|e
       ·exact absurd (by rw[e];rfl) e2
       ·have:=e.2;omega
      exact⟨z01 (z:=((at_+w.size:Nat):Int)) rfl oM0,rfl,z3y rfl,by simp;omega,(line,at_+w.size,out++[⟨2,w,line⟩]),by dsimp only;omega,
       ⟨by show line<=at_+w.size+1;omega,e3,by rw[B4];show _+1<=at_+w.size;omega,M,by show s.size<M+(at_+w.size);omega,h5⟩,⟨rfl,rfl,slq sI0,Gd⟩,⟨rwq (by simp[Tk.enc]),Gd⟩,rfl,rfl,rfl,rfl⟩
 ·have hc:=zo0 hc;obtain⟨M,rfl⟩:∃M,N=M+1:=⟨N-1,by omega⟩;unfold toks at h5;have hn:s.data.toList[at_]?=none:=by
   rw[<- List.head?_drop];dsimp only at hc;rw[hc];rfl
  simp only[hn]at h5;refine⟨rfl,z3y rfl,by simp;omega,?_⟩;refine⟨?_,?_⟩<;>rw[h5]
  ·exact sE (by simp[tkR])
  ·exact⟨rwq (by simp[Tk.enc];rfl),Gd⟩
theorem j25(s:ByteArray)(hs:s.size<=1073741824):SC Tryz.prog 43 [.pv (.val (.string s))] [] (λk=>k∈[]) (.tup [.pv (tks (z1t s).1),iInt (z1t s).2.1,iInt (z1t s).2.2]) []:=by
 have h:=yt5 s hs;unfold tkR tkPost at h
 by_cases e:(z1t s).2.1=0
 ·rw[if_pos e,if_pos e]at h;exact h.give3 rfl rfl
 ·rw[if_neg e,if_neg e]at h;exact h
structure Ps where
 at_:Nat
 bad:Bool
 deep:Bool
def Ps.over(s:Ps):Bool:=s.bad||s.deep
def Ps.next(s:Ps):Ps:={ s with at_:=s.at_+1 }
def Ps.setBad(s:Ps):Ps:={ s with bad:=true }
def Ps.setDeep(s:Ps):Ps:={ s with deep:=true }
def s_:ByteArray:=⟨#[]⟩
def tkAt(T:List Tk)(s:Ps):Tk:=T.getD s.at_ ⟨3,s_,0⟩
def pIs(T:List Tk)(w:ByteArray)(s:Ps):Bool:=!s.over&&((tkAt T s).kind==2&&eqS (tkAt T s).text w)
def z8k(T:List Tk)(w:ByteArray)(s:Ps):Bool×Ps:=if pIs T w s then(true,s.next)else(false,s)
def z0n(T:List Tk)(w:ByteArray)(s:Ps):Ps:=if pIs T w s then s.next else if s.deep then s else s.setBad
def z0l(T:List Tk)(k:Int)(s:Ps):ByteArray×Ps:=if s.over then(s_,s)else if (tkAt T s).kind=k then((tkAt T s).text,s.next)else(s_,s.setBad)
def sInt:ByteArray:=⟨#[105,110,116]⟩
def j22:ByteArray:=⟨#[98,111,111,108]⟩
def sIf:ByteArray:=⟨#[105,102]⟩
def sElse:ByteArray:=⟨#[101,108,115,101]⟩
def ym6:ByteArray:=⟨#[119,104,105,108,101]⟩
def ym3:ByteArray:=⟨#[98,114,101,97,107]⟩
def zm8:ByteArray:=⟨#[99,111,110,116,105,110,117,101]⟩
def y5r:ByteArray:=⟨#[114,101,116,117,114,110]⟩
def ym5:ByteArray:=⟨#[112,114,105,110,116]⟩
def sRead:ByteArray:=⟨#[114,101,97,100]⟩
def sTrue:ByteArray:=⟨#[116,114,117,101]⟩
def ym4:ByteArray:=⟨#[102,97,108,115,101]⟩
def sRo:ByteArray:=⟨#[40]⟩
def sRc:ByteArray:=⟨#[41]⟩
def sBo:ByteArray:=⟨#[123]⟩
def sBc:ByteArray:=⟨#[125]⟩
def sSo:ByteArray:=⟨#[91]⟩
def sSc:ByteArray:=⟨#[93]⟩
def zm7:ByteArray:=⟨#[44]⟩
def z5e:ByteArray:=⟨#[59]⟩
def sEq:ByteArray:=⟨#[61]⟩
def z0r(T:List Tk)(s:Ps):Int×Ps:=if pIs T sInt s then(1,s.next)else(2,z0n T j22 s)
def x0:Ex:=.mk 0 0 0 s_ []
def pUn(T:List Tk)(s:Ps):Option Int:=[20,21,22,23,24,25,26,27,28].find? λo=>pIs T (zo4 o) s
def pOp(T:List Tk)(level:Int)(s:Ps):Int:=([1,2,3,4,5,6,7,8,9,10,11,12,13,14,15,16,17,18,19].find? λo=>decide (z4k o=level)&&pIs T (zo4 o) s).getD 0
def z4i(depth:Int)(s:Ps):Ps:=if depth > 100/\s.bad=false then s.setDeep else s
def aGo(T:List Tk)(first:Bool)(s:Ps):Ps:=if first then s else(z8k T zm7 s).2
mutual
def z31(T:List Tk):Nat->Int->Int->Ps->Ex×Ps
 |0,_,_,s=>(x0,s)
 |N+1,level,depth,s=>if level > 10 then z7i T N depth s else zb2 T N level depth (z31 T N (level+1) depth s)
def zb2(T:List Tk):Nat->Int->Int->Ex×Ps->Ex×Ps
 |0,_,_,r=>r
 |N+1,level,depth,r=>if pOp T level r.2=0 then r else
  zb2 T N level depth (.mk 5 (pOp T level r.2) 0 s_ [r.1,(z31 T N (level+1) depth r.2.next).1],(z31 T N (level+1) depth r.2.next).2)
def z7i(T:List Tk):Nat->Int->Ps->Ex×Ps
 |0,_,s=>(x0,s)
 |N+1,depth,s=>match pUn T (z4i depth s)with
  |none=>y2i T N depth (z4i depth s)
  |some op=>if op≥23 then(.mk 4 op 0 s_ [(z31 T N 1 (depth+1) (z0n T sRo (z4i depth s).next)).1],z0n T sRc (z31 T N 1 (depth+1) (z0n T sRo (z4i depth s).next)).2)
   else(.mk 4 op 0 s_ [(z7i T N (depth+1) (z4i depth s).next).1],(z7i T N (depth+1) (z4i depth s).next).2)
def y2i(T:List Tk):Nat->Int->Ps->Ex×Ps
 |0,_,s=>(x0,s)
 |N+1,depth,s=>if s.over then(x0,s)
  else if pIs T sRo s then((z31 T N 1 (depth+1) s.next).1,z0n T sRc (z31 T N 1 (depth+1) s.next).2)
  else if pIs T sTrue s then(.mk 2 0 1 s_ [],s.next)
  else if pIs T ym4 s then(.mk 2 0 0 s_ [],s.next)
  else if pIs T sRead s then(.mk 8 0 0 s_ [],z0n T sRc (z0n T sRo s.next))
  else if (tkAt T s).kind=0 then(.mk 1 0 (zg7 (tkAt T s).text) s_ [],s.next)
  else if pIs T sRo (z0l T 1 s).2 then(.mk 7 0 0 (z0l T 1 s).1 (z7y T N (depth+1) (z0l T 1 s).2.next).1,(z7y T N (depth+1) (z0l T 1 s).2.next).2)
  else if pIs T sSo (z0l T 1 s).2 then(.mk 6 0 0 (z0l T 1 s).1 [(z31 T N 1 (depth+1) (z0l T 1 s).2.next).1],z0n T sSc (z31 T N 1 (depth+1) (z0l T 1 s).2.next).2)
  else(.mk 3 0 0 (z0l T 1 s).1 [],(z0l T 1 s).2)
def z7y(T:List Tk):Nat->Int->Ps->List Ex×Ps
 |0,_,s=>([],s)
 |N+1,depth,s=>if pIs T sRc s then([],s.next)else((z9u T N depth true [] s).1,z0n T sRc (z9u T N depth true [] s).2)
def z9u(T:List Tk):Nat->Int->Bool->List Ex->Ps->List Ex×Ps
 |0,_,_,out,s=>(out,s)
 |N+1,depth,first,out,s=>if (first||pIs T zm7 s)=true/\(aGo T first s).over=false then
  z9u T N depth false (out++[(z31 T N 1 depth (aGo T first s)).1]) (z31 T N 1 depth (aGo T first s)).2
  else(out,aGo T first s)
end
def big(T:List Tk):Nat:=20*T.length+40
def mE(T:List Tk)(s:Ps):Ex×Ps:=z31 T (big T) 1 1 s
def z1x(T:List Tk)(s:Ps):Ex×Ps:=((mE T (z0n T sRo s)).1,z0n T sRc (mE T (z0n T sRo s)).2)
def z5m(T:List Tk)(s:Ps):St×Ps :=
 if pIs T sRo (z0l T 1 s).2 then(.mk 10 0 s_ [.mk 7 0 0 (z0l T 1 s).1 (z7y T (big T) 2 (z0l T 1 s).2.next).1] [] [],(z7y T (big T) 2 (z0l T 1 s).2.next).2)
 else if pIs T sSo (z0l T 1 s).2 then
  (.mk 3 0 (z0l T 1 s).1 [(mE T (z0l T 1 s).2.next).1,(mE T (z0n T sEq (z0n T sSc (mE T (z0l T 1 s).2.next).2))).1] [] [],(mE T (z0n T sEq (z0n T sSc (mE T (z0l T 1 s).2.next).2))).2)
 else(.mk 2 0 (z0l T 1 s).1 [(mE T (z0n T sEq (z0l T 1 s).2)).1] [] [],(mE T (z0n T sEq (z0l T 1 s).2)).2)
def mLet(T:List Tk)(s:Ps):St×Ps :=
 (.mk 1 (z0r T s).1 (z0l T 1 (z0r T s).2).1 [(mE T (z0n T sEq (z0l T 1 (z0r T s).2).2)).1] [] [],(mE T (z0n T sEq (z0l T 1 (z0r T s).2).2)).2)
def zf7(T:List Tk)(s:Ps):St×Ps :=
 if pIs T ym3 s then(.mk 6 0 s_ [] [] [],s.next)
 else if pIs T zm8 s then(.mk 7 0 s_ [] [] [],s.next)
 else if pIs T y5r s then(.mk 8 0 s_ [(mE T s.next).1] [] [],(mE T s.next).2)
 else if pIs T ym5 s then(.mk 9 0 s_ [(z1x T s.next).1] [] [],(z1x T s.next).2)
 else z5m T s
def z3b(depth:Int)(s:Ps):Ps:=if depth > 100 then s.setDeep else s
mutual
def z65(T:List Tk):Nat->Int->Ps->St×Ps
 |0,_,s=>(.mk 0 0 s_ [] [] [],s.setBad)
 |N+1,depth,s0 =>
  if pIs T sInt (z3b depth s0)||pIs T j22 (z3b depth s0)then((mLet T (z3b depth s0)).1,z0n T z5e (mLet T (z3b depth s0)).2)
  else if pIs T sIf (z3b depth s0)then
   if pIs T sElse (z1z T N (depth+1) (z1x T (z3b depth s0).next).2).2 then
    (.mk 4 0 s_ [(z1x T (z3b depth s0).next).1] (z1z T N (depth+1) (z1x T (z3b depth s0).next).2).1 (z1z T N (depth+1) (z1z T N (depth+1) (z1x T (z3b depth s0).next).2).2.next).1,(z1z T N (depth+1) (z1z T N (depth+1) (z1x T (z3b depth s0).next).2).2.next).2)
   else(.mk 4 0 s_ [(z1x T (z3b depth s0).next).1] (z1z T N (depth+1) (z1x T (z3b depth s0).next).2).1 [],(z1z T N (depth+1) (z1x T (z3b depth s0).next).2).2)
  else if pIs T ym6 (z3b depth s0)then
   (.mk 5 0 s_ [(z1x T (z3b depth s0).next).1] (z1z T N (depth+1) (z1x T (z3b depth s0).next).2).1 [],(z1z T N (depth+1) (z1x T (z3b depth s0).next).2).2)
  else((zf7 T (z3b depth s0)).1,z0n T z5e (zf7 T (z3b depth s0)).2)
def z1z(T:List Tk):Nat->Int->Ps->List St×Ps
 |0,_,s=>([],s)
 |N+1,depth,s=>z84 T N depth [] (z0n T sBo s)
def z84(T:List Tk):Nat->Int->List St->Ps->List St×Ps
 |0,_,out,s=>(out,s)
 |N+1,depth,out,s=>if s.over then(out,s)else if pIs T sBc s then(out,s.next)else z84 T N depth (out++[(z65 T N depth s).1]) (z65 T N depth s).2
end
def z9v(T:List Tk):Nat->Bool->List Pm->Ps->List Pm×Ps
 |0,_,out,s=>(out,s)
 |N+1,first,out,s=>if (first||pIs T zm7 s)=true/\(aGo T first s).over=false then
  z9v T N false (out++[⟨(z0l T 1 (z0r T (aGo T first s)).2).1,(z0r T (aGo T first s)).1⟩]) (z0l T 1 (z0r T (aGo T first s)).2).2
  else(out,aGo T first s)
def z7g(T:List Tk)(s:Ps):List Pm×Ps:=if pIs T sRc s then([],s.next)else((z9v T (big T) true [] s).1,z0n T sRc (z9v T (big T) true [] s).2)
def z73(T:List Tk)(t:Int)(name:ByteArray)(s:Ps):Fu×Ps :=
 (⟨name,t,(z7g T (z0n T sRo s)).1,(z1z T (big T) 1 (z7g T (z0n T sRo s)).2).1⟩,(z1z T (big T) 1 (z7g T (z0n T sRo s)).2).2)
def qArr(T:List Tk)(fs:List Fu)(t:Int)(s:Ps):Bool:=t==1&&fs.length==0&&pIs T sSo s
def z43(T:List Tk):Nat->Pg->Ps->Pg×Ps
 |0,p,s=>(p,s)
 |N+1,p,s=>if s.over||(tkAt T s).kind==3 then(p,s)
  else if qArr T p.funcs (z0r T s).1 (z0l T 1 (z0r T s).2).2 then
   z43 T N ⟨p.arrays++[⟨(z0l T 1 (z0r T s).2).1,zg7 (z0l T 0 (z0l T 1 (z0r T s).2).2.next).1⟩],p.funcs⟩ (z0n T z5e (z0n T sSc (z0l T 0 (z0l T 1 (z0r T s).2).2.next).2))
  else z43 T N ⟨p.arrays,p.funcs++[(z73 T (z0r T s).1 (z0l T 1 (z0r T s).2).1 (z0l T 1 (z0r T s).2).2).1]⟩ (z73 T (z0r T s).1 (z0l T 1 (z0r T s).2).1 (z0l T 1 (z0r T s).2).2).2
def z97(T:List Tk):Pg×Ps:=z43 T (big T) ⟨[],[]⟩ ⟨0,false,false⟩
section
structure Fw(T:List Tk)(s s':Ps):Prop where
 at_:s.at_<=s'.at_
 ov:s.over=true->s'.over=true
 lt:s.at_<T.length->s'.at_<T.length
variable {T:List Tk}
theorem Fw.rfl{s:Ps}:Fw T s s:=⟨Ag _,id,id⟩
theorem Fw.trans{a b c:Ps}(h:Fw T a b)(k:Fw T b c):Fw T a c:=⟨Bn h.at_ k.at_,λe=>k.ov (h.ov e),λe=>k.lt (h.lt e)⟩
theorem j0x(hT:TkOk T){s:Ps}(h:s.at_<T.length)(hk:(tkAt T s).kind≠3):s.at_+1<T.length:=by
 obtain⟨init,e,rfl,he,_⟩:=hT;rw[B4]at h⊢;rcases Du (s.at_+1) (init.length+[e].length)with h'|h'
 ·exact h'
 ·refine absurd ?_ hk;have hi:s.at_=init.length:=by simp at h h';omega
  unfold tkAt;rw[hi];simpa using he
theorem z4o{w:ByteArray}{s:Ps}(h:pIs T w s=true):s.over=false/\(tkAt T s).kind=2:=by
 simp only[pIs,A0,Bg,Av]at h;exact⟨h.1,h.2.1⟩
theorem j02(hT:TkOk T){s:Ps}(h:s.over=false)(hk:(tkAt T s).kind≠3):Fw T s s.next :=
 ⟨Fd _,λe=>(Bool.noConfusion (h.symm.trans e)),λe=>j0x hT e hk⟩
theorem z11(hT:TkOk T){w:ByteArray}{s:Ps}(h:pIs T w s=true):Fw T s s.next:=by
 have:=z4o h;exact j02 hT this.1 (by rw[this.2];decide)
theorem y04{s:Ps}:Fw T s s.setBad:=⟨Ag _,λ_=>by simp[Ps.over,Ps.setBad],id⟩
theorem y32{s:Ps}:Fw T s s.setDeep:=⟨Ag _,λ_=>by simp[Ps.over,Ps.setDeep],id⟩
theorem z0c(hT:TkOk T){w:ByteArray}{s:Ps}:Fw T s (z0n T w s):=by
 unfold z0n;split
 ·rename_i h;exact z11 hT h
 ·split
  ·exact .rfl
  ·exact y04
theorem z1w(hT:TkOk T){k:Int}(hk:k≠3){s:Ps}:Fw T s (z0l T k s).2:=by
 unfold z0l;split
 ·exact .rfl
 ·split
  ·rename_i h1 h2;exact j02 hT (by simpa using h1) (by rw[h2];exact hk)
  ·exact y04
theorem z5i(hT:TkOk T){s:Ps}:Fw T s (z0r T s).2:=by
 unfold z0r;split
 ·rename_i h;exact z11 hT h
 ·exact z0c hT
theorem zk4{d:Int}{s:Ps}:Fw T s (z4i d s):=by
 unfold z4i;split
 ·exact y32
 ·exact .rfl
theorem y70{d:Int}{s:Ps}:Fw T s (z3b d s):=by
 unfold z3b;split
 ·exact y32
 ·exact .rfl
theorem y31(hT:TkOk T){b:Bool}{s:Ps}:Fw T s (aGo T b s):=by
 unfold aGo z8k;split
 ·exact .rfl
 ·split
  ·rename_i h;exact z11 hT h
  ·exact .rfl
theorem pUn_is{s:Ps}{o:Int}(h:pUn T s=some o):pIs T (zo4 o) s=true:=by
 unfold pUn at h;have:=List.find?_some h;exact this
theorem pOp_is{l:Int}{s:Ps}(h:pOp T l s≠0):pIs T (zo4 (pOp T l s)) s=true:=by
 unfold pOp at h⊢
 cases hq:List.find? (λo=>decide (z4k o=l)&&pIs T (zo4 o) s) [1,2,3,4,5,6,7,8,9,10,11,12,13,14,15,16,17,18,19]with
 |none=>rw[hq]at h;exact absurd _root_.rfl h
 |some o=>have:=List.find?_some hq;simp only[A0]at this;exact this.2
theorem z54(hT:TkOk T):∀N,(∀l d s,Fw T s (z31 T N l d s).2)/\(∀l d r,Fw T r.2 (zb2 T N l d r).2)/\(∀d s,Fw T s (z7i T N d s).2)/\(∀d s,Fw T s (y2i T N d s).2)/\(∀d s,Fw T s (z7y T N d s).2)/\(∀d b out s,Fw T s (z9u T N d b out s).2)
 |0=>⟨λ_ _ _=>.rfl,λ_ _ _=>.rfl,λ_ _=>.rfl,λ_ _=>.rfl,λ_ _=>.rfl,λ_ _ _ _=>.rfl⟩
 |N+1=>by
  obtain⟨iE,iL,iU,iP,iA,iG⟩:=z54 hT N;refine⟨λl d s=>?_,λl d r=>?_,λd s=>?_,λd s=>?_,λd s=>?_,λd b out s=>?_⟩
  ·unfold z31;split
   ·exact iU _ _
   ·exact(iE _ _ _).trans (iL _ _ _)
  ·unfold zb2;split
   ·exact .rfl
   ·rename_i h;exact(z11 hT (pOp_is h)).trans ((iE (l+1) d r.2.next).trans (iL l d (.mk 5 (pOp T l r.2) 0 s_ [r.1,(z31 T N (l+1) d r.2.next).1],(z31 T N (l+1) d r.2.next).2)))
  ·unfold z7i
   cases h:pUn T (z4i d s)with
   |none=>exact zk4.trans (iP _ _)
   |some o =>
    have h1:=(zk4 (T:=T) (d:=d) (s:=s)).trans (z11 hT (pUn_is h));dsimp only;split
    ·exact h1.trans ((z0c hT).trans ((iE _ _ _).trans (z0c hT)))
    ·exact h1.trans (iU _ _)
  ·unfold y2i;split
   ·exact .rfl
   rename_i ho;split
   ·rename_i h;exact(z11 hT h).trans ((iE _ _ _).trans (z0c hT))
   split
   ·rename_i h;exact z11 hT h
   split
   ·rename_i h;exact z11 hT h
   split
   ·rename_i h;exact(z11 hT h).trans ((z0c hT).trans (z0c hT))
   split
   ·rename_i h;exact j02 hT (by simpa using ho) (by rw[h];decide)
   split
   ·rename_i h;exact(z1w hT dC0).trans ((z11 hT h).trans (iA _ _))
   split
   ·rename_i h;exact(z1w hT dC0).trans ((z11 hT h).trans ((iE _ _ _).trans (z0c hT)))
   ·exact z1w hT dC0
  ·unfold z7y;split
   ·rename_i h;exact z11 hT h
   ·exact(iG _ _ _ _).trans (z0c hT)
  ·unfold z9u;split
   ·exact(y31 hT).trans ((iE _ _ _).trans (iG _ _ _ _))
   ·exact y31 hT
theorem z59(hT:TkOk T){s:Ps}:Fw T s (mE T s).2:=by
 unfold mE;exact(z54 hT (big T)).1 1 1 s
attribute [local irreducible] mE z7y
theorem z2s(hT:TkOk T){s:Ps}:Fw T s (z1x T s).2:=by
 unfold z1x;exact(z0c hT).trans ((z59 hT).trans (z0c hT))
theorem yi4(hT:TkOk T){s:Ps}:Fw T s (z5m T s).2:=by
 unfold z5m;split
 ·rename_i h;exact(z1w hT dC0).trans ((z11 hT h).trans ((z54 hT (big T)).2.2.2.2.1 _ _))
 split
 ·rename_i h;exact(z1w hT dC0).trans ((z11 hT h).trans ((z59 hT).trans ((z0c hT (w:=sSc)).trans ((z0c hT (w:=sEq)).trans (z59 hT)))))
 ·exact(z1w hT dC0).trans ((z0c hT).trans (z59 hT))
theorem fw_let(hT:TkOk T){s:Ps}:Fw T s (mLet T s).2:=by
 unfold mLet;exact(z5i hT).trans ((z1w hT dC0).trans ((z0c hT).trans (z59 hT)))
theorem fw_flat(hT:TkOk T){s:Ps}:Fw T s (zf7 T s).2:=by
 unfold zf7;split
 ·rename_i h;exact z11 hT h
 split
 ·rename_i h;exact z11 hT h
 split
 ·rename_i h;exact(z11 hT h).trans (z59 hT)
 split
 ·rename_i h;exact(z11 hT h).trans (z2s hT)
 ·exact yi4 hT
theorem z5h(hT:TkOk T):∀N,(∀d s,Fw T s (z65 T N d s).2)/\(∀d s,Fw T s (z1z T N d s).2)/\(∀d out s,Fw T s (z84 T N d out s).2)
 |0=>⟨λ_ _=>y04,λ_ _=>.rfl,λ_ _ _=>.rfl⟩
 |N+1=>by
  obtain⟨iS,iB,iL⟩:=z5h hT N;refine⟨λd s=>?_,λd s=>?_,λd out s=>?_⟩
  ·unfold z65;refine(y70 (d:=d)).trans ?_;split
   ·exact(fw_let hT).trans (z0c hT (w:=z5e))
   split
   ·rename_i h;split
    ·rename_i h2;exact(z11 hT h).trans ((z2s hT).trans ((iB _ _).trans ((z11 hT h2).trans (iB _ _))))
    ·exact(z11 hT h).trans ((z2s hT).trans (iB _ _))
   split
   ·rename_i h;exact(z11 hT h).trans ((z2s hT).trans (iB _ _))
   ·exact(fw_flat hT).trans (z0c hT (w:=z5e))
  ·unfold z1z;exact(z0c hT).trans (iL _ _ _)
  ·unfold z84;split
   ·exact .rfl
   split
   ·rename_i h;exact z11 hT h
   ·exact(iS _ _).trans (iL _ _ _)
theorem yi5(hT:TkOk T):∀N b out s,Fw T s (z9v T N b out s).2
 |0,_,_,_=>.rfl
 |N+1,b,out,s=>by
  unfold z9v;split
  ·exact(y31 hT).trans ((z5i hT).trans ((z1w hT dC0).trans (yi5 hT N _ _ _)))
  ·exact y31 hT
theorem zk3(hT:TkOk T){s:Ps}:Fw T s (z7g T s).2:=by
 unfold z7g;split
 ·rename_i h;exact z11 hT h
 ·exact(yi5 hT _ _ _ _).trans (z0c hT)
theorem y9p(hT:TkOk T){t:Int}{n:ByteArray}{s:Ps}:Fw T s (z73 T t n s).2:=by
 unfold z73;exact(z0c hT).trans ((zk3 hT).trans ((z5h hT (big T)).2.1 _ _))
def Go1(s s':Ps):Prop:=s'.over=true∨s.at_<s'.at_
theorem Go1.then{a b c:Ps}(h:Go1 a b)(k:Fw T b c):Go1 a c:=h.elim (λe=>.inl (k.ov e)) λe=>.inr (Bc e k.at_)
theorem Go1.after{a b c:Ps}(k:Fw T a b)(h:Go1 b c):Go1 a c:=h.elim .inl λe=>.inr (Nat.lt_of_le_of_lt k.at_ e)
theorem z8h{s:Ps}:Go1 s s.next:=.inr (Ab _)
theorem zh4{w:ByteArray}{s:Ps}:Go1 s (z0n T w s):=by
 unfold z0n;split
 ·exact z8h
 ·split
  ·rename_i h;exact .inl (by simp[Ps.over,h])
  ·exact .inl (by simp[Ps.over,Ps.setBad])
theorem z6n{k:Int}{s:Ps}:Go1 s (z0l T k s).2:=by
 unfold z0l;split
 ·rename_i h;exact .inl h
 ·split
  ·exact z8h
  ·exact .inl (by simp[Ps.over,Ps.setBad])
theorem zk6{s:Ps}:Go1 s (z0r T s).2:=by
 unfold z0r;split
 ·exact z8h
 ·exact zh4
theorem go_named(hT:TkOk T){s:Ps}:Go1 s (z5m T s).2:=by
 unfold z5m;split
 ·rename_i h;exact z6n.then ((z11 hT h).trans ((z54 hT (big T)).2.2.2.2.1 _ _))
 split
 ·rename_i h;exact z6n.then ((z11 hT h).trans ((z59 hT).trans ((z0c hT (w:=sSc)).trans ((z0c hT (w:=sEq)).trans (z59 hT)))))
 ·exact z6n.then ((z0c hT).trans (z59 hT))
theorem go_flat(hT:TkOk T){s:Ps}:Go1 s (zf7 T s).2:=by
 unfold zf7;split
 ·exact z8h
 split
 ·exact z8h
 split
 ·exact z8h.then (z59 hT)
 split
 ·exact z8h.then (z2s hT)
 ·exact go_named hT
theorem go_stmt(hT:TkOk T)(N:Nat){d:Int}{s:Ps}:Go1 s (z65 T N d s).2:=by
 cases N with
 |zero=>exact .inl (by simp[z65,Ps.over,Ps.setBad])
 |succ N =>
 obtain⟨iS,iB,iL⟩:=z5h hT N;unfold z65;refine Go1.after (y70 (d:=d) (T:=T)) ?_;split
 ·exact zk6.then ((z1w hT (k:=1) dC0).trans ((z0c hT (w:=sEq)).trans ((z59 hT).trans (z0c hT (w:=z5e)))))
 split
 ·rename_i h;split
  ·rename_i h2;exact z8h.then ((z2s hT).trans ((iB _ _).trans ((z11 hT h2).trans (iB _ _))))
  ·exact z8h.then ((z2s hT).trans (iB _ _))
 split
 ·exact z8h.then ((z2s hT).trans (iB _ _))
 ·exact(go_flat hT).then (z0c hT (w:=z5e))
end
def psO(T:List Tk)(s:Ps):List (Nat×HO):=[(1,.box [.pv (tks T),iInt (s.at_:Nat),iBool s.bad,iBool s.deep])]
theorem yg0{T:List Tk}{s:Ps}(h:s.at_<T.length):(T.map Tk.enc)[s.at_]?=some (tkAt T s).enc:=by
 unfold tkAt;rw[Ba,Ay,A9 h];rfl
theorem z76(T:List Tk)(s:Ps):SC Tryz.prog 78 [.ptr 1 0] (psO T s) (λk=>k∈[1]) (iBool s.over) (psO T s):=by
 refine SC.vc tb {} [1] Tryz.func78 rfl rfl ?_;unfold Ps.over;exact z00 (λh=>⟨sE (by rw[h];rfl),rfl,Gd⟩) λh=>⟨sE (by rw[h];rfl),rfl,Gd⟩
theorem yn0(T:List Tk)(s:Ps)(h:s.at_<T.length)(w:ByteArray):SC Tryz.prog 128 [.ptr 1 0,.pv (.val (.string w))] (psO T s) (λk=>k∈[1]) (iBool (pIs T w s)) (psO T s):=by
 refine SC.vc tb {} [1] Tryz.func128 rfl rfl ?_;refine⟨[1],z76 T s,sR,⟨rfl,rfl,.head _,Gd⟩,rfl,z00 (λh1=>⟨yg0 h,rfl,z00 (λh2=>⟨yg0 h,rfl,sE ?_,rfl,Gd⟩) λh2=>⟨sE ?_,rfl,Gd⟩⟩) λh1=>⟨sE ?_,rfl,Gd⟩⟩
 ·unfold pIs eqS;rw[h1,show((tkAt T s).kind==2)=true from h2];rfl
 ·unfold pIs;rw[h1,show((tkAt T s).kind==2)=false from h2];rfl
 ·unfold pIs;rw[h1];rfl
theorem z47(T:List Tk)(s:Ps)(h:s.at_<T.length)(hb:T.length<=1073741824)(w:ByteArray):SC Tryz.prog 81 [.ptr 1 0,.pv (.val (.string w))] (psO T s) (λk=>k∈[]) (iBool (z8k T w s).1) (psO T (z8k T w s).2):=by
 refine SC.vc tb {} [] Tryz.func81 rfl rfl ?_;unfold z8k;refine⟨[1],yn0 T s h w,sR,Gf,rfl,z00 (λh1=>?_) λh1=>?_⟩
 ·rw[if_pos h1];exact⟨z01 rfl oM0,sE (by rw[h1]),rfl,Gd⟩
 ·rw[if_neg (by rw[h1];decide)];exact⟨sE (by rw[h1]),rfl,Gd⟩
theorem z18(T:List Tk)(s:Ps)(h:s.at_<T.length)(hb:T.length<=1073741824)(w:ByteArray):SC Tryz.prog 83 [.ptr 1 0,.pv (.val (.string w))] (psO T s) (λk=>k∈[]) (.tup []) (psO T (z0n T w s)):=by
 have ht:=z47 T s h hb w;unfold z8k at ht;refine SC.vc tb {} [] Tryz.func83 rfl rfl ?_;unfold z0n
 cases h1:pIs T w s with
 |true =>
  rw[h1]at ht
  exact⟨[],ht,sR,Ge,rfl,sI,rfl,Gd⟩
 |false =>
  rw[h1]at ht;refine⟨[],ht,sR,Ge,rfl,?_⟩;obtain⟨at_,bad,deep⟩:=s
  cases deep with
  |true=>exact⟨sI,rfl,Gd⟩
  |false=>exact⟨sI,rfl,Gd⟩
theorem z89(T:List Tk)(s:Ps)(h:s.at_<T.length)(hb:T.length<=1073741824)(k:Int):SC Tryz.prog 80 [.ptr 1 0,.pv (.val (.int .i64 k))] (psO T s) (λk=>k∈[]) (.pv (.val (.string (z0l T k s).1))) (psO T (z0l T k s).2):=by
 refine SC.vc tb {} [] Tryz.func80 rfl rfl ?_;unfold z0l;refine⟨[1],z76 T s,sR,Gf,rfl,z00 (λh1=>?_) λh1=>?_⟩
 ·rw[if_pos h1];exact⟨sI,rfl,Gd⟩
 ·rw[if_neg (by rw[h1];decide)];refine⟨yg0 h,rfl,z00 (λh2=>?_) λh2=>?_⟩
  ·have h2:¬(tkAt T s).kind=k:=by simpa using h2
   rw[if_neg h2];exact⟨sI,rfl,Gd⟩
  ·have h2:(tkAt T s).kind=k:=by simpa using h2
   rw[if_pos h2];exact⟨z01 rfl oM0,sI,rfl,Gd⟩
theorem zm9(T:List Tk)(hT:TkOk T)(s:Ps)(h:s.at_<T.length)(hb:T.length<=1073741824):SC Tryz.prog 79 [.ptr 1 0] (psO T s) (λk=>k∈[]) (iInt (z0r T s).1) (psO T (z0r T s).2):=by
 have ht:=z47 T s h hb sInt;unfold z8k at ht;refine SC.vc tb {} [] Tryz.func79 rfl rfl ?_;unfold z0r
 cases h1:pIs T sInt s with
 |true =>
  rw[h1]at ht
  exact⟨[],ht,sR,Ge,rfl,sI,rfl,Gd⟩
 |false =>
  rw[h1]at ht;exact⟨[],ht,sR,Ge,rfl,[],z18 T s h hb j22,sR,Ge,rfl,sI,rfl,Gd⟩
def j3c:List (List PV):=wSigns.tail.map λs=>[.val (.string s)]
theorem sc_signs:SC Tryz.prog 263 [] [] (λk=>k∈[]) (.pv (.seq j3c)) []:=by
 refine SC.vc tb {} [] Tryz.func263 rfl rfl ?_;exact⟨sI,Gd⟩
theorem ops28{op:Int}(h0:1<=op)(h1:op<=28):op=1∨op=2∨op=3∨op=4∨op=5∨op=6∨op=7∨op=8∨op=9∨op=10∨op=11∨op=12∨op=13∨op=14∨op=15∨op=16∨op=17∨op=18∨op=19∨op=20∨op=21∨op=22∨op=23∨op=24∨op=25∨op=26∨op=27∨op=28:=by omega
theorem sign_get{op:Int}(h0:1<=op)(h1:op<=28):j3c[(op-1).toNat]?=some [.val (.string (zo4 op))]:=by
 rcases ops28 h0 h1 with rfl|rfl|rfl|rfl|rfl|rfl|rfl|rfl|rfl|rfl|rfl|rfl|rfl|rfl|rfl|rfl|rfl|rfl|rfl|rfl|rfl|rfl|rfl|rfl|rfl|rfl|rfl|rfl<;>rfl
theorem y3z(op:Int)(h0:1<=op)(h1:op<=28):SC Tryz.prog 248 [.pv (.val (.int .i64 op))] [] (λk=>k∈[]) (.pv (.val (.string (zo4 op)))) []:=by
 refine SC.vc tb {} [] Tryz.func248 rfl rfl ?_;refine z00 (λh=>?_) λh=>?_
 ·have:=Am h;omega
 ·refine z00 (λh2=>?_) λh2=>?_
  ·have:=Am h2;omega
  ·exact⟨[],sc_signs,sR,Gd,rfl,z2x rfl oM0,sign_get h0 h1,by omega,sI,Gd⟩
theorem y3y(op:Int)(h0:1<=op)(h1:op<=19):SC Tryz.prog 179 [.pv (.val (.int .i64 op))] [] (λk=>k∈[]) (iInt (z4k op)) []:=by
 refine SC.vc tb {} [] Tryz.func179 rfl rfl ?_;rcases(show op=1∨op=2∨op=3∨op=4∨op=5∨op=6∨op=7∨op=8∨op=9∨op=10∨op=11∨op=12∨op=13∨op=14∨op=15∨op=16∨op=17∨op=18∨op=19 by omega)with rfl|rfl|rfl|rfl|rfl|rfl|rfl|rfl|rfl|rfl|rfl|rfl|rfl|rfl|rfl|rfl|rfl|rfl|rfl<;>exact⟨sI,Gd⟩
def y0u(k n:Nat):List Int:=(List.range n).map λi=>((k+i:Nat):Int)
theorem zu4(k n:Nat):y0u k (n+1)=(k:Int)::y0u (k+1) n:=by
 unfold y0u;rw[List.range_succ_eq_map];simp only[B8,En]
 congr 1
 refine List.map_congr_left λi _=>?_;show((k+(i+1):Nat):Int)=((k+1+i:Nat):Int)
 congr 1
 omega
theorem sc_pop(T:List Tk)(s:Ps)(h:s.at_<T.length)(level:Int):SC Tryz.prog 234 [.ptr 1 0,.pv (.val (.int .i64 level))] (psO T s) (λk=>k∈[1]) (iInt (pOp T level s)) (psO T s):=by
 refine SC.vc tb {} [1] Tryz.func234 rfl rfl ?_;refine⟨Nat,λk=>[(5,iInt ((k:Nat):Int))],λ_=>[],λk=>20-k,λk=>1<=k/\k<=20/\pOp T level s=((y0u k (20-k)).find? λo=>decide (z4k o=level)&&pIs T (zo4 o) s).getD 0,[],1,⟨Ag _,by decide,rfl⟩,Ge,Gd,?_⟩;rintro k ⟨h1,h2,h3⟩;refine z00 (λhc=>?_) λhc=>?_
 ·have hk:k<=19:=by have:=Am hc;omega
  rw[show 20-k=(19-k)+1 by omega,zu4,List.find?_cons]at h3;refine⟨[],y3y k oM0 oM0,sR,Gd,rfl,z00 (λe1=>?_) λe1=>?_⟩
  ·refine⟨[],y3z k oM0 oM0,sR,Gd,rfl,[1],yn0 T s h _,sR,⟨rfl,rfl,.head _,Gd⟩,rfl,z00 (λe2=>?_) λe2=>?_⟩
   ·rw[Cb (eq_of_beq e1),e2]at h3;exact⟨sE (by rw[h3];rfl),rfl,Gd⟩
   ·rw[e2,Cy]at h3;exact⟨z01 rfl oM0,k+1,by omega,⟨by omega,by omega,by rw[h3,show 20-(k+1)=19-k by omega]⟩,Ge,Gd,rfl,rfl,rfl,rfl⟩
  ·rw[De (λe=>by rw[e]at e1;simp at e1),Cz]at h3;exact⟨z01 rfl oM0,k+1,by omega,⟨by omega,by omega,by rw[h3,show 20-(k+1)=19-k by omega]⟩,Ge,Gd,rfl,rfl,rfl,rfl⟩
 ·have hk:k=20:=by have:=Ak hc;omega
  subst hk;exact⟨sE (by rw[h3];rfl),rfl,Gd⟩
section
variable {T:List Tk}
theorem y2c(k o n:Int)(s:ByteArray)(a:List Ex):xz (.mk k o n s a)=1+xzL a:=by simp only[xz]
theorem xz_x0:xz x0=1:=rfl
theorem z6x(a:Ex):xzL [a]=xz a:=by simp[xzL]
theorem j4l(a b:Ex):xzL [a,b]=xz a+xz b:=by simp[xzL]
theorem z0m(s:Ps):s.next.at_=s.at_+1:=rfl
theorem y4n(hT:TkOk T):∀N,(∀l d s,xz (z31 T N l d s).1+2*s.at_<=1+2*(z31 T N l d s).2.at_)/\(∀l d r,xz (zb2 T N l d r).1+2*r.2.at_<=xz r.1+2*(zb2 T N l d r).2.at_)/\(∀d s,xz (z7i T N d s).1+2*s.at_<=1+2*(z7i T N d s).2.at_) /\
 (∀d s,xz (y2i T N d s).1+2*s.at_<=1+2*(y2i T N d s).2.at_)/\(∀d s,xzL (z7y T N d s).1+2*s.at_<=1+2*(z7y T N d s).2.at_)/\(∀d b out s,xzL (z9u T N d b out s).1+2*s.at_<=xzL out+(bif b then 1 else 0)+2*(z9u T N d b out s).2.at_)
 |0=>⟨λ_ _ _=>Ag _,λ_ _ _=>Ag _,λ_ _=>Ag _,λ_ _=>Ag _,λ_ s=>by show 0+2*s.at_<=1+2*s.at_;omega,λ_ b out s=>by show xzL out+2*s.at_<=_+2*s.at_;omega⟩
 |N+1=>by
  obtain⟨iE,iL,iU,iP,iA,iG⟩:=y4n hT N;refine⟨λl d s=>?_,λl d r=>?_,λd s=>?_,λd s=>?_,λd s=>?_,λd b out s=>?_⟩
  ·unfold z31;split
   ·exact iU _ _
   ·have h1:=iE (l+1) d s;have h2:=iL l d (z31 T N (l+1) d s);omega
  ·unfold zb2;split
   ·exact Ag _
   ·have h1:=iE (l+1) d r.2.next;have h2:=iL l d (.mk 5 (pOp T l r.2) 0 s_ [r.1,(z31 T N (l+1) d r.2.next).1],(z31 T N (l+1) d r.2.next).2);simp only[y2c,j4l]at h2;rw[z0m]at h1;omega
  ·unfold z7i;have h0:=(zk4 (T:=T) (d:=d) (s:=s)).at_;have h0':(z4i d s).at_=s.at_:=by unfold z4i;split<;>rfl
   cases h:pUn T (z4i d s)with
   |none =>
    have:=iP d (z4i d s);dsimp only
    omega
   |some o =>
    dsimp only;split
    ·have h1:=iE 1 (d+1) (z0n T sRo (z4i d s).next);have h2:=(z0c hT (w:=sRo) (s:=(z4i d s).next)).at_;have h3:=(z0c hT (w:=sRc) (s:=(z31 T N 1 (d+1) (z0n T sRo (z4i d s).next)).2)).at_;rw[z0m]at h2;simp only[y2c,z6x];omega
    ·have h1:=iU (d+1) (z4i d s).next;rw[z0m]at h1;simp only[y2c,z6x];omega
  ·unfold y2i;split
   ·simp[xz_x0]
   split
   ·have h1:=iE 1 (d+1) s.next;have h3:=(z0c hT (w:=sRc) (s:=(z31 T N 1 (d+1) s.next).2)).at_;rw[z0m]at h1;dsimp only;omega
   split
   ·simp only[y2c,xzL,z0m];omega
   split
   ·simp only[y2c,xzL,z0m];omega
   split
   ·have h2:=(z0c hT (w:=sRo) (s:=s.next)).at_;have h3:=(z0c hT (w:=sRc) (s:=z0n T sRo s.next)).at_;rw[z0m]at h2;simp only[y2c,xzL];omega
   split
   ·simp only[y2c,xzL,z0m];omega
   have hx:=(z1w hT (k:=1) dC0 (s:=s)).at_;split
   ·have h1:=iA (d+1) (z0l T 1 s).2.next;rw[z0m]at h1;simp only[y2c];omega
   split
   ·have h1:=iE 1 (d+1) (z0l T 1 s).2.next;have h3:=(z0c hT (w:=sSc) (s:=(z31 T N 1 (d+1) (z0l T 1 s).2.next).2)).at_;rw[z0m]at h1;simp only[y2c,z6x];omega
   ·simp only[y2c,xzL];omega
  ·unfold z7y;split
   ·simp only[xzL,z0m];omega
   ·have h1:=iG d true [] s;have h3:=(z0c hT (w:=sRc) (s:=(z9u T N d true [] s).2)).at_;simp only[xzL,Dy]at h1;dsimp only;omega
  ·unfold z9u;have h0:=(y31 hT (b:=b) (s:=s)).at_;split
   ·rename_i hc;have h1:=iE 1 d (aGo T b s);have h2:=iG d false (out++[(z31 T N 1 d (aGo T b s)).1]) (z31 T N 1 d (aGo T b s)).2;rw[j4k,z6x]at h2
    cases b with
    |true =>
     simp only[Dy,Cw]at h2⊢
     omega
    |false =>
     have hi:pIs T zm7 s=true:=by simpa using hc.1
     have h3:(aGo T false s).at_=s.at_+1:=by simp[aGo,z8k,hi,z0m]
     simp only[Cw]at h2⊢;omega
   ·dsimp only;omega
theorem yr1(hT:TkOk T)(s:Ps):xz (mE T s).1+2*s.at_<=1+2*(mE T s).2.at_:=(y4n hT (big T)).1 1 1 s
theorem yk1(hT:TkOk T)(d:Int)(s:Ps):xzL (z7y T (big T) d s).1+2*s.at_<=1+2*(z7y T (big T) d s).2.at_:=(y4n hT (big T)).2.2.2.2.1 d s
theorem y0b(hT:TkOk T)(s:Ps):xz (z1x T s).1+2*s.at_<=1+2*(z1x T s).2.at_:=by
 have h1:=yr1 hT (z0n T sRo s);have h2:=(z0c hT (w:=sRo) (s:=s)).at_;have h3:=(z0c hT (w:=sRc) (s:=(mE T (z0n T sRo s)).2)).at_;unfold z1x;dsimp only;omega
end
def rem(T:List Tk)(s:Ps):Nat:=20*(T.length-s.at_)
def exB(x:Ex):HO:=.box [iInt x.kind,iInt x.op,iInt x.n,.pv (vStr x.name),.pv (exs x.args)]
def psB(T:List Tk)(s:Ps):HO:=.box [.pv (tks T),iInt (s.at_:Nat),iBool s.bad,iBool s.deep]
def dOk(T:List Tk)(d:Int)(s:Ps):Prop:=0<=d/\d+(T.length:Int)<=4294967296+(s.at_:Int)
theorem dOk.fw{T:List Tk}{d:Int}{s s':Ps}(h:dOk T d s)(k:s.at_<=s'.at_):dOk T d s':=⟨h.1,by have:=h.2;omega⟩
theorem dOk.up{T:List Tk}{d:Int}{s s':Ps}(h:dOk T d s)(k:s.at_<s'.at_):dOk T (d+1) s':=⟨by have:=h.1;omega,by have:=h.2;omega⟩
def fE(T:List Tk)(l d:Int)(s:Ps)(r:Ex×Ps):Prop:=SC Tryz.prog 206 [.ptr 1 0,.pv (.val (.int .i64 l)),.pv (.val (.int .i64 d))] (psO T s) (λk=>k∈[]) (.pv (exv r.1)) (psO T r.2)
def fU(T:List Tk)(d:Int)(s:Ps)(r:Ex×Ps):Prop:=SC Tryz.prog 233 [.ptr 1 0,.pv (.val (.int .i64 d))] (psO T s) (λk=>k∈[]) (.pv (exv r.1)) (psO T r.2)
def fP(T:List Tk)(d:Int)(s:Ps)(r:Ex×Ps):Prop:=SC Tryz.prog 249 [.ptr 1 0,.pv (.val (.int .i64 d))] (psO T s) (λk=>k∈[]) (.pv (exv r.1)) (psO T r.2)
def fA(T:List Tk)(d:Int)(s:Ps)(r:List Ex×Ps):Prop:=SC Tryz.prog 235 [.ptr 1 0,.pv (.val (.int .i64 d))] (psO T s) (λk=>k∈[]) (.pv (exs r.1)) (psO T r.2)
def SCE(T:List Tk)(N:Nat):Prop:=∀(l d:Int)(s:Ps),1<=l->l<=11->dOk T d s->s.at_<T.length->rem T s+(14-l).toNat<=N->fE T l d s (z31 T N l d s)
def SCU(T:List Tk)(N:Nat):Prop:=∀(d:Int)(s:Ps),dOk T d s->s.at_<T.length->rem T s+2<=N->fU T d s (z7i T N d s)
def SCP(T:List Tk)(N:Nat):Prop:=∀(d:Int)(s:Ps),dOk T d s->s.at_<T.length->rem T s+1<=N->fP T d s (y2i T N d s)
def SCA(T:List Tk)(N:Nat):Prop:=∀(d:Int)(s:Ps),dOk T d s->s.at_<T.length->rem T s+17<=N->fA T d s (z7y T N d s)
theorem ex2(a b:Ex):exs [a,b]=.seq [[vInt a.kind,vInt a.op,vInt a.n,vStr a.name,exs a.args],[vInt b.kind,vInt b.op,vInt b.n,vStr b.name,exs b.args]]:=by
 simp only[exs,B8,D6,Ex.enc_eq]
theorem ex1(a:Ex):exs [a]=.seq [[vInt a.kind,vInt a.op,vInt a.n,vStr a.name,exs a.args]]:=by
 simp only[exs,B8,D6,Ex.enc_eq]
theorem y87(T:List Tk)(hT:TkOk T)(hb:T.length<=1073741824)(N:Nat)(ihE:∀M,M<=N->SCE T M)(ihU:SCU T N):SCE T (N+1):=by
 intro l d s h1 h2 hd h hm;refine SC.vc tb {} [] Tryz.func206 rfl rfl ?_;refine z00 (λh3=>?_) λh3=>?_
 ·have h3:=Am h3;have e:l=11:=by omega
  subst e;have hu:=ihU d s hd h oM0;rw[show z31 T (N+1) 11 d s=z7i T N d s by rw[z31,if_pos h3]];exact⟨[],hu,sR,Ge,rfl,sI,rfl,Gd⟩
 ·have h3:=Ak h3;have he:=ihE N (Ag _) (l+1) d s oM0 oM0 hd h oM0;have hf:=(z54 hT N).1 (l+1) d s;rw[show z31 T (N+1) l d s=zb2 T N l d (z31 T N (l+1) d s) by rw[z31,if_neg h3]];have hr:rem T (z31 T N (l+1) d s).2<=rem T s:=by have:=hf.at_;unfold rem;omega
  generalize z31 T N (l+1) d s=r0 at he hf hr;refine⟨z01 rfl oM0,[],he,sR,Ge,rfl,Nat×(Ex×Ps),λ_=>[],λa=>[(107,exB a.2.1),(1,psB T a.2.2)],λa=>a.1,
   λa=>zb2 T N l d r0=zb2 T a.1 l d a.2/\s.at_<=a.2.2.at_/\a.2.2.at_<T.length/\rem T a.2.2+(13-l).toNat<=a.1/\a.1<=N,[],(N,r0),⟨rfl,hf.at_,hf.lt h,by dsimp only;omega,Ag _⟩,Gd,Gf,?_⟩
  rintro⟨n,r⟩ ⟨i1,i0,i2,i3,i4⟩;dsimp only at i1 i0 i2 i3 i4;obtain⟨m,rfl⟩:∃m,n=m+1:=⟨n-1,by unfold rem at i3;omega⟩;rw[zb2]at i1;refine⟨[],sc_pop T r.2 i2 l,sR,Ge,rfl,z00 (λe1=>?_) λe1=>?_⟩
  ·have e1:pOp T l r.2=0:=eq_of_beq e1;rw[if_pos e1]at i1;rw[i1];exact⟨sI,rfl,Gd⟩
  ·have e1:¬pOp T l r.2=0:=by simpa using e1
   rw[if_neg e1]at i1;have hn:=j0x hT i2 (by rw[(z4o (pOp_is e1)).2];decide);have hr2:rem T r.2.next+20<=rem T r.2:=by unfold rem;rw[z0m];omega
   have he2:=ihE m oM0 (l+1) d r.2.next oM0 oM0 (hd.fw (by rw[z0m];omega)) hn oM0;have hf2:=(z54 hT m).1 (l+1) d r.2.next;have hr3:rem T (z31 T m (l+1) d r.2.next).2<=rem T r.2.next:=by have:=hf2.at_;unfold rem;omega
   generalize z31 T m (l+1) d r.2.next=r2 at he2 hf2 hr3 i1;refine⟨z01 rfl oM0,z01 rfl oM0,[],he2,sR,Ge,rfl,(m,(.mk 5 (pOp T l r.2) 0 s_ [r.1,r2.1],r2.2)),Ab _,⟨i1,by have:=hf2.at_;rw[z0m]at this;dsimp only;omega,hf2.lt hn,by dsimp only;omega,by dsimp only;omega⟩,Gd,⟨?_,rfl,Gd⟩,rfl,rfl,rfl,rfl⟩;exact(Af (λp=>some (HO.box [iInt 5,iInt (pOp T l r.2),iInt 0,.pv (vStr s_),.pv p])) (ex2 r.1 r2.1)).symm
theorem y66(T:List Tk)(hT:TkOk T)(hb:T.length<=1073741824)(N:Nat)(ihE:SCE T N)(ihU:SCU T N)(ihP:SCP T N):SCU T (N+1):=by
 intro d s hd h hm;refine SC.vc tb {} [] Tryz.func233 rfl rfl ?_;obtain⟨s1,es⟩:∃x,x=z4i d s:=⟨_,rfl⟩;have hf1:Fw T s s1:=by rw[es];exact zk4
 have ha1:s1.at_=s.at_:=by rw[es];unfold z4i;split<;>rfl
 have hM:z7i T (N+1) d s=match pUn T s1 with
  |none=>y2i T N d s1
  |some op=>if op≥23 then(.mk 4 op 0 s_ [(z31 T N 1 (d+1) (z0n T sRo s1.next)).1],z0n T sRc (z31 T N 1 (d+1) (z0n T sRo s1.next)).2)
   else(.mk 4 op 0 s_ [(z7i T N (d+1) s1.next).1],(z7i T N (d+1) s1.next).2):=by rw[es];rfl
 generalize z7i T (N+1) d s=R at hM;have hd1:dOk T d s1:=hd.fw hf1.at_;have hl1:s1.at_<T.length:=by rw[ha1];exact h
 have hm1:rem T s1+2<=N+1:=by unfold rem at hm⊢;rw[ha1];exact hm
 clear hd hm hf1;obtain⟨at_,bad,deep⟩:=s
 cases bad
 all_goals refine z00 (λc1=>?_) λc1=>?_
 have e:s1=⟨at_,false,true⟩:=by rw[es];unfold z4i;rw[if_pos ⟨Am c1,rfl⟩];rfl
 rotate_left
 have e:s1=⟨at_,false,deep⟩:=by rw[es];unfold z4i;rw[if_neg (λg=>Ak c1 g.1)]
 rotate_left
 have e:s1=⟨at_,true,deep⟩:=by rw[es];unfold z4i;rw[if_neg (λg=>by cases g.2)]
 rotate_left
 have e:s1=⟨at_,true,deep⟩:=by rw[es];unfold z4i;rw[if_neg (λg=>by cases g.2)]
 rotate_left
 all_goals
  clear es c1;refine⟨Nat,λk=>[(5,iInt ((k:Nat):Int))],λ_=>[(1,psB T s1)],λk=>29-k,λk=>20<=k/\k<=29/\pUn T s1=(y0u k (29-k)).find? λo=>pIs T (zo4 o) s1,[],20,⟨Ag _,by decide,rfl⟩,Ge,⟨by rw[e];rfl,Gd⟩,?_⟩;rintro k ⟨h1,h2,h3⟩;refine z00 (λhc=>?_) λhc=>?_
  ·have hk:k<=28:=by have:=Am hc;omega
   rw[show 29-k=(28-k)+1 by omega,zu4,List.find?_cons]at h3;have ht:=z47 T s1 hl1 hb (zo4 k);unfold z8k at ht;refine⟨[],y3z k oM0 oM0,sR,Gd,rfl,?_⟩
   cases hp:pIs T (zo4 k) s1 with
   |false =>
    rw[hp]at ht h3
    exact⟨[],ht,sR,Ge,rfl,z01 rfl oM0,k+1,by omega,⟨by omega,by omega,by rw[h3,show 29-(k+1)=28-k by omega]⟩,Ge,Ge,rfl,rfl,rfl,rfl⟩
   |true =>
    rw[hp]at ht h3;dsimp only at h3;rw[h3]at hM;dsimp only at hM;have hn:=(z11 hT hp).lt hl1;have hr:=show rem T s1.next+20<=rem T s1 by unfold rem;rw[z0m]at hn⊢;omega
    have hd2:dOk T (d+1) s1.next:=hd1.up (Ab _);refine⟨[],ht,sR,Ge,rfl,z00 (λg1=>?_) λg1=>?_⟩
    ·have g1:=Am g1;rw[if_pos g1]at hM;have hf2:=z0c hT (w:=sRo) (s:=s1.next);have he:=ihE 1 (d+1) (z0n T sRo s1.next) oM0 oM0 (hd2.fw hf2.at_) (hf2.lt hn) (by have:=hf2.at_;unfold rem at hr hm1⊢;omega);have hf3:=((z54 hT N).1 1 (d+1) (z0n T sRo s1.next)).lt (hf2.lt hn);generalize z31 T N 1 (d+1) (z0n T sRo s1.next)=r at he hM hf3;subst hM;refine⟨[],z18 T s1.next hn hb sRo,sR,Ge,rfl,z00 (λ_=>?_) λg2=>absurd g1 (Ak g2)⟩;refine⟨z01 rfl (by have:=hd2.1;have:=hd2.2;omega),[],he,sR,Ge,rfl,[],z18 T r.2 hf3 hb sRc,sR,Ge,rfl,?_⟩;exact⟨sE (Af (λp=>IV.pv (.agg [vInt 4,vInt (k:Int),vInt 0,vStr s_,p])) (ex1 r.1).symm),rfl,Gd⟩
    ·have g1:=Ak g1;rw[if_neg g1]at hM;have hu:=ihU (d+1) s1.next hd2 hn oM0;generalize z7i T N (d+1) s1.next=r at hu hM;subst hM;refine z00 (λg2=>absurd (Am g2) g1) λ_=>?_;refine⟨z01 rfl (by have:=hd2.1;have:=hd2.2;omega),[],hu,sR,Ge,rfl,?_⟩;exact⟨sE (Af (λp=>IV.pv (.agg [vInt 4,vInt (k:Int),vInt 0,vStr s_,p])) (ex1 r.1).symm),rfl,Gd⟩
  ·have hk:k=29:=by have:=Ak hc;omega
   subst hk;rw[show pUn T s1=none from h3]at hM;subst hM;exact⟨[],ihP d s1 hd1 hl1 oM0,sR,Ge,rfl,sI,rfl,Gd⟩
theorem zt8{w:ByteArray}(h:zl0 w=true):w.data.toList.all (λb=>z3z b.toNat)=true:=by
 unfold zl0 at h;simp only[A0]at h;exact h.1
def TkSz(T:List Tk):Prop:=∀t∈T,t.text.size<=1073741824
theorem j3r{T:List Tk}{s:Ps}(h:s.at_<T.length):tkAt T s∈T:=by
 unfold tkAt;rw[Ay,A9 h];exact Da h
theorem tk_num{T:List Tk}(hT:TkOk T){s:Ps}(h:s.at_<T.length)(hk:(tkAt T s).kind=0):zl0 (tkAt T s).text=true:=by
 have hm:=j3r h;obtain⟨init,e,rfl,he,hi⟩:=hT;rcases Ax.1 hm with hm|hm
 ·exact(hi _ hm).2 hk
 ·rw[An.1 hm,he]at hk;cases hk
theorem y8a(T:List Tk)(hT:TkOk T)(hS:TkSz T)(hb:T.length<=1073741824)(N:Nat)(ihE:SCE T N)(ihA:SCA T N):SCP T (N+1):=by
 intro d s hd h hm;refine SC.vc tb {} [] Tryz.func249 rfl rfl ?_;generalize hM:y2i T (N+1) d s=R;unfold y2i at hM;have tk:∀w,SC Tryz.prog 81 [.ptr 1 0,.pv (.val (.string w))] (psO T s) (λk=>k∈[]) (iBool (if pIs T w s then(true,s.next)else(false,s)).1) (psO T (if pIs T w s then(true,s.next)else(false,s)).2):=λw=>z47 T s h hb w;have nx:∀{w},pIs T w s=true->s.next.at_<T.length/\rem T s.next+20<=rem T s/\dOk T (d+1) s.next:=λ{w} hp=>by
  have hn:=(z11 hT hp).lt h;exact⟨hn,by unfold rem;rw[z0m]at hn⊢;omega,hd.up (Ab _)⟩
 refine⟨[],z76 T s,sR,Ge,rfl,z00 (λo1=>?_) λo1=>?_⟩
 ·rw[if_pos o1]at hM;subst hM;exact⟨sP (z0g _),rfl,Gd⟩
 rw[if_neg (by rw[o1];decide)]at hM
 cases p1:pIs T sRo s with
 |true =>
  have t:=tk sRo;rw[p1]at t hM;obtain⟨n1,n2,n3⟩:=nx p1;have he:=ihE 1 (d+1) s.next oM0 oM0 n3 n1 oM0;have hf3:=((z54 hT N).1 1 (d+1) s.next).lt n1;rw[if_pos rfl]at hM;generalize z31 T N 1 (d+1) s.next=r at he hM hf3;subst hM
  exact⟨[],t,sR,Ge,rfl,z01 rfl (by have:=n3.1;have:=n3.2;omega),[],he,sR,Ge,rfl,[],z18 T r.2 hf3 hb sRc,sR,Ge,rfl,sI,rfl,Gd⟩
 |false =>
 have t:=tk sRo;rw[p1]at t hM;rw[if_neg dC0]at hM;refine⟨[],t,sR,Ge,rfl,?_⟩
 cases p2:pIs T sTrue s with
 |true =>
  have t:=tk sTrue;rw[p2]at t hM;rw[if_pos rfl]at hM;subst hM
  exact⟨[],t,sR,Ge,rfl,sP (z0g _),rfl,Gd⟩
 |false =>
 have t:=tk sTrue;rw[p2]at t hM;rw[if_neg dC0]at hM;refine⟨[],t,sR,Ge,rfl,?_⟩
 cases p3:pIs T ym4 s with
 |true =>
  have t:=tk ym4;rw[p3]at t hM;rw[if_pos rfl]at hM;subst hM
  exact⟨[],t,sR,Ge,rfl,sP (z0g _),rfl,Gd⟩
 |false =>
 have t:=tk ym4;rw[p3]at t hM;rw[if_neg dC0]at hM;refine⟨[],t,sR,Ge,rfl,?_⟩
 cases p4:pIs T sRead s with
 |true =>
  have t:=tk sRead;rw[p4]at t hM;rw[if_pos rfl]at hM;subst hM;obtain⟨n1,_,_⟩:=nx p4
  exact⟨[],t,sR,Ge,rfl,[],z18 T s.next n1 hb sRo,sR,Ge,rfl,[],z18 T _ ((z0c hT (w:=sRo)).lt n1) hb sRc,sR,Ge,rfl,sP (z0g _),rfl,Gd⟩
 |false =>
 have t:=tk sRead;rw[p4]at t hM;rw[if_neg dC0]at hM;refine⟨[],t,sR,Ge,rfl,yg0 h,rfl,z00 (λk1=>?_) λk1=>?_⟩
 ·have k1:(tkAt T s).kind=0:=eq_of_beq k1;rw[if_pos k1]at hM;subst hM;have hx:=z89 T s h hb 0;have ex:z0l T 0 s=((tkAt T s).text,s.next):=by unfold z0l;rw[if_neg (by rw[o1];decide),if_pos k1]
  rw[ex]at hx;exact⟨[],hx,sR,Ge,rfl,[],y5t _ (zt8 (tk_num hT h k1)) (hS _ (j3r h)),sR,Gd,rfl,sP (z0g _),rfl,Gd⟩
 have k1:¬(tkAt T s).kind=0:=by simpa using k1
 rw[if_neg k1]at hM;have hx:=z89 T s h hb 1;have fx:=z1w hT (k:=1) dC0 (s:=s);generalize z0l T 1 s=x at hx fx hM;have hl:=fx.lt h;have hdx:=hd.fw fx.at_;have hrx:rem T x.2<=rem T s:=by have:=fx.at_;unfold rem;omega
 have tx:∀w,SC Tryz.prog 81 [.ptr 1 0,.pv (.val (.string w))] (psO T x.2) (λk=>k∈[]) (iBool (if pIs T w x.2 then(true,x.2.next)else(false,x.2)).1) (psO T (if pIs T w x.2 then(true,x.2.next)else(false,x.2)).2):=λw=>z47 T x.2 hl hb w;have nx2:∀{w},pIs T w x.2=true->x.2.next.at_<T.length/\rem T x.2.next+20<=rem T x.2/\dOk T (d+1) x.2.next:=λ{w} hp=>by
  have hn:=(z11 hT hp).lt hl;exact⟨hn,by unfold rem;rw[z0m]at hn⊢;omega,hdx.up (Ab _)⟩
 refine⟨[],hx,sR,Ge,rfl,?_⟩
 cases p5:pIs T sRo x.2 with
 |true =>
  have t:=tx sRo;rw[p5]at t hM;obtain⟨n1,n2,n3⟩:=nx2 p5;have ha:=ihA (d+1) x.2.next n3 n1 oM0;rw[if_pos rfl]at hM;generalize z7y T N (d+1) x.2.next=r at ha hM;subst hM
  exact⟨[],t,sR,Ge,rfl,z01 rfl (by have:=n3.1;have:=n3.2;omega),[],ha,sR,Ge,rfl,sI,rfl,Gd⟩
 |false =>
 have t:=tx sRo;rw[p5]at t hM;rw[if_neg dC0]at hM;refine⟨[],t,sR,Ge,rfl,?_⟩
 cases p6:pIs T sSo x.2 with
 |true =>
  have t:=tx sSo;rw[p6]at t hM;obtain⟨n1,n2,n3⟩:=nx2 p6;have he:=ihE 1 (d+1) x.2.next oM0 oM0 n3 n1 oM0;have hf3:=((z54 hT N).1 1 (d+1) x.2.next).lt n1;rw[if_pos rfl]at hM;generalize z31 T N 1 (d+1) x.2.next=r at he hM hf3;subst hM;exact⟨[],t,sR,Ge,rfl,z01 rfl (by have:=n3.1;have:=n3.2;omega),[],he,sR,Ge,rfl,[],z18 T r.2 hf3 hb sSc,sR,Ge,rfl,
   sE (Af (λp=>IV.pv (.agg [vInt 6,vInt 0,vInt 0,vStr x.1,p])) (ex1 r.1).symm),rfl,Gd⟩
 |false =>
 have t:=tx sSo;rw[p6]at t hM;rw[if_neg dC0]at hM;subst hM;exact⟨[],t,sR,Ge,rfl,sP (z0g _),rfl,Gd⟩
def exRt:RT:=⟨180,5⟩
theorem enc5(out:List Ex)(x:Ex):(out++[x]).map Ex.enc=out.map Ex.enc++[[vInt x.kind,vInt x.op,vInt x.n,vStr x.name,exs x.args]]:=by
 rw[Cm,B8,D6,Ex.enc_eq]
theorem y85(T:List Tk)(hT:TkOk T)(hb:T.length<=1073741824)(N:Nat)(ihE:∀M,M<=N->SCE T M):SCA T (N+1):=by
 intro d s hd h hm;refine SC.vc tb { gh:=[(4,[.grow 5 1001 180 5]),(9,[.fz 5 1001])] } [] Tryz.func235 rfl rfl ?_;generalize hM:z7y T (N+1) d s=R;unfold z7y at hM;have t:=z47 T s h hb sRc;unfold z8k at t
 cases p1:pIs T sRc s with
 |true =>
  rw[p1]at t hM;rw[if_pos rfl]at hM;subst hM
  exact⟨[],t,sR,Ge,rfl,sN,rfl,Gd⟩
 |false =>
 rw[p1]at t hM;rw[if_neg dC0]at hM;generalize hL:z9u T N d true [] s=L at hM;refine⟨[],t,sR,Ge,rfl,Nat×Bool×List Ex×Ps,λa=>[(6,iBool a.2.1),(5,.sl 1001 (a.2.2.1.map Ex.enc).length)],λa=>[(1001,.row exRt (a.2.2.1.map Ex.enc)),(1,psB T a.2.2.2)],λa=>a.1,
  λa=>L=z9u T a.1 d a.2.1 a.2.2.1 a.2.2.2/\s.at_<=a.2.2.2.at_/\a.2.2.2.at_<T.length/\rem T a.2.2.2+(bif a.2.1 then 15 else 1)<=a.1/\a.1<=N/\a.2.2.1.length<=a.2.2.2.at_+(bif a.2.1 then 0 else 1),[],(N,true,[],s),
  ⟨hL.symm,Ag _,h,by simp only[Dy];omega,Ag _,Ac _⟩,Gf,Gf,?_⟩
 rintro⟨n,first,out,z⟩ ⟨i1,i2,i3,i4,i5,i6⟩;dsimp only at i1 i2 i3 i4 i5 i6;obtain⟨m,rfl⟩:∃m,n=m+1:=⟨n-1,by cases first<;>simp only[Dy,Cw]at i4<;>omega⟩;rw[z9u]at i1
 cases first with
 |true =>
  simp only[Dy]at i4 i6;rw[show aGo T true z=z from rfl,Bb]at i1;refine⟨[],z76 T z,sR,Ge,rfl,z00 (λo1=>?_) λo1=>?_⟩
  ·have o1:z.over=false:=by simpa using o1
   rw[if_pos ⟨rfl,o1⟩]at i1;have he:=ihE m oM0 1 d z oM0 oM0 (hd.fw i2) i3 oM0;have hf:=(z54 hT m).1 1 d z;generalize z31 T m 1 d z=r at he hf i1;have h5:=hf.at_;exact⟨[],he,sR,Ge,rfl,rfl,z3y rfl,by simp;omega,(m,false,out++[r.1],r.2),Ab _,
    ⟨i1,by dsimp only;omega,hf.lt i3,by simp only[Cw];unfold rem at i4⊢;omega,by dsimp only;omega,by simp only[Cw,B4,A1,A5];omega⟩,⟨rfl,slq sI0,Gd⟩,⟨rwq (by rw[enc5]),rfl,Gd⟩,rfl,rfl,rfl,rfl⟩
  ·have o1:z.over=true:=by simpa using o1
   rw[if_neg (λe=>by rw[o1]at e;cases e.2)]at i1;subst i1;subst hM
   exact⟨[],z18 T z i3 hb sRc,sR,Ge,rfl,rfl,sI,rfl,Gd⟩
 |false =>
  simp only[Cw]at i4 i6;rw[Cd]at i1;have t:=z47 T z i3 hb zm7;unfold z8k at t
  cases p2:pIs T zm7 z with
  |false =>
   rw[p2]at t i1;rw[if_neg (λe=>by cases e.1),show aGo T false z=z by unfold aGo z8k;rw[p2];rfl]at i1;subst i1;subst hM
   exact⟨[],t,sR,Ge,rfl,[],z18 T z i3 hb sRc,sR,Ge,rfl,rfl,sI,rfl,Gd⟩
  |true =>
   rw[p2]at t i1;have hn:=(z11 hT p2).lt i3;have o1:z.next.over=false:=(z4o p2).1;rw[show aGo T false z=z.next by unfold aGo z8k;rw[p2];rfl,if_pos ⟨rfl,o1⟩]at i1;have he:=ihE m oM0 1 d z.next oM0 oM0 (hd.fw (by rw[z0m];omega)) hn (by unfold rem at i4⊢;rw[z0m]at hn⊢;omega);have hf:=(z54 hT m).1 1 d z.next;generalize z31 T m 1 d z.next=r at he hf i1;have h5:=hf.at_;rw[z0m]at h5 hn;have h6:=hf.lt hn;refine⟨[],t,sR,Ge,rfl,[],z76 T z.next,sR,Ge,rfl,z00 (λ_=>?_) λg=>by rw[o1]at g;cases g⟩;exact⟨[],he,sR,Ge,rfl,rfl,z3y rfl,by simp;omega,(m,false,out++[r.1],r.2),Ab _,
    ⟨i1,by dsimp only;omega,h6,by simp only[Cw];unfold rem at i4⊢;omega,by dsimp only;omega,by simp only[Cw,B4,A1,A5];omega⟩,⟨rfl,slq sI0,Gd⟩,⟨rwq (by rw[enc5]),rfl,Gd⟩,rfl,rfl,rfl,rfl⟩
theorem y5w(T:List Tk)(hT:TkOk T)(hS:TkSz T)(hb:T.length<=1073741824):∀N,(∀M,M<=N->SCE T M)/\(∀M,M<=N->SCU T M)/\(∀M,M<=N->SCP T M)/\(∀M,M<=N->SCA T M)
 |0=>by
  refine⟨λM hM l d s h1 h2 hd h hm=>?_,λM hM d s hd h hm=>?_,λM hM d s hd h hm=>?_,λM hM d s hd h hm=>?_⟩<;>exact absurd hm (by unfold rem;omega)
 |N+1=>by
  obtain⟨iE,iU,iP,iA⟩:=y5w T hT hS hb N;refine⟨λM hM=>?_,λM hM=>?_,λM hM=>?_,λM hM=>?_⟩<;>rcases Du N M with h|h
  ·rw[show M=N+1 by omega];exact y87 T hT hb N iE (iU N (Ag _))
  ·exact iE M h
  ·rw[show M=N+1 by omega];exact y66 T hT hb N (iE N (Ag _)) (iU N (Ag _)) (iP N (Ag _))
  ·exact iU M h
  ·rw[show M=N+1 by omega];exact y8a T hT hS hb N (iE N (Ag _)) (iA N (Ag _))
  ·exact iP M h
  ·rw[show M=N+1 by omega];exact y85 T hT hb N iE
  ·exact iA M h
theorem yu1(T:List Tk)(hT:TkOk T)(hS:TkSz T)(hb:T.length<=1073741824)(s:Ps)(h:s.at_<T.length):fE T 1 1 s (mE T s) :=
 (y5w T hT hS hb (big T)).1 (big T) (Ag _) 1 1 s dC0 dC0 ⟨by decide,by omega⟩ h (by unfold rem big;omega)
theorem sc_mArgs(T:List Tk)(hT:TkOk T)(hS:TkSz T)(hb:T.length<=1073741824)(s:Ps)(h:s.at_<T.length):fA T 2 s (z7y T (big T) 2 s) :=
 (y5w T hT hS hb (big T)).2.2.2 (big T) (Ag _) 2 s ⟨by decide,by omega⟩ h (by unfold rem big;omega)
section
def nilV:PV:=.val (.slice none 0 0)
theorem zs6{k t:Int}{nm:ByteArray}{p:PV}{a:List Ex}(h:exs a=p):SubI (.pv (.agg [vInt k,vInt t,vStr nm,p,nilV,nilV])) (.pv (stv (.mk k t nm a [] []))):=by subst h;exact sP (z0g _)
theorem yo4{k t:Int}{nm:ByteArray}{p:PV}{a:List Ex}{x:List St}(h:exs a=p):SubI (.pv (.agg [vInt k,vInt t,vStr nm,p,sts x,nilV])) (.pv (stv (.mk k t nm a x []))):=by subst h;exact sP (z0g _)
theorem stv_sub2{k t:Int}{nm:ByteArray}{p:PV}{a:List Ex}{x y:List St}(h:exs a=p):SubI (.pv (.agg [vInt k,vInt t,vStr nm,p,sts x,sts y])) (.pv (stv (.mk k t nm a x y))):=by subst h;exact sI
attribute [local irreducible] mE z7y
variable (T:List Tk) (hT:TkOk T) (hS:TkSz T) (hb:T.length<=1073741824)
include hT hS hb
theorem y1l(s:Ps)(h:s.at_<T.length):SC Tryz.prog 207 [.ptr 1 0] (psO T s) (λk=>k∈[]) (.pv (exs [(z1x T s).1])) (psO T (z1x T s).2):=by
 refine SC.vc tb {} [] Tryz.func207 rfl rfl ?_;have h1:=(z0c hT (w:=sRo)).lt h;unfold z1x;have he:=yu1 T hT hS hb _ h1;have h2:=(z59 hT (s:=z0n T sRo s)).lt h1;generalize mE T (z0n T sRo s)=r at he h2;exact⟨[],z18 T s h hb sRo,sR,Ge,rfl,[],he,sR,Ge,rfl,[],z18 T r.2 h2 hb sRc,sR,Ge,rfl,sE (Af IV.pv (ex1 r.1).symm),rfl,Gd⟩
theorem sc_named(s:Ps)(h:s.at_<T.length):SC Tryz.prog 208 [.ptr 1 0] (psO T s) (λk=>k∈[]) (.pv (stv (z5m T s).1)) (psO T (z5m T s).2):=by
 refine SC.vc tb {} [] Tryz.func208 rfl rfl ?_;generalize hM:z5m T s=R;unfold z5m at hM;have hx:=z89 T s h hb 1;have fx:=z1w hT (k:=1) dC0 (s:=s);generalize z0l T 1 s=x at hx fx hM;have hl:=fx.lt h;have tx:∀w,SC Tryz.prog 81 [.ptr 1 0,.pv (.val (.string w))] (psO T x.2) (λk=>k∈[]) (iBool (if pIs T w x.2 then(true,x.2.next)else(false,x.2)).1) (psO T (if pIs T w x.2 then(true,x.2.next)else(false,x.2)).2):=λw=>z47 T x.2 hl hb w;refine⟨[],hx,sR,Ge,rfl,?_⟩
 cases p5:pIs T sRo x.2 with
 |true =>
  have t:=tx sRo;rw[p5]at t hM;have n1:=(z11 hT p5).lt hl;have ha:=sc_mArgs T hT hS hb x.2.next n1;rw[if_pos rfl]at hM;generalize z7y T (big T) 2 x.2.next=r at ha hM;subst hM
  exact⟨[],t,sR,Ge,rfl,[],ha,sR,Ge,rfl,zs6 (ex1 _),rfl,Gd⟩
 |false =>
 have t:=tx sRo;rw[p5]at t hM;rw[if_neg dC0]at hM;refine⟨[],t,sR,Ge,rfl,?_⟩
 cases p6:pIs T sSo x.2 with
 |true =>
  have t:=tx sSo;rw[p6]at t hM;have n1:=(z11 hT p6).lt hl;have he:=yu1 T hT hS hb x.2.next n1;have n2:=(z59 hT (s:=x.2.next)).lt n1;rw[if_pos rfl]at hM;generalize mE T x.2.next=r at he hM n2;have n3:=(z0c hT (w:=sSc)).lt n2;have n4:=(z0c hT (w:=sEq)).lt n3;have he2:=yu1 T hT hS hb _ n4;generalize mE T (z0n T sEq (z0n T sSc r.2))=r2 at he2 hM;subst hM
  exact⟨[],t,sR,Ge,rfl,[],he,sR,Ge,rfl,[],z18 T r.2 n2 hb sSc,sR,Ge,rfl,[],z18 T _ n3 hb sEq,sR,Ge,rfl,[],he2,sR,Ge,rfl,zs6 (ex2 _ _),rfl,Gd⟩
 |false =>
 have t:=tx sSo;rw[p6]at t hM;rw[if_neg dC0]at hM;have n4:=(z0c hT (w:=sEq)).lt hl;have he2:=yu1 T hT hS hb _ n4;generalize mE T (z0n T sEq x.2)=r2 at he2 hM;subst hM;exact⟨[],t,sR,Ge,rfl,[],z18 T _ hl hb sEq,sR,Ge,rfl,[],he2,sR,Ge,rfl,zs6 (ex1 _),rfl,Gd⟩
end
section
variable {T:List Tk}
theorem y22(k t:Int)(s:ByteArray)(a:List Ex)(x y:List St):sz (.mk k t s a x y)=1+xzL a+szL x+szL y:=by simp only[sz]
theorem szL_one(a:St):szL [a]=sz a:=by simp[szL]
theorem Fw.back{s s':Ps}(h:Fw T s s')(k:s'.over=false):s.over=false:=by
 cases e:s.over with
 |false=>rfl
 |true=>exact absurd (h.ov e) (by rw[k];decide)
theorem Go1.lt{s s':Ps}(h:Go1 s s')(k:s'.over=false):s.at_<s'.at_:=h.elim (λe=>absurd e (by rw[k];decide)) id
attribute [local irreducible] mE z7y
theorem let_sz(hT:TkOk T){s:Ps}(h:(mLet T s).2.over=false):sz (mLet T s).1+3*s.at_<=3*(mLet T s).2.at_:=by
 unfold mLet at h⊢;dsimp only at h⊢;have h1:=yr1 hT (z0n T sEq (z0l T 1 (z0r T s).2).2);have b1:=(z59 hT).back h;have b2:=(z0c hT (w:=sEq)).back b1;have b3:=(z1w hT (k:=1) dC0).back b2;have a1:=(z59 hT (s:=z0n T sEq (z0l T 1 (z0r T s).2).2)).at_;have a2:=zh4.lt b1;have a3:=z6n.lt b2;have a4:=zk6.lt b3;simp only[y22,z6x,szL];omega
theorem named_sz(hT:TkOk T){s:Ps}(h:(z5m T s).2.over=false):sz (z5m T s).1+3*s.at_<=3*(z5m T s).2.at_:=by
 unfold z5m at h⊢;split at h
 ·rename_i h1;rw[if_pos h1];dsimp only at h⊢;have h2:=yk1 hT 2 (z0l T 1 s).2.next;have b1:=(z4o h1).1;have a1:=z6n.lt b1;rw[z0m]at h2;simp only[y22,z6x,y2c,szL];omega
 rename_i h1;rw[if_neg h1];split at h
 ·rename_i h2;rw[if_pos h2];dsimp only at h⊢;have b1:=(z4o h2).1;have a1:=z6n.lt b1;have c1:=yr1 hT (z0l T 1 s).2.next;have d1:=(z59 hT (s:=(z0l T 1 s).2.next)).at_;rw[z0m]at c1 d1;generalize(mE T (z0l T 1 s).2.next)=e at h c1 d1⊢;have d2:=(z0c hT (w:=sSc) (s:=e.2)).at_;have d3:=(z0c hT (w:=sEq) (s:=z0n T sSc e.2)).at_;have c2:=yr1 hT (z0n T sEq (z0n T sSc e.2));have d4:=(z59 hT (s:=z0n T sEq (z0n T sSc e.2))).at_;simp only[y22,j4l,szL];omega
 ·rename_i h2;rw[if_neg h2];dsimp only at h⊢;have b1:=(z59 hT).back h;have b2:=(z0c hT (w:=sEq)).back b1;have a1:=z6n.lt b2;have a2:=zh4.lt b1;have c1:=yr1 hT (z0n T sEq (z0l T 1 s).2);have a3:=(z59 hT (s:=z0n T sEq (z0l T 1 s).2)).at_;simp only[y22,z6x,szL];omega
theorem flat_sz(hT:TkOk T){s:Ps}(h:(zf7 T s).2.over=false):sz (zf7 T s).1+3*s.at_<=3*(zf7 T s).2.at_:=by
 unfold zf7 at h⊢;split at h
 ·rename_i h1;rw[if_pos h1];simp only[y22,xzL,szL,z0m];omega
 rename_i h1;rw[if_neg h1];split at h
 ·rename_i h1;rw[if_pos h1];simp only[y22,xzL,szL,z0m];omega
 rename_i h1;rw[if_neg h1];split at h
 ·rename_i h1;rw[if_pos h1];have c1:=yr1 hT s.next;have a1:=(z59 hT (s:=s.next)).at_;rw[z0m]at c1 a1;simp only[y22,z6x,szL];omega
 rename_i h1;rw[if_neg h1];split at h
 ·rename_i h1;rw[if_pos h1];have c1:=y0b hT s.next;have a1:=(z2s hT (s:=s.next)).at_;rw[z0m]at c1 a1;simp only[y22,z6x,szL];omega
 rename_i h1;rw[if_neg h1];exact named_sz hT h
theorem y21(d:Int)(s:Ps):(z3b d s).at_=s.at_:=by unfold z3b;split<;>rfl
theorem stmt_sz(hT:TkOk T)(N:Nat)(iB:∀d s,(z1z T N d s).2.over=false->szL (z1z T N d s).1+3*s.at_<=3*(z1z T N d s).2.at_)(d:Int)(s:Ps)(h:(z65 T (N+1) d s).2.over=false):sz (z65 T (N+1) d s).1+3*s.at_<=3*(z65 T (N+1) d s).2.at_:=by
 have e:=y21 d s;unfold z65 at h⊢;generalize z3b d s=s at e h⊢;rw[<- e];split at h
 ·rename_i h1;rw[if_pos h1];have b1:=(z0c hT (w:=z5e)).back h;have h2:=let_sz hT b1;have h3:=(z0c hT (w:=z5e) (s:=(mLet T s).2)).at_;dsimp only at h3⊢;omega
 rename_i h1;rw[if_neg h1];split at h
 ·rename_i h1;rw[if_pos h1];have c1:=y0b hT s.next;have a1:=(z2s hT (s:=s.next)).at_;rw[z0m]at c1 a1;split at h
  ·rename_i h2;rw[if_pos h2];have b2:=iB _ _ h;have b3:=iB _ _ (z4o h2).1;rw[z0m]at b2;simp only[y22,z6x];omega
  ·rename_i h2;rw[if_neg h2];have b3:=iB _ _ h;simp only[y22,z6x,szL];omega
 rename_i h1;rw[if_neg h1];split at h
 ·rename_i h1;rw[if_pos h1];have c1:=y0b hT s.next;have a1:=(z2s hT (s:=s.next)).at_;rw[z0m]at c1 a1;have b3:=iB _ _ h;simp only[y22,z6x,szL];omega
 rename_i h1;rw[if_neg h1];have b1:=(z0c hT (w:=z5e)).back h;have h2:=flat_sz hT b1;have h3:=(z0c hT (w:=z5e) (s:=(zf7 T s).2)).at_;dsimp only at h3⊢;omega
theorem yo2(hT:TkOk T):∀N,(∀d s,(z65 T N d s).2.over=false->sz (z65 T N d s).1+3*s.at_<=3*(z65 T N d s).2.at_)/\(∀d s,(z1z T N d s).2.over=false->szL (z1z T N d s).1+3*s.at_<=3*(z1z T N d s).2.at_) /\
 (∀d out s,(z84 T N d out s).2.over=false->szL (z84 T N d out s).1+3*s.at_<=szL out+3*(z84 T N d out s).2.at_)
 |0=>⟨λd s h=>absurd h (by simp[z65,Ps.over,Ps.setBad]),λd s _=>by show 0+3*s.at_<=3*s.at_;omega,λd out s _=>by show szL out+3*s.at_<=szL out+3*s.at_;omega⟩
 |N+1=>by
  obtain⟨iS,iB,iL⟩:=yo2 hT N;refine⟨λd s h=>stmt_sz hT N iB d s h,λd s h=>?_,λd out s h=>?_⟩
  ·unfold z1z at h⊢;have h1:=iL d [] (z0n T sBo s) h;have h2:=(z0c hT (w:=sBo) (s:=s)).at_;simp only[szL]at h1;omega
  ·unfold z84 at h⊢;split at h
   ·rename_i h1;rw[if_pos h1];exact Ag _
   rename_i h1;rw[if_neg h1];split at h
   ·rename_i h1;rw[if_pos h1];simp only[z0m];omega
   rename_i h1;rw[if_neg h1];have b1:=((z5h hT N).2.2 _ _ _).back h;have h2:=iL _ _ _ h;have h3:=iS _ _ b1;rw[j3l,szL_one]at h2;omega
end
def fS(T:List Tk)(d:Int)(s:Ps)(r:St×Ps):Prop:=SC Tryz.prog 177 [.ptr 1 0,.pv (.val (.int .i64 d))] (psO T s) (λk=>k∈[]) (.pv (stv r.1)) (psO T r.2)
def fB(T:List Tk)(d:Int)(s:Ps)(r:List St×Ps):Prop:=SC Tryz.prog 129 [.ptr 1 0,.pv (.val (.int .i64 d))] (psO T s) (λk=>k∈[]) (.pv (sts r.1)) (psO T r.2)
def SCS(T:List Tk)(N:Nat):Prop:=∀(d:Int)(s:Ps),dOk T d s->s.at_<T.length->rem T s+5<=N->fS T d s (z65 T N d s)
def SCB(T:List Tk)(N:Nat):Prop:=∀(d:Int)(s:Ps),dOk T d s->s.at_<T.length->rem T s+8<=N->fB T d s (z1z T N d s)
theorem yo3{k t:Int}{nm:ByteArray}:SubI (.pv (.agg [vInt k,vInt t,vStr nm,nilV,nilV,nilV])) (.pv (stv (.mk k t nm [] [] []))):=sP (z0g _)
attribute [local irreducible] mE z7y z1x z5m
theorem y8k(T:List Tk)(hT:TkOk T)(hS:TkSz T)(hb:T.length<=1073741824)(N:Nat)(ihB:SCB T N):SCS T (N+1):=by
 intro d s hd h hm;refine SC.vc tb {} [] Tryz.func177 rfl rfl ?_;generalize hM:z65 T (N+1) d s=R;unfold z65 at hM;have ha1:=y21 d s;obtain⟨z,ez⟩:∃x,x=z3b d s:=⟨_,rfl⟩;rw[<- ez]at hM ha1;have hd1:dOk T d z:=hd.fw oM0;have hl:z.at_<T.length:=by rw[ha1];exact h
 have hm1:rem T z+5<=N+1:=by unfold rem at hm⊢;rw[ha1];exact hm
 refine z00 (λc1=>?_) λc1=>?_;have e:z=⟨s.at_,s.bad,true⟩:=by rw[ez];unfold z3b;rw[if_pos (Am c1)];rfl
 rotate_left
 have e:z=⟨s.at_,s.bad,s.deep⟩:=by rw[ez];unfold z3b;rw[if_neg (Ak c1)]
 rotate_left
 all_goals
  have hpre:psO T z=psO T z:=rfl;clear ez c1;have tz:∀w,SC Tryz.prog 81 [.ptr 1 0,.pv (.val (.string w))] (psO T z) (λk=>k∈[]) (iBool (if pIs T w z then(true,z.next)else(false,z)).1) (psO T (if pIs T w z then(true,z.next)else(false,z)).2):=λw=>z47 T z hl hb w;have nx:∀{w},pIs T w z=true->z.next.at_<T.length/\rem T z.next+20<=rem T z/\dOk T (d+1) z.next:=λ{w} hp=>by
   have hn:=(z11 hT hp).lt hl;exact⟨hn,by unfold rem;rw[z0m]at hn⊢;omega,hd1.up (Ab _)⟩
  have letc:(pIs T sInt z||pIs T j22 z)=true->((mLet T z).1,z0n T z5e (mLet T z).2)=R:=λq=>by rw[if_pos q]at hM;exact hM
  have lx:=zm9 T hT z hl hb;have lf:=(z5i hT (s:=z)).lt hl;refine⟨[],yn0 T z hl sInt,sR,⟨by rw[e];rfl,Gd⟩,rfl,z00 (λq1=>?_) λq1=>⟨[],yn0 T z hl j22,sR,Ge,rfl,z00 (λq2=>?_) λq2=>?_⟩⟩;have hM:=letc (by rw[q1];rfl)
  rotate_left
  have hM:=letc (by rw[q2];simp)
  rotate_right
  iterate 2
   unfold mLet at hM;generalize z0r T z=p at lx lf hM;have hx:=z89 T p.2 lf hb 1;have n1:=(z1w hT (k:=1) dC0 (s:=p.2)).lt lf;generalize z0l T 1 p.2=x at hx n1 hM;have n2:=(z0c hT (w:=sEq)).lt n1;have he:=yu1 T hT hS hb _ n2;have n3:=(z59 hT (s:=z0n T sEq x.2)).lt n2;generalize mE T (z0n T sEq x.2)=r at he n3 hM;subst hM;exact⟨[],lx,sR,Ge,rfl,[],hx,sR,Ge,rfl,[],z18 T _ n1 hb sEq,sR,Ge,rfl,[],he,sR,Ge,rfl,[],z18 T _ n3 hb z5e,sR,Ge,rfl,zs6 (ex1 _),rfl,Gd⟩
  clear letc lx lf;rw[q1,q2,if_neg dC0]at hM
  cases q3:pIs T sIf z with
  |true =>
   have t:=tz sIf;rw[q3]at t hM;rw[if_pos rfl]at hM;obtain⟨n1,n2,n3⟩:=nx q3;have hi:=y1l T hT hS hb z.next n1;have fi:=z2s hT (s:=z.next);generalize z1x T z.next=i at hi fi hM;have n4:=fi.lt n1;have n5:rem T i.2<=rem T z.next:=by have:=fi.at_;unfold rem;omega
   have n6:=n3.fw fi.at_;have hB:=ihB (d+1) i.2 n6 n4 oM0;have fb:=(z5h hT N).2.1 (d+1) i.2;generalize z1z T N (d+1) i.2=b at hB fb hM;have n7:=fb.lt n4;have n8:rem T b.2<=rem T i.2:=by have:=fb.at_;unfold rem;omega
   have te:=z47 T b.2 n7 hb sElse;unfold z8k at te
   cases q4:pIs T sElse b.2 with
   |true =>
    rw[q4]at te hM;rw[if_pos rfl]at hM;have m1:=(z11 hT q4).lt n7;have hB2:=ihB (d+1) b.2.next ((n6.fw fb.at_).fw (Fd _)) m1 (by unfold rem at *;rw[z0m]at *;omega);generalize z1z T N (d+1) b.2.next=b2 at hB2 hM;subst hM
    exact⟨[],t,sR,Ge,rfl,[],hi,sR,Ge,rfl,z01 rfl (by have:=n3.1;have:=n3.2;omega),[],hB,sR,Ge,rfl,[],te,sR,Ge,rfl,z01 rfl (by have:=n3.1;have:=n3.2;omega),[],hB2,sR,Ge,rfl,stv_sub2 rfl,rfl,Gd⟩
   |false =>
    rw[q4]at te hM;rw[if_neg dC0]at hM;subst hM
    exact⟨[],t,sR,Ge,rfl,[],hi,sR,Ge,rfl,z01 rfl (by have:=n3.1;have:=n3.2;omega),[],hB,sR,Ge,rfl,[],te,sR,Ge,rfl,yo4 rfl,rfl,Gd⟩
  |false =>
  have t:=tz sIf;rw[q3]at t hM;rw[if_neg dC0]at hM;refine⟨[],t,sR,Ge,rfl,?_⟩;clear t
  cases q5:pIs T ym6 z with
  |true =>
   have t:=tz ym6;rw[q5]at t hM;rw[if_pos rfl]at hM;obtain⟨n1,n2,n3⟩:=nx q5;have hi:=y1l T hT hS hb z.next n1;have fi:=z2s hT (s:=z.next);generalize z1x T z.next=i at hi fi hM;have n4:=fi.lt n1;have n5:rem T i.2<=rem T z.next:=by have:=fi.at_;unfold rem;omega
   have n6:=n3.fw fi.at_;have hB:=ihB (d+1) i.2 n6 n4 oM0;generalize z1z T N (d+1) i.2=b at hB hM;subst hM
   exact⟨[],t,sR,Ge,rfl,[],hi,sR,Ge,rfl,z01 rfl (by have:=n3.1;have:=n3.2;omega),[],hB,sR,Ge,rfl,yo4 rfl,rfl,Gd⟩
  |false =>
  have t:=tz ym6;rw[q5]at t hM;rw[if_neg dC0]at hM;refine⟨[],t,sR,Ge,rfl,?_⟩;clear t;unfold zf7 at hM
  cases q6:pIs T ym3 z with
  |true =>
   have t:=tz ym3;rw[q6]at t hM;rw[if_pos rfl]at hM;obtain⟨n1,_,_⟩:=nx q6;subst hM
   exact⟨[],t,sR,Ge,rfl,[],z18 T _ n1 hb z5e,sR,Ge,rfl,yo3,rfl,Gd⟩
  |false =>
  have t:=tz ym3;rw[q6]at t hM;rw[if_neg dC0]at hM;refine⟨[],t,sR,Ge,rfl,?_⟩;clear t
  cases q7:pIs T zm8 z with
  |true =>
   have t:=tz zm8;rw[q7]at t hM;rw[if_pos rfl]at hM;obtain⟨n1,_,_⟩:=nx q7;subst hM
   exact⟨[],t,sR,Ge,rfl,[],z18 T _ n1 hb z5e,sR,Ge,rfl,yo3,rfl,Gd⟩
  |false =>
  have t:=tz zm8;rw[q7]at t hM;rw[if_neg dC0]at hM;refine⟨[],t,sR,Ge,rfl,?_⟩;clear t
  cases q8:pIs T y5r z with
  |true =>
   have t:=tz y5r;rw[q8]at t hM;rw[if_pos rfl]at hM;obtain⟨n1,_,_⟩:=nx q8;have he:=yu1 T hT hS hb _ n1;have n2:=(z59 hT (s:=z.next)).lt n1;generalize mE T z.next=r at he n2 hM;subst hM
   exact⟨[],t,sR,Ge,rfl,[],he,sR,Ge,rfl,[],z18 T _ n2 hb z5e,sR,Ge,rfl,zs6 (ex1 _),rfl,Gd⟩
  |false =>
  have t:=tz y5r;rw[q8]at t hM;rw[if_neg dC0]at hM;refine⟨[],t,sR,Ge,rfl,?_⟩;clear t
  cases q9:pIs T ym5 z with
  |true =>
   have t:=tz ym5;rw[q9]at t hM;rw[if_pos rfl]at hM;obtain⟨n1,_,_⟩:=nx q9;have hi:=y1l T hT hS hb z.next n1;have n2:=(z2s hT (s:=z.next)).lt n1;generalize z1x T z.next=i at hi n2 hM;subst hM
   exact⟨[],t,sR,Ge,rfl,[],hi,sR,Ge,rfl,[],z18 T _ n2 hb z5e,sR,Ge,rfl,zs6 rfl,rfl,Gd⟩
  |false =>
  have t:=tz ym5;rw[q9]at t hM;rw[if_neg dC0]at hM;have hn:=sc_named T hT hS hb z hl;have n2:=(yi4 hT (s:=z)).lt hl;generalize z5m T z=r at hn n2 hM;subst hM;exact⟨[],t,sR,Ge,rfl,[],hn,sR,Ge,rfl,[],z18 T _ n2 hb z5e,sR,Ge,rfl,sI,rfl,Gd⟩
def stRt:RT:=⟨145,6⟩
theorem enc6(out:List St)(x:St):(out++[x]).map St.enc=out.map St.enc++[[vInt x.kind,vInt x.ty,vStr x.name,exs x.args,sts x.thn,sts x.els]]:=by
 rw[Cm,B8,D6,St.enc_eq]
theorem y5u(T:List Tk)(hT:TkOk T)(hb:T.length<=1073741824)(N:Nat)(ihS:∀M,M<=N->SCS T M):SCB T (N+1):=by
 intro d s hd h hm;refine SC.vc tb { gh:=[(2,[.grow 5 1001 145 6]),(5,[.fz 5 1001])] } [] Tryz.func129 rfl rfl ?_;have hf0:=z0c hT (w:=sBo) (s:=s);have hl0:=hf0.lt h;have hr0:rem T (z0n T sBo s)<=rem T s:=by have:=hf0.at_;unfold rem;omega
 generalize hM:z1z T (N+1) d s=R;unfold z1z at hM;refine⟨[],z18 T s h hb sBo,sR,Ge,rfl,Nat×List St×Ps,λa=>[(5,.sl 1001 (a.2.1.map St.enc).length)],λa=>[(1001,.row stRt (a.2.1.map St.enc)),(1,psB T a.2.2)],λa=>a.1,
  λa=>R=z84 T a.1 d a.2.1 a.2.2/\s.at_<=a.2.2.at_/\a.2.2.at_<T.length/\(a.2.2.over=true∨rem T a.2.2+6<=a.1)/\1<=a.1/\a.1<=N/\(a.2.1.length<=a.2.2.at_∨(a.2.2.over=true/\a.2.1.length<=a.2.2.at_+1)),[],(N,[],z0n T sBo s),
  ⟨hM.symm,hf0.at_,hl0,.inr (by dsimp only;omega),by dsimp only;omega,Ag _,.inl (Ac _)⟩,Ge,Gf,?_⟩
 rintro⟨n,out,z⟩ ⟨i1,i2,i3,i4,i5,i6,i7⟩;dsimp only at i1 i2 i3 i4 i5 i6 i7;obtain⟨m,rfl⟩:∃m,n=m+1:=⟨n-1,by omega⟩;rw[z84]at i1;have t:=z47 T z i3 hb sBc;unfold z8k at t;refine⟨[],z76 T z,sR,Ge,rfl,z00 (λo1=>?_) λo1=>?_⟩
 ·have o1:z.over=false:=by simpa using o1
  rw[if_neg (by rw[o1];decide)]at i1
  cases p2:pIs T sBc z with
  |true =>
   rw[p2]at t i1;rw[if_pos rfl]at i1;subst i1
   exact⟨[],t,sR,Ge,rfl,rfl,sI,rfl,Gd⟩
  |false =>
   rw[p2]at t i1;rw[if_neg dC0]at i1;have i4:rem T z+6<=m+1:=i4.resolve_left (by rw[o1];decide);have i7:out.length<=z.at_:=i7.resolve_right (λe=>by rw[o1]at e;cases e.1);have hs:=ihS m oM0 d z (hd.fw i2) i3 oM0;have hf:=(z5h hT m).1 d z;have hg:=go_stmt hT m (d:=d) (s:=z);generalize z65 T m d z=r at hs hf hg i1;have h5:=hf.at_;refine⟨[],t,sR,Ge,rfl,[],hs,sR,Ge,rfl,rfl,z3y rfl,by simp;omega,(m,out++[r.1],r.2),Ab _,⟨i1,by dsimp only;omega,hf.lt i3,?_,?_,by dsimp only;omega,?_⟩,⟨slq sI0,Gd⟩,⟨rwq (by rw[enc6]),rfl,Gd⟩,rfl,rfl,rfl,rfl⟩
   ·rcases hg with g|g
    ·exact .inl g
    ·exact .inr (by dsimp only;unfold rem at i4⊢;omega)
   ·dsimp only;unfold rem at i4;omega
   ·dsimp only;rw[B4];rcases hg with g|g
    ·exact .inr ⟨g,by show _+1<=_;omega⟩
    ·exact .inl (by show _+1<=_;omega)
 ·have o1:z.over=true:=by simpa using o1
  rw[if_pos o1]at i1;subst i1;exact⟨rfl,sI,rfl,Gd⟩
theorem yn7(T:List Tk)(hT:TkOk T)(hS:TkSz T)(hb:T.length<=1073741824):∀N,(∀M,M<=N->SCS T M)/\(∀M,M<=N->SCB T M)
 |0=>by
  refine⟨λM hM d s hd h hm=>?_,λM hM d s hd h hm=>?_⟩<;>exact absurd hm (by unfold rem;omega)
 |N+1=>by
  obtain⟨iS,iB⟩:=yn7 T hT hS hb N;refine⟨λM hM=>?_,λM hM=>?_⟩<;>rcases Du N M with h|h
  ·rw[show M=N+1 by omega];exact y8k T hT hS hb N (iB N (Ag _))
  ·exact iS M h
  ·rw[show M=N+1 by omega];exact y5u T hT hb N iS
  ·exact iB M h
theorem j2c(T:List Tk)(hT:TkOk T)(hS:TkSz T)(hb:T.length<=1073741824)(s:Ps)(h:s.at_<T.length):fB T 1 s (z1z T (big T) 1 s) :=
 (yn7 T hT hS hb (big T)).2 (big T) (Ag _) 1 s ⟨by decide,by omega⟩ h (by unfold rem big;omega)
def pmRt:RT:=⟨98,2⟩
def fuv(f:Fu):PV:=.agg f.enc
theorem j1c(out:List Pm)(x:Pm):(out++[x]).map Pm.enc=out.map Pm.enc++[[vStr x.name,vInt x.ty]]:=by rw[Cm];rfl
attribute [local irreducible] z1z
theorem yd5(T:List Tk)(hT:TkOk T)(hS:TkSz T)(hb:T.length<=1073741824)(t:Int)(name:ByteArray)(s:Ps)(h:s.at_<T.length) :
 SC Tryz.prog 84 [.ptr 1 0,.pv (.val (.int .i64 t)),.pv (.val (.string name))] (psO T s) (λk=>k∈[]) (.pv (fuv (z73 T t name s).1)) (psO T (z73 T t name s).2):=by
 refine SC.vc tb { gh:=[(4,[.growC 107 2 1001 98 2]),(9,[.fzC 107 2 1001])] } [] Tryz.func84 rfl rfl ?_;generalize hM:z73 T t name s=R;unfold z73 at hM;have h1:=(z0c hT (w:=sRo)).lt h;refine⟨[],z18 T s h hb sRo,sR,Ge,rfl,?_⟩;generalize z0n T sRo s=y at h1 hM;have hp:=(zk3 hT (s:=y)).lt h1;have hB:=j2c T hT hS hb _ hp;generalize hP:z7g T y=P at hp hB hM;unfold z7g at hP;generalize z1z T (big T) 1 P.2=B at hB hM;have tk:=z47 T y h1 hb sRc;unfold z8k at tk
 cases p1:pIs T sRc y with
 |true =>
  rw[p1]at tk hP;rw[if_pos rfl]at hP;subst hP;subst hM
  exact⟨[],tk,sR,Ge,rfl,[],hB,sR,Ge,rfl,sP (z0g _),rfl,Gd⟩
 |false =>
 rw[p1]at tk hP;rw[if_neg dC0]at hP;refine⟨[],tk,sR,Ge,rfl,?_⟩;generalize hL:z9v T (big T) true [] y=L at hP;refine⟨Nat×Bool×List Pm×Ps,λa=>[(8,iBool a.2.1)],λa=>[(1001,.row pmRt (a.2.2.1.map Pm.enc)),(107,.box [.pv (vStr name),iInt t,.sl 1001 (a.2.2.1.map Pm.enc).length,.pv (.val (.slice none 0 0))]),(1,psB T a.2.2.2)],λa=>a.1,
  λa=>L=z9v T a.1 a.2.1 a.2.2.1 a.2.2.2/\a.2.2.2.at_<T.length/\rem T a.2.2.2+(bif a.2.1 then 15 else 1)<=a.1/\a.2.2.1.length<=a.2.2.2.at_+(bif a.2.1 then 0 else 1),[],(big T,true,[],y),
  ⟨hL.symm,h1,by simp only[Dy];unfold rem big;omega,Ac _⟩,Ge,Gg,?_⟩
 rintro⟨n,first,out,z⟩ ⟨i1,i3,i4,i6⟩;dsimp only at i1 i3 i4 i6;obtain⟨m,rfl⟩:∃m,n=m+1:=⟨n-1,by cases first<;>simp only[Dy,Cw]at i4<;>omega⟩;rw[z9v]at i1;have exit_:L=(out,z)->P=(out,z0n T sRc z):=λe=>by rw[<- hP,e]
 cases first with
 |true =>
  simp only[Dy]at i4 i6;rw[show aGo T true z=z from rfl,Bb]at i1;refine⟨[],z76 T z,sR,Ge,rfl,z00 (λo1=>?_) λo1=>?_⟩
  ·have o1:z.over=false:=by simpa using o1
   rw[if_pos ⟨rfl,o1⟩]at i1;have lx:=zm9 T hT z i3 hb;have lf:=z5i hT (s:=z);generalize z0r T z=p at lx lf i1;have hx:=z89 T p.2 (lf.lt i3) hb 1;have fx:=z1w hT (k:=1) dC0 (s:=p.2);generalize z0l T 1 p.2=x at hx fx i1;have f1:=lf.at_;have f2:=fx.at_;exact⟨[],lx,sR,Ge,rfl,[],hx,sR,Ge,rfl,rfl,z3y rfl,by simp;omega,by simp,(m,false,out++[⟨x.1,p.1⟩],x.2),Ab _,
    ⟨i1,fx.lt (lf.lt i3),by simp only[Cw];unfold rem at i4⊢;omega,by simp only[Cw,B4,A1,A5];omega⟩,Ge,⟨rwq (by rw[j1c]),boq sI0,rfl,Gd⟩,rfl,rfl,rfl,rfl⟩
  ·have o1:z.over=true:=by simpa using o1
   rw[if_neg (λe=>by rw[o1]at e;cases e.2)]at i1;have e:=exit_ i1;subst e;subst hM
   exact⟨rfl,[],z18 T z i3 hb sRc,sR,Ge,rfl,[],hB,sR,Ge,rfl,sI,rfl,Gd⟩
 |false =>
  simp only[Cw]at i4 i6;rw[Cd]at i1;have tk:=z47 T z i3 hb zm7;unfold z8k at tk
  cases p2:pIs T zm7 z with
  |false =>
   rw[p2]at tk i1;rw[if_neg (λe=>by cases e.1),show aGo T false z=z by unfold aGo z8k;rw[p2];rfl]at i1;have e:=exit_ i1;subst e;subst hM
   exact⟨[],tk,sR,Ge,rfl,rfl,[],z18 T z i3 hb sRc,sR,Ge,rfl,[],hB,sR,Ge,rfl,sI,rfl,Gd⟩
  |true =>
   rw[p2]at tk i1;have hn:=(z11 hT p2).lt i3;have o1:z.next.over=false:=(z4o p2).1;rw[show aGo T false z=z.next by unfold aGo z8k;rw[p2];rfl,if_pos ⟨rfl,o1⟩]at i1;have lx:=zm9 T hT z.next hn hb;have lf:=z5i hT (s:=z.next);generalize z0r T z.next=p at lx lf i1;have hx:=z89 T p.2 (lf.lt hn) hb 1;have fx:=z1w hT (k:=1) dC0 (s:=p.2);generalize z0l T 1 p.2=x at hx fx i1;have f1:=lf.at_;have f2:=fx.at_;have f3:=fx.lt (lf.lt hn);rw[z0m]at f1 hn;refine⟨[],tk,sR,Ge,rfl,[],z76 T z.next,sR,Ge,rfl,z00 (λ_=>?_) λg=>by rw[o1]at g;cases g⟩;exact⟨[],lx,sR,Ge,rfl,[],hx,sR,Ge,rfl,rfl,z3y rfl,by simp;omega,by simp,(m,false,out++[⟨x.1,p.1⟩],x.2),Ab _,
    ⟨i1,f3,by simp only[Cw];unfold rem at i4⊢;omega,by simp only[Cw,B4,A1,A5];omega⟩,Ge,⟨rwq (by rw[j1c]),boq sI0,rfl,Gd⟩,rfl,rfl,rfl,rfl⟩
end Go.Proofs.YtcnjamphfjnflaaGreatDoor
