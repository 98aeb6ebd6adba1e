/- PART 5 of 7 of a proof: see the last part. -/
import Derived.Test.YthbcibeddfacbaaGreatSd4
set_option maxRecDepth 8000
set_option maxHeartbeats 2000000
set_option linter.unusedSimpArgs false
set_option linter.unusedVariables false
set_option linter.unusedSectionVars false
namespace Go.Proofs.YthbcibeddfacbaaGreat
open Go
set_option maxRecDepth 20000
set_option maxHeartbeats 2000000
theorem zx4:∀ {l:List Nd},l.length<=lsW l/\∀ x∈l,ndW x<=lsW l
  | []=>⟨Nat.zero_le _,fun x h=>by cases h⟩
  | y::r=>by
    obtain ⟨h1,h2⟩:=@zx4 r
    have h3:=z92 y
    refine ⟨by simp only [lsW,List.length_cons];omega,fun x hx=>?_⟩
    rcases List.mem_cons.1 hx with rfl | hx
    · simp only [lsW];omega
    · have:=h2 x hx;simp only [lsW];omega
theorem zn4 (s:Rs):(z8l s).2.ar=s.ar:=by
  unfold z8l
  split
  · rfl
  · split<;>rfl
theorem sr_list0 (u:Un) (D:Nat) (ihC:SRC u D) (ihL:SRL u D) (hA:∀ d k a s r,z3t u d k a s=some r->r.2.ar.length=s.ar.length) (hAL:∀ d l v s r,z1x u d l v s=some r->r.2.2.ar.length=s.ar.length) (hALo:∀ d x v a s r,z39 u d x v a s=some r->r.2.2.ar.length=s.ar.length) (hAS:∀ d x a s r,mSum u d x a s=some r->r.2.ar.length=s.ar.length) (d:Nat) (hd:d<=D) (l:List Nd) (v:List Int) (s:Rs) (r:Rres) (h:z1x u d l v { s with ar:=[] }=some r) (hb:lsW l<=1073741824):SC Tryz.prog 46 [.ptr 1001 0,.pv (z0o l),.sl 510 (v.map eInt).length] (rHV u { s with ar:=[] } v) (fun _=>False) (.pv (endv r.1)) (rHV u r.2.2 r.2.1):=by
  refine SC.sameR (SC.vc tb {} [] Tryz.func46 rfl rfl ?_) (fun k _ h=>h.elim)
  have hll:=(@zx4 l).1
  refine ⟨Nat × Nat × List Int × Rs,fun (e,k,w,z)=>[(7,iInt k)],fun (e,k,w,z)=>[(1001,rBox u { z with ar:=[] }),(1002,rowI z.out),(510,rowI w)],fun (e,k,w,z)=>l.length - k,fun (e,k,w,z)=>e<=D/\k<=l.length/\w.length=v.length/\z1x u e (l.drop k) w { z with ar:=[] }=some r,[],(d,0,v,s),⟨hd,Nat.zero_le _,rfl,h⟩,⟨rfl,trivial⟩,⟨rfl,rfl,rfl,trivial⟩,?_⟩
  rintro ⟨e,k,w,z⟩ ⟨he,hk,hw,hm⟩
  refine z00 (fun hc=>?_) fun hc=>?_
  · have hlt:=z7s (f:=Nd.enc) rfl hc
    obtain ⟨x,hx,_,hdr,hmem⟩:=z69 hlt
    rw [hdr] at hm
    have hxw:=(@zx4 l).2 x hmem
    have hxe:=z92 x
    obtain ⟨e,rfl,hm2⟩:=z7b rfl hm
    clear hm
    have hSt:=yj8 u { z with ar:=[] }
    have har:=zn4 { z with ar:=[] }
    generalize z8l { z with ar:=[] }=p at hm2 hSt har
    obtain ⟨b,ins,ar,st,code,out,cost,fuel,spent⟩:=p
    obtain rfl:ar=[]:=har
    rcases hm2 with ⟨hb0,rfl⟩ | ⟨hb0,a,r1,ha,hn,hm⟩
    · obtain rfl:b=false:=hb0
      exact ⟨z0k hx,rfl,[],hSt,sR,⟨rfl,rfl,trivial⟩,rfl,sP z5i,rfl,rfl,rfl,trivial⟩
    · obtain rfl:b=true:=hb0
      have hOf:=sr_of w x.args a ha oM0
      have hO:=z4d u ⟨ins,[],st,code,out,cost,fuel,spent⟩
      obtain ⟨kind,op,n,name,args,outs,params,kids⟩:=x
      rcases (show kind=1∨kind=2∨kind=12∨kind=13∨kind=14∨kind=15∨kind=10∨kind=11∨(kind≠1/\kind≠2/\kind≠12/\kind≠13/\kind≠14/\kind≠15/\kind≠10/\kind≠11) by omega) with rfl | rfl | rfl | rfl | rfl | rfl | rfl | rfl | hkk
      · obtain ⟨o,w2,ho,hv2,rfl⟩:=z7c hn rfl
        obtain ⟨ho0,hol,rfl⟩:=zc8 hv2
        dsimp only at hm
        generalize z14 ⟨ins,[],st,code,out,cost,fuel,spent⟩=ov at hm hO
        cases ov with
        | true =>
          cases hm
          exact ⟨z0k hx,rfl,[],hSt,sR,⟨rfl,rfl,trivial⟩,rfl,[],hOf,SubA.cons (slE (by simp [hw])) sR,⟨rfl,trivial⟩,rfl,z0a (f:=eInt) ho,rfl,by simp [hw],by rw [hw] at hol;simpa using hol,by omega,o.toNat,0,_,by simp [hw],(Nat.add_zero _).symm,z0a (f:=eInt) (List.getElem?_eq_getElem hol),Nat.zero_lt_one,[],hO,sR,⟨rfl,rfl,trivial⟩,rfl,sP z5i,rfl,rfl,rwq (by simp [eInt,List.map_set,Nd.n]),trivial⟩
        | false =>
          exact ⟨z0k hx,rfl,[],hSt,sR,⟨rfl,rfl,trivial⟩,rfl,[],hOf,SubA.cons (slE (by simp [hw])) sR,⟨rfl,trivial⟩,rfl,z0a (f:=eInt) ho,rfl,by simp [hw],by rw [hw] at hol;simpa using hol,by omega,o.toNat,0,_,by simp [hw],(Nat.add_zero _).symm,z0a (f:=eInt) (List.getElem?_eq_getElem hol),Nat.zero_lt_one,[],hO,sR,⟨rfl,rfl,trivial⟩,rfl,z04 rfl oM0,(e,k+1,w.set o.toNat n,⟨ins,[],st,code,out,cost,fuel,spent⟩),z10 hlt,⟨by omega,hlt,by simp [hw],hm⟩,⟨rfl,trivial⟩,⟨rfl,rfl,rwq (by simp [eInt,List.map_set,Nd.n]),trivial⟩,rfl,rfl,rfl,rfl⟩
      · obtain ⟨o,w2,ho,hv2,rfl⟩:=z7c hn rfl
        obtain ⟨ho0,hol,rfl⟩:=zc8 hv2
        dsimp only at hm
        generalize z14 ⟨ins,[],st,code,out,cost,fuel,spent⟩=ov at hm hO
        cases ov with
        | true =>
          cases hm
          exact ⟨z0k hx,rfl,[],hSt,sR,⟨rfl,rfl,trivial⟩,rfl,[],hOf,SubA.cons (slE (by simp [hw])) sR,⟨rfl,trivial⟩,rfl,z0a (f:=eInt) ho,rfl,by simp [hw],by rw [hw] at hol;simpa using hol,by omega,o.toNat,0,_,by simp [hw],(Nat.add_zero _).symm,z0a (f:=eInt) (List.getElem?_eq_getElem hol),Nat.zero_lt_one,[],hO,sR,⟨rfl,rfl,trivial⟩,rfl,sP z5i,rfl,rfl,rwq (by simp [eInt,List.map_set,Nd.n]),trivial⟩
        | false =>
          exact ⟨z0k hx,rfl,[],hSt,sR,⟨rfl,rfl,trivial⟩,rfl,[],hOf,SubA.cons (slE (by simp [hw])) sR,⟨rfl,trivial⟩,rfl,z0a (f:=eInt) ho,rfl,by simp [hw],by rw [hw] at hol;simpa using hol,by omega,o.toNat,0,_,by simp [hw],(Nat.add_zero _).symm,z0a (f:=eInt) (List.getElem?_eq_getElem hol),Nat.zero_lt_one,[],hO,sR,⟨rfl,rfl,trivial⟩,rfl,z04 rfl oM0,(e,k+1,w.set o.toNat n,⟨ins,[],st,code,out,cost,fuel,spent⟩),z10 hlt,⟨by omega,hlt,by simp [hw],hm⟩,⟨rfl,trivial⟩,⟨rfl,rfl,rwq (by simp [eInt,List.map_set,Nd.n]),trivial⟩,rfl,rfl,rfl,rfl⟩
      · obtain rfl:=z4r hn rfl
        have hm3:=(if_pos (by simp [Nd.kind])).symm.trans hm
        cases hm3
        exact ⟨z0k hx,rfl,[],hSt,sR,⟨rfl,rfl,trivial⟩,rfl,[],hOf,SubA.cons (slE (by simp [hw])) sR,⟨rfl,trivial⟩,rfl,sI,rfl,rfl,rfl,trivial⟩
      · obtain rfl:=z4r hn rfl
        have hm3:=(if_pos (by simp [Nd.kind])).symm.trans hm
        cases hm3
        exact ⟨z0k hx,rfl,[],hSt,sR,⟨rfl,rfl,trivial⟩,rfl,[],hOf,SubA.cons (slE (by simp [hw])) sR,⟨rfl,trivial⟩,rfl,sI,rfl,rfl,rfl,trivial⟩
      · obtain rfl:=z4r hn rfl
        have hm3:=(if_pos (by simp [Nd.kind])).symm.trans hm
        cases hm3
        exact ⟨z0k hx,rfl,[],hSt,sR,⟨rfl,rfl,trivial⟩,rfl,[],hOf,SubA.cons (slE (by simp [hw])) sR,⟨rfl,trivial⟩,rfl,sI,rfl,rfl,rfl,trivial⟩
      · obtain rfl:=z4r hn rfl
        have hm3:=(if_pos (by simp [Nd.kind])).symm.trans hm
        cases hm3
        exact ⟨z0k hx,rfl,[],hSt,sR,⟨rfl,rfl,trivial⟩,rfl,[],hOf,SubA.cons (slE (by simp [hw])) sR,⟨rfl,trivial⟩,rfl,sI,rfl,rfl,rfl,trivial⟩
      · obtain ⟨a0,q0,r2,h1,h2,h3,h4⟩:=ze8 hn rfl
        have hi:=z0a (f:=eInt) h1
        have hkw:lsW q0<=1073741824:=by have:=z8x (List.mem_of_getElem? h2);dsimp only [Nd.kids] at this hxe;omega
        have hL:=ihL e oM0 _ _ _ _ h3 hkw sI0
        have hl2:r2.2.1.length=w.length:=z7a h3
        have hal:=hAL _ _ _ _ _ h3
        obtain ⟨⟨ek,el⟩,v3,ins',ar',st',code',out',cost',fuel',spent'⟩:=r2
        obtain rfl:ar'=[]:=List.eq_nil_of_length_eq_zero hal
        have hO2:=z4d u ⟨ins',[],st',code',out',cost',fuel',spent'⟩
        clear hO
        dsimp only at h4 hl2 hO2 hm
        generalize hov:z14 ⟨ins',[],st',code',out',cost',fuel',spent'⟩=ov at h4 hO2
        refine ⟨z0k hx,rfl,[],hSt,sR,⟨rfl,rfl,trivial⟩,rfl,[],hOf,SubA.cons (slE (by simp [hw])) sR,⟨rfl,trivial⟩,rfl,hi,rfl,z00 (fun hc0=>?_) fun hc0=>?_⟩
        · rw [show (a0 != 0)=true from hc0] at h2
          have hkl:=z0a (f:=eKid) h2
          cases ov with
          | true =>
            cases h4
            rw [hov] at hm
            cases hm
            exact ⟨hkl,rfl,[],hL,SubA.same (SubA.same (SubA.cons (slE (by simp [hw])) SubA.nil)),⟨rfl,rfl,rfl,trivial⟩,rfl,[],hO2,sR,⟨rfl,rfl,trivial⟩,rfl,[],hO2,sR,⟨rfl,rfl,trivial⟩,rfl,sI,rfl,rfl,rfl,trivial⟩
          | false =>
            refine ⟨hkl,rfl,[],hL,SubA.same (SubA.same (SubA.cons (slE (by simp [hw])) SubA.nil)),⟨rfl,rfl,rfl,trivial⟩,rfl,[],hO2,sR,⟨rfl,rfl,trivial⟩,rfl,z00 (fun h5=>?_) fun h5=>?_⟩
            · rw [show (ek==12)=true from h5] at h4
              obtain ⟨v4,h7,rfl⟩:=Option.map_eq_some_iff.1 h4
              dsimp only at hm
              rw [hov] at hm
              exact ⟨[],zm0 _ _ _ _ h7,SubA.cons (slE (by simp [hl2,hw])) sR,⟨rfl,trivial⟩,rfl,[],hO2,sR,⟨rfl,rfl,trivial⟩,rfl,z04 rfl oM0,(e,k+1,v4,⟨ins',[],st',code',out',cost',fuel',spent'⟩),z10 hlt,⟨by omega,hlt,by rw [z49 h7,hl2,hw],hm⟩,⟨rfl,trivial⟩,⟨rfl,rfl,rfl,trivial⟩,rfl,rfl,rfl,rfl⟩
            · rw [show (ek==12)=false from h5] at h4
              cases h4
              dsimp only at hm
              rw [hov] at hm
              refine ⟨[],hO2,sR,⟨rfl,rfl,trivial⟩,rfl,z00 (fun h6=>?_) fun h6=>?_⟩
              · rw [show (ek != 0)=true from h6] at hm
                cases hm
                exact ⟨sI,rfl,rfl,rfl,trivial⟩
              · rw [show (ek != 0)=false from h6] at hm
                exact ⟨z04 rfl oM0,(e,k+1,v3,⟨ins',[],st',code',out',cost',fuel',spent'⟩),z10 hlt,⟨by omega,hlt,by rw [hl2,hw],hm⟩,⟨rfl,trivial⟩,⟨rfl,rfl,rfl,trivial⟩,rfl,rfl,rfl,rfl⟩
        · rw [show (a0 != 0)=false from hc0] at h2
          have hkl:=z0a (f:=eKid) h2
          cases ov with
          | true =>
            cases h4
            rw [hov] at hm
            cases hm
            exact ⟨hkl,rfl,[],hL,SubA.same (SubA.same (SubA.cons (slE (by simp [hw])) SubA.nil)),⟨rfl,rfl,rfl,trivial⟩,rfl,[],hO2,sR,⟨rfl,rfl,trivial⟩,rfl,[],hO2,sR,⟨rfl,rfl,trivial⟩,rfl,sI,rfl,rfl,rfl,trivial⟩
          | false =>
            refine ⟨hkl,rfl,[],hL,SubA.same (SubA.same (SubA.cons (slE (by simp [hw])) SubA.nil)),⟨rfl,rfl,rfl,trivial⟩,rfl,[],hO2,sR,⟨rfl,rfl,trivial⟩,rfl,z00 (fun h5=>?_) fun h5=>?_⟩
            · rw [show (ek==12)=true from h5] at h4
              obtain ⟨v4,h7,rfl⟩:=Option.map_eq_some_iff.1 h4
              dsimp only at hm
              rw [hov] at hm
              exact ⟨[],zm0 _ _ _ _ h7,SubA.cons (slE (by simp [hl2,hw])) sR,⟨rfl,trivial⟩,rfl,[],hO2,sR,⟨rfl,rfl,trivial⟩,rfl,z04 rfl oM0,(e,k+1,v4,⟨ins',[],st',code',out',cost',fuel',spent'⟩),z10 hlt,⟨by omega,hlt,by rw [z49 h7,hl2,hw],hm⟩,⟨rfl,trivial⟩,⟨rfl,rfl,rfl,trivial⟩,rfl,rfl,rfl,rfl⟩
            · rw [show (ek==12)=false from h5] at h4
              cases h4
              dsimp only at hm
              rw [hov] at hm
              refine ⟨[],hO2,sR,⟨rfl,rfl,trivial⟩,rfl,z00 (fun h6=>?_) fun h6=>?_⟩
              · rw [show (ek != 0)=true from h6] at hm
                cases hm
                exact ⟨sI,rfl,rfl,rfl,trivial⟩
              · rw [show (ek != 0)=false from h6] at hm
                exact ⟨z04 rfl oM0,(e,k+1,v3,⟨ins',[],st',code',out',cost',fuel',spent'⟩),z10 hlt,⟨by omega,hlt,by rw [hl2,hw],hm⟩,⟨rfl,trivial⟩,⟨rfl,rfl,rfl,trivial⟩,rfl,rfl,rfl,rfl⟩
      · have h3:=z63 hn rfl
        have hL:=sr_loop0 u D ihL hAL e oM0 _ oM0 _ _ ⟨ins,[],st,code,out,cost,fuel,spent⟩ _ h3
        have hl2:r1.2.1.length=w.length:=(zi3 u e).2 _ _ _ _ _ h3
        have hal:=hALo _ _ _ _ _ _ h3
        obtain ⟨⟨ek,el⟩,v3,ins',ar',st',code',out',cost',fuel',spent'⟩:=r1
        obtain rfl:ar'=[]:=List.eq_nil_of_length_eq_zero hal
        have hO2:=z4d u ⟨ins',[],st',code',out',cost',fuel',spent'⟩
        clear hO
        dsimp only at hl2 hO2 hm
        generalize hov:z14 ⟨ins',[],st',code',out',cost',fuel',spent'⟩=ov at hm hO2
        cases ov with
        | true =>
          cases hm
          exact ⟨z0k hx,rfl,[],hSt,sR,⟨rfl,rfl,trivial⟩,rfl,[],hOf,SubA.cons (slE (by simp [hw])) sR,⟨rfl,trivial⟩,rfl,[],hL,SubA.same (SubA.same (SubA.cons (slE (by simp [hw])) sR)),⟨rfl,rfl,rfl,trivial⟩,rfl,[],hO2,sR,⟨rfl,rfl,trivial⟩,rfl,sI,rfl,rfl,rfl,trivial⟩
        | false =>
          refine ⟨z0k hx,rfl,[],hSt,sR,⟨rfl,rfl,trivial⟩,rfl,[],hOf,SubA.cons (slE (by simp [hw])) sR,⟨rfl,trivial⟩,rfl,[],hL,SubA.same (SubA.same (SubA.cons (slE (by simp [hw])) sR)),⟨rfl,rfl,rfl,trivial⟩,rfl,[],hO2,sR,⟨rfl,rfl,trivial⟩,rfl,z00 (fun h6=>?_) fun h6=>?_⟩
          · rw [show (ek != 0)=true from h6] at hm
            cases hm
            exact ⟨sI,rfl,rfl,rfl,trivial⟩
          · rw [show (ek != 0)=false from h6] at hm
            exact ⟨z04 rfl oM0,(e,k+1,v3,⟨ins',[],st',code',out',cost',fuel',spent'⟩),z10 hlt,⟨by omega,hlt,by rw [hl2,hw],hm⟩,⟨rfl,trivial⟩,⟨rfl,rfl,rfl,trivial⟩,rfl,rfl,rfl,rfl⟩
      · obtain ⟨k1,k2,k12,k13,k14,k15,k10,k11⟩:=hkk
        have ne:∀ {i:Int},kind≠i->(kind==i)=false:=fun h=>beq_eq_false_iff_ne.2 h
        have no:∀ {i:Int},kind≠i->(kind==i)=true->False:=fun h e=>h (eq_of_beq e)
        obtain ⟨r2,h1,h2⟩:=z6f hn (by simp only [Nd.kind,ne k1,ne k2];rfl) (by simp only [Nd.kind,ne k12,ne k13,ne k14,ne k15];rfl) (ne k10) (ne k11)
        have hS:=sr_sum u D ihC hA e oM0 _ a _ _ h1 sI0
        have hal:=hAS _ _ _ _ _ h1
        obtain ⟨y,ins',ar',st',code',out',cost',fuel',spent'⟩:=r2
        obtain rfl:ar'=[]:=List.eq_nil_of_length_eq_zero hal
        have hO2:=z4d u ⟨ins',[],st',code',out',cost',fuel',spent'⟩
        clear hO
        dsimp only at h2 hO2
        generalize hov:z14 ⟨ins',[],st',code',out',cost',fuel',spent'⟩=ov at h2 hO2
        refine ⟨z0k hx,rfl,[],hSt,sR,⟨rfl,rfl,trivial⟩,rfl,[],hOf,SubA.cons (slE (by simp [hw])) sR,⟨rfl,trivial⟩,rfl,z00 (fun h=>(no k1 h).elim) fun _=>z00 (fun h=>(no k2 h).elim) fun _=>z00 (fun h=>(no k12 h).elim) fun _=>z00 (fun h=>(no k13 h).elim) fun _=>z00 (fun h=>(no k14 h).elim) fun _=>z00 (fun h=>(no k15 h).elim) fun _=>z00 (fun h=>(no k10 h).elim) fun _=>z00 (fun h=>(no k11 h).elim) fun _=>?_⟩
        cases ov with
        | true =>
          cases h2
          dsimp only at hm
          rw [hov] at hm
          cases hm
          exact ⟨[],hS,sR,⟨rfl,rfl,trivial⟩,rfl,[],hO2,sR,⟨rfl,rfl,trivial⟩,rfl,[],hO2,sR,⟨rfl,rfl,trivial⟩,rfl,sP z5i,rfl,rfl,rfl,trivial⟩
        | false =>
          cases outs with
          | nil =>
            cases h2
            dsimp only at hm
            rw [hov] at hm
            exact ⟨[],hS,sR,⟨rfl,rfl,trivial⟩,rfl,[],hO2,sR,⟨rfl,rfl,trivial⟩,rfl,[],hO2,sR,⟨rfl,rfl,trivial⟩,rfl,z04 rfl oM0,(e,k+1,w,⟨ins',[],st',code',out',cost',fuel',spent'⟩),z10 hlt,⟨by omega,hlt,hw,hm⟩,⟨rfl,trivial⟩,⟨rfl,rfl,rfl,trivial⟩,rfl,rfl,rfl,rfl⟩
          | cons o os =>
            rw [if_pos (by simp [Nd.outs])] at h2
            obtain ⟨o',ho,h3⟩:=Option.bind_eq_some_iff.1 h2
            obtain rfl:o=o':=Option.some.inj ho
            obtain ⟨w2,hv2,rfl⟩:=Option.map_eq_some_iff.1 h3
            obtain ⟨ho0,hol,rfl⟩:=zc8 hv2
            dsimp only at hm
            rw [hov] at hm
            exact ⟨[],hS,sR,⟨rfl,rfl,trivial⟩,rfl,[],hO2,sR,⟨rfl,rfl,trivial⟩,rfl,z00 (fun _=>⟨at0 (a:=eInt o),rfl,by simp [hw],by rw [hw] at hol;simpa using hol,by omega,o.toNat,0,_,by simp [hw],(Nat.add_zero _).symm,z0a (f:=eInt) (List.getElem?_eq_getElem hol),Nat.zero_lt_one,[],hO2,sR,⟨rfl,rfl,trivial⟩,rfl,z04 rfl oM0,(e,k+1,w.set o.toNat y,⟨ins',[],st',code',out',cost',fuel',spent'⟩),z10 hlt,⟨by omega,hlt,by simp [hw],hm⟩,⟨rfl,trivial⟩,⟨rfl,rfl,rwq (by simp [eInt,List.map_set]),trivial⟩,rfl,rfl,rfl,rfl⟩) fun h=>absurd h (by simp [Nd.outs])⟩
  · rw [List.drop_eq_nil_of_le (z8k (f:=Nd.enc) rfl hc)] at hm
    obtain rfl:=y27 hm
    exact ⟨sP z5i,rfl,rfl,rfl,trivial⟩
theorem sr_list1 (u:Un) (D:Nat) (ihC:SRC u D) (ihL:SRL u D) (hA:∀ d k a s r,z3t u d k a s=some r->r.2.ar.length=s.ar.length) (hAL:∀ d l v s r,z1x u d l v s=some r->r.2.2.ar.length=s.ar.length) (hALo:∀ d x v a s r,z39 u d x v a s=some r->r.2.2.ar.length=s.ar.length) (hAS:∀ d x a s r,mSum u d x a s=some r->r.2.ar.length=s.ar.length) (d:Nat) (hd:d<=D) (l:List Nd) (v:List Int) (s:Rs) (row:List Int) (r:Rres) (h:z1x u d l v { s with ar:=[row] }=some r) (hb:lsW l<=1073741824):SC Tryz.prog 46 [.ptr 1001 0,.pv (z0o l),.sl 510 (v.map eInt).length] (rHV u { s with ar:=[row] } v) (fun _=>False) (.pv (endv r.1)) (rHV u r.2.2 r.2.1):=by
  refine SC.sameR (SC.vc tb {} [] Tryz.func46 rfl rfl ?_) (fun k _ h=>h.elim)
  have hll:=(@zx4 l).1
  refine ⟨Nat × Nat × List Int × Rs × List Int,fun (e,k,w,z,q)=>[(7,iInt k)],fun (e,k,w,z,q)=>[(1001,rBox u { z with ar:=[q] }),(1002,rowI z.out),(510,rowI w),(1003,.box [.sl 1004 (q.map eInt).length]),(1004,rowI q)],fun (e,k,w,z,q)=>l.length - k,fun (e,k,w,z,q)=>e<=D/\k<=l.length/\w.length=v.length/\z1x u e (l.drop k) w { z with ar:=[q] }=some r,[],(d,0,v,s,row),⟨hd,Nat.zero_le _,rfl,h⟩,⟨rfl,trivial⟩,⟨rfl,rfl,rfl,rfl,rfl,trivial⟩,?_⟩
  rintro ⟨e,k,w,z,q⟩ ⟨he,hk,hw,hm⟩
  refine z00 (fun hc=>?_) fun hc=>?_
  · have hlt:=z7s (f:=Nd.enc) rfl hc
    obtain ⟨x,hx,_,hdr,hmem⟩:=z69 hlt
    rw [hdr] at hm
    have hxw:=(@zx4 l).2 x hmem
    have hxe:=z92 x
    obtain ⟨e,rfl,hm2⟩:=z7b rfl hm
    clear hm
    have hSt:=yj8 u { z with ar:=[q] }
    have har:=zn4 { z with ar:=[q] }
    generalize z8l { z with ar:=[q] }=p at hm2 hSt har
    obtain ⟨b,ins,ar,st,code,out,cost,fuel,spent⟩:=p
    obtain rfl:ar=[q]:=har
    rcases hm2 with ⟨hb0,rfl⟩ | ⟨hb0,a,r1,ha,hn,hm⟩
    · obtain rfl:b=false:=hb0
      exact ⟨z0k hx,rfl,[],hSt,sR,⟨rfl,rfl,rfl,rfl,trivial⟩,rfl,sP z5i,rfl,rfl,rfl,rfl,rfl,trivial⟩
    · obtain rfl:b=true:=hb0
      have hOf:=sr_of w x.args a ha oM0
      have hO:=z4d u ⟨ins,[q],st,code,out,cost,fuel,spent⟩
      obtain ⟨kind,op,n,name,args,outs,params,kids⟩:=x
      rcases (show kind=1∨kind=2∨kind=12∨kind=13∨kind=14∨kind=15∨kind=10∨kind=11∨(kind≠1/\kind≠2/\kind≠12/\kind≠13/\kind≠14/\kind≠15/\kind≠10/\kind≠11) by omega) with rfl | rfl | rfl | rfl | rfl | rfl | rfl | rfl | hkk
      · obtain ⟨o,w2,ho,hv2,rfl⟩:=z7c hn rfl
        obtain ⟨ho0,hol,rfl⟩:=zc8 hv2
        dsimp only at hm
        generalize z14 ⟨ins,[q],st,code,out,cost,fuel,spent⟩=ov at hm hO
        cases ov with
        | true =>
          cases hm
          exact ⟨z0k hx,rfl,[],hSt,sR,⟨rfl,rfl,rfl,rfl,trivial⟩,rfl,[],hOf,SubA.cons (slE (by simp [hw])) sR,⟨rfl,trivial⟩,rfl,z0a (f:=eInt) ho,rfl,by simp [hw],by rw [hw] at hol;simpa using hol,by omega,o.toNat,0,_,by simp [hw],(Nat.add_zero _).symm,z0a (f:=eInt) (List.getElem?_eq_getElem hol),Nat.zero_lt_one,[],hO,sR,⟨rfl,rfl,rfl,rfl,trivial⟩,rfl,sP z5i,rfl,rfl,rwq (by simp [eInt,List.map_set,Nd.n]),rfl,rfl,trivial⟩
        | false =>
          exact ⟨z0k hx,rfl,[],hSt,sR,⟨rfl,rfl,rfl,rfl,trivial⟩,rfl,[],hOf,SubA.cons (slE (by simp [hw])) sR,⟨rfl,trivial⟩,rfl,z0a (f:=eInt) ho,rfl,by simp [hw],by rw [hw] at hol;simpa using hol,by omega,o.toNat,0,_,by simp [hw],(Nat.add_zero _).symm,z0a (f:=eInt) (List.getElem?_eq_getElem hol),Nat.zero_lt_one,[],hO,sR,⟨rfl,rfl,rfl,rfl,trivial⟩,rfl,z04 rfl oM0,(e,k+1,w.set o.toNat n,⟨ins,[q],st,code,out,cost,fuel,spent⟩,q),z10 hlt,⟨by omega,hlt,by simp [hw],hm⟩,⟨rfl,trivial⟩,⟨rfl,rfl,rwq (by simp [eInt,List.map_set,Nd.n]),rfl,rfl,trivial⟩,rfl,rfl,rfl,rfl⟩
      · obtain ⟨o,w2,ho,hv2,rfl⟩:=z7c hn rfl
        obtain ⟨ho0,hol,rfl⟩:=zc8 hv2
        dsimp only at hm
        generalize z14 ⟨ins,[q],st,code,out,cost,fuel,spent⟩=ov at hm hO
        cases ov with
        | true =>
          cases hm
          exact ⟨z0k hx,rfl,[],hSt,sR,⟨rfl,rfl,rfl,rfl,trivial⟩,rfl,[],hOf,SubA.cons (slE (by simp [hw])) sR,⟨rfl,trivial⟩,rfl,z0a (f:=eInt) ho,rfl,by simp [hw],by rw [hw] at hol;simpa using hol,by omega,o.toNat,0,_,by simp [hw],(Nat.add_zero _).symm,z0a (f:=eInt) (List.getElem?_eq_getElem hol),Nat.zero_lt_one,[],hO,sR,⟨rfl,rfl,rfl,rfl,trivial⟩,rfl,sP z5i,rfl,rfl,rwq (by simp [eInt,List.map_set,Nd.n]),rfl,rfl,trivial⟩
        | false =>
          exact ⟨z0k hx,rfl,[],hSt,sR,⟨rfl,rfl,rfl,rfl,trivial⟩,rfl,[],hOf,SubA.cons (slE (by simp [hw])) sR,⟨rfl,trivial⟩,rfl,z0a (f:=eInt) ho,rfl,by simp [hw],by rw [hw] at hol;simpa using hol,by omega,o.toNat,0,_,by simp [hw],(Nat.add_zero _).symm,z0a (f:=eInt) (List.getElem?_eq_getElem hol),Nat.zero_lt_one,[],hO,sR,⟨rfl,rfl,rfl,rfl,trivial⟩,rfl,z04 rfl oM0,(e,k+1,w.set o.toNat n,⟨ins,[q],st,code,out,cost,fuel,spent⟩,q),z10 hlt,⟨by omega,hlt,by simp [hw],hm⟩,⟨rfl,trivial⟩,⟨rfl,rfl,rwq (by simp [eInt,List.map_set,Nd.n]),rfl,rfl,trivial⟩,rfl,rfl,rfl,rfl⟩
      · obtain rfl:=z4r hn rfl
        have hm3:=(if_pos (by simp [Nd.kind])).symm.trans hm
        cases hm3
        exact ⟨z0k hx,rfl,[],hSt,sR,⟨rfl,rfl,rfl,rfl,trivial⟩,rfl,[],hOf,SubA.cons (slE (by simp [hw])) sR,⟨rfl,trivial⟩,rfl,sI,rfl,rfl,rfl,rfl,rfl,trivial⟩
      · obtain rfl:=z4r hn rfl
        have hm3:=(if_pos (by simp [Nd.kind])).symm.trans hm
        cases hm3
        exact ⟨z0k hx,rfl,[],hSt,sR,⟨rfl,rfl,rfl,rfl,trivial⟩,rfl,[],hOf,SubA.cons (slE (by simp [hw])) sR,⟨rfl,trivial⟩,rfl,sI,rfl,rfl,rfl,rfl,rfl,trivial⟩
      · obtain rfl:=z4r hn rfl
        have hm3:=(if_pos (by simp [Nd.kind])).symm.trans hm
        cases hm3
        exact ⟨z0k hx,rfl,[],hSt,sR,⟨rfl,rfl,rfl,rfl,trivial⟩,rfl,[],hOf,SubA.cons (slE (by simp [hw])) sR,⟨rfl,trivial⟩,rfl,sI,rfl,rfl,rfl,rfl,rfl,trivial⟩
      · obtain rfl:=z4r hn rfl
        have hm3:=(if_pos (by simp [Nd.kind])).symm.trans hm
        cases hm3
        exact ⟨z0k hx,rfl,[],hSt,sR,⟨rfl,rfl,rfl,rfl,trivial⟩,rfl,[],hOf,SubA.cons (slE (by simp [hw])) sR,⟨rfl,trivial⟩,rfl,sI,rfl,rfl,rfl,rfl,rfl,trivial⟩
      · obtain ⟨a0,q0,r2,h1,h2,h3,h4⟩:=ze8 hn rfl
        have hi:=z0a (f:=eInt) h1
        have hkw:lsW q0<=1073741824:=by have:=z8x (List.mem_of_getElem? h2);dsimp only [Nd.kids] at this hxe;omega
        have hL:=ihL e oM0 _ _ _ _ h3 hkw sI0
        have hl2:r2.2.1.length=w.length:=z7a h3
        have hal:=hAL _ _ _ _ _ h3
        obtain ⟨⟨ek,el⟩,v3,ins',ar',st',code',out',cost',fuel',spent'⟩:=r2
        obtain ⟨q2,rfl⟩:∃ q2,ar'=[q2]:=List.length_eq_one_iff.1 hal
        have hO2:=z4d u ⟨ins',[q2],st',code',out',cost',fuel',spent'⟩
        clear hO
        dsimp only at h4 hl2 hO2 hm
        generalize hov:z14 ⟨ins',[q2],st',code',out',cost',fuel',spent'⟩=ov at h4 hO2
        refine ⟨z0k hx,rfl,[],hSt,sR,⟨rfl,rfl,rfl,rfl,trivial⟩,rfl,[],hOf,SubA.cons (slE (by simp [hw])) sR,⟨rfl,trivial⟩,rfl,hi,rfl,z00 (fun hc0=>?_) fun hc0=>?_⟩
        · rw [show (a0 != 0)=true from hc0] at h2
          have hkl:=z0a (f:=eKid) h2
          cases ov with
          | true =>
            cases h4
            rw [hov] at hm
            cases hm
            exact ⟨hkl,rfl,[],hL,SubA.same (SubA.same (SubA.cons (slE (by simp [hw])) SubA.nil)),⟨rfl,rfl,rfl,rfl,rfl,trivial⟩,rfl,[],hO2,sR,⟨rfl,rfl,rfl,rfl,trivial⟩,rfl,[],hO2,sR,⟨rfl,rfl,rfl,rfl,trivial⟩,rfl,sI,rfl,rfl,rfl,rfl,rfl,trivial⟩
          | false =>
            refine ⟨hkl,rfl,[],hL,SubA.same (SubA.same (SubA.cons (slE (by simp [hw])) SubA.nil)),⟨rfl,rfl,rfl,rfl,rfl,trivial⟩,rfl,[],hO2,sR,⟨rfl,rfl,rfl,rfl,trivial⟩,rfl,z00 (fun h5=>?_) fun h5=>?_⟩
            · rw [show (ek==12)=true from h5] at h4
              obtain ⟨v4,h7,rfl⟩:=Option.map_eq_some_iff.1 h4
              dsimp only at hm
              rw [hov] at hm
              exact ⟨[],zm0 _ _ _ _ h7,SubA.cons (slE (by simp [hl2,hw])) sR,⟨rfl,trivial⟩,rfl,[],hO2,sR,⟨rfl,rfl,rfl,rfl,trivial⟩,rfl,z04 rfl oM0,(e,k+1,v4,⟨ins',[q2],st',code',out',cost',fuel',spent'⟩,q2),z10 hlt,⟨by omega,hlt,by rw [z49 h7,hl2,hw],hm⟩,⟨rfl,trivial⟩,⟨rfl,rfl,rfl,rfl,rfl,trivial⟩,rfl,rfl,rfl,rfl⟩
            · rw [show (ek==12)=false from h5] at h4
              cases h4
              dsimp only at hm
              rw [hov] at hm
              refine ⟨[],hO2,sR,⟨rfl,rfl,rfl,rfl,trivial⟩,rfl,z00 (fun h6=>?_) fun h6=>?_⟩
              · rw [show (ek != 0)=true from h6] at hm
                cases hm
                exact ⟨sI,rfl,rfl,rfl,rfl,rfl,trivial⟩
              · rw [show (ek != 0)=false from h6] at hm
                exact ⟨z04 rfl oM0,(e,k+1,v3,⟨ins',[q2],st',code',out',cost',fuel',spent'⟩,q2),z10 hlt,⟨by omega,hlt,by rw [hl2,hw],hm⟩,⟨rfl,trivial⟩,⟨rfl,rfl,rfl,rfl,rfl,trivial⟩,rfl,rfl,rfl,rfl⟩
        · rw [show (a0 != 0)=false from hc0] at h2
          have hkl:=z0a (f:=eKid) h2
          cases ov with
          | true =>
            cases h4
            rw [hov] at hm
            cases hm
            exact ⟨hkl,rfl,[],hL,SubA.same (SubA.same (SubA.cons (slE (by simp [hw])) SubA.nil)),⟨rfl,rfl,rfl,rfl,rfl,trivial⟩,rfl,[],hO2,sR,⟨rfl,rfl,rfl,rfl,trivial⟩,rfl,[],hO2,sR,⟨rfl,rfl,rfl,rfl,trivial⟩,rfl,sI,rfl,rfl,rfl,rfl,rfl,trivial⟩
          | false =>
            refine ⟨hkl,rfl,[],hL,SubA.same (SubA.same (SubA.cons (slE (by simp [hw])) SubA.nil)),⟨rfl,rfl,rfl,rfl,rfl,trivial⟩,rfl,[],hO2,sR,⟨rfl,rfl,rfl,rfl,trivial⟩,rfl,z00 (fun h5=>?_) fun h5=>?_⟩
            · rw [show (ek==12)=true from h5] at h4
              obtain ⟨v4,h7,rfl⟩:=Option.map_eq_some_iff.1 h4
              dsimp only at hm
              rw [hov] at hm
              exact ⟨[],zm0 _ _ _ _ h7,SubA.cons (slE (by simp [hl2,hw])) sR,⟨rfl,trivial⟩,rfl,[],hO2,sR,⟨rfl,rfl,rfl,rfl,trivial⟩,rfl,z04 rfl oM0,(e,k+1,v4,⟨ins',[q2],st',code',out',cost',fuel',spent'⟩,q2),z10 hlt,⟨by omega,hlt,by rw [z49 h7,hl2,hw],hm⟩,⟨rfl,trivial⟩,⟨rfl,rfl,rfl,rfl,rfl,trivial⟩,rfl,rfl,rfl,rfl⟩
            · rw [show (ek==12)=false from h5] at h4
              cases h4
              dsimp only at hm
              rw [hov] at hm
              refine ⟨[],hO2,sR,⟨rfl,rfl,rfl,rfl,trivial⟩,rfl,z00 (fun h6=>?_) fun h6=>?_⟩
              · rw [show (ek != 0)=true from h6] at hm
                cases hm
                exact ⟨sI,rfl,rfl,rfl,rfl,rfl,trivial⟩
              · rw [show (ek != 0)=false from h6] at hm
                exact ⟨z04 rfl oM0,(e,k+1,v3,⟨ins',[q2],st',code',out',cost',fuel',spent'⟩,q2),z10 hlt,⟨by omega,hlt,by rw [hl2,hw],hm⟩,⟨rfl,trivial⟩,⟨rfl,rfl,rfl,rfl,rfl,trivial⟩,rfl,rfl,rfl,rfl⟩
      · have h3:=z63 hn rfl
        have hL:=sr_loop1 u D ihL hAL e oM0 _ oM0 _ _ ⟨ins,[],st,code,out,cost,fuel,spent⟩ q _ h3
        have hl2:r1.2.1.length=w.length:=(zi3 u e).2 _ _ _ _ _ h3
        have hal:=hALo _ _ _ _ _ _ h3
        obtain ⟨⟨ek,el⟩,v3,ins',ar',st',code',out',cost',fuel',spent'⟩:=r1
        obtain ⟨q2,rfl⟩:∃ q2,ar'=[q2]:=List.length_eq_one_iff.1 hal
        have hO2:=z4d u ⟨ins',[q2],st',code',out',cost',fuel',spent'⟩
        clear hO
        dsimp only at hl2 hO2 hm
        generalize hov:z14 ⟨ins',[q2],st',code',out',cost',fuel',spent'⟩=ov at hm hO2
        cases ov with
        | true =>
          cases hm
          exact ⟨z0k hx,rfl,[],hSt,sR,⟨rfl,rfl,rfl,rfl,trivial⟩,rfl,[],hOf,SubA.cons (slE (by simp [hw])) sR,⟨rfl,trivial⟩,rfl,[],hL,SubA.same (SubA.same (SubA.cons (slE (by simp [hw])) sR)),⟨rfl,rfl,rfl,rfl,rfl,trivial⟩,rfl,[],hO2,sR,⟨rfl,rfl,rfl,rfl,trivial⟩,rfl,sI,rfl,rfl,rfl,rfl,rfl,trivial⟩
        | false =>
          refine ⟨z0k hx,rfl,[],hSt,sR,⟨rfl,rfl,rfl,rfl,trivial⟩,rfl,[],hOf,SubA.cons (slE (by simp [hw])) sR,⟨rfl,trivial⟩,rfl,[],hL,SubA.same (SubA.same (SubA.cons (slE (by simp [hw])) sR)),⟨rfl,rfl,rfl,rfl,rfl,trivial⟩,rfl,[],hO2,sR,⟨rfl,rfl,rfl,rfl,trivial⟩,rfl,z00 (fun h6=>?_) fun h6=>?_⟩
          · rw [show (ek != 0)=true from h6] at hm
            cases hm
            exact ⟨sI,rfl,rfl,rfl,rfl,rfl,trivial⟩
          · rw [show (ek != 0)=false from h6] at hm
            exact ⟨z04 rfl oM0,(e,k+1,v3,⟨ins',[q2],st',code',out',cost',fuel',spent'⟩,q2),z10 hlt,⟨by omega,hlt,by rw [hl2,hw],hm⟩,⟨rfl,trivial⟩,⟨rfl,rfl,rfl,rfl,rfl,trivial⟩,rfl,rfl,rfl,rfl⟩
      · obtain ⟨k1,k2,k12,k13,k14,k15,k10,k11⟩:=hkk
        have ne:∀ {i:Int},kind≠i->(kind==i)=false:=fun h=>beq_eq_false_iff_ne.2 h
        have no:∀ {i:Int},kind≠i->(kind==i)=true->False:=fun h e=>h (eq_of_beq e)
        obtain ⟨r2,h1,h2⟩:=z6f hn (by simp only [Nd.kind,ne k1,ne k2];rfl) (by simp only [Nd.kind,ne k12,ne k13,ne k14,ne k15];rfl) (ne k10) (ne k11)
        have hS:=sr_sum u D ihC hA e oM0 _ a _ _ h1 sI0
        have hal:=hAS _ _ _ _ _ h1
        obtain ⟨y,ins',ar',st',code',out',cost',fuel',spent'⟩:=r2
        obtain ⟨q2,rfl⟩:∃ q2,ar'=[q2]:=List.length_eq_one_iff.1 hal
        have hO2:=z4d u ⟨ins',[q2],st',code',out',cost',fuel',spent'⟩
        clear hO
        dsimp only at h2 hO2
        generalize hov:z14 ⟨ins',[q2],st',code',out',cost',fuel',spent'⟩=ov at h2 hO2
        refine ⟨z0k hx,rfl,[],hSt,sR,⟨rfl,rfl,rfl,rfl,trivial⟩,rfl,[],hOf,SubA.cons (slE (by simp [hw])) sR,⟨rfl,trivial⟩,rfl,z00 (fun h=>(no k1 h).elim) fun _=>z00 (fun h=>(no k2 h).elim) fun _=>z00 (fun h=>(no k12 h).elim) fun _=>z00 (fun h=>(no k13 h).elim) fun _=>z00 (fun h=>(no k14 h).elim) fun _=>z00 (fun h=>(no k15 h).elim) fun _=>z00 (fun h=>(no k10 h).elim) fun _=>z00 (fun h=>(no k11 h).elim) fun _=>?_⟩
        cases ov with
        | true =>
          cases h2
          dsimp only at hm
          rw [hov] at hm
          cases hm
          exact ⟨[],hS,sR,⟨rfl,rfl,rfl,rfl,trivial⟩,rfl,[],hO2,sR,⟨rfl,rfl,rfl,rfl,trivial⟩,rfl,[],hO2,sR,⟨rfl,rfl,rfl,rfl,trivial⟩,rfl,sP z5i,rfl,rfl,rfl,rfl,rfl,trivial⟩
        | false =>
          cases outs with
          | nil =>
            cases h2
            dsimp only at hm
            rw [hov] at hm
            exact ⟨[],hS,sR,⟨rfl,rfl,rfl,rfl,trivial⟩,rfl,[],hO2,sR,⟨rfl,rfl,rfl,rfl,trivial⟩,rfl,[],hO2,sR,⟨rfl,rfl,rfl,rfl,trivial⟩,rfl,z04 rfl oM0,(e,k+1,w,⟨ins',[q2],st',code',out',cost',fuel',spent'⟩,q2),z10 hlt,⟨by omega,hlt,hw,hm⟩,⟨rfl,trivial⟩,⟨rfl,rfl,rfl,rfl,rfl,trivial⟩,rfl,rfl,rfl,rfl⟩
          | cons o os =>
            rw [if_pos (by simp [Nd.outs])] at h2
            obtain ⟨o',ho,h3⟩:=Option.bind_eq_some_iff.1 h2
            obtain rfl:o=o':=Option.some.inj ho
            obtain ⟨w2,hv2,rfl⟩:=Option.map_eq_some_iff.1 h3
            obtain ⟨ho0,hol,rfl⟩:=zc8 hv2
            dsimp only at hm
            rw [hov] at hm
            exact ⟨[],hS,sR,⟨rfl,rfl,rfl,rfl,trivial⟩,rfl,[],hO2,sR,⟨rfl,rfl,rfl,rfl,trivial⟩,rfl,z00 (fun _=>⟨at0 (a:=eInt o),rfl,by simp [hw],by rw [hw] at hol;simpa using hol,by omega,o.toNat,0,_,by simp [hw],(Nat.add_zero _).symm,z0a (f:=eInt) (List.getElem?_eq_getElem hol),Nat.zero_lt_one,[],hO2,sR,⟨rfl,rfl,rfl,rfl,trivial⟩,rfl,z04 rfl oM0,(e,k+1,w.set o.toNat y,⟨ins',[q2],st',code',out',cost',fuel',spent'⟩,q2),z10 hlt,⟨by omega,hlt,by simp [hw],hm⟩,⟨rfl,trivial⟩,⟨rfl,rfl,rwq (by simp [eInt,List.map_set]),rfl,rfl,trivial⟩,rfl,rfl,rfl,rfl⟩) fun h=>absurd h (by simp [Nd.outs])⟩
  · rw [List.drop_eq_nil_of_le (z8k (f:=Nd.enc) rfl hc)] at hm
    obtain rfl:=y27 hm
    exact ⟨sP z5i,rfl,rfl,rfl,rfl,rfl,trivial⟩
set_option maxRecDepth 20000
set_option maxHeartbeats 2000000
theorem copyA {a:List Int} {i n:Nat} {x:Int} (hx:a[i]? = some x) (hn:a.length<=n):(a.take i++List.replicate (n - i) 0).set i x=a.take (i+1)++List.replicate (n - (i+1)) 0:=by
  have hi:i<a.length:=(List.getElem?_eq_some_iff.1 hx).1
  have hl:(a.take i).length=i:=by rw [List.length_take];omega
  rw [List.set_append_right _ _ oM0,hl,Nat.sub_self,show n - i=(n - (i+1))+1 by omega,List.replicate_succ,List.set_cons_zero,List.take_add_one,hx]
  simp
theorem sr_call0 (u:Un) (hub:∀ f∈u.flows,lsW f.body<=1073741824) (D:Nat) (ihL:SRL u D) (hAL:∀ d l v s r,z1x u d l v s=some r->r.2.2.ar.length=s.ar.length) (d:Nat) (hd:d<=D) (k:Int) (a:List Int) (s:Rs) (r:Int × Rs) (h:z3t u d k a { s with ar:=[] }=some r):SC Tryz.prog 29 [.ptr 1001 0,iInt k,.pv (ints a)] (rH u { s with ar:=[] }) (fun _=>False) (iInt r.1) (rH u r.2):=by
  refine SC.sameR (SC.vc tb { pb:=[107,110],ids:=[(22,510)] } [] Tryz.func29 rfl rfl ?_) (fun k _ h=>h.elim)
  obtain ⟨d1,f,r1,rfl,hk0,hf,hal0,hfl,hlist,rfl⟩:=z62 h
  have hif:=z0a (f:=Fl.enc) hf
  have hL:=ihL d1 oM0 _ _ _ _ hlist (hub f (List.mem_of_getElem? hf)) sI0
  have hal:=hAL _ _ _ _ _ hlist
  obtain ⟨⟨ek,el⟩,v3,ins',ar',st',code',out',cost',fuel',spent'⟩:=r1
  obtain rfl:ar'=[]:=List.eq_nil_of_length_eq_zero hal
  have hO:=z4d u ⟨ins',[],st',code',out',cost',fuel',spent'⟩
  dsimp only at hO ⊢
  generalize z14 ⟨ins',[],st',code',out',cost',fuel',spent'⟩=ov at hO
  refine ⟨hif,by omega,rfl,rfl,by simp;omega,Nat,fun i=>[(9,iInt i)],fun i=>[(510,rowI (a.take i++List.replicate (f.types.length - i) 0))],fun i=>a.length - i,fun i=>i<=a.length,[],0,Nat.zero_le _,⟨rfl,trivial⟩,⟨rwq (by simp [eInt];exact .inr rfl),trivial⟩,?_⟩
  intro i hi
  refine z00 (fun hc=>?_) fun hc=>?_
  · have hlt:=z7s (f:=eInt) rfl hc
    obtain ⟨x,hx,_,_,_⟩:=z69 hlt
    have hvl:(a.take i++List.replicate (f.types.length - i) 0).length=f.types.length:=by simp;omega
    exact ⟨z0a (f:=eInt) hx,rfl,by simp;omega,by simp;omega,rfl,i,0,_,by simp;omega,(Nat.add_zero _).symm,z0a (f:=eInt) (List.getElem?_eq_getElem oM0),Nat.zero_lt_one,z04 rfl oM0,i+1,z10 hlt,hlt,⟨rfl,trivial⟩,⟨rwq (by rw [<- copyA hx oM0];simp [eInt,List.map_set]),trivial⟩,rfl,rfl,rfl,rfl⟩
  · have hge:a.take i++List.replicate (f.types.length - i) 0=a++List.replicate (f.types.length - a.length) 0:=by
      have:=z8k (f:=eInt) rfl hc
      obtain rfl:i=a.length:=by omega
      rw [List.take_length]
    cases ov with
    | true=>exact ⟨[],hL,SubA.same (SubA.same (SubA.cons (slE (by simp;omega)) sR)),⟨rfl,rfl,rwq (by rw [hge]),trivial⟩,rfl,[],hO,sR,⟨rfl,rfl,trivial⟩,rfl,sI,rfl,rfl,trivial⟩
    | false =>
      cases el with
      | nil=>exact ⟨[],hL,SubA.same (SubA.same (SubA.cons (slE (by simp;omega)) sR)),⟨rfl,rfl,rwq (by rw [hge]),trivial⟩,rfl,[],hO,sR,⟨rfl,rfl,trivial⟩,rfl,sI,rfl,rfl,trivial⟩
      | cons y el=>exact ⟨[],hL,SubA.same (SubA.same (SubA.cons (slE (by simp;omega)) sR)),⟨rfl,rfl,rwq (by rw [hge]),trivial⟩,rfl,[],hO,sR,⟨rfl,rfl,trivial⟩,rfl,at0 (a:=eInt y),rfl,sI,rfl,rfl,trivial⟩
theorem sr_call1 (u:Un) (hub:∀ f∈u.flows,lsW f.body<=1073741824) (D:Nat) (ihL:SRL u D) (hAL:∀ d l v s r,z1x u d l v s=some r->r.2.2.ar.length=s.ar.length) (d:Nat) (hd:d<=D) (k:Int) (a:List Int) (s:Rs) (row:List Int) (r:Int × Rs) (h:z3t u d k a { s with ar:=[row] }=some r):SC Tryz.prog 29 [.ptr 1001 0,iInt k,.pv (ints a)] (rH u { s with ar:=[row] }) (fun _=>False) (iInt r.1) (rH u r.2):=by
  refine SC.sameR (SC.vc tb { pb:=[107,110],ids:=[(22,510)] } [] Tryz.func29 rfl rfl ?_) (fun k _ h=>h.elim)
  obtain ⟨d1,f,r1,rfl,hk0,hf,hal0,hfl,hlist,rfl⟩:=z62 h
  have hif:=z0a (f:=Fl.enc) hf
  have hL:=ihL d1 oM0 _ _ _ _ hlist (hub f (List.mem_of_getElem? hf)) sI0
  have hal:=hAL _ _ _ _ _ hlist
  obtain ⟨⟨ek,el⟩,v3,ins',ar',st',code',out',cost',fuel',spent'⟩:=r1
  obtain ⟨q2,rfl⟩:∃ q2,ar'=[q2]:=List.length_eq_one_iff.1 hal
  have hO:=z4d u ⟨ins',[q2],st',code',out',cost',fuel',spent'⟩
  dsimp only at hO ⊢
  generalize z14 ⟨ins',[q2],st',code',out',cost',fuel',spent'⟩=ov at hO
  refine ⟨hif,by omega,rfl,rfl,by simp;omega,Nat,fun i=>[(9,iInt i)],fun i=>[(510,rowI (a.take i++List.replicate (f.types.length - i) 0))],fun i=>a.length - i,fun i=>i<=a.length,[],0,Nat.zero_le _,⟨rfl,trivial⟩,⟨rwq (by simp [eInt];exact .inr rfl),trivial⟩,?_⟩
  intro i hi
  refine z00 (fun hc=>?_) fun hc=>?_
  · have hlt:=z7s (f:=eInt) rfl hc
    obtain ⟨x,hx,_,_,_⟩:=z69 hlt
    have hvl:(a.take i++List.replicate (f.types.length - i) 0).length=f.types.length:=by simp;omega
    exact ⟨z0a (f:=eInt) hx,rfl,by simp;omega,by simp;omega,rfl,i,0,_,by simp;omega,(Nat.add_zero _).symm,z0a (f:=eInt) (List.getElem?_eq_getElem oM0),Nat.zero_lt_one,z04 rfl oM0,i+1,z10 hlt,hlt,⟨rfl,trivial⟩,⟨rwq (by rw [<- copyA hx oM0];simp [eInt,List.map_set]),trivial⟩,rfl,rfl,rfl,rfl⟩
  · have hge:a.take i++List.replicate (f.types.length - i) 0=a++List.replicate (f.types.length - a.length) 0:=by
      have:=z8k (f:=eInt) rfl hc
      obtain rfl:i=a.length:=by omega
      rw [List.take_length]
    cases ov with
    | true=>exact ⟨[],hL,SubA.same (SubA.same (SubA.cons (slE (by simp;omega)) sR)),⟨rfl,rfl,rwq (by rw [hge]),rfl,rfl,trivial⟩,rfl,[],hO,sR,⟨rfl,rfl,rfl,rfl,trivial⟩,rfl,sI,rfl,rfl,rfl,rfl,trivial⟩
    | false =>
      cases el with
      | nil=>exact ⟨[],hL,SubA.same (SubA.same (SubA.cons (slE (by simp;omega)) sR)),⟨rfl,rfl,rwq (by rw [hge]),rfl,rfl,trivial⟩,rfl,[],hO,sR,⟨rfl,rfl,rfl,rfl,trivial⟩,rfl,sI,rfl,rfl,rfl,rfl,trivial⟩
      | cons y el=>exact ⟨[],hL,SubA.same (SubA.same (SubA.cons (slE (by simp;omega)) sR)),⟨rfl,rfl,rwq (by rw [hge]),rfl,rfl,trivial⟩,rfl,[],hO,sR,⟨rfl,rfl,rfl,rfl,trivial⟩,rfl,at0 (a:=eInt y),rfl,sI,rfl,rfl,rfl,rfl,trivial⟩
set_option maxRecDepth 20000
set_option maxHeartbeats 2000000
theorem z45 (u:Un) (f:Fl) (set:List Bool) (l want:List Int) (hs:set.length=f.types.length):SC Tryz.prog 97 [.ptr 3 0,.pv (ints l),.pv (ints want)] (ckHp u f 4 set) (fun k=>k=3) (iBool (z1q f.types set l want).1) (ckHp u f 4 (z1q f.types set l want).2):=by
  refine SC.sameR (SC.vc tb { gh:=[(0,[.len 1])] } [3] Tryz.func97 rfl rfl ?_) fun k _ h=>List.mem_singleton.2 h
  intro hl
  simp only [List.length_map] at hl
  refine z00 (fun h1=>?_) fun h1=>?_
  · have e:((l.length:Int)==want.length)=false:=by simpa using h1
    rw [show z1q f.types set l want=(false,set) by unfold z1q;rw [e];rfl]
    exact ⟨sI,rfl,rfl,trivial⟩
  · have e:((l.length:Int)==want.length)=true:=by simpa using h1
    have hlw:l.length=want.length:=by
      have:=eq_of_beq e
      omega
    rw [show z1q f.types set l want=z1z f.types set l want by unfold z1q;rw [e];rfl]
    refine ⟨Nat × List Bool,fun (k,_)=>[(7,iInt k)],fun (_,S)=>[(4,.row ⟨4,1⟩ (S.map z9z))],fun (k,_)=>l.length - k,fun (k,S)=>k<=l.length/\S.length=set.length/\z1z f.types set l want=z1z f.types S (l.drop k) (want.drop k),[],(0,set),⟨Nat.zero_le _,rfl,rfl⟩,⟨rfl,trivial⟩,⟨rfl,trivial⟩,?_⟩
    rintro ⟨k,S⟩ ⟨hk,hS,hI⟩
    have ln:(S.map z9z).length=(set.map z9z).length:=by rw [List.length_map,List.length_map,hS]
    rw [hI]
    have bx:∀ {n m:Nat},n=m->some (HO.box (y79 u f n))=some (HO.box (y79 u f m)):=fun h=>by rw [h]
    refine z00 (fun hc=>?_) fun hc=>?_
    · have hlt:=z7s (f:=eInt) rfl hc
      obtain ⟨v,hv,_,hd,_⟩:=z69 hlt
      obtain ⟨w,hw,_,hd2,_⟩:=z69 (show k<want.length by omega)
      have iv:=z0a (f:=eInt) hv
      have iw:=z0a (f:=eInt) hw
      rw [hd,hd2,show z1z f.types S (v::l.drop (k+1)) (w::want.drop (k+1))=if z81 f.types S v w then (false,S) else z1z f.types (S.set v.toNat true) (l.drop (k+1)) (want.drop (k+1)) from rfl]
      refine ⟨iv,rfl,z00 (fun h2=>?_) fun h2=>⟨iv,rfl,z00 (fun h3=>?_) fun h3=>?_⟩⟩
      · rw [if_pos (show z81 f.types S v w=true by unfold z81;rw [show decide (v<0)=true from h2];rfl)]
        exact ⟨sI,bx ln.symm,rfl,trivial⟩
      · have e3:decide (v ≥ f.types.length)=true:=by simpa using h3
        rw [if_pos (show z81 f.types S v w=true by unfold z81;rw [e3];simp)]
        exact ⟨sI,bx ln.symm,rfl,trivial⟩
      · have e2:decide (v<0)=false:=h2
        have e3:decide (v ≥ f.types.length)=false:=by simpa using h3
        have v0:0<=v:=by simpa using h2
        have v1:v.toNat<f.types.length:=by
          have:¬ v ≥ f.types.length:=by simpa using e3
          omega
        have it:(f.types.map eInt)[v.toNat]? = some (eInt (f.types.getD v.toNat 0)):=z0a (f:=eInt) (by rw [List.getD_eq_getElem?_getD,List.getElem?_eq_getElem v1];rfl)
        have iS:(S.map z9z)[v.toNat]? = some (z9z (S.getD v.toNat false)):=z0a (f:=z9z) (by rw [List.getD_eq_getElem?_getD,List.getElem?_eq_getElem oM0];rfl)
        have vlt:v.toNat<(set.map z9z).length:=by rw [List.length_map];omega
        have vv:v=(v.toNat:Int):=by omega
        refine ⟨iv,rfl,ln,vlt,vv,?_⟩
        cases h4:S.getD v.toNat false with
        | true =>
          rw [if_pos (show z81 f.types S v w=true by unfold z81;rw [h4];simp)]
          rw [h4] at iS
          exact VRow.mk (i:=v.toNat) (j:=0) ln rfl iS rfl ⟨sI,bx ln.symm,rfl,trivial⟩
        | false =>
          rw [h4] at iS
          refine VRow.mk (i:=v.toNat) (j:=0) ln rfl iS rfl ⟨iw,rfl,z00 (fun h5=>⟨iv,rfl,it,by omega,iw,rfl,z00 (fun h6=>?_) fun h6=>?_⟩) fun h5=>?_⟩
          · have e5:(w != 0)=true:=h5
            have e6:(f.types.getD v.toNat 0 != w)=true:=h6
            rw [if_pos (show z81 f.types S v w=true by unfold z81;rw [e5,e6];simp)]
            exact ⟨sI,bx ln.symm,rfl,trivial⟩
          · have e6:(f.types.getD v.toNat 0 != w)=false:=h6
            have ok:z81 f.types S v w=false:=by unfold z81;rw [e2,e3,h4,e6,Bool.and_false];rfl
            rw [if_neg (by rw [ok];exact Bool.false_ne_true)]
            exact ⟨iv,rfl,ln,vlt,vv,⟨v.toNat,0,z9z false,ln,rfl,iS,by decide,z04 rfl oM0,(k+1,S.set v.toNat true),z10 hlt,⟨hlt,by rw [List.length_set,hS],rfl⟩,⟨rfl,trivial⟩,⟨by rw [List.map_set];rfl,trivial⟩,rfl,rfl,rfl,rfl⟩⟩
          · have e5:(w != 0)=false:=h5
            have ok:z81 f.types S v w=false:=by unfold z81;rw [e2,e3,h4,e5,Bool.false_and];rfl
            rw [if_neg (by rw [ok];exact Bool.false_ne_true)]
            exact ⟨iv,rfl,ln,vlt,vv,⟨v.toNat,0,z9z false,ln,rfl,iS,by decide,z04 rfl oM0,(k+1,S.set v.toNat true),z10 hlt,⟨hlt,by rw [List.length_set,hS],rfl⟩,⟨rfl,trivial⟩,⟨by rw [List.map_set];rfl,trivial⟩,rfl,rfl,rfl,rfl⟩⟩
    · rw [List.drop_eq_nil_of_le (z8k (f:=eInt) rfl hc)]
      exact ⟨sI,bx ln.symm,rfl,trivial⟩
theorem y8c (op:Int):SC Tryz.prog 111 [iInt op] [] (fun _=>False) (iBool (z26 op)) []:=by
  refine SC.of Tryz.func111 rfl (lb rfl) fun F ρ w=>?_
  refine tQ <| tG <| sm 1 rfl <| nL <| tQ <| tG <| sm 3 rfl ?_
  refine wS 5 rfl (fun hb5=>?_) fun hb5=>?_
  ·refine sm 4 rfl <| nL <| tRt <| rOk rfl ?_ nPo
   first | (simp_all [z26];done) | (simp_all [z26];omega)
  refine sm 4 rfl <| nL <| tRt <| rOk rfl ?_ nPo
  first | (simp_all [z26];done) | (simp_all [z26];omega)
theorem y8d (op:Int):SC Tryz.prog 112 [iInt op] [] (fun _=>False) (iBool (z1t op)) []:=by
  refine SC.of Tryz.func112 rfl (lb rfl) fun F ρ w=>?_
  refine tQ <| tG <| sm 1 rfl <| nL <| tQ <| tG <| sm 3 rfl ?_
  refine wS 5 rfl (fun hb5=>?_) fun hb5=>?_
  ·refine sm 4 rfl <| nL <| tRt <| rOk rfl ?_ nPo
   first | (simp_all [z1t];done) | (simp_all [z1t];omega)
  refine sm 4 rfl <| nL <| tRt <| rOk rfl ?_ nPo
  first | (simp_all [z1t];done) | (simp_all [z1t];omega)
theorem zl8 (op:Int):SC Tryz.prog 110 [iInt op] [] (fun _=>False) (.tup [iInt (z09 op).1,iInt (z09 op).2]) []:=by
  refine SC.of Tryz.func110 rfl (lb rfl) fun F ρ w=>?_
  refine tQ <| tG <| sm 2 rfl <| nL <| tQ <| tBk <| tQ <| tG <| sm 3 rfl ?_
  refine wS 7 rfl (fun hb7=>?_) fun hb7=>?_
  ·refine sm 8 rfl <| nL <| Tr.condT rfl <| tQ <| tG <| sm 2 rfl <| nL <| tRt <| rOk rfl ?_ nPo
   first | (simp_all [z09];done) | (simp_all [z09];split<;>first | omega | (simp;done))
  refine sm 4 rfl ?_
  refine wS 11 rfl (fun hb11=>?_) fun hb11=>?_
  ·refine sm 4 rfl <| nL <| Tr.condT rfl <| tQ <| tG <| sm 2 rfl <| nL <| tRt <| rOk rfl ?_ nPo
   first | (simp_all [z09];done) | (simp_all [z09];split<;>first | omega | (simp;done))
  refine sm 4 rfl <| nL ?_
  refine tC rfl (fun hc4=>?_) fun hc4=>?_
  ·refine tQ <| tG <| sm 2 rfl <| nL <| tRt <| rOk rfl ?_ nPo
   first | (simp_all [z09];done) | (simp_all [z09];split<;>first | omega | (simp;done))
  refine tQ <| tG <| sm 3 rfl ?_
  refine wS 18 rfl (fun hb18=>?_) fun hb18=>?_
  ·refine sm 4 rfl <| nL <| Tr.condT rfl <| tQ <| tG <| sm 2 rfl <| nL <| tRt <| rOk rfl ?_ nPo
   first | (simp_all [z09];done) | (simp_all [z09];split<;>first | omega | (simp;done))
  refine sm 4 rfl <| nL ?_
  refine tC rfl (fun hc15=>?_) fun hc15=>?_
  ·refine tQ <| tG <| sm 2 rfl <| nL <| tRt <| rOk rfl ?_ nPo
   first | (simp_all [z09];done) | (simp_all [z09];split<;>first | omega | (simp;done))
  refine tQ <| tG <| sm 3 rfl ?_
  refine wS 25 rfl (fun hb25=>?_) fun hb25=>?_
  ·refine sm 4 rfl <| nL ?_
   refine tC rfl (fun hc22=>?_) fun hc22=>?_
   ·refine tQ <| tG <| sm 2 rfl <| nL <| tRt <| rOk rfl ?_ nPo
    first | (simp_all [z09];done) | (simp_all [z09];split<;>first | omega | (simp;done))
   refine tSk <| tQ <| tG <| sm 2 rfl <| nL <| tRt <| rOk rfl ?_ nPo
   first | (simp_all [z09];done) | (simp_all [z09];split<;>first | omega | (simp;done))
  refine sm 4 rfl <| nL <| Tr.condF rfl <| tSk <| tQ <| tG <| sm 2 rfl <| nL <| tRt <| rOk rfl ?_ nPo
  first | (simp_all [z09];done) | (simp_all [z09];split<;>first | omega | (simp;done))
theorem y57 (u:Un) (f:Fl) (set:List Bool) (l:List Int) (hb:l.length<=1073741824):SC Tryz.prog 95 [.ptr 3 0,.pv (ints l)] (ckHp u f 4 set) (fun k=>k<100) (.pv (ints (r8of f.types l))) (ckHp u f 4 set):=by
  refine SC.of Tryz.func95 rfl (lb rfl) fun F ρ w=>?_
  refine Tr.lenOf (t:=1) rfl (fun hl=>?_)
  simp only [List.length_map] at hl
  rw [yf3]
  refine tQ <| tG <| sm 1 rfl <| nL <| tQ <| tG <| sm 1 rfl <| nL <| tQ <| tQ <| tG <| sm 1 rfl ?_
  refine nL <| tBk <| Tr.grow (t:=5) (k:=105) ⟨3,1⟩ rfl rfl rfl rfl rfl <| Tr.sub (Sub.of (fr':=[(6,iInt 0),(5,.sl 105 0),(0,.ptr 3 0),(1,.pv (ints l))]) ⟨rfl,rfl,rfl,rfl,trivial⟩) ?_
  refine Tr.loop (fun fr σ m=>∃ (k:Nat) (st:List Int),(k<=l.length)/\(st.length=k)/\(z71 f.types [] l=z71 f.types st (l.drop k))/\fr=[(6,iInt k),(5,.sl 105 k),(0,.ptr 3 0),(1,.pv (ints l))] /\ σ = look ((105,some (.row ⟨3,1⟩ (st.map eInt)))::up (ckHp u f 4 set))/\m=l.length - k) (n:=l.length - 0) ?_ ?_
  ·exact ⟨0,[],Nat.zero_le _,rfl,rfl,rfl,rfl,rfl⟩
  rintro fr σ m ⟨k,st,hI0,hI1,hI2,rfl,rfl,rfl⟩
  refine tQ <| tQ <| tG <| sm 2 rfl <| cV rfl (oSm uT35 rfl) <| sm 1 rfl <| nL ?_
  refine tC rfl (fun hc10=>?_) fun hc10=>?_
  ·have hlt:k<l.length:=by simpa using hc10
   have hd:=List.drop_eq_getElem_cons hlt
   have hm:=List.getElem_mem hlt
   have hi:=z0a (f:=eInt) (List.getElem?_eq_getElem hlt)
   generalize l[k]=x at hd hm hi
   refine tSk <| tQ <| tBk <| tQ <| tQ <| Tr.still z78 kR0 rfl <| smS 2 rfl <| sV rfl (iSq rfl rfl rfl uT35 hi tS3 rfl (by rfl)) <| smS 3 rfl ?_
   refine WS.split (t:=18) rfl (fun hb18=>?_) (fun hb18=>?_)
   ·refine smS 12 rfl <| WS.nil <| Tr.condT rfl <| tQ <| tG <| sm 1 rfl <| nL <| tRt ?_
    have hin:z79 f.types x=false:=by simp [z79] at *;omega
    rw [hI2,hd]
    simp only [z71,hin]
    exact ⟨⟨_,rfl,fun _ _ _ _ h=>y5g h⟩,(po2 rfl rfl)⟩
   refine smS 2 rfl <| syV rfl rfl (iSq rfl rfl rfl uT35 hi tS3 rfl (by rfl)) <| smS 2 rfl <| syV rfl rfl (nCk rfl rfl rfl) <| smS 3 rfl <| syV rfl rfl (oSm uT35 rfl) <| smS 2 rfl <| WS.nil ?_
   refine tC rfl (fun hc30=>?_) fun hc30=>?_
   ·refine tQ <| tG <| sm 1 rfl <| nL <| tRt ?_
    have hin:z79 f.types x=false:=by simp [z79] at *;omega
    rw [hI2,hd]
    simp only [z71,hin]
    exact ⟨⟨_,rfl,fun _ _ _ _ h=>y5g h⟩,(po2 rfl rfl)⟩
   have hv0:x.toNat<f.types.length:=by simp at *;omega
   have hvx:x=((x.toNat:Nat):Int):=by simp at *;omega
   have hin:z79 f.types x=true:=by simp [z79];omega
   have hty:(f.types.map eInt)[x.toNat]? = some [vInt (f.types.getD x.toNat 0)]:=by rw [List.getElem?_map];simp [eInt,List.getD,hv0]
   refine tSk <| tDr z78 (fun k=>k<100) <| wR 3 [0,1,2,3,4,5,6,7,8,9,10,11] kR0 h30 <| smR 2 rfl <| rV rfl rfl (nCk rfl rfl rfl) <| smR 2 rfl <| rV rfl rfl (oLb uT35 rfl rfl rfl dC0) <| smR 2 rfl <| rV rfl rfl (iSq rfl rfl rfl uT35 (by assumption) tS3 rfl (by rfl)) <| smR 1 rfl <| rV rfl rfl (iSq rfl rfl rfl uT35 hty tS3 rfl oM0) <| smR 1 rfl ?_
   refine nR <| wO 12 kR0 <| wI rfl rfl (fun k (h:_)=>h) nw (fun _ _=>bSl rfl rfl uT35 tZ3 tS3 rfl rfl rfl rfl (fbk rfl) rfl) <| wO 13 kR0 ?_
   refine wI rfl rfl (fun k (h:_)=>h) (nOl rfl) (fun _ _=>aPp rfl rfl rfl rfl (by (simp;omega)) sI0 uT35 tB3 dC0 (by simp [z08]) (by (simp [z08,PV.one];rfl)) (by simp [maxLen,z08];omega) (by simp [z08];omega)) ?_
   refine wR 0 [14] kR0 h30 <| smR 1 rfl <| nR <| wDn kR0 <| tG <| sm 1 rfl <| cV rfl (oB rfl rfl (z04 rfl oM0)) <| sm 1 rfl <| nL ?_
   refine ⟨_,_,?_,Sub.of (fr':=[(6,iInt (k+1)),(5,.sl 105 (k+1)),(0,.ptr 3 0),(1,.pv (ints l))]) ⟨rfl,rfl,rfl,rfl,trivial⟩,(k+1),(st++[f.types.getD x.toNat 0]),?_,?_,?_,rfl,y07,rfl⟩
   ·omega
   ·omega
   ·simp [hI1]
   rw [hI2,hd]
   simp [z71,hin]
  refine tEx <| tQ ?_
  refine Tr.freeze (t:=5) (k:=105) rfl rfl (by simpa using hI1) ?_
  refine tG <| sm 2 rfl <| nL <| tRt <| rOk rfl ?_ (po2 rfl rfl)
  have hge:l.length<=k:=by simpa using hc10
  rw [hI2,List.drop_eq_nil_of_le hge]
  rfl
set_option maxRecDepth 20000
set_option maxHeartbeats 2000000
theorem y4t {u:Un} {f:Fl} {set:List Bool} {x:Nd} {seen:List Int} {g:Fl} (h:z05 x.name u.flows 0 ≥ 0) (hg:u.flows[(z05 x.name u.flows 0).toNat]? = some g) :
    z9a u f set x seen=andS (z03 f.types seen x.args (g.types.take g.params.toNat)) set (z1q f.types set x.outs [g.ty]):=by
  unfold z9a
  rw [if_pos (decide_eq_true h),hg]
theorem y4s {u:Un} {f:Fl} {set:List Bool} {x:Nd} {seen:List Int} (h:decide (z05 x.name u.flows 0 ≥ 0)=false):z9a u f set x seen=(false,set):=by
  unfold z9a
  rw [h];rfl
theorem y58 (u:Un) (f:Fl) (set:List Bool) (hs:set.length=f.types.length) (hg:∀ g∈u.flows,0<=g.params/\g.params<=g.types.length) (x:Nd) (seen:List Int) (wh:Wh):SC Tryz.prog 98 [.ptr 3 0,.pv (ndv x),.pv (ints seen),.pv (whv wh)] (ckHp u f 4 set) (fun k=>k=3) (iBool (z1c u f set x seen wh).1) (ckHp u f 4 (z1c u f set x seen wh).2):=by
  refine SC.sameR (SC.vc tb {} [3] Tryz.func98 rfl rfl ?_) fun k _ h=>List.mem_singleton.2 h
  obtain ⟨kind,op,n,name,args,outs,params,kids⟩:=x
  rcases (show kind=1∨kind=2∨kind=3∨kind=4∨kind=5∨kind=6∨kind=7∨kind=9∨kind=8∨kind=12∨kind=13∨kind=14∨kind=15∨(kind≠1/\kind≠2/\kind≠3/\kind≠4/\kind≠5/\kind≠6/\kind≠7/\kind≠8/\kind≠9/\kind≠12/\kind≠13/\kind≠14/\kind≠15) by omega) with rfl | rfl | rfl | rfl | rfl | rfl | rfl | rfl | rfl | rfl | rfl | rfl | rfl | hk
  · have hT:=z21 u f set args seen []
    have hS:=z45 u f set outs [1] hs
    rw [show z1c u f set ⟨1,op,n,name,args,outs,params,kids⟩ seen wh=andS (z03 f.types seen args []) set (z1q f.types set outs [1]) from rfl]
    generalize z03 f.types seen args []=b at hT ⊢
    cases b with
    | true=>exact ⟨[3,4],hT,SubA.same (SubA.same (SubA.same (SubA.cons sN sR))),⟨rfl,rfl,trivial,rfl,rfl,trivial⟩,rfl,[],hS,sR,⟨rfl,rfl,rfl,trivial⟩,rfl,sI,rfl,rfl,trivial⟩
    | false=>exact ⟨[3,4],hT,SubA.same (SubA.same (SubA.same (SubA.cons sN sR))),⟨rfl,rfl,trivial,rfl,rfl,trivial⟩,rfl,sI,rfl,rfl,trivial⟩
  · have hT:=z21 u f set args seen []
    have hS:=z45 u f set outs [2] hs
    rw [show z1c u f set ⟨2,op,n,name,args,outs,params,kids⟩ seen wh=andS ((n==0||n==1)&&z03 f.types seen args []) set (z1q f.types set outs [2]) from rfl]
    generalize z03 f.types seen args []=b at hT ⊢
    refine z00 (fun h0=>?_) fun h0=>?_
    · rw [show (n==0)=true from h0]
      cases b with
      | true=>exact ⟨[3,4],hT,SubA.same (SubA.same (SubA.same (SubA.cons sN sR))),⟨rfl,rfl,trivial,rfl,rfl,trivial⟩,rfl,[],hS,sR,⟨rfl,rfl,rfl,trivial⟩,rfl,sI,rfl,rfl,trivial⟩
      | false=>exact ⟨[3,4],hT,SubA.same (SubA.same (SubA.same (SubA.cons sN sR))),⟨rfl,rfl,trivial,rfl,rfl,trivial⟩,rfl,sI,rfl,rfl,trivial⟩
    · rw [show (n==0)=false from h0]
      refine z00 (fun h1=>?_) fun h1=>?_
      · rw [show (n==1)=true from h1]
        cases b with
        | true=>exact ⟨[3,4],hT,SubA.same (SubA.same (SubA.same (SubA.cons sN sR))),⟨rfl,rfl,trivial,rfl,rfl,trivial⟩,rfl,[],hS,sR,⟨rfl,rfl,rfl,trivial⟩,rfl,sI,rfl,rfl,trivial⟩
        | false=>exact ⟨[3,4],hT,SubA.same (SubA.same (SubA.same (SubA.cons sN sR))),⟨rfl,rfl,trivial,rfl,rfl,trivial⟩,rfl,sI,rfl,rfl,trivial⟩
      · rw [show (n==1)=false from h1]
        exact ⟨sI,rfl,rfl,trivial⟩
  · have hO:=zl8 op
    have hT:=z21 u f set args seen [(z09 op).1]
    have hS:=z45 u f set outs [(z09 op).2] hs
    have hI:=y8c op
    rw [show z1c u f set ⟨3,op,n,name,args,outs,params,kids⟩ seen wh=andS (z26 op&&z03 f.types seen args [(z09 op).1]) set (z1q f.types set outs [(z09 op).2]) from rfl]
    generalize z03 f.types seen args [(z09 op).1]=b at hT ⊢
    generalize z26 op=q at hI ⊢
    cases q with
    | true =>
      cases b with
      | true=>exact ⟨[],hO,sR,trivial,rfl,[],hI,sR,trivial,rfl,[3,4],hT,sR,⟨rfl,rfl,trivial,rfl,rfl,trivial⟩,rfl,[],hS,sR,⟨rfl,rfl,rfl,trivial⟩,rfl,sI,rfl,rfl,trivial⟩
      | false=>exact ⟨[],hO,sR,trivial,rfl,[],hI,sR,trivial,rfl,[3,4],hT,sR,⟨rfl,rfl,trivial,rfl,rfl,trivial⟩,rfl,sI,rfl,rfl,trivial⟩
    | false=>exact ⟨[],hO,sR,trivial,rfl,[],hI,sR,trivial,rfl,sI,rfl,rfl,trivial⟩
  · have hO:=zl8 op
    have hT:=z21 u f set args seen [(z09 op).1,(z09 op).1]
    have hS:=z45 u f set outs [(z09 op).2] hs
    have hI:=y8d op
    rw [show z1c u f set ⟨4,op,n,name,args,outs,params,kids⟩ seen wh=andS (z1t op&&z03 f.types seen args [(z09 op).1,(z09 op).1]&&f.types.getD (args.getD 0 0).toNat 0==f.types.getD (args.getD 1 0).toNat 0) set (z1q f.types set outs [(z09 op).2]) from rfl]
    cases hb:z03 f.types seen args [(z09 op).1,(z09 op).1] with
    | false =>
      rw [hb] at hT
      generalize z1t op=q at hI ⊢
      cases q with
      | true=>exact ⟨[],hO,sR,trivial,rfl,[],hI,sR,trivial,rfl,[3,4],hT,sR,⟨rfl,rfl,trivial,rfl,rfl,trivial⟩,rfl,sI,rfl,rfl,trivial⟩
      | false=>exact ⟨[],hO,sR,trivial,rfl,[],hI,sR,trivial,rfl,sI,rfl,rfl,trivial⟩
    | true =>
      rw [hb] at hT
      obtain ⟨a,b,rfl,a0,a1,b0,b1⟩:=y4v hb
      have ga:f.types[a.toNat]? = some (f.types.getD a.toNat 0):=by rw [List.getD_eq_getElem?_getD,List.getElem?_eq_getElem a1];rfl
      have gb:f.types[b.toNat]? = some (f.types.getD b.toNat 0):=by rw [List.getD_eq_getElem?_getD,List.getElem?_eq_getElem b1];rfl
      generalize z1t op=q at hI ⊢
      cases q with
      | false=>exact ⟨[],hO,sR,trivial,rfl,[],hI,sR,trivial,rfl,sI,rfl,rfl,trivial⟩
      | true =>
        rw [show ([a,b].getD 0 0:Int)=a from rfl,show ([a,b].getD 1 0:Int)=b from rfl]
        refine ⟨[],hO,sR,trivial,rfl,[],hI,sR,trivial,rfl,[3,4],hT,sR,⟨rfl,rfl,trivial,rfl,rfl,trivial⟩,rfl,at0 (a:=eInt a),rfl,z0a (f:=eInt) ga,by omega,at1 (b:=eInt b),rfl,z0a (f:=eInt) gb,by omega,z00 (fun h=>?_) fun h=>?_⟩
        · rw [show (f.types.getD a.toNat 0==f.types.getD b.toNat 0)=true from h]
          exact ⟨[],hS,sR,⟨rfl,rfl,rfl,trivial⟩,rfl,sI,rfl,rfl,trivial⟩
        · rw [show (f.types.getD a.toNat 0==f.types.getD b.toNat 0)=false from h]
          exact ⟨sI,rfl,rfl,trivial⟩
  · have hA:=z0w u name
    have hT:=z21 u f set args seen [1]
    have hS:=z45 u f set outs [1] hs
    rw [show z1c u f set ⟨5,op,n,name,args,outs,params,kids⟩ seen wh=andS (decide (z0i name u.arrays 0 ≥ 0)&&z03 f.types seen args [1]) set (z1q f.types set outs [1]) from rfl]
    generalize z03 f.types seen args [1]=b at hT ⊢
    refine ⟨[],hA,sR,trivial,rfl,z00 (fun h=>?_) fun h=>?_⟩
    · rw [show decide (z0i name u.arrays 0 ≥ 0)=true from h]
      cases b with
      | true=>exact ⟨[3,4],hT,sR,⟨rfl,rfl,trivial,rfl,rfl,trivial⟩,rfl,[],hS,sR,⟨rfl,rfl,rfl,trivial⟩,rfl,sI,rfl,rfl,trivial⟩
      | false=>exact ⟨[3,4],hT,sR,⟨rfl,rfl,trivial,rfl,rfl,trivial⟩,rfl,sI,rfl,rfl,trivial⟩
    · rw [show decide (z0i name u.arrays 0 ≥ 0)=false from h]
      exact ⟨sI,rfl,rfl,trivial⟩
  · have hA:=z0w u name
    have hT:=z21 u f set args seen [1,1]
    rw [show z1c u f set ⟨6,op,n,name,args,outs,params,kids⟩ seen wh=(decide (z0i name u.arrays 0 ≥ 0)&&z03 f.types seen args [1,1]&&(outs.length:Int)==0,set) from rfl]
    generalize z03 f.types seen args [1,1]=b at hT ⊢
    refine ⟨[],hA,sR,trivial,rfl,z00 (fun h=>?_) fun h=>?_⟩
    · rw [show decide (z0i name u.arrays 0 ≥ 0)=true from h]
      cases b with
      | true=>exact ⟨[3,4],hT,sR,⟨rfl,rfl,trivial,rfl,rfl,trivial⟩,rfl,sE (by simp [Nd.outs]),rfl,rfl,trivial⟩
      | false=>exact ⟨[3,4],hT,sR,⟨rfl,rfl,trivial,rfl,rfl,trivial⟩,rfl,sI,rfl,rfl,trivial⟩
    · rw [show decide (z0i name u.arrays 0 ≥ 0)=false from h]
      exact ⟨sI,rfl,rfl,trivial⟩
  · have hP:=z4i u name
    rw [show z1c u f set ⟨7,op,n,name,args,outs,params,kids⟩ seen wh=z9a u f set ⟨7,op,n,name,args,outs,params,kids⟩ seen from rfl]
    cases hp:decide (z05 name u.flows 0 ≥ 0) with
    | true =>
      have h0:z05 name u.flows 0 ≥ 0:=by simpa using hp
      obtain ⟨g,hgk,_⟩:=z9r h0
      rw [show z9a u f set ⟨7,op,n,name,args,outs,params,kids⟩ seen=andS (z03 f.types seen args (g.types.take g.params.toNat)) set (z1q f.types set outs [g.ty]) from y4t h0 hgk]
      obtain ⟨g0,g1⟩:=hg g (List.mem_of_getElem? hgk)
      have hT:=z21 u f set args seen (g.types.take g.params.toNat)
      have hS:=z45 u f set outs [g.ty] hs
      have hi:=z0a (f:=Fl.enc) hgk
      generalize z03 f.types seen args (g.types.take g.params.toNat)=b at hT ⊢
      cases b with
      | true=>exact ⟨[],hP,sR,trivial,rfl,z00 (fun _=>⟨hi,by omega,hi,by omega,g.params.toNat,by omega,by omega,by simp;omega,z5p,[3,4],hT,SubA.same (SubA.same (SubA.same (SubA.cons (sE (by simp [ints])) sR))),⟨rfl,rfl,trivial,rfl,rfl,trivial⟩,rfl,hi,by omega,[],hS,sR,⟨rfl,rfl,rfl,trivial⟩,rfl,sI,rfl,rfl,trivial⟩) fun h=>absurd (hp.symm.trans h) dC0⟩
      | false=>exact ⟨[],hP,sR,trivial,rfl,z00 (fun _=>⟨hi,by omega,hi,by omega,g.params.toNat,by omega,by omega,by simp;omega,z5p,[3,4],hT,SubA.same (SubA.same (SubA.same (SubA.cons (sE (by simp [ints])) sR))),⟨rfl,rfl,trivial,rfl,rfl,trivial⟩,rfl,sI,rfl,rfl,trivial⟩) fun h=>absurd (hp.symm.trans h) dC0⟩
    | false =>
      rw [show z9a u f set ⟨7,op,n,name,args,outs,params,kids⟩ seen=(false,set) from y4s hp]
      exact ⟨[],hP,sR,trivial,rfl,z00 (fun h=>absurd (hp.symm.trans h) dC0) fun _=>⟨sI,rfl,rfl,trivial⟩⟩
  · have hT:=z21 u f set args seen [1]
    rw [show z1c u f set ⟨9,op,n,name,args,outs,params,kids⟩ seen wh=(z03 f.types seen args [1]&&(outs.length:Int)==0,set) from rfl]
    generalize z03 f.types seen args [1]=b at hT ⊢
    cases b with
    | true=>exact ⟨[3,4],hT,sR,⟨rfl,rfl,trivial,rfl,rfl,trivial⟩,rfl,sE (by simp [Nd.outs]),rfl,rfl,trivial⟩
    | false=>exact ⟨[3,4],hT,sR,⟨rfl,rfl,trivial,rfl,rfl,trivial⟩,rfl,sI,rfl,rfl,trivial⟩
  · have hS:=z45 u f set outs [1] hs
    rw [show z1c u f set ⟨8,op,n,name,args,outs,params,kids⟩ seen wh=andS ((args.length:Int)==0) set (z1q f.types set outs [1]) from rfl]
    refine z00 (fun h=>?_) fun h=>?_
    · rw [show ((args.length:Int)==0)=true by simpa [Nd.args] using h]
      exact ⟨[],hS,sR,⟨rfl,rfl,rfl,trivial⟩,rfl,sI,rfl,rfl,trivial⟩
    · rw [show ((args.length:Int)==0)=false by simpa [Nd.args] using h]
      exact ⟨sI,rfl,rfl,trivial⟩
  · obtain ⟨If,Loop,Yield,Next,Left⟩:=wh
    have hT:=z21 u f set args seen Yield
    rw [show z1c u f set ⟨12,op,n,name,args,outs,params,kids⟩ seen ⟨If,Loop,Yield,Next,Left⟩=(If&&z03 f.types seen args Yield&&(outs.length:Int)==0,set) from rfl]
    generalize z03 f.types seen args Yield=b at hT ⊢
    cases If with
    | true =>
      cases b with
      | true=>exact ⟨[3,4],hT,sR,⟨rfl,rfl,trivial,rfl,rfl,trivial⟩,rfl,sE (by simp [Nd.outs]),rfl,rfl,trivial⟩
      | false=>exact ⟨[3,4],hT,sR,⟨rfl,rfl,trivial,rfl,rfl,trivial⟩,rfl,sI,rfl,rfl,trivial⟩
    | false=>exact ⟨sI,rfl,rfl,trivial⟩
  · obtain ⟨If,Loop,Yield,Next,Left⟩:=wh
    have hT:=z21 u f set args seen Next
    rw [show z1c u f set ⟨13,op,n,name,args,outs,params,kids⟩ seen ⟨If,Loop,Yield,Next,Left⟩=(Loop&&z03 f.types seen args Next&&(outs.length:Int)==0,set) from rfl]
    generalize z03 f.types seen args Next=b at hT ⊢
    cases Loop with
    | true =>
      cases b with
      | true=>exact ⟨[3,4],hT,sR,⟨rfl,rfl,trivial,rfl,rfl,trivial⟩,rfl,sE (by simp [Nd.outs]),rfl,rfl,trivial⟩
      | false=>exact ⟨[3,4],hT,sR,⟨rfl,rfl,trivial,rfl,rfl,trivial⟩,rfl,sI,rfl,rfl,trivial⟩
    | false=>exact ⟨sI,rfl,rfl,trivial⟩
  · obtain ⟨If,Loop,Yield,Next,Left⟩:=wh
    have hT:=z21 u f set args seen Left
    rw [show z1c u f set ⟨14,op,n,name,args,outs,params,kids⟩ seen ⟨If,Loop,Yield,Next,Left⟩=(Loop&&z03 f.types seen args Left&&(outs.length:Int)==0,set) from rfl]
    generalize z03 f.types seen args Left=b at hT ⊢
    cases Loop with
    | true =>
      cases b with
      | true=>exact ⟨[3,4],hT,sR,⟨rfl,rfl,trivial,rfl,rfl,trivial⟩,rfl,sE (by simp [Nd.outs]),rfl,rfl,trivial⟩
      | false=>exact ⟨[3,4],hT,sR,⟨rfl,rfl,trivial,rfl,rfl,trivial⟩,rfl,sI,rfl,rfl,trivial⟩
    | false=>exact ⟨sI,rfl,rfl,trivial⟩
  · have hT:=z21 u f set args seen [f.ty]
    rw [show z1c u f set ⟨15,op,n,name,args,outs,params,kids⟩ seen wh=(z03 f.types seen args [f.ty]&&(outs.length:Int)==0,set) from rfl]
    generalize z03 f.types seen args [f.ty]=b at hT ⊢
    cases b with
    | true=>exact ⟨[3,4],hT,sR,⟨rfl,rfl,trivial,rfl,rfl,trivial⟩,rfl,sE (by simp [Nd.outs]),rfl,rfl,trivial⟩
    | false=>exact ⟨[3,4],hT,sR,⟨rfl,rfl,trivial,rfl,rfl,trivial⟩,rfl,sI,rfl,rfl,trivial⟩
  · obtain ⟨k1,k2,k3,k4,k5,k6,k7,k8,k9,k12,k13,k14,k15⟩:=hk
    have no:∀ {i:Int},kind≠i->(kind==i)=true->False:=fun h e=>h (eq_of_beq e)
    have ne:∀ {i:Int},kind≠i->(kind==i)=false:=fun h=>beq_eq_false_iff_ne.2 h
    rw [show z1c u f set ⟨kind,op,n,name,args,outs,params,kids⟩ seen wh=(false,set) by unfold z1c;simp only [Nd.kind,ne k1,ne k2,ne k3,ne k4,ne k5,ne k6,ne k7,ne k8,ne k9,ne k12,ne k13,ne k14,ne k15];rfl]
    exact z00 (fun h=>(no k1 h).elim) fun _=>z00 (fun h=>(no k2 h).elim) fun _=>z00 (fun h=>(no k3 h).elim) fun _=>z00 (fun h=>(no k4 h).elim) fun _=>z00 (fun h=>(no k5 h).elim) fun _=>z00 (fun h=>(no k6 h).elim) fun _=>z00 (fun h=>(no k7 h).elim) fun _=>z00 (fun h=>(no k8 h).elim) fun _=>z00 (fun h=>(no k9 h).elim) fun _=>z00 (fun h=>(no k12 h).elim) fun _=>z00 (fun h=>(no k13 h).elim) fun _=>z00 (fun h=>(no k14 h).elim) fun _=>z00 (fun h=>(no k15 h).elim) fun _=>⟨sI,rfl,rfl,trivial⟩
set_option maxRecDepth 20000
set_option maxHeartbeats 4000000
theorem yh1 (u:Un) (f:Fl) (hg:∀ g∈u.flows,0<=g.params/\g.params<=g.types.length) (x:Nd) (deep:Int) (hd:0<=deep/\deep<=100) (wh:Wh) (seen:List Int) (set:List Bool) (hs:set.length=f.types.length) (hb:seen.length+ndW x<=1073741824) (ih:∀ q∈x.kids,∀ (deep:Int) (w:Wh) (all:List Int) (set:List Bool),0<=deep/\deep<=101->set.length=f.types.length->all.length+lsW q<=1073741824->SC Tryz.prog 49 [.ptr 3 0,.pv (z0o q),.pv (ints all),.pv (whv w),iInt deep] (ckHp u f 4 set) (fun k=>k=3) (iBool (z1p u f deep w all set q).1) (ckHp u f 4 (z1p u f deep w all set q).2)):SC Tryz.prog 74 [.ptr 3 0,.pv (ndv x),.pv (ints seen),.pv (whv wh),iInt deep] (ckHp u f 4 set) (fun k=>k=3) (iBool (z31 u f deep wh seen set x).1) (ckHp u f 4 (z31 u f deep wh seen set x).2):=by
  refine SC.sameR (SC.vc tb { pb:=[182,213,252],gh:=[(15,[.fz 14 219])] } [3] Tryz.func74 rfl rfl ?_) fun k _ h=>List.mem_singleton.2 h
  have hbW:=z92 x
  have hbo:x.outs.length<=1073741824:=by omega
  have hbp:x.params.length<=1073741824:=by omega
  have hml:((x.outs.map eInt).length:Int)=x.outs.length:=by simp
  have hBare:=yg9 x
  cases hbr:z11 x with
  | false =>
    rw [hbr] at hBare
    rw [zc3 u f deep wh seen set hbr]
    exact ⟨[],hBare,sR,trivial,rfl,sI,rfl,rfl,trivial⟩
  | true =>
    rw [hbr] at hBare
    by_cases h10:x.kind=10
    · obtain ⟨a,b,hk⟩:=z2x hbr h10
      rw [zs3 u f deep wh seen set hbr h10 hk]
      have k0:(x.kids.map eKid)[0]? = some [z0o a]:=by rw [hk];rfl
      have k1:(x.kids.map eKid)[1]? = some [z0o b]:=by rw [hk];rfl
      have hkw:kdW x.kids=1+lsW a+(1+lsW b+0):=by rw [hk];rfl
      have hO:=y57 u f set x.outs hbo
      have hT:=z21 u f set x.args seen [2]
      generalize z03 f.types seen x.args [2]=tb at hT ⊢
      cases tb with
      | false=>exact ⟨[],hBare,sR,trivial,rfl,z00 (fun _=>⟨[3,4],hO,sR,⟨rfl,rfl,by decide,rfl,rfl,trivial⟩,rfl,[3,4],hT,sR,⟨rfl,rfl,trivial,rfl,rfl,trivial⟩,rfl,sI,rfl,rfl,trivial⟩) fun h=>absurd (beq_iff_eq.2 h10) (by rw [h];decide)⟩
      | true =>
        rw [if_pos rfl]
        have hA:=ih a (by rw [hk];exact .head _) (deep+1) ⟨true,wh.Loop,r8of f.types x.outs,wh.Next,wh.Left⟩ seen set oM0 hs oM0
        have hl1:=(z5x u f (deep+1) ⟨true,wh.Loop,r8of f.types x.outs,wh.Next,wh.Left⟩ seen set a).trans hs
        generalize z1p u f (deep+1) ⟨true,wh.Loop,r8of f.types x.outs,wh.Next,wh.Left⟩ seen set a=ra at hA hl1 ⊢
        obtain ⟨ba,s1⟩:=ra
        cases ba with
        | false=>exact ⟨[],hBare,sR,trivial,rfl,z00 (fun _=>⟨[3,4],hO,sR,⟨rfl,rfl,by decide,rfl,rfl,trivial⟩,rfl,[3,4],hT,sR,⟨rfl,rfl,trivial,rfl,rfl,trivial⟩,rfl,k0,rfl,z04 rfl oM0,[],hA,sR,⟨rfl,rfl,rfl,trivial⟩,rfl,sI,rfl,rfl,trivial⟩) fun h=>absurd (beq_iff_eq.2 h10) (by rw [h];decide)⟩
        | true =>
          unfold andT
          rw [if_pos rfl]
          dsimp only at hl1
          have hB:=ih b (by rw [hk];exact .tail _ (.head _)) (deep+1) ⟨true,wh.Loop,r8of f.types x.outs,wh.Next,wh.Left⟩ seen s1 oM0 hl1 oM0
          have hl2:=(z5x u f (deep+1) ⟨true,wh.Loop,r8of f.types x.outs,wh.Next,wh.Left⟩ seen s1 b).trans hl1
          dsimp only
          generalize z1p u f (deep+1) ⟨true,wh.Loop,r8of f.types x.outs,wh.Next,wh.Left⟩ seen s1 b=rb at hB hl2 ⊢
          obtain ⟨bb,s2⟩:=rb
          cases bb with
          | false=>exact ⟨[],hBare,sR,trivial,rfl,z00 (fun _=>⟨[3,4],hO,sR,⟨rfl,rfl,by decide,rfl,rfl,trivial⟩,rfl,[3,4],hT,sR,⟨rfl,rfl,trivial,rfl,rfl,trivial⟩,rfl,k0,rfl,z04 rfl oM0,[],hA,sR,⟨rfl,rfl,rfl,trivial⟩,rfl,k1,rfl,z04 rfl oM0,[],hB,sR,⟨rfl,rfl,rfl,trivial⟩,rfl,sI,rfl,rfl,trivial⟩) fun h=>absurd (beq_iff_eq.2 h10) (by rw [h];decide)⟩
          | true =>
            rw [if_pos rfl]
            dsimp only at hl2 ⊢
            have hE:=z45 u f s2 x.outs (List.replicate x.outs.length 0) hl2
            have hC:=z4b x
            unfold za1
            generalize z01 x=cl at hC ⊢
            cases ho:((x.outs.length:Int)==0) with
            | true=>exact ⟨[],hBare,sR,trivial,rfl,z00 (fun _=>⟨[3,4],hO,sR,⟨rfl,rfl,by decide,rfl,rfl,trivial⟩,rfl,[3,4],hT,sR,⟨rfl,rfl,trivial,rfl,rfl,trivial⟩,rfl,k0,rfl,z04 rfl oM0,[],hA,sR,⟨rfl,rfl,rfl,trivial⟩,rfl,k1,rfl,z04 rfl oM0,[],hB,sR,⟨rfl,rfl,rfl,trivial⟩,rfl,z00 (fun _=>⟨rfl,rfl,by simp;omega,[],hE,SubA.same (SubA.same (SubA.cons (sE (by simp [ints,eInt];exact .inr rfl)) sR)),⟨rfl,rfl,rfl,trivial⟩,rfl,sI,rfl,rfl,trivial⟩) fun h=>absurd (ho.symm.trans (show ((x.outs.length:Int)==0)=false by rw [hml] at h;exact h)) dC0⟩) fun h=>absurd (beq_iff_eq.2 h10) (by rw [h];decide)⟩
            | false =>
              cases cl with
              | true=>exact ⟨[],hBare,sR,trivial,rfl,z00 (fun _=>⟨[3,4],hO,sR,⟨rfl,rfl,by decide,rfl,rfl,trivial⟩,rfl,[3,4],hT,sR,⟨rfl,rfl,trivial,rfl,rfl,trivial⟩,rfl,k0,rfl,z04 rfl oM0,[],hA,sR,⟨rfl,rfl,rfl,trivial⟩,rfl,k1,rfl,z04 rfl oM0,[],hB,sR,⟨rfl,rfl,rfl,trivial⟩,rfl,z00 (fun h=>absurd (ho.symm.trans (show ((x.outs.length:Int)==0)=true by rw [hml] at h;exact h)) dC0) fun _=>⟨[],hC,sR,trivial,rfl,sI,rfl,rfl,trivial⟩⟩) fun h=>absurd (beq_iff_eq.2 h10) (by rw [h];decide)⟩
              | false=>exact ⟨[],hBare,sR,trivial,rfl,z00 (fun _=>⟨[3,4],hO,sR,⟨rfl,rfl,by decide,rfl,rfl,trivial⟩,rfl,[3,4],hT,sR,⟨rfl,rfl,trivial,rfl,rfl,trivial⟩,rfl,k0,rfl,z04 rfl oM0,[],hA,sR,⟨rfl,rfl,rfl,trivial⟩,rfl,k1,rfl,z04 rfl oM0,[],hB,sR,⟨rfl,rfl,rfl,trivial⟩,rfl,z00 (fun h=>absurd (ho.symm.trans (show ((x.outs.length:Int)==0)=true by rw [hml] at h;exact h)) dC0) fun _=>⟨[],hC,sR,trivial,rfl,rfl,rfl,by simp;omega,[],hE,SubA.same (SubA.same (SubA.cons (sE (by simp [ints,eInt];exact .inr rfl)) sR)),⟨rfl,rfl,rfl,trivial⟩,rfl,sI,rfl,rfl,trivial⟩⟩) fun h=>absurd (beq_iff_eq.2 h10) (by rw [h];decide)⟩
    by_cases h11:x.kind=11
    · obtain ⟨a,hk⟩:=z1u hbr h11
      rw [zc4 u f deep wh seen set hbr h11 hk]
      have k0:(x.kids.map eKid)[0]? = some [z0o a]:=by rw [hk];rfl
      have hkw:kdW x.kids=1+lsW a+0:=by rw [hk];rfl
      have hP:=y57 u f set x.params hbp
      have hO:=y57 u f set x.outs hbo
      have hT:=z21 u f set x.args seen (r8of f.types x.params)
      generalize z03 f.types seen x.args (r8of f.types x.params)=tb at hT ⊢
      cases tb with
      | false=>exact ⟨[],hBare,sR,trivial,rfl,z00 (fun h=>absurd (eq_of_beq h) h10) fun _=>z00 (fun _=>⟨[3,4],hP,sR,⟨rfl,rfl,by decide,rfl,rfl,trivial⟩,rfl,[3,4],hO,sR,⟨rfl,rfl,by decide,rfl,rfl,trivial⟩,rfl,[3,4],hP,sR,⟨rfl,rfl,by decide,rfl,rfl,trivial⟩,rfl,[3,4],hT,sR,⟨rfl,rfl,trivial,rfl,rfl,trivial⟩,rfl,sI,rfl,rfl,trivial⟩) fun h=>absurd (beq_iff_eq.2 h11) (by rw [h];decide)⟩
      | true =>
        rw [if_pos rfl]
        have hS:=z45 u f set x.params (List.replicate x.params.length 0) hs
        have hl1:=(z5y f.types set x.params (List.replicate x.params.length 0)).trans hs
        generalize z1q f.types set x.params (List.replicate x.params.length 0)=rs at hS hl1 ⊢
        obtain ⟨bs,s1⟩:=rs
        cases bs with
        | false=>exact ⟨[],hBare,sR,trivial,rfl,z00 (fun h=>absurd (eq_of_beq h) h10) fun _=>z00 (fun _=>⟨[3,4],hP,sR,⟨rfl,rfl,by decide,rfl,rfl,trivial⟩,rfl,[3,4],hO,sR,⟨rfl,rfl,by decide,rfl,rfl,trivial⟩,rfl,[3,4],hP,sR,⟨rfl,rfl,by decide,rfl,rfl,trivial⟩,rfl,[3,4],hT,sR,⟨rfl,rfl,trivial,rfl,rfl,trivial⟩,rfl,rfl,rfl,by simp;omega,[],hS,SubA.same (SubA.same (SubA.cons (sE (by simp [ints,eInt];exact .inr rfl)) sR)),⟨rfl,rfl,rfl,trivial⟩,rfl,sI,rfl,rfl,trivial⟩) fun h=>absurd (beq_iff_eq.2 h11) (by rw [h];decide)⟩
        | true =>
          unfold andT
          rw [if_pos rfl]
          dsimp only at hl1
          have hA:=ih a (by rw [hk];exact .head _) (deep+1) ⟨false,true,[],r8of f.types x.params,r8of f.types x.outs⟩ (seen++x.params) s1 oM0 hl1 (by simp;omega)
          have hl2:=(z5x u f (deep+1) ⟨false,true,[],r8of f.types x.params,r8of f.types x.outs⟩ (seen++x.params) s1 a).trans hl1
          dsimp only
          generalize z1p u f (deep+1) ⟨false,true,[],r8of f.types x.params,r8of f.types x.outs⟩ (seen++x.params) s1 a=ra at hA hl2 ⊢
          obtain ⟨ba,s2⟩:=ra
          cases ba with
          | false=>exact ⟨[],hBare,sR,trivial,rfl,z00 (fun h=>absurd (eq_of_beq h) h10) fun _=>z00 (fun _=>⟨[3,4],hP,sR,⟨rfl,rfl,by decide,rfl,rfl,trivial⟩,rfl,[3,4],hO,sR,⟨rfl,rfl,by decide,rfl,rfl,trivial⟩,rfl,[3,4],hP,sR,⟨rfl,rfl,by decide,rfl,rfl,trivial⟩,rfl,[3,4],hT,sR,⟨rfl,rfl,trivial,rfl,rfl,trivial⟩,rfl,rfl,rfl,by simp;omega,[],hS,SubA.same (SubA.same (SubA.cons (sE (by simp [ints,eInt];exact .inr rfl)) sR)),⟨rfl,rfl,rfl,trivial⟩,rfl,rfl,y1v (fun _ _=>⟨rfl,fun y hy=>by simp [eInt] at hy;subst hy;rfl⟩),by simp;omega,rfl,y1v (fun _ _=>⟨rfl,fun y hy=>by simp [eInt] at hy;subst hy;rfl⟩),by simp;omega,by simp,k0,rfl,z04 rfl oM0,[],hA,SubA.same (SubA.same (SubA.cons (sE (by simp [ints])) (SubA.cons (sP (PSub.agg (And.intro (PSub.refl _) (And.intro (PSub.refl _) (And.intro PSub.nil (And.intro (PSub.refl _) (And.intro (PSub.refl _) trivial))))))) sR))),⟨rfl,rfl,rfl,trivial⟩,rfl,sI,rfl,rfl,trivial⟩) fun h=>absurd (beq_iff_eq.2 h11) (by rw [h];decide)⟩
          | true =>
            rw [if_pos rfl]
            dsimp only at hl2 ⊢
            have hE:=z45 u f s2 x.outs (List.replicate x.outs.length 0) hl2
            have hC:=z4b x
            unfold za1
            generalize z01 x=cl at hC ⊢
            cases ho:((x.outs.length:Int)==0) with
            | true=>exact ⟨[],hBare,sR,trivial,rfl,z00 (fun h=>absurd (eq_of_beq h) h10) fun _=>z00 (fun _=>⟨[3,4],hP,sR,⟨rfl,rfl,by decide,rfl,rfl,trivial⟩,rfl,[3,4],hO,sR,⟨rfl,rfl,by decide,rfl,rfl,trivial⟩,rfl,[3,4],hP,sR,⟨rfl,rfl,by decide,rfl,rfl,trivial⟩,rfl,[3,4],hT,sR,⟨rfl,rfl,trivial,rfl,rfl,trivial⟩,rfl,rfl,rfl,by simp;omega,[],hS,SubA.same (SubA.same (SubA.cons (sE (by simp [ints,eInt];exact .inr rfl)) sR)),⟨rfl,rfl,rfl,trivial⟩,rfl,rfl,y1v (fun _ _=>⟨rfl,fun y hy=>by simp [eInt] at hy;subst hy;rfl⟩),by simp;omega,rfl,y1v (fun _ _=>⟨rfl,fun y hy=>by simp [eInt] at hy;subst hy;rfl⟩),by simp;omega,by simp,k0,rfl,z04 rfl oM0,[],hA,SubA.same (SubA.same (SubA.cons (sE (by simp [ints])) (SubA.cons (sP (PSub.agg (And.intro (PSub.refl _) (And.intro (PSub.refl _) (And.intro PSub.nil (And.intro (PSub.refl _) (And.intro (PSub.refl _) trivial))))))) sR))),⟨rfl,rfl,rfl,trivial⟩,rfl,z00 (fun _=>⟨rfl,rfl,by simp;omega,[],hE,SubA.same (SubA.same (SubA.cons (sE (by simp [ints,eInt];exact .inr rfl)) sR)),⟨rfl,rfl,rfl,trivial⟩,rfl,sI,rfl,rfl,trivial⟩) fun h=>absurd (ho.symm.trans (show ((x.outs.length:Int)==0)=false by rw [hml] at h;exact h)) dC0⟩) fun h=>absurd (beq_iff_eq.2 h11) (by rw [h];decide)⟩
            | false =>
              cases cl with
              | true=>exact ⟨[],hBare,sR,trivial,rfl,z00 (fun h=>absurd (eq_of_beq h) h10) fun _=>z00 (fun _=>⟨[3,4],hP,sR,⟨rfl,rfl,by decide,rfl,rfl,trivial⟩,rfl,[3,4],hO,sR,⟨rfl,rfl,by decide,rfl,rfl,trivial⟩,rfl,[3,4],hP,sR,⟨rfl,rfl,by decide,rfl,rfl,trivial⟩,rfl,[3,4],hT,sR,⟨rfl,rfl,trivial,rfl,rfl,trivial⟩,rfl,rfl,rfl,by simp;omega,[],hS,SubA.same (SubA.same (SubA.cons (sE (by simp [ints,eInt];exact .inr rfl)) sR)),⟨rfl,rfl,rfl,trivial⟩,rfl,rfl,y1v (fun _ _=>⟨rfl,fun y hy=>by simp [eInt] at hy;subst hy;rfl⟩),by simp;omega,rfl,y1v (fun _ _=>⟨rfl,fun y hy=>by simp [eInt] at hy;subst hy;rfl⟩),by simp;omega,by simp,k0,rfl,z04 rfl oM0,[],hA,SubA.same (SubA.same (SubA.cons (sE (by simp [ints])) (SubA.cons (sP (PSub.agg (And.intro (PSub.refl _) (And.intro (PSub.refl _) (And.intro PSub.nil (And.intro (PSub.refl _) (And.intro (PSub.refl _) trivial))))))) sR))),⟨rfl,rfl,rfl,trivial⟩,rfl,z00 (fun h=>absurd (ho.symm.trans (show ((x.outs.length:Int)==0)=true by rw [hml] at h;exact h)) dC0) fun _=>⟨[],hC,sR,trivial,rfl,sI,rfl,rfl,trivial⟩⟩) fun h=>absurd (beq_iff_eq.2 h11) (by rw [h];decide)⟩
              | false=>exact ⟨[],hBare,sR,trivial,rfl,z00 (fun h=>absurd (eq_of_beq h) h10) fun _=>z00 (fun _=>⟨[3,4],hP,sR,⟨rfl,rfl,by decide,rfl,rfl,trivial⟩,rfl,[3,4],hO,sR,⟨rfl,rfl,by decide,rfl,rfl,trivial⟩,rfl,[3,4],hP,sR,⟨rfl,rfl,by decide,rfl,rfl,trivial⟩,rfl,[3,4],hT,sR,⟨rfl,rfl,trivial,rfl,rfl,trivial⟩,rfl,rfl,rfl,by simp;omega,[],hS,SubA.same (SubA.same (SubA.cons (sE (by simp [ints,eInt];exact .inr rfl)) sR)),⟨rfl,rfl,rfl,trivial⟩,rfl,rfl,y1v (fun _ _=>⟨rfl,fun y hy=>by simp [eInt] at hy;subst hy;rfl⟩),by simp;omega,rfl,y1v (fun _ _=>⟨rfl,fun y hy=>by simp [eInt] at hy;subst hy;rfl⟩),by simp;omega,by simp,k0,rfl,z04 rfl oM0,[],hA,SubA.same (SubA.same (SubA.cons (sE (by simp [ints])) (SubA.cons (sP (PSub.agg (And.intro (PSub.refl _) (And.intro (PSub.refl _) (And.intro PSub.nil (And.intro (PSub.refl _) (And.intro (PSub.refl _) trivial))))))) sR))),⟨rfl,rfl,rfl,trivial⟩,rfl,z00 (fun h=>absurd (ho.symm.trans (show ((x.outs.length:Int)==0)=true by rw [hml] at h;exact h)) dC0) fun _=>⟨[],hC,sR,trivial,rfl,rfl,rfl,by simp;omega,[],hE,SubA.same (SubA.same (SubA.cons (sE (by simp [ints,eInt];exact .inr rfl)) sR)),⟨rfl,rfl,rfl,trivial⟩,rfl,sI,rfl,rfl,trivial⟩⟩) fun h=>absurd (beq_iff_eq.2 h11) (by rw [h];decide)⟩
    · have e10:(x.kind==10)=false:=by simpa using h10
      have e11:(x.kind==11)=false:=by simpa using h11
      have no:∀ {i:Int},x.kind≠i->(x.kind==i)=true->False:=fun h e=>h (eq_of_beq e)
      rw [z83 u f deep wh seen set hbr e10 e11]
      exact ⟨[],hBare,sR,trivial,rfl,z00 (fun h=>(no h10 h).elim) fun _=>z00 (fun h=>(no h11 h).elim) fun _=>⟨[],y58 u f set hs hg x seen wh,sR,⟨rfl,rfl,rfl,trivial⟩,rfl,sI,rfl,rfl,trivial⟩⟩
theorem y0s (N:Nat):∀ (u:Un) (f:Fl) (hg:∀ g∈u.flows,0<=g.params/\g.params<=g.types.length) (l:List Nd) (deep:Int) (wh:Wh) (all:List Int) (set:List Bool) (hd:0<=deep/\deep<=101) (hs:set.length=f.types.length) (hb:all.length+lsW l<=1073741824),SizeOf.sizeOf l<N->SC Tryz.prog 49 [.ptr 3 0,.pv (z0o l),.pv (ints all),.pv (whv wh),iInt deep] (ckHp u f 4 set) (fun k=>k=3) (iBool (z1p u f deep wh all set l).1) (ckHp u f 4 (z1p u f deep wh all set l).2):=by
  induction N with
  | zero=>intro u f hg l deep wh all set hd hs hb hN;exact absurd hN (Nat.not_lt_zero _)
  | succ N ih =>
    intro u f hg l deep wh all set hd hs hb hN
    refine SC.of Tryz.func49 rfl (lb rfl) fun F ρ w=>?_
    refine Tr.lenOf (t:=1) rfl (fun hl=>?_)
    simp only [List.length_map] at hl
    refine tQ <| tG <| cE rfl (z2m rfl rfl) <| sm 1 rfl <| nL <| tQ <| tG <| sm 1 rfl <| nL <| tQ <| Tr.grow (t:=11) (k:=111) ⟨3,1⟩ rfl rfl rfl rfl rfl <| tG ?_
    refine sm 2 rfl ?_
    refine cE rfl (aPp rfl rfl rfl rfl (by rfl) sI0 uT35 tB3 dC0 (z5p) (z5t) (by simp [maxLen,z08];omega) (by simp [z08];omega)) ?_
    refine sm 1 rfl <| nL <| tQ <| tQ <| tG <| sm 1 rfl <| nL <| tBk <| Tr.sub (Sub.of (fr':=[(12,iInt 0),(11,.sl 111 all.length),(8,.pv (.ept [vBool wh.If,vBool wh.Loop,ints wh.Yield,ints wh.Next,ints wh.Left] 0)),(0,.ptr 3 0),(1,.pv (z0o l)),(4,iInt deep)]) ⟨rfl,congrArg (fun z=>some (IV.sl 111 z)) sI0,rfl,rfl,rfl,rfl,trivial⟩) <| Tr.heap (σ':=look ((111,some (.row ⟨3,1⟩ (all.map eInt)))::up (ckHp u f 4 set))) (fun _=>congrFun zb8 _) ?_
    refine Tr.loop (fun fr σ m=>∃ (k:Nat) (al:List Int) (st:List Bool),(k<=l.length)/\(r8go u f deep wh all set l=r8go u f deep wh al st (l.drop k))/\(st.length=f.types.length)/\(al.length+lsW (l.drop k)<=1073741824)/\fr=[(12,iInt k),(11,.sl 111 al.length),(8,.pv (.ept [vBool wh.If,vBool wh.Loop,ints wh.Yield,ints wh.Next,ints wh.Left] 0)),(0,.ptr 3 0),(1,.pv (z0o l)),(4,iInt deep)] /\ σ = look ((111,some (.row ⟨3,1⟩ (al.map eInt)))::up (ckHp u f 4 st))/\m=l.length - k) (n:=l.length - 0) ?_ ?_
    ·exact ⟨0,all,set,Nat.zero_le _,rfl,hs,hb,rfl,rfl,rfl⟩
    rintro fr σ m ⟨k,al,st,hI0,hI1,hI2,hI3,rfl,rfl,rfl⟩
    refine tQ <| tQ <| tG <| sm 2 rfl <| cV rfl (oSm uT44 rfl) <| sm 1 rfl <| nL ?_
    refine tC rfl (fun hc19=>?_) fun hc19=>?_
    ·have hlt:k<l.length:=by simpa using hc19
     have hd2:=List.drop_eq_getElem_cons hlt
     have hm:=List.getElem_mem hlt
     have hi:=z0k (List.getElem?_eq_getElem hlt)
     generalize l[k]=x at hd2 hm hi
     have hxo:x.outs.length<=ndW x:=by have:=z92 x;omega
     have hbn:al.length+ndW x<=1073741824:=by rw [hd2] at hI3;simp only [lsW] at hI3;omega
     refine tSk <| tQ <| tBk <| tQ <| tQ <| tDr z78 (fun k=>k∈([3]:List Nat)) <| wR 16 [0,1,2,3,4,5,6,7,8,9,10] kR0 h30 <| smR 3 rfl ?_
     refine WR.split (t:=24) rfl (fun hb24=>?_) (fun hb24=>?_)
     ·refine smR 8 rfl <| nR <| wN 11 kR0 h30 rfl rfl rfl <| wR 3 [12,13,14,15,16,17,18,20,21,22,23,24] kR0 h30 <| smR 12 rfl <| nR <| wN 19 kR0 h30 rfl rfl rfl <| wR 0 [25,26] kR0 h30 <| smR 2 rfl <| nR <| wDn kR0 <| Tr.condT rfl ?_
      refine tQ <| tG <| sm 1 rfl <| nL <| tRt ?_
      (have h2:z1p u f deep wh all set l=(false,st):=by
         rw [zs1 hlt,hI1,hd2]
         unfold r8go
         rw [if_pos (by simpa using hb24)]
       rw [h2]
       exact rOk rfl rfl (po2 rfl rfl))
     refine smR 3 rfl <| ryV rfl rfl rfl (iSq rfl rfl rfl uT44 hi tS43 rfl (by rfl)) <| ryV rfl rfl rfl (lEA rfl rfl uT43 rfl tS43 (lb rfl)) <| smR 1 rfl <| ryV rfl rfl rfl (lEA rfl rfl Tryz.underlying91 rfl tS91 (lb rfl)) <| smR 1 rfl <| nR <| wO 11 kR0 <| wY rfl rfl rfl (fun k (h:_)=>by (simp at h ⊢;omega)) (nAp rfl) (fun _ _=>y4m (fun k=>k=111) (yh1 u f hg x deep ⟨hd.1,by simp at hb24;omega⟩ wh al st hI2 hbn (fun q hq deep w all set hd hs hb=>ih u f hg q deep w all set hd hs hb (Nat.lt_of_lt_of_le (z8g hm rfl hq) (Nat.le_of_lt_succ hN)))) ent74 rfl rfl (sRf _ _) (And.intro LendOf.same (And.intro LendOf.same (And.intro (LendOf.row rfl rfl (by (simp;done)) (by rfl)) (And.intro LendOf.same (And.intro LendOf.same (trivial)))))) (fun k h=>by subst h;rfl) (po2 rfl rfl) rfl (fun k (h:_)=>by (simp only [List.mem_cons,List.not_mem_nil,or_false] at h;rcases h with rfl<;>first | exact .inl rfl | exact .inr rfl | exact .inr dC0)) ⟨_,rfl⟩ (y9l (z82 ..))) <| wR 3 [12,13,14,15,16,17,18,20,21,22,23,24] kR0 h30 <| smR 3 rfl ?_
     refine WR.split (t:=36) rfl (fun hb36=>?_) (fun hb36=>?_)
     ·refine smR 9 rfl <| nR <| wN 19 kR0 h30 rfl rfl rfl <| wR 0 [25,26] kR0 h30 <| smR 2 rfl <| nR <| wDn kR0 <| Tr.condT rfl <| tQ <| tG <| sm 1 rfl <| nL ?_
      refine tRt ?_
      (have h2:z1p u f deep wh all set l=(false,(z31 u f deep wh al st x).2):=by
         rw [zs1 hlt,hI1,hd2]
         unfold r8go
         rw [if_neg (by simpa using hb24)]
         have hn1:(z31 u f deep wh al st x).1=false:=by simpa using hb36
         simp [andT,hn1]
       rw [h2]
       exact rOk rfl rfl (po2 rfl rfl))
     refine smR 2 rfl <| ryV rfl rfl rfl (iSq rfl rfl rfl uT44 hi tS43 rfl (by rfl)) <| ryV rfl rfl rfl (lEA rfl rfl uT43 rfl tS43 (lb rfl)) <| smR 2 rfl <| ryV rfl rfl rfl (oSm uT44 rfl) <| ryV rfl rfl rfl (oB rfl rfl (z3i rfl oM0)) <| smR 1 rfl <| nR <| wO 19 kR0 <| wY rfl rfl rfl (fun k (h:_)=>by (simp at h ⊢;omega)) nw (fun _ _=>ocq (z4b _) ya0 rfl rfl) <| wR 0 [25,26] kR0 h30 <| ryV rfl rfl rfl (zc0 rfl rfl rfl Tryz.underlying4) ?_
     refine smR 1 rfl <| nR <| wDn kR0 ?_
     refine tC rfl (fun hc48=>?_) fun hc48=>?_
     ·refine tQ <| tG <| sm 1 rfl <| nL <| tRt ?_
      (have h2:z1p u f deep wh all set l=(false,(z31 u f deep wh al st x).2):=by
         rw [zs1 hlt,hI1,hd2]
         unfold r8go
         rw [if_neg (by simpa using hb24)]
         have hn1:(z31 u f deep wh al st x).1=true:=by simpa using hb36
         have hcl:(z01 x != (l.drop (k+1)).isEmpty)=true:=by rw [z6t hlt];simpa using hc48
         simp [andT,hn1,hcl]
       rw [h2]
       exact rOk rfl rfl (po2 rfl rfl))
     refine tSk <| tG <| sm 3 rfl <| cV rfl (iSq rfl rfl rfl uT44 hi tS43 rfl (by rfl)) <| sm 2 rfl ?_
     refine cE rfl (aPp rfl rfl rfl rfl (by (simp;done)) sI0 uT35 tB3 dC0 (z5p) (z5t) (by simp [maxLen,z08];omega) (by simp [z08];omega)) ?_
     refine sm 1 rfl <| nL <| tG <| sm 1 rfl <| cV rfl (oB rfl rfl (z04 rfl oM0)) <| sm 1 rfl <| nL ?_
     refine ⟨_,_,?_,Sub.of (fr':=[(12,iInt (k+1)),(11,.sl 111 (al++x.outs).length),(8,.pv (.ept [vBool wh.If,vBool wh.Loop,ints wh.Yield,ints wh.Next,ints wh.Left] 0)),(0,.ptr 3 0),(1,.pv (z0o l)),(4,iInt deep)]) ⟨rfl,congrArg (fun z=>some (IV.sl 111 z)) sI0,rfl,rfl,rfl,rfl,trivial⟩,(k+1),(al++x.outs),(z31 u f deep wh al st x).2,?_,?_,?_,?_,rfl,ck_row',rfl⟩
     ·omega
     ·omega
     ·rw [hI1,hd2]
      have hn1:(z31 u f deep wh al st x).1=true:=by simpa using hb36
      have hcl:(z01 x != (l.drop (k+1)).isEmpty)=false:=by rw [z6t hlt];simpa using hc48
      have hdp:¬ deep > 100:=by simpa using hb24
      conv=>lhs;unfold r8go
      simp only [if_neg hdp,andT,hn1,hcl,if_true]
      rfl
     ·exact (z82 ..).trans hI2
     rw [hd2] at hI3;have hWx:=z92 x;simp only [lsW] at hI3;simp only [List.length_append];omega
    refine tEx <| tQ <| tG <| sm 1 rfl <| cV rfl (oSm uT44 rfl) <| sm 2 rfl <| nL <| tRt ?_
    have hge:l.length<=k:=by simpa using hc19
    have hgo:r8go u f deep wh all set l=(true,st):=by rw [hI1,List.drop_eq_nil_of_le hge];simp [r8go]
    have h2:(z1p u f deep wh all set l)=(decide ((l.length:Int) > 0),st):=by
      unfold z1p ne
      rw [hgo]
      cases l<;>simp<;>omega
    rw [h2]
    exact rOk rfl rfl (po2 rfl rfl)
theorem yh0 (u:Un) (f:Fl) (hg:∀ g∈u.flows,0<=g.params/\g.params<=g.types.length) (l:List Nd) (deep:Int) (wh:Wh) (all:List Int) (set:List Bool) (hd:0<=deep/\deep<=101) (hs:set.length=f.types.length) (hb:all.length+lsW l<=1073741824):SC Tryz.prog 49 [.ptr 3 0,.pv (z0o l),.pv (ints all),.pv (whv wh),iInt deep] (ckHp u f 4 set) (fun k=>k=3) (iBool (z1p u f deep wh all set l).1) (ckHp u f 4 (z1p u f deep wh all set l).2):=y0s _ u f hg l deep wh all set hd hs hb (Nat.lt_succ_self _)
set_option maxRecDepth 20000
set_option maxHeartbeats 2000000
theorem zt1 (n:Int):SC Tryz.prog 71 [.pv (vU8 n)] [] (fun _=>False) (iBool (z6v n)) []:=by
  refine SC.anyR (SC.vc tb {} [] Tryz.func71 rfl rfl ?_)
  unfold z6v
  refine z00 (fun h1=>z00 (fun h2=>⟨sE (by rw [h1,h2];rfl),trivial⟩) fun h2=>?_) fun h1=>?_
  · refine z00 (fun h3=>z00 (fun h4=>⟨sE (by rw [h1,h2,h3,h4];rfl),trivial⟩) fun h4=>⟨sE (by rw [h1,h2,h3,h4];rfl),trivial⟩) fun h3=>⟨sE (by rw [h1,h2,h3];rfl),trivial⟩
  · refine z00 (fun h3=>z00 (fun h4=>⟨sE (by rw [h1,h3,h4];rfl),trivial⟩) fun h4=>⟨sE (by rw [h1,h3,h4];rfl),trivial⟩) fun h3=>⟨sE (by rw [h1,h3];rfl),trivial⟩
theorem y8e (n:Int):SC Tryz.prog 73 [.pv (vU8 n)] [] (fun _=>False) (iBool (zb7 n)) []:=by
  refine SC.anyR (SC.vc tb {} [] Tryz.func73 rfl rfl ?_)
  unfold zb7
  exact z00 (fun h1=>⟨sE (by rw [h1];rfl),trivial⟩) fun h1=>⟨sE (by rw [h1];rfl),trivial⟩
theorem yg7 (s:ByteArray):SC Tryz.prog 72 [iStr s] [] (fun _=>False) (iBool (z1d s)) []:=by
  refine SC.anyR (SC.vc tb {} [] Tryz.func72 rfl rfl ?_)
  have N:∀ {b:Bool} {P:Prop},b=true->b=false->P:=fun h g=>by rw [h] at g;cases g
  have T:∀ {b:Bool},b=true->SubI (iBool true) (iBool b):=fun h=>sE (by rw [h])
  exact z00 (fun h=>z00 (fun _=>⟨T (by unfold z1d;rw [h];simp only [Bool.or_true,Bool.true_or]),trivial⟩) fun g=>N h g) fun h1=>z00 (fun h=>z00 (fun _=>⟨T (by unfold z1d;rw [h];simp only [Bool.or_true,Bool.true_or]),trivial⟩) fun g=>N h g) fun h2=>z00 (fun h=>z00 (fun _=>⟨T (by unfold z1d;rw [h];simp only [Bool.or_true,Bool.true_or]),trivial⟩) fun g=>N h g) fun h3=>z00 (fun h=>z00 (fun _=>⟨T (by unfold z1d;rw [h];simp only [Bool.or_true,Bool.true_or]),trivial⟩) fun g=>N h g) fun h4=>z00 (fun h=>z00 (fun _=>⟨T (by unfold z1d;rw [h];simp only [Bool.or_true,Bool.true_or]),trivial⟩) fun g=>N h g) fun h5=>z00 (fun h=>z00 (fun _=>⟨T (by unfold z1d;rw [h];simp only [Bool.or_true,Bool.true_or]),trivial⟩) fun g=>N h g) fun h6=>z00 (fun h=>z00 (fun _=>⟨T (by unfold z1d;rw [h];simp only [Bool.or_true,Bool.true_or]),trivial⟩) fun g=>N h g) fun h7=>z00 (fun h=>z00 (fun _=>⟨T (by unfold z1d;rw [h];simp only [Bool.or_true,Bool.true_or]),trivial⟩) fun g=>N h g) fun h8=>z00 (fun h=>z00 (fun _=>⟨T (by unfold z1d;rw [h];simp only [Bool.or_true,Bool.true_or]),trivial⟩) fun g=>N h g) fun h9=>z00 (fun h=>z00 (fun _=>⟨T (by unfold z1d;rw [h];simp only [Bool.or_true,Bool.true_or]),trivial⟩) fun g=>N h g) fun h10=>z00 (fun h=>z00 (fun _=>⟨T (by unfold z1d;rw [h];simp only [Bool.or_true,Bool.true_or]),trivial⟩) fun g=>N h g) fun h11=>z00 (fun h=>z00 (fun _=>⟨T (by unfold z1d;rw [h];simp only [Bool.or_true,Bool.true_or]),trivial⟩) fun g=>N h g) fun h12=>z00 (fun h=>z00 (fun _=>⟨T (by unfold z1d;rw [h];simp only [Bool.or_true,Bool.true_or]),trivial⟩) fun g=>N h g) fun h13=>z00 (fun h=>z00 (fun _=>⟨T (by unfold z1d;rw [h];simp only [Bool.or_true,Bool.true_or]),trivial⟩) fun g=>N h g) fun h14=>z00 (fun h=>z00 (fun _=>⟨T (by unfold z1d;rw [h];simp only [Bool.or_true,Bool.true_or]),trivial⟩) fun g=>N h g) fun h15=>z00 (fun h=>z00 (fun _=>⟨T (by unfold z1d;rw [h];simp only [Bool.or_true,Bool.true_or]),trivial⟩) fun g=>N h g) fun h16=>z00 (fun h=>z00 (fun _=>⟨T (by unfold z1d;rw [h];simp only [Bool.or_true,Bool.true_or]),trivial⟩) fun g=>N h g) fun h17=>z00 (fun h=>⟨T (by unfold z1d;rw [h];simp only [Bool.or_true,Bool.true_or]),trivial⟩) fun h18=>⟨sE (by unfold z1d;rw [h1,h2,h3,h4,h5,h6,h7,h8,h9,h10,h11,h12,h13,h14,h15,h16,h17,h18];rfl),trivial⟩
theorem y2v (s:ByteArray):SC Tryz.prog 47 [iStr s] [] (fun _=>False) (iBool (z3d s)) []:=by
  refine SC.of Tryz.func47 rfl (lb rfl) fun F ρ w=>?_
  have hsz:s.size<=9223372036854775807∨9223372036854775807<s.size:=by omega
  refine tQ <| tG <| sm 1 rfl <| nL <| tQ <| tQ <| tG <| sm 1 rfl <| cV rfl (bSt rfl rfl rfl rfl) <| sm 1 rfl ?_
  refine wS 6 rfl (fun hb6=>?_) fun hb6=>?_
  ·refine sm 14 rfl <| nL <| Tr.condT rfl <| tQ <| tG <| sm 1 rfl <| nL <| tRt <| rOk rfl ?_ nPo
   refine congrArg (fun b=>iBool b) ?_
   simp_all [z3d]
  have hne:s.toList≠[]:=by simpa using hb6
  obtain ⟨b0,r0,hs0⟩:=List.exists_cons_of_ne_nil hne
  have hi0:s[0]? = some b0:=by rw [y5y (i:=0) (by rw [hs0];simp)];simp [hs0]
  refine sm 1 rfl <| yV rfl rfl (z9o rfl rfl Tryz.underlying9) <| sm 3 rfl ?_
  refine wS 11 rfl (fun hb11=>?_) fun hb11=>?_
  ·refine sm 9 rfl <| nL <| Tr.condT rfl <| tQ <| tG <| sm 1 rfl <| nL <| tRt <| rOk rfl ?_ nPo
   refine congrArg (fun b=>iBool b) ?_
   (have h20:¬ ((s.size:Int)<=20):=by simp at hb11;omega
    simp [z3d,h20];done)
  refine sm 1 rfl <| yV rfl rfl (z5f rfl rfl rfl Tryz.underlying9 (by assumption) (by rfl)) <| WL.yes rfl rfl rfl rfl rfl rfl (z1s (zt1 _) ent71 rfl rfl (sRf _ _) rfl) <| sm 3 rfl ?_
  refine wS 17 rfl (fun hb17=>?_) fun hb17=>?_
  ·refine sm 3 rfl <| nL <| Tr.condT rfl <| tQ <| tG <| sm 1 rfl <| nL <| tRt <| rOk rfl ?_ nPo
   refine congrArg (fun b=>iBool b) ?_
   simp_all [z3d]
  refine sm 1 rfl <| WL.yes rfl rfl rfl rfl rfl rfl (z1s (yg7 _) ent72 rfl rfl (sRf _ _) rfl) <| sm 1 rfl <| nL ?_
  refine tC rfl (fun hc20=>?_) fun hc20=>?_
  ·refine tQ <| tG <| sm 1 rfl <| nL <| tRt <| rOk rfl ?_ nPo
   refine congrArg (fun b=>iBool b) ?_
   simp_all [z3d]
  refine tSk <| tQ <| tQ <| tG <| sm 1 rfl <| nL <| tBk <| Tr.sub (Sub.of (fr':=[(3,iInt 0),(0,iStr s)]) ⟨rfl,rfl,trivial⟩) ?_
  refine Tr.loop (fun fr σ m=>∃ (k:Nat),(k<=s.toList.length)/\(s.toList.all isLD=(s.toList.drop k).all isLD)/\fr=[(3,iInt k),(0,iStr s)] /\ σ = look []/\m=s.toList.length - k) (n:=s.toList.length - 0) ?_ ?_
  ·exact ⟨0,Nat.zero_le _,rfl,rfl,rfl,rfl⟩
  rintro fr σ m ⟨k,hI0,hI1,rfl,rfl,rfl⟩
  refine tQ <| tQ <| tG <| sm 2 rfl <| cV rfl (z9o rfl rfl Tryz.underlying9) <| sm 1 rfl <| nL ?_
  refine tC rfl (fun hc24=>?_) fun hc24=>?_
  ·have hlt:k<s.toList.length:=by rw [za4];simpa using hc24
   have hd:=List.drop_eq_getElem_cons hlt
   have hi:=y5y hlt
   generalize s.toList[k]=b at hd hi
   have hl20:s.toList.length<=20:=by rw [za4];simp at hb11;omega
   refine tSk <| tQ <| tBk <| tQ <| tG <| sm 2 rfl <| cV rfl (z5f rfl rfl rfl Tryz.underlying9 (by assumption) (by rfl)) <| cE rfl (ocq (zt1 _) ent71 rfl rfl) <| sm 2 rfl ?_
   refine wS 32 rfl (fun hb32=>?_) fun hb32=>?_
   ·refine sm 2 rfl <| yV rfl rfl (z5f rfl rfl rfl Tryz.underlying9 (by assumption) (by rfl)) <| WL.yes rfl rfl rfl rfl rfl rfl (z1s (y8e _) ent73 rfl rfl (sRf _ _) rfl) <| sm 2 rfl <| nL ?_
    refine tC rfl (fun hc38=>?_) fun hc38=>?_
    ·refine tQ <| tG <| sm 1 rfl <| nL <| tRt <| rOk rfl ?_ nPo
     have hb:isLD b=false:=by simp_all [isLD]
     have hall:s.toList.all isLD=false:=by rw [hI1,hd];simp [hb]
     simp [z3d,hall]
    refine tSk <| tG <| sm 1 rfl <| cV rfl (oB rfl rfl (z04 rfl oM0)) <| sm 1 rfl <| nL ?_
    refine ⟨_,_,?_,Sub.of (fr':=[(3,iInt (k+1)),(0,iStr s)]) ⟨rfl,rfl,trivial⟩,(k+1),?_,?_,rfl,rfl,rfl⟩
    ·omega
    ·omega
    have hb:isLD b=true:=by simp_all [isLD]
    rw [hI1,hd];simp [hb]
   refine sm 6 rfl <| nL <| Tr.condF rfl <| tSk <| tG <| sm 1 rfl <| cV rfl (oB rfl rfl (z04 rfl oM0)) <| sm 1 rfl <| nL ?_
   refine ⟨_,_,?_,Sub.of (fr':=[(3,iInt (k+1)),(0,iStr s)]) ⟨rfl,rfl,trivial⟩,(k+1),?_,?_,rfl,rfl,rfl⟩
   ·omega
   ·omega
   have hb:isLD b=true:=by simp_all [isLD]
   rw [hI1,hd];simp [hb]
  refine tEx <| tQ <| tG <| sm 1 rfl <| nL <| tRt <| rOk rfl ?_ nPo
  have hge:s.toList.length<=k:=by rw [za4];simpa using hc24
  have hall:s.toList.all isLD=true:=by rw [hI1,List.drop_eq_nil_of_le hge];rfl
  refine congrArg (fun b=>iBool b) ?_
  simp_all [z3d]
theorem yg8 (u:Un) (f:Fl) (hg:∀ g∈u.flows,0<=g.params/\g.params<=g.types.length) (hb:lsW f.body<=536870912):SC Tryz.prog 33 [.pv u.enc,.pv (.agg f.enc)] [] (fun _=>False) (iBool (z2w u f)) []:=by
  refine SC.of Tryz.func33 rfl (lb rfl) fun F ρ w=>?_
  refine tQ <| tG <| cE rfl (z2m rfl rfl) <| cE rfl (z2m rfl rfl) <| sm 1 rfl <| nL <| tQ <| tQ <| tG <| sm 4 rfl ?_
  refine wS 12 rfl (fun hb12=>?_) fun hb12=>?_
  ·refine sm 18 rfl <| nL <| Tr.condT rfl <| tQ <| tG <| sm 1 rfl <| nL <| tRt <| rOk rfl ?_ nPo
   refine congrArg (fun b=>iBool b) ?_
   have hno:(!decide (f.params<0) && !decide (f.params > 8) && !decide (f.params > f.types.length) && !decide ((f.types.length:Int) > 20000))=false:=by
     simp_all
   simp only [z2w,hno,Bool.false_and]
  refine sm 5 rfl ?_
  refine wS 17 rfl (fun hb17=>?_) fun hb17=>?_
  ·refine sm 13 rfl <| nL <| Tr.condT rfl <| tQ <| tG <| sm 1 rfl <| nL <| tRt <| rOk rfl ?_ nPo
   refine congrArg (fun b=>iBool b) ?_
   have hno:(!decide (f.params<0) && !decide (f.params > 8) && !decide (f.params > f.types.length) && !decide ((f.types.length:Int) > 20000))=false:=by
     simp_all
   simp only [z2w,hno,Bool.false_and]
  refine sm 4 rfl <| yV rfl rfl (oSm uT35 rfl) <| sm 3 rfl ?_
  refine wS 25 rfl (fun hb25=>?_) fun hb25=>?_
  ·refine sm 5 rfl <| nL <| Tr.condT rfl <| tQ <| tG <| sm 1 rfl <| nL <| tRt <| rOk rfl ?_ nPo
   refine congrArg (fun b=>iBool b) ?_
   have hno:(!decide (f.params<0) && !decide (f.params > 8) && !decide (f.params > f.types.length) && !decide ((f.types.length:Int) > 20000))=false:=by
     simp_all
   simp only [z2w,hno,Bool.false_and]
  ·refine sm 2 rfl <| yV rfl rfl (oSm uT35 rfl) <| sm 2 rfl <| nL ?_
   refine tC rfl (fun hc30=>?_) fun hc30=>?_
   ·refine tQ <| tG <| sm 1 rfl <| nL <| tRt <| rOk rfl ?_ nPo
    refine congrArg (fun b=>iBool b) ?_
    have hno:(!decide (f.params<0) && !decide (f.params > 8) && !decide (f.params > f.types.length) && !decide ((f.types.length:Int) > 20000))=false:=by
      simp_all
    simp only [z2w,hno,Bool.false_and]
   ·have hpar:0<=f.params/\f.params<=8/\f.params<=f.types.length/\f.types.length<=20000:=by
      (simp_all<;>omega)
    refine tSk <| tQ <| tQ <| tG <| sm 1 rfl <| nL <| tBk <| Tr.sub (Sub.of (fr':=[(5,iInt 0),(2,.pv (.ept [arrs u.arrays,flws u.flows] 0)),(3,.pv (.ept [vStr f.name,vInt f.ty,vInt f.params,ints f.types,z0o f.body] 0))]) ⟨rfl,rfl,rfl,trivial⟩) ?_
    refine Tr.loop (fun fr σ m=>∃ (k:Nat),(k<=f.types.length)/\(f.types.all (fun t=>t==1||t==2)=(f.types.drop k).all (fun t=>t==1||t==2))/\fr=[(5,iInt k),(2,.pv (.ept [arrs u.arrays,flws u.flows] 0)),(3,.pv (.ept [vStr f.name,vInt f.ty,vInt f.params,ints f.types,z0o f.body] 0))] /\ σ = look []/\m=f.types.length - k) (n:=f.types.length - 0) ?_ ?_
    ·exact ⟨0,Nat.zero_le _,rfl,rfl,rfl,rfl⟩
    rintro fr σ m ⟨k,hI0,hI1,rfl,rfl,rfl⟩
    refine tQ <| tQ <| tG <| sm 3 rfl <| cV rfl (oSm uT35 rfl) <| sm 1 rfl <| nL ?_
    refine tC rfl (fun hc35=>?_) fun hc35=>?_
    ·have hlt:k<f.types.length:=by simpa using hc35
     have hd:=List.drop_eq_getElem_cons hlt
     have hm:=List.getElem_mem hlt
     have hi:=z0a (f:=eInt) (List.getElem?_eq_getElem hlt)
     generalize f.types[k]=x at hd hm hi
     refine tSk <| tQ <| tBk <| tQ <| tG <| sm 3 rfl <| cV rfl (iSq rfl rfl rfl uT35 hi tS3 rfl (by rfl)) <| sm 3 rfl ?_
     refine wS 44 rfl (fun hb44=>?_) fun hb44=>?_
     ·refine sm 3 rfl <| yV rfl rfl (iSq rfl rfl rfl uT35 hi tS3 rfl (by rfl)) <| sm 3 rfl <| nL ?_
      refine tC rfl (fun hc51=>?_) fun hc51=>?_
      ·refine tQ <| tG <| sm 1 rfl <| nL <| tRt <| rOk rfl ?_ nPo
       have hx:(x==1||x==2)=false:=by
         clear hd hm hi hI1
         simp_all
       have hty:f.types.all (fun t=>t==1||t==2)=false:=by rw [hI1,hd];simp only [List.all_cons,hx,Bool.false_and]
       simp only [z2w,hty,Bool.and_false,Bool.false_and]
      refine tSk <| tG <| sm 1 rfl <| cV rfl (oB rfl rfl (z04 rfl oM0)) <| sm 1 rfl <| nL ?_
      refine ⟨_,_,?_,Sub.of (fr':=[(5,iInt (k+1)),(2,.pv (.ept [arrs u.arrays,flws u.flows] 0)),(3,.pv (.ept [vStr f.name,vInt f.ty,vInt f.params,ints f.types,z0o f.body] 0))]) ⟨rfl,rfl,rfl,trivial⟩,(k+1),?_,?_,rfl,rfl,rfl⟩
      ·omega
      ·omega
      rw [hI1,hd]
      have hx:(x==1||x==2)=true:=by
        clear hd hm hi hI1
        simp_all
      simp only [List.all_cons,hx,Bool.true_and]
     refine sm 7 rfl <| nL <| Tr.condF rfl <| tSk <| tG <| sm 1 rfl <| cV rfl (oB rfl rfl (z04 rfl oM0)) <| sm 1 rfl <| nL ?_
     refine ⟨_,_,?_,Sub.of (fr':=[(5,iInt (k+1)),(2,.pv (.ept [arrs u.arrays,flws u.flows] 0)),(3,.pv (.ept [vStr f.name,vInt f.ty,vInt f.params,ints f.types,z0o f.body] 0))]) ⟨rfl,rfl,rfl,trivial⟩,(k+1),?_,?_,rfl,rfl,rfl⟩
     ·omega
     ·omega
     rw [hI1,hd]
     have hx:(x==1||x==2)=true:=by
       clear hd hm hi hI1
       simp_all
     simp only [List.all_cons,hx,Bool.true_and]
    refine tEx <| tQ ?_
    have hty:f.types.all (fun t=>t==1||t==2)=true:=by
      rw [hI1,List.drop_eq_nil_of_le (by simpa using hc35)];rfl
    have hpt:f.params.toNat<=f.types.length:=by omega
    have hpi:f.params=(f.params.toNat:Int):=by omega
    refine tDr z78 (fun k=>k<3) <| wR 4 [0,1,2,3,4] kR0 h30 <| rV rfl rfl (lEA rfl rfl uT25 rfl tS25 (lb rfl)) <| rV rfl rfl (lEA rfl rfl Tryz.underlying51 rfl tS51 (lb rfl)) <| smR 2 rfl <| rV rfl rfl (oSm uT35 rfl) <| nR <| wO 5 kR0 <| wI rfl rfl nf (zi4 rfl) (fun _ _=>z6x (k:=4) (s:=⟨4,1⟩) rfl rfl rfl Tryz.underlying87 tZ4 tC4 rfl dC0 oM0 oM0 rfl rfl rfl rfl) <| wR 2 [6] kR0 h30 <| rV rfl rfl (by exact z9m rfl rfl tZ89 tP89 rfl (z8s (by (simp [y61,firm1,look,PV.one];exact ⟨_,_,⟨rfl,rfl⟩,by simp⟩)))) <| nR ?_
    refine wO 7 kR0 <| wI rfl rfl nf (zi4 rfl) (fun _ _=>z5e (k:=3) rfl rfl rfl rfl rfl rfl rfl) <| wR 0 [8] kR0 h30 <| smR 1 rfl <| nR <| wDn kR0 <| tQ <| tG <| sm 1 rfl <| nL <| tQ <| tQ ?_
    refine Tr.grow (t:=7) (k:=107) ⟨3,1⟩ rfl rfl rfl rfl rfl <| tG <| sm 1 rfl <| nL <| tBk <| Tr.sub (Sub.of (fr':=[(8,iInt 0),(7,.sl 107 (iota 0).length),(6,.ptr 3 0),(2,.pv (.ept [arrs u.arrays,flws u.flows] 0)),(3,.pv (.ept [vStr f.name,vInt f.ty,vInt f.params,ints f.types,z0o f.body] 0))]) ⟨rfl,rfl,rfl,rfl,rfl,trivial⟩) ?_
    refine Tr.heap (σ':=look ((107,some (.row ⟨3,1⟩ ((iota 0).map eInt)))::up (ckHp u f 4 (z2z 0 f.types.length)))) (fun k=>by
  rw [show (z2z 0 f.types.length)=List.replicate f.types.length false by simp [z2z]]
  simp only [ckHp,up,List.map_cons,List.map_nil,look,List.length_map,List.length_replicate,List.map_replicate,iota,List.range_zero]
  by_cases h3:3=k
  · subst h3;rfl
  · by_cases h4:4=k
    · subst h4;rfl
    · simp [z06 h3,z06 h4]) ?_
    refine Tr.loop (fun fr σ m=>∃ (k:Nat),(k<=f.params.toNat)/\fr=[(8,iInt k),(7,.sl 107 (iota k).length),(6,.ptr 3 0),(2,.pv (.ept [arrs u.arrays,flws u.flows] 0)),(3,.pv (.ept [vStr f.name,vInt f.ty,vInt f.params,ints f.types,z0o f.body] 0))] /\ σ = look ((107,some (.row ⟨3,1⟩ ((iota k).map eInt)))::up (ckHp u f 4 (z2z k f.types.length)))/\m=f.params.toNat - k) (n:=f.params.toNat - 0) ?_ ?_
    ·exact ⟨0,Nat.zero_le _,rfl,rfl,rfl⟩
    rintro fr σ m ⟨k,hJ0,rfl,rfl,rfl⟩
    refine tQ <| tQ <| tG <| sm 4 rfl <| nL ?_
    refine tC rfl (fun hc63=>?_) fun hc63=>?_
    ·have hkp:k<f.params.toNat:=by simp at hc63;omega
     have hkt:k<f.types.length:=by omega
     have hil:=zb6 k
     have hst:((z2z k f.types.length).map z9z)[k]? = some [vBool false]:=by
       rw [List.getElem?_map]
       simp only [z2z]
       rw [List.getElem?_append_right sI0]
       simp [List.getElem?_replicate,z9z]
       omega
     have hstl:k<((z2z k f.types.length).map z9z).length:=by rw [List.length_map,z2j oM0];exact hkt
     refine tSk <| tQ <| tBk <| tQ <| tG <| sm 1 rfl <| cV rfl (nCk rfl rfl rfl) <| sm 3 rfl <| cV rfl (iRw rfl rfl rfl rfl rfl Tryz.underlying87 tS4 (by assumption) (by rfl)) <| c0 (z5g rfl rfl rfl rfl rfl (Nat.add_zero _).symm (by assumption) sI0 tS4 rfl ((fun h=>h))) <| nL <| tG ?_
     refine sm 2 rfl <| cE rfl (bSl rfl rfl uT35 tZ3 tS3 rfl rfl rfl rfl (fbk rfl) rfl) ?_
     refine cE rfl (aPp rfl rfl rfl rfl (by (simp;done)) ((fun h=>h)) uT35 tB3 dC0 (by (simp [z08];done)) (by (simp [z08,PV.one];rfl)) (by simp [maxLen,z08];omega) (by simp [z08];omega)) ?_
     refine sm 1 rfl <| nL <| tG <| sm 1 rfl <| cV rfl (oB rfl rfl (z04 rfl oM0)) <| sm 1 rfl <| nL ?_
     refine ⟨_,_,?_,Sub.of (fr':=[(8,iInt (k+1)),(7,.sl 107 (iota (k+1)).length),(6,.ptr 3 0),(2,.pv (.ept [arrs u.arrays,flws u.flows] 0)),(3,.pv (.ept [vStr f.name,vInt f.ty,vInt f.params,ints f.types,z0o f.body] 0))]) ⟨rfl,congrArg (fun z=>some (IV.sl 107 z)) (by (simp [zb6,z08];done)),rfl,rfl,rfl,trivial⟩,(k+1),?_,rfl,(funext fun j=>by
  rw [<- y7g hkt,<- yb8,List.map_append]
  simp only [ckHp,up,List.map_cons,List.map_nil,look,List.length_map,List.length_set]
  by_cases h7:107=j
  · subst h7;rfl
  · by_cases h4:4=j
    · subst h4;simp [List.map_set,z9z,show Nat.beq 3 4=false from rfl,show Nat.beq 107 4=false from rfl]
    · by_cases h3:3=j
      · subst h3;simp [show Nat.beq 4 3=false from rfl,show Nat.beq 107 3=false from rfl]
      · simp [z06 h3,z06 h4,z06 h7]),rfl⟩
     all_goals omega
    refine tEx <| tQ ?_
    have hkp:k=f.params.toNat:=by simp at hc63;omega
    subst hkp
    have hbl:(iota f.params.toNat).length+lsW f.body<=1073741824:=by rw [zb6];omega
    refine tG <| sm 4 rfl <| cV rfl (bPu rfl rfl tZ91 tP91 rfl (fbk rfl) rfl) <| cE rfl (y4m (fun k=>k=107) (yh0 u f hg f.body 1 z1k (iota f.params.toNat) (z2z f.params.toNat f.types.length) ⟨by omega,by omega⟩ (z2j hpt) hbl) ent49 rfl rfl (sSm rfl (sSm rfl (sSm rfl (Subs.cons (fun _ _ _ _ h=>z7l (q:=whv z1k) (PSub.agg (ps:=[vBool false,vBool false,.val (.slice none 0 0),.val (.slice none 0 0),.val (.slice none 0 0)]) (And.intro (PSub.refl _) (And.intro (PSub.refl _) (And.intro PSub.nil (And.intro PSub.nil (And.intro PSub.nil trivial)))))) h) (sSm rfl Subs.nil))))) (And.intro LendOf.same (And.intro LendOf.same (And.intro (LendOf.row rfl rfl (by (simp;done)) (by rfl)) (And.intro LendOf.same (And.intro LendOf.same (trivial)))))) (fun k h=>by subst h;rfl) (po2 rfl rfl) rfl (fun k (h:_)=>(show False from h).elim) ⟨_,rfl⟩ (y9l (z5x ..))) <| sm 1 rfl <| nL <| tRt <| rOk rfl ?_ nPo
    have hno:(!decide (f.params<0) && !decide (f.params > 8) && !decide (f.params > f.types.length) && !decide ((f.types.length:Int) > 20000))=true:=by
      simp
      omega
    simp only [z2w,hno,hty,Bool.true_and]
set_option maxRecDepth 20000
set_option maxHeartbeats 2000000
theorem y2w (u:Un):SC Tryz.prog 32 [.pv u.enc] [] (fun _=>False) (iBool (z16 u)) []:=by
  refine SC.anyR (SC.vc tb { gh:=[(4,[.len 10]),(10,[.len 51])] } [] Tryz.func32 rfl rfl ?_)
  refine ⟨Nat,fun k=>[(3,iInt k)],fun _=>[],fun k=>u.arrays.length - k,fun k=>k<=u.arrays.length/\r8gA u u.arrays 0=r8gA u (u.arrays.drop k) k,[],0,⟨Nat.zero_le _,rfl⟩,⟨rfl,trivial⟩,trivial,?_⟩
  rintro k ⟨hk,hA⟩
  refine z00 (fun hc=>?_) fun hc=>?_
  · have hlt:=z7s (f:=Ar.enc) rfl hc
    intro hl
    simp only [List.length_map] at hl
    obtain ⟨a,ha,_,hd,_⟩:=z69 hlt
    rw [hd,show r8gA u (a::u.arrays.drop (k+1)) k=(gArr u a k&&r8gA u (u.arrays.drop (k+1)) (k+1)) from rfl] at hA
    have bad:gArr u a k=false->SubI (iBool false) (iBool (z16 u)):=fun h=>sE (by unfold z16;rw [hA,h];rfl)
    have hNm:=y2v a.name
    cases hN:z3d a.name with
    | false=>rw [hN] at hNm;exact ⟨z0a (f:=Ar.enc) ha,rfl,[],hNm,sR,trivial,rfl,bad (by unfold gArr;rw [hN];rfl),trivial⟩
    | true =>
      rw [hN] at hNm
      refine ⟨z0a (f:=Ar.enc) ha,rfl,[],hNm,sR,trivial,rfl,z00 (fun h1=>⟨bad (by unfold gArr;rw [hN,show decide (a.size<1)=true from h1];rfl),trivial⟩) fun h1=>z00 (fun h2=>⟨bad (by unfold gArr;rw [hN,show decide (a.size<1)=false from h1,show decide (a.size > 1000)=true from h2];rfl),trivial⟩) fun h2=>⟨[],z0w u a.name,sR,trivial,rfl,z00 (fun h3=>?_) fun h3=>⟨[],z4i u a.name,sR,trivial,rfl,z00 (fun h4=>?_) fun h4=>?_⟩⟩⟩
      · have q3:(z0i a.name u.arrays 0==(k:Int))=false:=by simpa using h3
        exact ⟨bad (by unfold gArr;rw [hN,show decide (a.size<1)=false from h1,show decide (a.size > 1000)=false from h2,q3];rfl),trivial⟩
      · have q3:(z0i a.name u.arrays 0==(k:Int))=true:=by simpa using h3
        exact ⟨bad (by unfold gArr;rw [hN,show decide (a.size<1)=false from h1,show decide (a.size > 1000)=false from h2,q3,show decide (z05 a.name u.flows 0 ≥ 0)=true from h4];rfl),trivial⟩
      · have q3:(z0i a.name u.arrays 0==(k:Int))=true:=by simpa using h3
        have good:gArr u a k=true:=by unfold gArr;rw [hN,show decide (a.size<1)=false from h1,show decide (a.size > 1000)=false from h2,q3,show decide (z05 a.name u.flows 0 ≥ 0)=false from h4];rfl
        exact ⟨z04 rfl oM0,k+1,z10 hlt,⟨hlt,by rw [hA,good];rfl⟩,⟨rfl,trivial⟩,trivial,rfl,rfl,rfl,rfl⟩
  · rw [List.drop_eq_nil_of_le (z8k (f:=Ar.enc) rfl hc),show r8gA u [] k=true from rfl] at hA
    refine ⟨Nat,fun k=>[(5,iInt k)],fun _=>[],fun k=>u.flows.length - k,fun k=>k<=u.flows.length/\r8gF u u.flows 0=r8gF u (u.flows.drop k) k,[],0,⟨Nat.zero_le _,rfl⟩,⟨rfl,trivial⟩,trivial,?_⟩
    rintro k ⟨hk,hF⟩
    refine z00 (fun hc=>?_) fun hc=>?_
    · have hlt:=z7s (f:=Fl.enc) rfl hc
      intro hl
      simp only [List.length_map] at hl
      obtain ⟨f,hf,_,hd,_⟩:=z69 hlt
      rw [hd,show r8gF u (f::u.flows.drop (k+1)) k=(gFlw u f k&&r8gF u (u.flows.drop (k+1)) (k+1)) from rfl] at hF
      have bad:gFlw u f k=false->SubI (iBool false) (iBool (z16 u)):=fun h=>sE (by unfold z16;rw [hA,hF,h];rfl)
      have hNm:=y2v f.name
      cases hN:z3d f.name with
      | false=>rw [hN] at hNm;exact ⟨z0a (f:=Fl.enc) hf,rfl,[],hNm,sR,trivial,rfl,bad (by unfold gFlw;rw [hN];rfl),trivial⟩
      | true =>
        rw [hN] at hNm
        have tail:∀ (q1:(z05 f.name u.flows 0==(k:Int))=true) (q2:(f.ty==1||f.ty==2)=true),gFlw u f k=(!decide (f.params<0) && !decide (f.params > f.types.length)):=fun q1 q2=>by unfold gFlw;rw [hN,q1,q2];rfl
        refine ⟨z0a (f:=Fl.enc) hf,rfl,[],hNm,sR,trivial,rfl,[],z4i u f.name,sR,trivial,rfl,z00 (fun h1=>?_) fun h1=>?_⟩
        · have q1:(z05 f.name u.flows 0==(k:Int))=false:=by simpa using h1
          exact ⟨bad (by unfold gFlw;rw [hN,q1];rfl),trivial⟩
        · have q1:(z05 f.name u.flows 0==(k:Int))=true:=by simpa using h1
          refine z00 (fun h2=>z00 (fun h3=>?_) fun h3=>?_) fun h2=>?_
          · have e2:(f.ty==1)=false:=by simpa using h2
            have e3:(f.ty==2)=false:=by simpa using h3
            exact ⟨bad (by unfold gFlw;rw [hN,q1,e2,e3];rfl),trivial⟩
          · have e3:(f.ty==2)=true:=by simpa using h3
            have T:=tail q1 (by rw [e3,Bool.or_true])
            refine z00 (fun h4=>⟨bad (by rw [T,show decide (f.params<0)=true from h4];rfl),trivial⟩) fun h4=>z00 (fun h5=>⟨bad (by rw [T,show decide (f.params<0)=false from h4,show decide (f.params > f.types.length)=true by simpa using h5];rfl),trivial⟩) fun h5=>?_
            have good:gFlw u f k=true:=by rw [T,show decide (f.params<0)=false from h4,show decide (f.params > f.types.length)=false by simpa using h5];rfl
            exact ⟨z04 rfl oM0,k+1,z10 hlt,⟨hlt,by rw [hF,good];rfl⟩,⟨rfl,trivial⟩,trivial,rfl,rfl,rfl,rfl⟩
          · have e2:(f.ty==1)=true:=by simpa using h2
            have T:=tail q1 (by rw [e2,Bool.true_or])
            refine z00 (fun h4=>⟨bad (by rw [T,show decide (f.params<0)=true from h4];rfl),trivial⟩) fun h4=>z00 (fun h5=>⟨bad (by rw [T,show decide (f.params<0)=false from h4,show decide (f.params > f.types.length)=true by simpa using h5];rfl),trivial⟩) fun h5=>?_
            have good:gFlw u f k=true:=by rw [T,show decide (f.params<0)=false from h4,show decide (f.params > f.types.length)=false by simpa using h5];rfl
            exact ⟨z04 rfl oM0,k+1,z10 hlt,⟨hlt,by rw [hF,good];rfl⟩,⟨rfl,trivial⟩,trivial,rfl,rfl,rfl,rfl⟩
    · rw [List.drop_eq_nil_of_le (z8k (f:=Fl.enc) rfl hc),show r8gF u [] k=true from rfl] at hF
      have hG:z16 u=z70 u:=by unfold z16;rw [hA,hF];rfl
      rw [hG]
      refine ⟨[],z4i u z0d,sR,trivial,rfl,?_⟩
      cases hp:decide (z05 z0d u.flows 0 ≥ 0) with
      | false=>exact z00 (fun h=>absurd (hp.symm.trans h) dC0) fun _=>⟨sE (by unfold z70;rw [hp];rfl),trivial⟩
      | true =>
        have h0:z05 z0d u.flows 0 ≥ 0:=by simpa using hp
        obtain ⟨g,hg,_⟩:=z9r h0
        have hD:u.flows.getD (z05 z0d u.flows 0).toNat y1u=g:=by rw [List.getD_eq_getElem?_getD,hg];rfl
        have hi:=z0a (f:=Fl.enc) hg
        refine z00 (fun _=>⟨hi,by omega,z00 (fun h1=>⟨hi,by omega,sE ?_,trivial⟩) fun h1=>⟨sE ?_,trivial⟩⟩) fun h=>absurd (hp.symm.trans h) dC0
        · unfold z70;rw [hp,hD,show (g.ty==1)=true from h1];rfl
        · unfold z70;rw [hp,hD,show (g.ty==1)=false from h1];rfl
theorem zy4 (u:Un) (hW:z0s u<=536870912):SC Tryz.prog 19 [.pv u.enc] [] (fun _=>False) (.tup [iInt (z1b u).1,iInt (z1b u).2]) []:=by
  refine SC.of Tryz.func19 rfl (lb rfl) fun F ρ w=>?_
  refine tQ <| tG <| cE rfl (z2m rfl rfl) <| sm 2 rfl <| nL <| tQ <| tQ <| tG <| cV rfl (lEA rfl rfl uT25 rfl tS25 (lb rfl)) <| cE rfl (ocq (y2w u) ent32 rfl rfl) <| sm 1 rfl <| nL ?_
  refine tC rfl (fun hc7=>?_) fun hc7=>?_
  ·refine tQ <| tG <| sm 2 rfl <| nL <| tRt <| rOk rfl ?_ nPo
   have hg:z16 u=false:=by simpa using hc7
   simp [z1b,hg]
  have hg:z16 u=true:=by simpa using hc7
  refine tSk <| tQ <| tQ <| tG <| sm 1 rfl <| nL <| tBk <| Tr.sub (Sub.of (fr':=[(4,iInt 0),(1,.pv (.ept [arrs u.arrays,flws u.flows] 0))]) ⟨rfl,rfl,trivial⟩) ?_
  refine Tr.loop (fun fr σ m=>∃ (k:Nat),(k<=u.flows.length)/\(z4s u u.flows 0=z4s u (u.flows.drop k) k)/\fr=[(4,iInt k),(1,.pv (.ept [arrs u.arrays,flws u.flows] 0))] /\ σ = look []/\m=u.flows.length - k) (n:=u.flows.length - 0) ?_ ?_
  ·exact ⟨0,Nat.zero_le _,rfl,rfl,rfl,rfl⟩
  rintro fr σ m ⟨k,hI0,hI1,rfl,rfl,rfl⟩
  refine tQ <| tQ <| tG <| sm 3 rfl ?_
  refine WL.lenOf (t:=10) rfl (fun hl1=>?_)
  simp only [List.length_map] at hl1
  refine cV rfl (oSm uT23 rfl) <| sm 1 rfl <| nL ?_
  refine tC rfl (fun hc12=>?_) fun hc12=>?_
  ·have hlt:k<u.flows.length:=by simpa using hc12
   have hd:=List.drop_eq_getElem_cons hlt
   have hm:=List.getElem_mem hlt
   have hi:=z0a (f:=Fl.enc) (List.getElem?_eq_getElem hlt)
   generalize u.flows[k]=x at hd hm hi
   refine tSk <| tQ <| tBk <| tQ <| tDr z78 (fun k=>k∈([]:List Nat)) <| wR 2 [0,1,2,3,4,5] kR0 h30 <| rV rfl rfl (lEA rfl rfl uT25 rfl tS25 (lb rfl)) <| smR 3 rfl <| rV rfl rfl (iSq rfl rfl rfl uT23 hi tS51 rfl (by rfl)) <| rV rfl rfl (lEA rfl rfl Tryz.underlying51 rfl tS51 (lb rfl)) <| nR <| wO 6 kR0 ?_
   refine wI rfl rfl nf nw (fun _ _=>ocq (yg8 u x (z5l hg) (zh6 hW hm)) ent33 rfl rfl) <| wR 0 [7] kR0 h30 <| smR 1 rfl <| nR <| wDn kR0 ?_
   refine tC rfl (fun hc22=>?_) fun hc22=>?_
   ·refine tQ <| tG <| sm 3 rfl <| nL <| tRt <| rOk rfl ?_ nPo
    have hx:z2w u x=false:=by simpa using hc22
    simp only [z1b,hg,if_true,hI1,hd,z4s,hx,Bool.false_eq_true,if_false]
   refine tSk <| tG <| sm 1 rfl <| cV rfl (oB rfl rfl (z04 rfl oM0)) <| sm 1 rfl <| nL ?_
   refine ⟨_,_,?_,Sub.of (fr':=[(4,iInt (k+1)),(1,.pv (.ept [arrs u.arrays,flws u.flows] 0))]) ⟨rfl,rfl,trivial⟩,(k+1),?_,?_,rfl,rfl,rfl⟩
   ·omega
   ·omega
   rw [hI1,hd]
   have hx:z2w u x=true:=by simpa using hc22
   simp only [z4s,hx,if_true]
   rfl
  refine tEx <| tQ <| tG <| sm 2 rfl <| nL <| tRt <| rOk rfl ?_ nPo
  have hge:u.flows.length<=k:=by simpa using hc12
  simp only [z1b,hg,if_true,hI1,List.drop_eq_nil_of_le hge,z4s]
set_option maxRecDepth 20000
set_option maxHeartbeats 2000000
theorem zv5 (u:Un):∀ d,
    (∀ l a s r,z1x u d l a s=some r->r.2.2.ar.length=s.ar.length)/\(∀ x a p s r,z39 u d x a p s=some r->r.2.2.ar.length=s.ar.length) /\
    (∀ k p s r,z3t u d k p s=some r->r.2.ar.length=s.ar.length)/\∀ x p s r,mSum u d x p s=some r->r.2.ar.length=s.ar.length
  | 0=>⟨fun _ _ _ _ h=>by simp [z1x] at h,fun _ _ _ _ _ h=>by simp [z39] at h,fun _ _ _ _ h=>by simp [z3t] at h,fun _ _ _ _ h=>by simp [mSum] at h⟩
  | d+1=>by
    obtain ⟨i1,i2,i3,i4⟩:=zv5 u d
    refine ⟨fun l a s r h=>?_,fun x a p s r h=>?_,fun k p s r h=>?_,fun x p s r h=>?_⟩
    ·cases l with
     | nil=>rw [y27 h]
     | cons x l =>
       obtain ⟨d1,e,h2⟩:=z7b rfl h
       obtain rfl:d1=d:=by omega
       rcases h2 with ⟨_,rfl⟩ | ⟨_,p,r1,_,h3,h4⟩
       ·exact congrArg List.length (zn4 s)
       have E1:r1.2.2.ar.length=s.ar.length:=by
         rw [<- zn4 s]
         unfold z4q at h3
         split at h3
         ·simp only [Option.bind_eq_some_iff,Option.map_eq_some_iff] at h3
          obtain ⟨o,_,v',_,rfl⟩:=h3
          rfl
         split at h3
         ·cases h3;rfl
         split at h3
         ·simp only [Option.bind_eq_some_iff] at h3
          obtain ⟨a0,_,q,_,r2,h5,h6⟩:=h3
          have h7:=i1 _ _ _ _ h5
          split at h6
          ·simp only [Option.map_eq_some_iff] at h6
           obtain ⟨v',_,rfl⟩:=h6
           exact h7
          cases h6;exact h7
         split at h3
         ·exact i2 _ _ _ _ _ h3
         simp only [Option.bind_eq_some_iff] at h3
         obtain ⟨r2,h5,h6⟩:=h3
         have h7:=i4 _ _ _ _ h5
         split at h6
         ·simp only [Option.bind_eq_some_iff,Option.map_eq_some_iff] at h6
          obtain ⟨o,_,v',_,rfl⟩:=h6
          exact h7
         cases h6;exact h7
       split at h4
       ·cases h4;exact E1
       exact (i1 _ _ _ _ h4).trans E1
    ·obtain ⟨d1,v2,q,r1,e,_,_,h3,h4⟩:=z4h h
     obtain rfl:d1=d:=by omega
     have E1:=i1 _ _ _ _ h3
     split at h4
     ·cases h4;exact E1
     split at h4
     ·simp only [Option.map_eq_some_iff] at h4
      obtain ⟨v',_,rfl⟩:=h4
      exact E1
     exact (i2 _ _ _ _ _ h4).trans E1
    ·obtain ⟨d1,f,r1,e,_,_,_,_,h3,rfl⟩:=z62 h
     obtain rfl:d1=d:=by omega
     exact i1 _ _ _ _ h3
    have ne:∀ {i:Int},x.kind≠i->(x.kind==i)=false:=fun h=>beq_eq_false_iff_ne.2 h
    by_cases k3:x.kind=3
    ·obtain ⟨a0,_,rfl⟩:=z7u h (beq_iff_eq.2 k3);rfl
    by_cases k4:x.kind=4
    ·obtain ⟨a0,a1,_,_,rfl⟩:=z6w h (beq_iff_eq.2 k4)
     dsimp only
     split<;>rfl
    by_cases k5:x.kind=5
    ·obtain ⟨a0,b,s',_,h2,h3⟩:=z64 h k5
     rcases h3 with ⟨rfl,rfl⟩ | ⟨rfl,row,y,_,_,rfl⟩
     ·exact ze6 h2
     rfl
    by_cases k6:x.kind=6
    ·obtain ⟨a0,b,s',_,h2,h3⟩:=z52 h k6
     rcases h3 with ⟨rfl,rfl⟩ | ⟨rfl,row,y,_,_,rfl⟩
     ·exact ze6 h2
     simp [z5d]
    by_cases k7:x.kind=7
    ·have:=i3 _ _ _ _ (z90 h (beq_iff_eq.2 k7));exact this
    by_cases k9:x.kind=9
    ·obtain ⟨a0,_,_,rfl⟩:=z65 h (beq_iff_eq.2 k9);rfl
    by_cases k8:x.kind=8
    ·rcases z7e h (beq_iff_eq.2 k8) with ⟨_,rfl⟩ | ⟨y,q,_,rfl⟩<;>rfl
    obtain rfl:=z7d h (ne k3) (ne k4) (ne k5) (ne k6) (ne k7) (ne k9) (ne k8);rfl
theorem y99 {u:Un} {d:Nat} {k:Int} {p:List Int} {s:Rs} {r:Int × Rs} (h:z3t u d k p s=some r):r.2.ar.length=s.ar.length:=(zv5 u d).2.2.1 _ _ _ _ h
theorem zk0 (u:Un) (hub:∀ f∈u.flows,lsW f.body<=1073741824):∀ D,SRC u D/\SRL u D
  | 0=>⟨fun _ h=>absurd h (Nat.not_lt_zero _),fun _ h=>absurd h (Nat.not_lt_zero _)⟩
  | D+1=>by
    obtain ⟨i1,i2⟩:=zk0 u hub D
    have a1:∀ d l v s r,z1x u d l v s=some r->r.2.2.ar.length=s.ar.length:=fun d=>(zv5 u d).1
    have a2:∀ d x v a s r,z39 u d x v a s=some r->r.2.2.ar.length=s.ar.length:=fun d=>(zv5 u d).2.1
    have a3:∀ d k a s r,z3t u d k a s=some r->r.2.ar.length=s.ar.length:=fun d=>(zv5 u d).2.2.1
    have a4:∀ d x a s r,mSum u d x a s=some r->r.2.ar.length=s.ar.length:=fun d=>(zv5 u d).2.2.2
    refine ⟨fun d hd k a s r h h1=>?_,fun d hd l v s r h hb h1=>?_⟩
    ·obtain ⟨ins,ar,st,code,out,cost,fuel,spent⟩:=s
     rcases ar with _ | ⟨row,_ | ⟨row2,t⟩⟩
     ·exact sr_call0 u hub D i2 a1 d (Nat.le_of_lt_succ hd) k a ⟨ins,[],st,code,out,cost,fuel,spent⟩ r h
     ·exact sr_call1 u hub D i2 a1 d (Nat.le_of_lt_succ hd) k a ⟨ins,[],st,code,out,cost,fuel,spent⟩ row r h
     simp at h1
    obtain ⟨ins,ar,st,code,out,cost,fuel,spent⟩:=s
    rcases ar with _ | ⟨row,_ | ⟨row2,t⟩⟩
    ·exact sr_list0 u D i1 i2 a3 a1 a2 a4 d (Nat.le_of_lt_succ hd) l v ⟨ins,[],st,code,out,cost,fuel,spent⟩ r h hb
    ·exact sr_list1 u D i1 i2 a3 a1 a2 a4 d (Nat.le_of_lt_succ hd) l v ⟨ins,[],st,code,out,cost,fuel,spent⟩ row r h hb
    simp at h1
theorem y8a (fq:FuncId) (ws:List IV) (pre:List (Nat × HO)) (hon:z30 (pre.map (·.1)) pre=true) (hent:z0f Tryz.prog fq) (p:Int->Bool) (l:List Int) (h:∀ x∈l,SC Tryz.prog fq ((iInt x)::ws) pre (fun _=>True) (iBool (p x)) pre):SC Tryz.prog 84 [.pv (ints l),.fn (.func fq) [] ws] pre (fun _=>True) (iInt (idxP p l 0)) pre:=by
  refine SC.of Tryz.func84 rfl (lb rfl) fun F ρ w=>?_
  refine Tr.lenOf (t:=0) rfl (fun hl=>?_)
  simp only [List.length_map] at hl
  refine tQ <| tG <| sm 1 rfl <| nL <| tQ <| tQ <| tG <| sm 1 rfl <| cV rfl (oSm uT35 rfl) <| sm 1 rfl <| nL <| tBk ?_
  refine Tr.sub (Sub.of (fr':=[(8,iInt 0),(7,iInt l.length),(0,.pv (ints l)),(1,.fn (.func fq) [] ws)]) ⟨rfl,rfl,rfl,rfl,trivial⟩) ?_
  refine Tr.loop (fun fr σ m=>∃ (k:Nat),(k<=l.length)/\(idxP p l 0=idxP p (l.drop k) k)/\fr=[(8,iInt k),(7,iInt l.length),(0,.pv (ints l)),(1,.fn (.func fq) [] ws)] /\ σ = look (up pre)/\m=l.length - k) (n:=l.length - 0) ?_ ?_
  ·exact ⟨0,Nat.zero_le _,rfl,rfl,rfl,rfl⟩
  rintro fr σ m ⟨k,hI0,hI1,rfl,rfl,rfl⟩
  refine tQ <| tG <| sm 1 rfl <| nL <| tQ ?_
  refine tC rfl (fun hc9=>?_) fun hc9=>?_
  ·have hlt:k<l.length:=by simpa using hc9
   have hd:=List.drop_eq_getElem_cons hlt
   have hm:=List.getElem_mem hlt
   have hi:=z0a (f:=eInt) (List.getElem?_eq_getElem hlt)
   generalize l[k]=x at hd hm hi
   refine tSk <| tQ <| tBk <| tQ <| tG <| sm 2 rfl <| nL <| tQ <| tG <| sm 3 rfl <| cV rfl (iSq rfl rfl rfl uT35 hi tS3 rfl (by rfl)) <| sm 1 rfl ?_
   refine cE rfl (z7w (h x hm) hent rfl rfl rfl (sRf _ _) (fun _ _ h=>h) (by rfl) (fun k (h:_)=>trivial) rfl (by assumption)) <| nL ?_
   refine tC rfl (fun hc16=>?_) fun hc16=>?_
   ·refine tQ <| tG <| sm 2 rfl <| nL <| tRt <| rOk rfl ?_ (fun k o h=>z44 rfl k o h)
    have hx:p x=true:=by simpa using hc16
    rw [hI1,hd]
    simp only [idxP,hx,if_true]
   refine tSk <| tG <| cV rfl (oB rfl rfl (z04 rfl oM0)) <| sm 1 rfl <| nL ?_
   refine ⟨_,_,?_,Sub.of (fr':=[(8,iInt (k+1)),(7,iInt l.length),(0,.pv (ints l)),(1,.fn (.func fq) [] ws)]) ⟨rfl,rfl,rfl,rfl,trivial⟩,(k+1),?_,?_,rfl,(z25 rfl),rfl⟩
   ·omega
   ·omega
   rw [hI1,hd]
   have hx:p x=false:=by simpa using hc16
   simp only [idxP,hx,Bool.false_eq_true,if_false]
   rfl
  refine tEx <| tQ <| tG <| sm 1 rfl <| nL <| tRt <| rOk rfl ?_ (fun _ _ h=>h)
  have hge:l.length<=k:=by simpa using hc9
  rw [hI1,List.drop_eq_nil_of_le hge]
  rfl
theorem y87 (fq:FuncId) (ws:List IV) (pre:List (Nat × HO)) (hon:z30 (pre.map (·.1)) pre=true) (hent:z0f Tryz.prog fq) (p:Int->Bool) (l:List Int) (h:∀ x∈l,SC Tryz.prog fq ((iInt x)::ws) pre (fun _=>True) (iBool (p x)) pre):SC Tryz.prog 59 [.pv (ints l),.fn (.func fq) [] ws] pre (fun _=>True) (iBool (l.any p)) pre:=by
  refine SC.of Tryz.func59 rfl (lb rfl) fun F ρ w=>?_
  refine tQ <| tG <| sm 1 rfl <| nL <| tQ <| tG <| sm 2 rfl <| cE rfl (cRr (y8a fq ws pre hon hent p l h) ent84 rfl rfl (sRf _ _) (fun _ _ h=>h) (by rfl) (fun k (h:_)=>.inr trivial) rfl (by assumption)) <| sm 2 rfl <| nL <| tRt <| rOk rfl ?_ (fun k o h=>z44 rfl k o h)
  exact congrArg (fun b=>iBool b) (ze2 p l 0 (Int.le_refl 0))
theorem y54 (fq:FuncId) (ws:List IV) (pre:List (Nat × HO)) (hon:z30 (pre.map (·.1)) pre=true) (hent:z0f Tryz.prog fq) (p:Nd->Bool) (l:List Nd) (h:∀ x∈l,SC Tryz.prog fq ((.pv (ndv x))::ws) pre (fun _=>True) (iBool (p x)) pre):SC Tryz.prog 130 [.pv (z0o l),.fn (.func fq) [] ws] pre (fun _=>True) (iInt (idxP p l 0)) pre:=by
  refine SC.of Tryz.func130 rfl (lb rfl) fun F ρ w=>?_
  refine Tr.lenOf (t:=0) rfl (fun hl=>?_)
  simp only [List.length_map] at hl
  refine tQ <| tG <| sm 1 rfl <| nL <| tQ <| tQ <| tG <| sm 1 rfl <| cV rfl (oSm uT44 rfl) <| sm 1 rfl <| nL <| tBk ?_
  refine Tr.sub (Sub.of (fr':=[(8,iInt 0),(7,iInt l.length),(0,.pv (z0o l)),(1,.fn (.func fq) [] ws)]) ⟨rfl,rfl,rfl,rfl,trivial⟩) ?_
  refine Tr.loop (fun fr σ m=>∃ (k:Nat),(k<=l.length)/\(idxP p l 0=idxP p (l.drop k) k)/\fr=[(8,iInt k),(7,iInt l.length),(0,.pv (z0o l)),(1,.fn (.func fq) [] ws)] /\ σ = look (up pre)/\m=l.length - k) (n:=l.length - 0) ?_ ?_
  ·exact ⟨0,Nat.zero_le _,rfl,rfl,rfl,rfl⟩
  rintro fr σ m ⟨k,hI0,hI1,rfl,rfl,rfl⟩
  refine tQ <| tG <| sm 1 rfl <| nL <| tQ ?_
  refine tC rfl (fun hc9=>?_) fun hc9=>?_
  ·have hlt:k<l.length:=by simpa using hc9
   have hd:=List.drop_eq_getElem_cons hlt
   have hm:=List.getElem_mem hlt
   have hi:=z0k (List.getElem?_eq_getElem hlt)
   generalize l[k]=x at hd hm hi
   refine tSk <| tQ <| tBk <| tQ <| tG <| sm 2 rfl <| nL <| tQ <| tG <| sm 3 rfl <| cV rfl (iSq rfl rfl rfl uT44 hi tS43 rfl (by rfl)) <| cV rfl (lEA rfl rfl uT43 rfl tS43 (lb rfl)) ?_
   refine cE rfl (z7w (h x hm) hent rfl rfl rfl (sRf _ _) (fun _ _ h=>h) (by rfl) (fun k (h:_)=>trivial) rfl (by assumption)) <| nL ?_
   refine tC rfl (fun hc16=>?_) fun hc16=>?_
   ·refine tQ <| tG <| sm 2 rfl <| nL <| tRt <| rOk rfl ?_ (fun k o h=>z44 rfl k o h)
    have hx:p x=true:=by simpa using hc16
    rw [hI1,hd]
    simp only [idxP,hx,if_true]
   refine tSk <| tG <| cV rfl (oB rfl rfl (z04 rfl oM0)) <| sm 1 rfl <| nL ?_
   refine ⟨_,_,?_,Sub.of (fr':=[(8,iInt (k+1)),(7,iInt l.length),(0,.pv (z0o l)),(1,.fn (.func fq) [] ws)]) ⟨rfl,rfl,rfl,rfl,trivial⟩,(k+1),?_,?_,rfl,(z25 rfl),rfl⟩
   ·omega
   ·omega
   rw [hI1,hd]
   have hx:p x=false:=by simpa using hc16
   simp only [idxP,hx,Bool.false_eq_true,if_false]
   rfl
  refine tEx <| tQ <| tG <| sm 1 rfl <| nL <| tRt <| rOk rfl ?_ (fun _ _ h=>h)
  have hge:l.length<=k:=by simpa using hc9
  rw [hI1,List.drop_eq_nil_of_le hge]
  rfl
theorem y52 (fq:FuncId) (ws:List IV) (pre:List (Nat × HO)) (hon:z30 (pre.map (·.1)) pre=true) (hent:z0f Tryz.prog fq) (p:Nd->Bool) (l:List Nd) (h:∀ x∈l,SC Tryz.prog fq ((.pv (ndv x))::ws) pre (fun _=>True) (iBool (p x)) pre):SC Tryz.prog 119 [.pv (z0o l),.fn (.func fq) [] ws] pre (fun _=>True) (iBool (l.any p)) pre:=by
  refine SC.of Tryz.func119 rfl (lb rfl) fun F ρ w=>?_
  refine tQ <| tG <| sm 1 rfl <| nL <| tQ <| tG <| sm 2 rfl <| cE rfl (cRr (y54 fq ws pre hon hent p l h) ent130 rfl rfl (sRf _ _) (fun _ _ h=>h) (by rfl) (fun k (h:_)=>.inr trivial) rfl (by assumption)) <| sm 2 rfl <| nL <| tRt <| rOk rfl ?_ (fun k o h=>z44 rfl k o h)
  exact congrArg (fun b=>iBool b) (ze2 p l 0 (Int.le_refl 0))
theorem y8b (fq:FuncId) (ws:List IV) (pre:List (Nat × HO)) (hon:z30 (pre.map (·.1)) pre=true) (hent:z0f Tryz.prog fq) (p:(List Nd)->Bool) (l:List (List Nd)) (h:∀ x∈l,SC Tryz.prog fq ((.pv (z0o x))::ws) pre (fun _=>True) (iBool (p x)) pre):SC Tryz.prog 131 [.pv (kids l),.fn (.func fq) [] ws] pre (fun _=>True) (iInt (idxP p l 0)) pre:=by
  refine SC.of Tryz.func131 rfl (lb rfl) fun F ρ w=>?_
  refine Tr.lenOf (t:=0) rfl (fun hl=>?_)
  simp only [List.length_map] at hl
  refine tQ <| tG <| sm 1 rfl <| nL <| tQ <| tQ <| tG <| sm 1 rfl <| cV rfl (oSm uT41 rfl) <| sm 1 rfl <| nL <| tBk ?_
  refine Tr.sub (Sub.of (fr':=[(8,iInt 0),(7,iInt l.length),(0,.pv (kids l)),(1,.fn (.func fq) [] ws)]) ⟨rfl,rfl,rfl,rfl,trivial⟩) ?_
  refine Tr.loop (fun fr σ m=>∃ (k:Nat),(k<=l.length)/\(idxP p l 0=idxP p (l.drop k) k)/\fr=[(8,iInt k),(7,iInt l.length),(0,.pv (kids l)),(1,.fn (.func fq) [] ws)] /\ σ = look (up pre)/\m=l.length - k) (n:=l.length - 0) ?_ ?_
  ·exact ⟨0,Nat.zero_le _,rfl,rfl,rfl,rfl⟩
  rintro fr σ m ⟨k,hI0,hI1,rfl,rfl,rfl⟩
  refine tQ <| tG <| sm 1 rfl <| nL <| tQ ?_
  refine tC rfl (fun hc9=>?_) fun hc9=>?_
  ·have hlt:k<l.length:=by simpa using hc9
   have hd:=List.drop_eq_getElem_cons hlt
   have hm:=List.getElem_mem hlt
   have hi:=z0a (f:=eKid) (List.getElem?_eq_getElem hlt)
   generalize l[k]=x at hd hm hi
   refine tSk <| tQ <| tBk <| tQ <| tG <| sm 2 rfl <| nL <| tQ <| tG <| sm 3 rfl <| cV rfl (iSq rfl rfl rfl uT41 hi tS44 rfl (by rfl)) <| sm 1 rfl ?_
   refine cE rfl (z7w (h x hm) hent rfl rfl rfl (sRf _ _) (fun _ _ h=>h) (by rfl) (fun k (h:_)=>trivial) rfl (by assumption)) <| nL ?_
   refine tC rfl (fun hc16=>?_) fun hc16=>?_
   ·refine tQ <| tG <| sm 2 rfl <| nL <| tRt <| rOk rfl ?_ (fun k o h=>z44 rfl k o h)
    have hx:p x=true:=by simpa using hc16
    rw [hI1,hd]
    simp only [idxP,hx,if_true]
   refine tSk <| tG <| cV rfl (oB rfl rfl (z04 rfl oM0)) <| sm 1 rfl <| nL ?_
   refine ⟨_,_,?_,Sub.of (fr':=[(8,iInt (k+1)),(7,iInt l.length),(0,.pv (kids l)),(1,.fn (.func fq) [] ws)]) ⟨rfl,rfl,rfl,rfl,trivial⟩,(k+1),?_,?_,rfl,(z25 rfl),rfl⟩
   ·omega
   ·omega
   rw [hI1,hd]
   have hx:p x=false:=by simpa using hc16
   simp only [idxP,hx,Bool.false_eq_true,if_false]
   rfl
  refine tEx <| tQ <| tG <| sm 1 rfl <| nL <| tRt <| rOk rfl ?_ (fun _ _ h=>h)
  have hge:l.length<=k:=by simpa using hc9
  rw [hI1,List.drop_eq_nil_of_le hge]
  rfl
theorem y88 (fq:FuncId) (ws:List IV) (pre:List (Nat × HO)) (hon:z30 (pre.map (·.1)) pre=true) (hent:z0f Tryz.prog fq) (p:(List Nd)->Bool) (l:List (List Nd)) (h:∀ x∈l,SC Tryz.prog fq ((.pv (z0o x))::ws) pre (fun _=>True) (iBool (p x)) pre):SC Tryz.prog 121 [.pv (kids l),.fn (.func fq) [] ws] pre (fun _=>True) (iBool (l.any p)) pre:=by
  refine SC.of Tryz.func121 rfl (lb rfl) fun F ρ w=>?_
  refine tQ <| tG <| sm 1 rfl <| nL <| tQ <| tG <| sm 2 rfl <| cE rfl (cRr (y8b fq ws pre hon hent p l h) ent131 rfl rfl (sRf _ _) (fun _ _ h=>h) (by rfl) (fun k (h:_)=>.inr trivial) rfl (by assumption)) <| sm 2 rfl <| nL <| tRt <| rOk rfl ?_ (fun k o h=>z44 rfl k o h)
  exact congrArg (fun b=>iBool b) (ze2 p l 0 (Int.le_refl 0))
theorem y89 (fq:FuncId) (ws:List IV) (pre:List (Nat × HO)) (hon:z30 (pre.map (·.1)) pre=true) (hent:z0f Tryz.prog fq) (p:Ar->Bool) (l:List Ar) (h:∀ x∈l,SC Tryz.prog fq ((.pv (.agg x.enc))::ws) pre (fun _=>True) (iBool (p x)) pre):SC Tryz.prog 133 [.pv (arrs l),.fn (.func fq) [] ws] pre (fun _=>True) (iInt (idxP p l 0)) pre:=by
  refine SC.of Tryz.func133 rfl (lb rfl) fun F ρ w=>?_
  refine Tr.lenOf (t:=0) rfl (fun hl=>?_)
  simp only [List.length_map] at hl
  refine tQ <| tG <| sm 1 rfl <| nL <| tQ <| tQ <| tG <| sm 1 rfl <| cV rfl (oSm Tryz.underlying22 rfl) <| sm 1 rfl <| nL <| tBk ?_
  refine Tr.sub (Sub.of (fr':=[(8,iInt 0),(7,iInt l.length),(0,.pv (arrs l)),(1,.fn (.func fq) [] ws)]) ⟨rfl,rfl,rfl,rfl,trivial⟩) ?_
  refine Tr.loop (fun fr σ m=>∃ (k:Nat),(k<=l.length)/\(idxP p l 0=idxP p (l.drop k) k)/\fr=[(8,iInt k),(7,iInt l.length),(0,.pv (arrs l)),(1,.fn (.func fq) [] ws)] /\ σ = look (up pre)/\m=l.length - k) (n:=l.length - 0) ?_ ?_
  ·exact ⟨0,Nat.zero_le _,rfl,rfl,rfl,rfl⟩
  rintro fr σ m ⟨k,hI0,hI1,rfl,rfl,rfl⟩
  refine tQ <| tG <| sm 1 rfl <| nL <| tQ ?_
  refine tC rfl (fun hc9=>?_) fun hc9=>?_
  ·have hlt:k<l.length:=by simpa using hc9
   have hd:=List.drop_eq_getElem_cons hlt
   have hm:=List.getElem_mem hlt
   have hi:=z0a (f:=Ar.enc) (List.getElem?_eq_getElem hlt)
   generalize l[k]=x at hd hm hi
   refine tSk <| tQ <| tBk <| tQ <| tG <| sm 2 rfl <| nL <| tQ <| tG <| sm 3 rfl <| cV rfl (iSq rfl rfl rfl Tryz.underlying22 hi tS49 rfl (by rfl)) <| cV rfl (lEA rfl rfl Tryz.underlying49 rfl tS49 (lb rfl)) ?_
   refine cE rfl (z7w (h x hm) hent rfl rfl rfl (sRf _ _) (fun _ _ h=>h) (by rfl) (fun k (h:_)=>trivial) rfl (by assumption)) <| nL ?_
   refine tC rfl (fun hc16=>?_) fun hc16=>?_
   ·refine tQ <| tG <| sm 2 rfl <| nL <| tRt <| rOk rfl ?_ (fun k o h=>z44 rfl k o h)
    have hx:p x=true:=by simpa using hc16
    rw [hI1,hd]
    simp only [idxP,hx,if_true]
   refine tSk <| tG <| cV rfl (oB rfl rfl (z04 rfl oM0)) <| sm 1 rfl <| nL ?_
   refine ⟨_,_,?_,Sub.of (fr':=[(8,iInt (k+1)),(7,iInt l.length),(0,.pv (arrs l)),(1,.fn (.func fq) [] ws)]) ⟨rfl,rfl,rfl,rfl,trivial⟩,(k+1),?_,?_,rfl,(z25 rfl),rfl⟩
   ·omega
   ·omega
   rw [hI1,hd]
   have hx:p x=false:=by simpa using hc16
   simp only [idxP,hx,Bool.false_eq_true,if_false]
   rfl
  refine tEx <| tQ <| tG <| sm 1 rfl <| nL <| tRt <| rOk rfl ?_ (fun _ _ h=>h)
  have hge:l.length<=k:=by simpa using hc9
  rw [hI1,List.drop_eq_nil_of_le hge]
  rfl
theorem y86 (fq:FuncId) (ws:List IV) (pre:List (Nat × HO)) (hon:z30 (pre.map (·.1)) pre=true) (hent:z0f Tryz.prog fq) (p:Ar->Bool) (l:List Ar) (h:∀ x∈l,SC Tryz.prog fq ((.pv (.agg x.enc))::ws) pre (fun _=>True) (iBool (p x)) pre):SC Tryz.prog 128 [.pv (arrs l),.fn (.func fq) [] ws] pre (fun _=>True) (iBool (l.any p)) pre:=by
  refine SC.of Tryz.func128 rfl (lb rfl) fun F ρ w=>?_
  refine tQ <| tG <| sm 1 rfl <| nL <| tQ <| tG <| sm 2 rfl <| cE rfl (cRr (y89 fq ws pre hon hent p l h) ent133 rfl rfl (sRf _ _) (fun _ _ h=>h) (by rfl) (fun k (h:_)=>.inr trivial) rfl (by assumption)) <| sm 2 rfl <| nL <| tRt <| rOk rfl ?_ (fun k o h=>z44 rfl k o h)
  exact congrArg (fun b=>iBool b) (ze2 p l 0 (Int.le_refl 0))
theorem y53 (fq:FuncId) (ws:List IV) (pre:List (Nat × HO)) (hon:z30 (pre.map (·.1)) pre=true) (hent:z0f Tryz.prog fq) (p:Fl->Bool) (l:List Fl) (h:∀ x∈l,SC Tryz.prog fq ((.pv (.agg x.enc))::ws) pre (fun _=>True) (iBool (p x)) pre):SC Tryz.prog 82 [.pv (flws l),.fn (.func fq) [] ws] pre (fun _=>True) (iInt (idxP p l 0)) pre:=by
  refine SC.of Tryz.func82 rfl (lb rfl) fun F ρ w=>?_
  refine Tr.lenOf (t:=0) rfl (fun hl=>?_)
  simp only [List.length_map] at hl
  refine tQ <| tG <| sm 1 rfl <| nL <| tQ <| tQ <| tG <| sm 1 rfl <| cV rfl (oSm uT23 rfl) <| sm 1 rfl <| nL <| tBk ?_
  refine Tr.sub (Sub.of (fr':=[(8,iInt 0),(7,iInt l.length),(0,.pv (flws l)),(1,.fn (.func fq) [] ws)]) ⟨rfl,rfl,rfl,rfl,trivial⟩) ?_
  refine Tr.loop (fun fr σ m=>∃ (k:Nat),(k<=l.length)/\(idxP p l 0=idxP p (l.drop k) k)/\fr=[(8,iInt k),(7,iInt l.length),(0,.pv (flws l)),(1,.fn (.func fq) [] ws)] /\ σ = look (up pre)/\m=l.length - k) (n:=l.length - 0) ?_ ?_
  ·exact ⟨0,Nat.zero_le _,rfl,rfl,rfl,rfl⟩
  rintro fr σ m ⟨k,hI0,hI1,rfl,rfl,rfl⟩
  refine tQ <| tG <| sm 1 rfl <| nL <| tQ ?_
  refine tC rfl (fun hc9=>?_) fun hc9=>?_
  ·have hlt:k<l.length:=by simpa using hc9
   have hd:=List.drop_eq_getElem_cons hlt
   have hm:=List.getElem_mem hlt
   have hi:=z0a (f:=Fl.enc) (List.getElem?_eq_getElem hlt)
   generalize l[k]=x at hd hm hi
   refine tSk <| tQ <| tBk <| tQ <| tG <| sm 2 rfl <| nL <| tQ <| tG <| sm 3 rfl <| cV rfl (iSq rfl rfl rfl uT23 hi tS51 rfl (by rfl)) <| cV rfl (lEA rfl rfl Tryz.underlying51 rfl tS51 (lb rfl)) ?_
   refine cE rfl (z7w (h x hm) hent rfl rfl rfl (sRf _ _) (fun _ _ h=>h) (by rfl) (fun k (h:_)=>trivial) rfl (by assumption)) <| nL ?_
   refine tC rfl (fun hc16=>?_) fun hc16=>?_
   ·refine tQ <| tG <| sm 2 rfl <| nL <| tRt <| rOk rfl ?_ (fun k o h=>z44 rfl k o h)
    have hx:p x=true:=by simpa using hc16
    rw [hI1,hd]
    simp only [idxP,hx,if_true]
   refine tSk <| tG <| cV rfl (oB rfl rfl (z04 rfl oM0)) <| sm 1 rfl <| nL ?_
   refine ⟨_,_,?_,Sub.of (fr':=[(8,iInt (k+1)),(7,iInt l.length),(0,.pv (flws l)),(1,.fn (.func fq) [] ws)]) ⟨rfl,rfl,rfl,rfl,trivial⟩,(k+1),?_,?_,rfl,(z25 rfl),rfl⟩
   ·omega
   ·omega
   rw [hI1,hd]
   have hx:p x=false:=by simpa using hc16
   simp only [idxP,hx,Bool.false_eq_true,if_false]
   rfl
  refine tEx <| tQ <| tG <| sm 1 rfl <| nL <| tRt <| rOk rfl ?_ (fun _ _ h=>h)
  have hge:l.length<=k:=by simpa using hc9
  rw [hI1,List.drop_eq_nil_of_le hge]
  rfl
theorem sc_eqf (fq:FuncId) (ws:List IV) (S:Type) (H:S->List (Nat × HO)) (ks:List Nat) (hks:∀ s,(H s).map (·.1)=ks) (hon:∀ s,z30 ((H s).map (·.1)) (H s)=true) (hent:z0f Tryz.prog fq) (p:S->Int->Int->Bool × S) (R:Nat->Prop) (G:S->Prop) (hG:∀ s x y,G s->G (p s x y).2) (h:∀ s x y,G s->SC Tryz.prog fq (iInt x::iInt y::ws) (H s) R (iBool (p s x y).1) (H (p s x y).2)) (s:S) (hs:G s) (a b:List Int):SC Tryz.prog 123 [.pv (ints a),.pv (ints b),.fn (.func fq) [] ws] (H s) (R) (iBool (eqf p s a b).1) (H (eqf p s a b).2):=by
  refine SC.of Tryz.func123 rfl (lb rfl) fun F ρ w=>?_
  refine Tr.lenOf (t:=0) rfl (fun hl=>?_)
  simp only [List.length_map] at hl
  refine Tr.lenOf (t:=1) rfl (fun hl2=>?_)
  simp only [List.length_map] at hl2
  refine tQ <| tG <| sm 1 rfl <| nL <| tQ <| tQ <| tG <| sm 1 rfl <| cV rfl (oSm uT35 rfl) <| sm 1 rfl <| cV rfl (oSm uT35 rfl) <| sm 1 rfl ?_
  refine nL ?_
  refine tC rfl (fun hc14=>?_) fun hc14=>?_
  ·refine tQ <| tG <| sm 1 rfl <| nL <| tRt ?_
   have hne:¬ (a.length:Int)=b.length:=by simpa using hc14
   have he:eqf p s a b=(false,s):=by simp only [eqf,hne,if_false]
   rw [he]
   exact rOk rfl rfl (fun _ _ h=>h)
  have hlen:a.length=b.length:=by simp at hc14;omega
  have hlz:(a.length:Int)=b.length:=by omega
  refine tSk <| tQ <| tQ <| tG <| sm 1 rfl <| cV rfl (oSm uT35 rfl) <| sm 1 rfl <| nL <| tBk <| Tr.sub (Sub.of (fr':=[(17,iInt 0),(16,iInt a.length),(15,.pv (ints a)),(0,.pv (ints a)),(1,.pv (ints b)),(2,.fn (.func fq) [] ws)]) ⟨rfl,rfl,rfl,rfl,rfl,rfl,trivial⟩) ?_
  refine Tr.loop (fun fr σ m=>∃ (k:Nat) (st:S),(k<=a.length)/\(eqGo p s a b=eqGo p st (a.drop k) (b.drop k))/\(G st)/\fr=[(17,iInt k),(16,iInt a.length),(15,.pv (ints a)),(0,.pv (ints a)),(1,.pv (ints b)),(2,.fn (.func fq) [] ws)] /\ σ = look (up (H st))/\m=a.length - k) (n:=a.length - 0) ?_ ?_
  ·exact ⟨0,s,Nat.zero_le _,rfl,hs,rfl,rfl,rfl⟩
  rintro fr σ m ⟨k,st,hI0,hI1,hI2,rfl,rfl,rfl⟩
  refine tQ <| tG <| sm 1 rfl <| nL <| tQ ?_
  refine tC rfl (fun hc18=>?_) fun hc18=>?_
  ·have hlt:k<a.length:=by simpa using hc18
   have hd:=List.drop_eq_getElem_cons hlt
   have hm:=List.getElem_mem hlt
   have hi:=z0a (f:=eInt) (List.getElem?_eq_getElem hlt)
   generalize a[k]=x at hd hm hi
   have hltw:k<b.length:=by omega
   have hdw:=List.drop_eq_getElem_cons hltw
   have hw:=z0a (f:=eInt) (List.getElem?_eq_getElem hltw)
   generalize b[k]=y at hdw hw
   have hdom:=(hks st).trans (hks (p st x y).2).symm
   have hon2:=hon (p st x y).2
   refine tSk <| tQ <| tBk <| tQ <| tG <| sm 1 rfl <| cV rfl (iSq rfl rfl rfl uT35 hi tS3 rfl (by rfl)) <| sm 3 rfl <| nL <| tQ <| tG <| sm 2 rfl ?_
   refine cV rfl (iSq rfl rfl rfl uT35 hw tS3 rfl (by rfl)) <| sm 2 rfl <| nL <| tQ <| tG <| sm 3 rfl <| cE rfl (z7w (h st x y hI2) hent rfl rfl rfl (sRf _ _) (fun _ _ h=>h) (by assumption) (fun k (h:_)=>h) rfl (by assumption)) <| sm 1 rfl <| nL ?_
   refine tC rfl (fun hc30=>?_) fun hc30=>?_
   ·refine tQ <| tG <| sm 1 rfl <| nL <| tRt ?_
    have hx:(p st x y).1=false:=by simpa using hc30
    have he:eqf p s a b=(false,(p st x y).2):=by simp only [eqf,hlz,if_true,hI1,hd,hdw,eqGo,hx,Bool.false_eq_true,if_false]
    rw [he]
    exact rOk rfl rfl (fun k o h=>z44 ((hks _).trans (hks _).symm) k o h)
   refine tSk <| tG <| cV rfl (oB rfl rfl (z04 rfl oM0)) <| sm 1 rfl <| nL ?_
   refine ⟨_,_,?_,Sub.of (fr':=[(17,iInt (k+1)),(16,iInt a.length),(15,.pv (ints a)),(0,.pv (ints a)),(1,.pv (ints b)),(2,.fn (.func fq) [] ws)]) ⟨rfl,rfl,rfl,rfl,rfl,rfl,trivial⟩,(k+1),(p st x y).2,?_,?_,?_,rfl,(z25 ((hks _).trans (hks _).symm)),rfl⟩
   ·omega
   ·omega
   ·rw [hI1,hd,hdw]
    have hx:(p st x y).1=true:=by simpa using hc30
    simp only [eqGo,hx,if_true]
   exact hG _ _ _ hI2
  refine tEx <| tQ <| tG <| sm 1 rfl <| nL <| tRt ?_
  have hge:a.length<=k:=by simpa using hc18
  have he:eqf p s a b=(true,st):=by simp only [eqf,hlz,if_true,hI1,List.drop_eq_nil_of_le hge,eqGo]
  rw [he]
  exact rOk rfl rfl (fun _ _ h=>h)
theorem yg5 (t:Int):SC Tryz.prog 57 [iInt t] [] (fun _=>False) (iBool (isTy t)) []:=by
  refine SC.of Tryz.func57 rfl (lb rfl) fun F ρ w=>?_
  refine tQ <| tG <| sm 1 rfl <| nL <| tQ <| tG <| sm 3 rfl ?_
  refine wS 5 rfl (fun hb5=>?_) fun hb5=>?_
  ·refine sm 4 rfl <| nL <| tRt <| rOk rfl ?_ nPo
   simp_all [isTy]
  refine sm 4 rfl <| nL <| tRt <| rOk rfl ?_ nPo
  simp_all [isTy]
theorem sc_flow1 (t:Int):SC Tryz.prog 60 [iInt t] [] (fun _=>False) (iBool (!isTy t)) []:=by
  refine SC.of Tryz.func60 rfl (lb rfl) fun F ρ w=>?_
  refine tQ <| tG <| sm 1 rfl <| nL <| tQ <| tG <| sm 1 rfl <| cE rfl (ocq (yg5 _) ent57 rfl rfl) <| sm 2 rfl <| nL <| tRt <| rOk rfl ?_ nPo
  rfl
theorem z9e (x:Nd):SC Tryz.prog 103 [.pv (ndv x)] [] (fun _=>False) (iBool (z0u x.kind)) []:=by
  refine SC.of Tryz.func103 rfl (lb rfl) fun F ρ w=>?_
  refine tQ <| tG <| cE rfl (z2m rfl rfl) <| sm 1 rfl <| nL <| tQ <| tG <| sm 4 rfl ?_
  refine wS 6 rfl (fun hb6=>?_) fun hb6=>?_
  ·refine sm 5 rfl <| nL <| tRt <| rOk rfl ?_ nPo
   unfold z0u
   simp_all<;>omega
  refine sm 5 rfl <| nL <| tRt <| rOk rfl ?_ nPo
  unfold z0u
  simp_all<;>omega
theorem zt4 (l:List Nd):SC Tryz.prog 106 [.pv (z0o l)] [] (fun _=>False) (iBool (zo3 l)) []:=by
  refine SC.of Tryz.func106 rfl (lb rfl) fun F ρ w=>?_
  refine Tr.lenOf (t:=0) rfl (fun hl=>?_)
  simp only [List.length_map] at hl
  refine tQ <| tG <| sm 1 rfl <| nL <| tQ <| tG <| sm 1 rfl <| cV rfl (oSm uT44 rfl) <| sm 2 rfl ?_
  refine wS 6 rfl (fun hb6=>?_) fun hb6=>?_
  ·have hpos:0<l.length:=by simp at hb6;omega
   have hlt:l.length - 1<l.length:=by omega
   have hi:=z0k (List.getElem?_eq_getElem hlt)
   have hlast:l.getLast? = some l[l.length - 1]:=by rw [List.getLast?_eq_getElem?];exact List.getElem?_eq_getElem hlt
   generalize l[l.length - 1]=x at hi hlast
   have hsub:(l.length:Int) - 1=((l.length - 1:Nat):Int):=by omega
   refine sm 2 rfl <| yV rfl rfl (oSm uT44 rfl) <| yV rfl rfl (oB rfl rfl (z3i rfl oM0)) <| WL.sub (Sub.of (fr':=[(10,iInt ((l.length - 1:Nat):Int)),(7,.pv (z0o l)),(6,iBool true)]) ⟨by rw [<- hsub];rfl,rfl,rfl,trivial⟩) <| yV rfl rfl (iSq rfl rfl rfl uT44 (by assumption) tS43 rfl (by rfl)) <| sm 5 rfl <| nL <| tRt <| rOk rfl ?_ nPo
   refine congrArg (fun b=>iBool b) ?_
   simp [zo3,hlast]
  refine sm 10 rfl <| nL <| tRt <| rOk rfl ?_ nPo
  refine congrArg (fun b=>iBool b) ?_
  (have h0:l=[]:=by cases l<;>simp_all<;>omega
   subst h0;rfl)
theorem y30 (op:Int):SC Tryz.prog 126 [iInt op] [] (fun _=>False) (.tup [iInt (z0c op).1,iInt (z0c op).2]) []:=by
  refine SC.of Tryz.func126 rfl (lb rfl) fun F ρ w=>?_
  refine tQ <| tG <| sm 2 rfl <| nL <| tQ <| tQ <| tG <| sm 1 rfl <| nL <| tBk <| tQ <| tG ?_
  refine sm 2 rfl <| nL ?_
  refine tC rfl (fun hc5=>?_) fun hc5=>?_
  ·refine tQ <| tG <| sm 2 rfl <| nL <| tRt <| rOk rfl ?_ nPo
   first | (simp_all [z0c];done) | (simp_all [z0c];split<;>first | omega | (simp;done))
  refine tQ <| tQ <| tG <| sm 2 rfl <| nL ?_
  refine tC rfl (fun hc7=>?_) fun hc7=>?_
  ·refine tSk ?_
   refine tC rfl (fun hc7=>?_) fun hc7=>?_
   ·refine tQ <| tG <| sm 2 rfl <| nL <| tRt <| rOk rfl ?_ nPo
    first | (simp_all [z0c];done) | (simp_all [z0c];split<;>first | omega | (simp;done))
   refine tQ <| tQ <| tG <| sm 2 rfl <| nL ?_
   refine tC rfl (fun hc10=>?_) fun hc10=>?_
   ·refine tSk ?_
    refine tC rfl (fun hc10=>?_) fun hc10=>?_
    ·refine tQ <| tG <| sm 2 rfl <| nL <| tRt <| rOk rfl ?_ nPo
     first | (simp_all [z0c];done) | (simp_all [z0c];split<;>first | omega | (simp;done))
    refine tSk <| tQ <| tG <| sm 2 rfl <| nL <| tRt <| rOk rfl ?_ nPo
    first | (simp_all [z0c];done) | (simp_all [z0c];split<;>first | omega | (simp;done))
   refine tQ <| tG <| sm 2 rfl <| nL ?_
   refine tC rfl (fun hc10=>?_) fun hc10=>?_
   ·refine tSk ?_
    refine tC rfl (fun hc10=>?_) fun hc10=>?_
    ·refine tQ <| tG <| sm 2 rfl <| nL <| tRt <| rOk rfl ?_ nPo
     first | (simp_all [z0c];done) | (simp_all [z0c];split<;>first | omega | (simp;done))
    refine tSk <| tQ <| tG <| sm 2 rfl <| nL <| tRt <| rOk rfl ?_ nPo
    first | (simp_all [z0c];done) | (simp_all [z0c];split<;>first | omega | (simp;done))
   refine tQ <| tG <| sm 2 rfl <| nL ?_
   refine tC rfl (fun hc10=>?_) fun hc10=>?_
   ·refine tSk ?_
    refine tC rfl (fun hc10=>?_) fun hc10=>?_
    ·refine tQ <| tG <| sm 2 rfl <| nL <| tRt <| rOk rfl ?_ nPo
     first | (simp_all [z0c];done) | (simp_all [z0c];split<;>first | omega | (simp;done))
    refine tSk <| tQ <| tG <| sm 2 rfl <| nL <| tRt <| rOk rfl ?_ nPo
    first | (simp_all [z0c];done) | (simp_all [z0c];split<;>first | omega | (simp;done))
   refine tG <| sm 2 rfl <| nL ?_
   refine tC rfl (fun hc10=>?_) fun hc10=>?_
   ·refine tQ <| tG <| sm 2 rfl <| nL <| tRt <| rOk rfl ?_ nPo
    first | (simp_all [z0c];done) | (simp_all [z0c];split<;>first | omega | (simp;done))
   refine tSk <| tQ <| tG <| sm 2 rfl <| nL <| tRt <| rOk rfl ?_ nPo
   first | (simp_all [z0c];done) | (simp_all [z0c];split<;>first | omega | (simp;done))
  refine tG <| sm 2 rfl <| nL ?_
  refine tC rfl (fun hc7=>?_) fun hc7=>?_
  ·refine tQ <| tG <| sm 2 rfl <| nL <| tRt <| rOk rfl ?_ nPo
   first | (simp_all [z0c];done) | (simp_all [z0c];split<;>first | omega | (simp;done))
  refine tQ <| tQ <| tG <| sm 2 rfl <| nL ?_
  refine tC rfl (fun hc10=>?_) fun hc10=>?_
  ·refine tSk ?_
   refine tC rfl (fun hc10=>?_) fun hc10=>?_
   ·refine tQ <| tG <| sm 2 rfl <| nL <| tRt <| rOk rfl ?_ nPo
    first | (simp_all [z0c];done) | (simp_all [z0c];split<;>first | omega | (simp;done))
   refine tSk <| tQ <| tG <| sm 2 rfl <| nL <| tRt <| rOk rfl ?_ nPo
   first | (simp_all [z0c];done) | (simp_all [z0c];split<;>first | omega | (simp;done))
  refine tQ <| tG <| sm 2 rfl <| nL ?_
  refine tC rfl (fun hc10=>?_) fun hc10=>?_
  ·refine tSk ?_
   refine tC rfl (fun hc10=>?_) fun hc10=>?_
   ·refine tQ <| tG <| sm 2 rfl <| nL <| tRt <| rOk rfl ?_ nPo
    first | (simp_all [z0c];done) | (simp_all [z0c];split<;>first | omega | (simp;done))
   refine tSk <| tQ <| tG <| sm 2 rfl <| nL <| tRt <| rOk rfl ?_ nPo
   first | (simp_all [z0c];done) | (simp_all [z0c];split<;>first | omega | (simp;done))
  refine tQ <| tG <| sm 2 rfl <| nL ?_
  refine tC rfl (fun hc10=>?_) fun hc10=>?_
  ·refine tSk ?_
   refine tC rfl (fun hc10=>?_) fun hc10=>?_
   ·refine tQ <| tG <| sm 2 rfl <| nL <| tRt <| rOk rfl ?_ nPo
    first | (simp_all [z0c];done) | (simp_all [z0c];split<;>first | omega | (simp;done))
   refine tSk <| tQ <| tG <| sm 2 rfl <| nL <| tRt <| rOk rfl ?_ nPo
   first | (simp_all [z0c];done) | (simp_all [z0c];split<;>first | omega | (simp;done))
  refine tG <| sm 2 rfl <| nL ?_
  refine tC rfl (fun hc10=>?_) fun hc10=>?_
  ·refine tQ <| tG <| sm 2 rfl <| nL <| tRt <| rOk rfl ?_ nPo
   first | (simp_all [z0c];done) | (simp_all [z0c];split<;>first | omega | (simp;done))
  refine tSk <| tQ <| tG <| sm 2 rfl <| nL <| tRt <| rOk rfl ?_ nPo
  first | (simp_all [z0c];done) | (simp_all [z0c];split<;>first | omega | (simp;done))
theorem y2z (x:Nd) (ih:∀ q∈x.kids,SC Tryz.prog 107 [.pv (z0o q)] [] (fun _=>False) (iBool (z0l q)) []):SC Tryz.prog 120 [.pv (ndv x)] [] (fun _=>False) (iBool (z1f x)) []:=by
  refine SC.of Tryz.func120 rfl (lb rfl) fun F ρ w=>?_
  refine tQ <| tG <| cE rfl (z2m rfl rfl) <| sm 1 rfl <| nL <| tQ <| tG <| sm 4 rfl ?_
  refine wS 6 rfl (fun hb6=>?_) fun hb6=>?_
  ·refine sm 4 rfl <| nUu rfl rfl rfl rfl rfl rfl <| nUu rfl rfl rfl rfl rfl rfl <| nUu rfl rfl rfl rfl rfl rfl <| sm 3 rfl <| nL <| tRt <| rOk rfl ?_ nPo
   rw [z2n,z5w]
   simp_all
  refine sm 4 rfl ?_
  refine wS 10 rfl (fun hb10=>?_) fun hb10=>?_
  ·refine sm 2 rfl <| WL.yes rfl rfl rfl rfl rfl rfl (z1s (y88 107 [] [] rfl y9u z0l x.kids (fun q hq=>(ih q hq).anyR)) ent121 rfl rfl (sSm rfl (Subs.cons (fun _ _ _ _ h=>y13 h) Subs.nil)) rfl) <| sm 3 rfl <| nL <| tRt <| rOk rfl ?_ nPo
   rw [z2n,z5w]
   simp_all
  refine sm 6 rfl <| nL <| tRt <| rOk rfl ?_ nPo
  rw [z2n,z5w]
  simp_all
theorem zt3 (N:Nat):∀ (l:List Nd),SizeOf.sizeOf l<N->SC Tryz.prog 107 [.pv (z0o l)] [] (fun _=>False) (iBool (z0l l)) []:=by
  induction N with
  | zero=>intro l hN;exact absurd hN (Nat.not_lt_zero _)
  | succ N ih =>
    intro l hN
    refine SC.of Tryz.func107 rfl (lb rfl) fun F ρ w=>?_
    refine tQ <| tG <| sm 1 rfl <| nL <| tQ <| tG <| sm 1 rfl <| cE rfl (z1s (y52 120 [] [] rfl ent120 z1f l (fun x hm=>(y2z x (fun q hq=>ih q (Nat.lt_of_lt_of_le (z8g hm rfl hq) (Nat.le_of_lt_succ hN)))).anyR)) ent119 rfl rfl (sSm rfl (Subs.cons (fun _ _ _ _ h=>y13 h) Subs.nil)) rfl) <| sm 1 rfl <| nL <| tRt <| rOk rfl ?_ nPo
    rw [zl5]
theorem zt2 (l:List Nd):SC Tryz.prog 107 [.pv (z0o l)] [] (fun _=>False) (iBool (z0l l)) []:=zt3 _ l (Nat.lt_succ_self _)
theorem zc7 (x:Nd):SC Tryz.prog 86 [.pv (ndv x)] [] (fun _=>False) (iBool (z01 x)) []:=by
  refine SC.of Tryz.func86 rfl (lb rfl) fun F ρ w=>?_
  refine tQ <| tG <| cE rfl (z2m rfl rfl) <| sm 1 rfl <| nL <| tQ <| tBk <| tQ <| tG <| sm 4 rfl ?_
  refine wS 7 rfl (fun hb7=>?_) fun hb7=>?_
  ·refine sm 2 rfl <| yV rfl rfl (oSm uT41 rfl) <| sm 3 rfl <| nL ?_
   refine tC rfl (fun hc3=>?_) fun hc3=>?_
   ·have hl:x.kids.length=2:=by first | (simp_all;done) | (simp_all;omega)
    have h10:x.kind=10:=by simp_all
    have hi0:(x.kids.map eKid)[0]? = some [z0o (kid0 x.kids)]:=by rw [List.getElem?_map];simp [kid0,eKid,hl]
    have hi1:(x.kids.map eKid)[1]? = some [z0o (kid1 x.kids)]:=by rw [List.getElem?_map];simp [kid1,eKid,hl]
    refine tQ <| tG <| sm 2 rfl <| cV rfl (iSq rfl rfl rfl uT41 hi0 tS44 rfl (by rfl)) <| sm 1 rfl <| cE rfl (ocq (zt4 _) ent106 rfl rfl) <| sm 2 rfl ?_
    refine wS 19 rfl (fun hb19=>?_) fun hb19=>?_
    ·refine sm 2 rfl <| yV rfl rfl (iSq rfl rfl rfl uT41 hi1 tS44 rfl (by rfl)) <| sm 1 rfl <| WL.yes rfl rfl rfl rfl rfl rfl (z1s (zt4 _) ent106 rfl rfl (sRf _ _) rfl) <| sm 3 rfl <| nL <| tRt <| rOk rfl ?_ nPo
     simp_all [z01,z3o]
    refine sm 8 rfl <| nL <| tRt <| rOk rfl ?_ nPo
    simp_all [z01,z3o]
   refine tQ <| tG <| sm 4 rfl ?_
   refine wS 31 rfl (fun hb31=>?_) fun hb31=>?_
   ·refine sm 2 rfl <| yV rfl rfl (oSm uT41 rfl) <| sm 3 rfl <| nL ?_
    refine tC rfl (fun hc27=>?_) fun hc27=>?_
    ·have hl:x.kids.length=1:=by first | (simp_all;done) | (simp_all;omega)
     have h11:x.kind=11:=by simp_all
     have hi0:(x.kids.map eKid)[0]? = some [z0o (kid0 x.kids)]:=by rw [List.getElem?_map];simp [kid0,eKid,hl]
     refine tQ <| tG <| sm 2 rfl <| cV rfl (iSq rfl rfl rfl uT41 hi0 tS44 rfl (by rfl)) <| sm 1 rfl <| cE rfl (ocq (zt2 _) y9u rfl rfl) <| sm 2 rfl <| nL <| tRt <| rOk rfl ?_ nPo
     simp_all [z01,z3o]
    refine tSk <| tQ <| tG <| cV rfl (lEA rfl rfl uT43 rfl tS43 (lb rfl)) <| cE rfl (ocq (z9e x) y1p rfl rfl) <| sm 1 rfl <| nL <| tRt <| rOk rfl ?_ nPo
    simp_all [z01,z3o]
   refine sm 6 rfl <| nL <| Tr.condF rfl <| tSk <| tQ <| tG <| cV rfl (lEA rfl rfl uT43 rfl tS43 (lb rfl)) <| cE rfl (ocq (z9e x) y1p rfl rfl) <| sm 1 rfl <| nL <| tRt <| rOk rfl ?_ nPo
   simp_all [z01,z3o]
  refine sm 6 rfl <| nL <| Tr.condF rfl <| tQ <| tG <| sm 4 rfl ?_
  refine wS 31 rfl (fun hb31=>?_) fun hb31=>?_
  ·refine sm 2 rfl <| yV rfl rfl (oSm uT41 rfl) <| sm 3 rfl <| nL ?_
   refine tC rfl (fun hc27=>?_) fun hc27=>?_
   ·have hl:x.kids.length=1:=by first | (simp_all;done) | (simp_all;omega)
    have h11:x.kind=11:=by simp_all
    have hi0:(x.kids.map eKid)[0]? = some [z0o (kid0 x.kids)]:=by rw [List.getElem?_map];simp [kid0,eKid,hl]
    refine tQ <| tG <| sm 2 rfl <| cV rfl (iSq rfl rfl rfl uT41 hi0 tS44 rfl (by rfl)) <| sm 1 rfl <| cE rfl (ocq (zt2 _) y9u rfl rfl) <| sm 2 rfl <| nL <| tRt <| rOk rfl ?_ nPo
    simp_all [z01,z3o]
   refine tSk <| tQ <| tG <| cV rfl (lEA rfl rfl uT43 rfl tS43 (lb rfl)) <| cE rfl (ocq (z9e x) y1p rfl rfl) <| sm 1 rfl <| nL <| tRt <| rOk rfl ?_ nPo
   simp_all [z01,z3o]
  refine sm 6 rfl <| nL <| Tr.condF rfl <| tSk <| tQ <| tG <| cV rfl (lEA rfl rfl uT43 rfl tS43 (lb rfl)) <| cE rfl (ocq (z9e x) y1p rfl rfl) <| sm 1 rfl <| nL <| tRt <| rOk rfl ?_ nPo
  simp_all [z01,z3o]
theorem y5a (x:Fl) (s:ByteArray):SC Tryz.prog 83 [.pv (.agg x.enc),.pv (.ept [vStr s] 0)] [] (fun _=>False) (iBool (x.name.toList==s.toList)) []:=by
  refine SC.of Tryz.func83 rfl (lb rfl) fun F ρ w=>?_
  refine tQ <| tG <| cE rfl (z2m rfl rfl) <| sm 1 rfl <| nL <| tQ <| tG <| sm 3 rfl <| cV rfl (bSt rfl rfl rfl rfl) <| sm 1 rfl <| nL <| tRt <| rOk rfl ?_ nPo
  rfl
theorem z9t (u:Un) (s:ByteArray):SC Tryz.prog 58 [.pv u.enc,iStr s] [] (fun _=>False) (iInt (z05 s u.flows 0)) []:=by
  refine SC.of Tryz.func58 rfl (lb rfl) fun F ρ w=>?_
  refine tQ <| tG <| cE rfl (z2m rfl rfl) <| cE rfl (y4j rfl rfl rfl) <| sm 1 rfl <| nL <| tQ <| tG <| sm 2 rfl <| cV rfl (z6g rfl rfl rfl) <| cE rfl (ocq (y53 83 [.pv (.ept [vStr s] 0)] [] rfl ent83 (fun f:Fl=>f.name.toList==s.toList) u.flows (fun x hm=>(y5a x s).anyR)) ent82 rfl rfl) <| sm 1 rfl ?_
  refine nL <| tRt <| rOk rfl ?_ nPo
  rw [zx1]
theorem yh4 (x:Ar) (s:ByteArray):SC Tryz.prog 129 [.pv (.agg x.enc),.pv (.ept [vStr s] 0)] [] (fun _=>False) (iBool (x.name.toList==s.toList)) []:=by
  refine SC.of Tryz.func129 rfl (lb rfl) fun F ρ w=>?_
  refine tQ <| tG <| cE rfl (z2m rfl rfl) <| sm 1 rfl <| nL <| tQ <| tG <| sm 3 rfl <| cV rfl (bSt rfl rfl rfl rfl) <| sm 1 rfl <| nL <| tRt <| rOk rfl ?_ nPo
  rfl
theorem y6x (u:Un) (s:ByteArray):SC Tryz.prog 118 [.pv u.enc,iStr s] [] (fun _=>False) (iBool (decide (z0i s u.arrays 0 ≥ 0))) []:=by
  refine SC.of Tryz.func118 rfl (lb rfl) fun F ρ w=>?_
  refine tQ <| tG <| cE rfl (z2m rfl rfl) <| cE rfl (y4j rfl rfl rfl) <| sm 1 rfl <| nL <| tQ <| tG <| sm 2 rfl <| cV rfl (z6g rfl rfl rfl) <| cE rfl (ocq (y86 129 [.pv (.ept [vStr s] 0)] [] rfl ent129 (fun f:Ar=>f.name.toList==s.toList) u.arrays (fun x hm=>(yh4 x s).anyR)) ent128 rfl rfl) <| sm 1 rfl ?_
  refine nL <| tRt <| rOk rfl ?_ nPo
  rw [zs0 _ _ _ (Int.le_refl 0)]
theorem y0v (u:Un) (f:Fl) (st:List Int) (v t:Int):SC Tryz.prog 122 [.ptr 3 0,iInt v,iInt t] (ckS u f 3 st) (fun _=>True) (iBool (z4k f.types v t)) (ckS u f 3 st):=by
  refine SC.of Tryz.func122 rfl (lb rfl) fun F ρ w=>?_
  refine tQ <| tG <| sm 1 rfl <| nL <| tQ <| tG <| sm 3 rfl ?_
  refine wS 9 rfl (fun hb9=>?_) fun hb9=>?_
  ·refine sm 2 rfl <| yV rfl rfl (nCk rfl rfl rfl) <| sm 3 rfl <| yV rfl rfl (oSm uT35 rfl) <| sm 3 rfl ?_
   refine wS 19 rfl (fun hb19=>?_) fun hb19=>?_
   ·refine sm 3 rfl ?_
    refine wS 22 rfl (fun hb22=>?_) fun hb22=>?_
    ·refine sm 13 rfl <| nL <| tRt <| rOk rfl ?_ (fun _ _ h=>h)
     refine congrArg (fun b=>iBool b) ?_
     try clear hvx
     simp_all [z4k]
    have hv0:v.toNat<f.types.length:=by simp at hb9 hb19;omega
    have hvx:v=((v.toNat:Nat):Int):=by simp at hb9;omega
    have hty:(f.types.map eInt)[v.toNat]? = some [vInt (f.types.getD v.toNat 0)]:=by rw [List.getElem?_map];simp [eInt,List.getD,hv0]
    refine sm 1 rfl <| yV rfl rfl (nCk rfl rfl rfl) <| sm 4 rfl <| yV rfl rfl (iSq rfl rfl rfl uT35 hty tS3 rfl oM0) <| sm 6 rfl <| nL <| tRt <| rOk rfl ?_ (fun _ _ h=>h)
    refine congrArg (fun b=>iBool b) ?_
    try clear hvx
    simp_all [z4k]
   refine sm 3 rfl <| nUu rfl rfl rfl rfl rfl rfl <| nUu rfl rfl rfl rfl rfl rfl <| nUu rfl rfl rfl rfl rfl rfl <| nUu rfl rfl rfl rfl rfl rfl <| nUu rfl rfl rfl rfl rfl rfl <| nUu rfl rfl rfl rfl rfl rfl <| nUu rfl rfl rfl rfl rfl rfl <| nUu rfl rfl rfl rfl rfl rfl <| nUu rfl rfl rfl rfl rfl rfl <| nUu rfl rfl rfl rfl rfl rfl <| sm 3 rfl ?_
   refine nL <| tRt <| rOk rfl ?_ (fun _ _ h=>h)
   refine congrArg (fun b=>iBool b) ?_
   try clear hvx
   (simp_all [z4k]<;>omega)
  refine sm 13 rfl <| nUu rfl rfl rfl rfl rfl rfl <| nUu rfl rfl rfl rfl rfl rfl <| nUu rfl rfl rfl rfl rfl rfl <| nUu rfl rfl rfl rfl rfl rfl <| nUu rfl rfl rfl rfl rfl rfl <| nUu rfl rfl rfl rfl rfl rfl <| nUu rfl rfl rfl rfl rfl rfl <| nUu rfl rfl rfl rfl rfl rfl <| nUu rfl rfl rfl rfl rfl rfl <| nUu rfl rfl rfl rfl rfl rfl <| sm 3 rfl ?_
  refine nL <| tRt <| rOk rfl ?_ (fun _ _ h=>h)
  refine congrArg (fun b=>iBool b) ?_
  try clear hvx
  (simp_all [z4k]<;>omega)
theorem yi0 (u:Un) (f:Fl) (st:List Int) (hs:st.length=f.types.length) (v t:Int):SC Tryz.prog 124 [iInt v,iInt t,.ptr 5 0] (ckSp u f 3 5 st) (fun _=>True) (iBool (zj9 f.types st v t).1) (ckSp u f 3 5 st):=by
  refine SC.of Tryz.func124 rfl (lb rfl) fun F ρ w=>?_
  refine tQ <| tG <| sm 1 rfl <| nL <| tQ <| tG <| sm 3 rfl <| cE rfl (ocr (y0v u f st v t) y9w rfl (po2 rfl rfl) rfl (fun k (h:_)=>.inr trivial) rfl rfl) <| sm 1 rfl ?_
  refine wS 10 rfl (fun hb10=>?_) fun hb10=>?_
  ·have hrg:0<=v/\v<f.types.length:=by
     have hvv:z4k f.types v t=true:=by simpa using hb10
     simp only [z4k,Bool.and_eq_true,decide_eq_true_eq] at hvv
     exact ⟨hvv.1.1,hvv.1.2⟩
   have hv0:v.toNat<f.types.length:=by omega
   have hvx:v=((v.toNat:Nat):Int):=by omega
   have hst:(st.map eInt)[v.toNat]? = some [vInt (st.getD v.toNat 0)]:=by rw [List.getElem?_map];simp [eInt,List.getD,hs,hv0]
   have hstl:v.toNat<(st.map eInt).length:=by simpa [hs] using hv0
   refine sm 1 rfl <| yV rfl rfl (nCk rfl rfl rfl) <| sm 3 rfl <| yV rfl rfl (iRw rfl rfl rfl rfl rfl uT35 tS3 (by assumption) oM0) <| yV rfl rfl (lRw rfl rfl rfl rfl (Nat.add_zero _).symm (by assumption) rfl uT3 rfl trivial) <| sm 3 rfl <| nL <| tRt <| rOk rfl ?_ (z2p (And.intro rfl (And.intro rfl (And.intro rfl (trivial)))))
   refine congrArg (fun b=>iBool b) ?_
   try clear hvx
   simp_all [zj9]
  refine sm 10 rfl <| nL <| tRt <| rOk rfl ?_ (z2p (And.intro rfl (And.intro rfl (And.intro rfl (trivial)))))
  refine congrArg (fun b=>iBool b) ?_
  try clear hvx
  simp_all [zj9]
theorem z2c (u:Un) (f:Fl) (st:List Int) (hs:st.length=f.types.length) (l want:List Int):SC Tryz.prog 114 [.ptr 3 0,.pv (ints l),.pv (ints want)] (ckS u f 3 st) (fun _=>True) (iBool (z12 f.types st l want)) (ckS u f 3 st):=by
  refine SC.of Tryz.func114 rfl (lb rfl) fun F ρ w=>?_
  refine tQ <| tG <| cE rfl (zi5 (k:=5) rfl rfl ⟨_,rfl⟩ rfl rfl rfl rfl rfl) <| sm 1 rfl <| nL <| tQ <| tG <| sm 2 rfl <| cV rfl (z6g rfl rfl rfl) <| cE rfl (ocr (sc_eqf 124 [.ptr 5 0] (List Int) (fun s=>ckSp u f 3 5 s) [5,3,4] (fun _=>rfl) (fun _=>rfl) ent124 (zj9 f.types) (fun _=>True) (fun s=>s.length=f.types.length) (fun s x y h=>h) (fun s x y h=>yi0 u f s h x y) st hs l want) ent123 rfl (po3 rfl rfl rfl) rfl (fun k (h:_)=>.inr trivial) rfl rfl) <| sm 1 rfl <| nL ?_
  refine tRt ?_
  have h2:=y8k f.types st l want
  rw [h2]
  exact rOk rfl rfl (po2 rfl rfl)
theorem yh9 (u:Un) (f:Fl) (st:List Int) (hs:st.length=f.types.length) (v t:Int):SC Tryz.prog 125 [iInt v,iInt t,.ptr 5 0] (ckSp u f 3 5 st) (fun k=>k=3∨k=5) (iBool (z3n f.types st v t).1) (ckSp u f 3 5 (z3n f.types st v t).2):=by
  refine SC.of Tryz.func125 rfl (lb rfl) fun F ρ w=>?_
  refine tQ <| tG <| sm 1 rfl <| nL <| tQ <| tQ <| tG <| sm 3 rfl <| cE rfl (ocr (y0v u f st v t) y9w rfl (po2 rfl rfl) rfl (fun k (h:_)=>.inr trivial) rfl rfl) <| sm 2 rfl ?_
  refine wS 11 rfl (fun hb11=>?_) fun hb11=>?_
  ·refine sm 9 rfl <| nL <| Tr.condT rfl <| tQ <| tG <| sm 1 rfl <| nL <| tRt ?_
   have h2:z3n f.types st v t=(false,st):=by
     try clear hvx
     simp_all [z3n]
   rw [h2]
   exact rOk rfl rfl (po3 rfl rfl rfl)
  have hrg:0<=v/\v<f.types.length:=by
    have hvv:z4k f.types v t=true:=by simpa using hb11
    simp only [z4k,Bool.and_eq_true,decide_eq_true_eq] at hvv
    exact ⟨hvv.1.1,hvv.1.2⟩
  have hv0:v.toNat<f.types.length:=by omega
  have hvx:v=((v.toNat:Nat):Int):=by omega
  have hst:(st.map eInt)[v.toNat]? = some [vInt (st.getD v.toNat 0)]:=by rw [List.getElem?_map];simp [eInt,List.getD,hs,hv0]
  have hstl:v.toNat<(st.map eInt).length:=by simpa [hs] using hv0
  refine sm 1 rfl <| yV rfl rfl (nCk rfl rfl rfl) <| sm 3 rfl <| yV rfl rfl (iRw rfl rfl rfl rfl rfl uT35 tS3 (by assumption) oM0) <| yV rfl rfl (lRw rfl rfl rfl rfl (Nat.add_zero _).symm (by assumption) rfl uT3 rfl trivial) <| sm 2 rfl <| nL ?_
  refine tC rfl (fun hc20=>?_) fun hc20=>?_
  ·refine tQ <| tG <| sm 1 rfl <| nL <| tRt ?_
   have h2:z3n f.types st v t=(false,st):=by
     try clear hvx
     simp_all [z3n]
   rw [h2]
   exact rOk rfl rfl (po3 rfl rfl rfl)
  refine tSk <| tQ <| tG <| sm 1 rfl <| cV rfl (nCk rfl rfl rfl) <| sm 3 rfl <| cV rfl (iRw rfl rfl rfl rfl rfl uT35 tS3 (by assumption) oM0) <| c0 (z5g rfl rfl rfl rfl rfl (Nat.add_zero _).symm (by assumption) sI0 tS3 rfl sI0) <| nL <| tQ <| tG <| sm 1 rfl ?_
  refine nL <| tRt ?_
  have h2:z3n f.types st v t=(true,st.set v.toNat 1):=by
    try clear hvx
    simp_all [z3n]
  rw [h2]
  exact rOk rfl rfl (z2p (And.intro rfl (And.intro (set3 rfl) (And.intro (set4 rfl) trivial))))
theorem z3l (u:Un) (f:Fl) (st:List Int) (hs:st.length=f.types.length) (l want:List Int):SC Tryz.prog 116 [.ptr 3 0,.pv (ints l),.pv (ints want)] (ckS u f 3 st) (fun k=>k=3) (iBool (z1h f.types st l want).1) (ckS u f 3 (z1h f.types st l want).2):=by
  refine SC.of Tryz.func116 rfl (lb rfl) fun F ρ w=>?_
  refine tQ <| tG <| cE rfl (zi5 (k:=5) rfl rfl ⟨_,rfl⟩ rfl rfl rfl rfl rfl) <| sm 1 rfl <| nL <| tQ <| tG <| sm 2 rfl <| cV rfl (z6g rfl rfl rfl) <| cE rfl (ocr (sc_eqf 125 [.ptr 5 0] (List Int) (fun s=>ckSp u f 3 5 s) [5,3,4] (fun _=>rfl) (fun _=>rfl) ent125 (z3n f.types) (fun k=>k=3∨k=5) (fun s=>s.length=f.types.length) (fun s x y h=>(z87 f.types s x y).trans h) (fun s x y h=>yh9 u f s h x y) st hs l want) ent123 rfl (po3 rfl rfl rfl) rfl (fun k (h:_)=>by (subst h;first | exact .inl rfl | exact .inr rfl | exact .inr dC0)) rfl rfl) <| sm 1 rfl <| nL ?_
  refine tRt <| rOk rfl ?_ (z2p (And.intro rfl (And.intro rfl (trivial))))
  rfl
theorem y0t (u:Un) (f:Fl) (st:List Int) (hs:st.length=f.types.length) (l:List Int) (hb:l.length<=1073741824):SC Tryz.prog 115 [.ptr 3 0,.pv (ints l)] (ckS u f 3 st) (fun k=>k=3) (iBool (z1h f.types st l (List.replicate l.length 0)).1) (ckS u f 3 (z1h f.types st l (List.replicate l.length 0)).2):=by
  refine SC.of Tryz.func115 rfl (lb rfl) fun F ρ w=>?_
  refine tQ <| tG <| sm 1 rfl <| nL <| tQ <| tG <| sm 3 rfl <| cV rfl (oSm uT35 rfl) <| cE rfl (z6x (k:=109) (s:=⟨3,1⟩) rfl rfl rfl uT35 tZ3 tC3 rfl dC0 oM0 oM0 rfl rfl rfl rfl) <| cE rfl (y4m (fun k=>k=109) (z3l u f st hs l (List.replicate l.length 0)) y9v rfl rfl (sRf _ _) (And.intro LendOf.same (And.intro LendOf.same (And.intro (LendOf.row rfl rfl (by (simp;done)) (by (simp only [List.map_replicate];rfl))) (trivial)))) (fun k h=>by subst h;rfl) (po2 rfl rfl) rfl (fun k (h:_)=>.inr h) ⟨_,rfl⟩ (ckS_lend (z34 ..))) <| sm 1 rfl <| nL ?_
  refine tRt <| rOk rfl ?_ (z2p (And.intro rfl (And.intro rfl (trivial))))
  rfl
theorem y2y (u:Un) (f:Fl) (st:List Int) (hs:st.length=f.types.length) (l:List Int) (hin:∀ v∈l,0<=v/\v<f.types.length):SC Tryz.prog 87 [.ptr 3 0,.pv (ints l)] (ckS u f 3 st) (fun k=>k=3) (.tup []) (ckS u f 3 (z3e st l)):=by
  refine SC.of Tryz.func87 rfl (lb rfl) fun F ρ w=>?_
  refine Tr.lenOf (t:=1) rfl (fun hl=>?_)
  simp only [List.length_map] at hl
  refine tQ <| tG <| sm 1 rfl <| cV rfl (oSm uT35 rfl) <| sm 1 rfl <| nL <| tBk <| Tr.sub (Sub.of (fr':=[(8,iInt 0),(7,iInt l.length),(6,.pv (ints l)),(0,.ptr 3 0)]) ⟨rfl,rfl,rfl,rfl,trivial⟩) ?_
  refine Tr.loop (fun fr σ m=>∃ (k:Nat) (s:List Int),(k<=l.length)/\(z3e st l=z3e s (l.drop k))/\(s.length=f.types.length)/\fr=[(8,iInt k),(7,iInt l.length),(6,.pv (ints l)),(0,.ptr 3 0)] /\ σ = look (up (ckS u f 3 s))/\m=l.length - k) (n:=l.length - 0) ?_ ?_
  ·exact ⟨0,st,Nat.zero_le _,rfl,hs,rfl,rfl,rfl⟩
  rintro fr σ m ⟨k,s,hI0,hI1,hI2,rfl,rfl,rfl⟩
  refine tQ <| tG <| sm 1 rfl <| nL <| tQ ?_
  refine tC rfl (fun hc9=>?_) fun hc9=>?_
  ·have hlt:k<l.length:=by simpa using hc9
   have hd:=List.drop_eq_getElem_cons hlt
   have hm:=List.getElem_mem hlt
   have hi:=z0a (f:=eInt) (List.getElem?_eq_getElem hlt)
   generalize l[k]=x at hd hm hi
   obtain ⟨hx0,hx1⟩:=hin x hm
   have hv0:x.toNat<f.types.length:=by omega
   have hvx:x=((x.toNat:Nat):Int):=by omega
   have hst:(s.map eInt)[x.toNat]? = some [vInt (s.getD x.toNat 0)]:=by rw [List.getElem?_map];simp [eInt,List.getD,hI2,hv0]
   have hstl:x.toNat<(s.map eInt).length:=by simpa [hI2] using hv0
   refine tSk <| tQ <| tBk <| tQ <| tG <| cV rfl (iSq rfl rfl rfl uT35 hi tS3 rfl (by rfl)) <| sm 2 rfl <| nL <| tG <| sm 1 rfl <| cV rfl (nCk rfl rfl rfl) <| sm 3 rfl ?_
   refine cV rfl (iRw rfl rfl rfl rfl rfl uT35 tS3 (by assumption) oM0) <| c0 (z5g rfl rfl rfl rfl rfl (Nat.add_zero _).symm (by assumption) sI0 tS3 rfl sI0) <| nL <| tG <| cV rfl (oB rfl rfl (z04 rfl oM0)) <| sm 1 rfl <| nL ?_
   refine ⟨_,_,?_,Sub.of (fr':=[(8,iInt (k+1)),(7,iInt l.length),(6,.pv (ints l)),(0,.ptr 3 0)]) ⟨rfl,rfl,rfl,rfl,trivial⟩,(k+1),(s.set x.toNat 2),?_,?_,?_,rfl,(funext y9k),rfl⟩
   ·omega
   ·omega
   ·rw [hI1,hd];rfl
   simpa using hI2
  refine tEx ?_
  have hge:l.length<=k:=by simpa using hc9
  have h2:z3e st l=s:=by rw [hI1,List.drop_eq_nil_of_le hge];rfl
  rw [h2]
  exact end_ok rfl rfl (fun _ _ h=>h)
theorem tZ152:((Tryz.prog.info? 152).bind (·.zero))=some (.agg #[.string ⟨#[]⟩,.int .i64 0,.string ⟨#[]⟩,.int .i64 0,.string ⟨#[]⟩,.int .i64 0,.string ⟨#[]⟩,.int .i64 0,.string ⟨#[]⟩,.int .i64 0,.string ⟨#[]⟩,.int .i64 0,.string ⟨#[]⟩,.int .i64 0,.string ⟨#[]⟩,.int .i64 0,.string ⟨#[]⟩,.int .i64 0,.string ⟨#[]⟩,.int .i64 0,.string ⟨#[]⟩,.int .i64 0,.string ⟨#[]⟩,.int .i64 0,.string ⟨#[]⟩,.int .i64 0,.string ⟨#[]⟩,.int .i64 0,.string ⟨#[]⟩,.int .i64 0,.string ⟨#[]⟩,.int .i64 0,.string ⟨#[]⟩,.int .i64 0,.string ⟨#[]⟩,.int .i64 0,.string ⟨#[]⟩,.int .i64 0,.string ⟨#[]⟩,.int .i64 0,.string ⟨#[]⟩,.int .i64 0,.string ⟨#[]⟩,.int .i64 0,.string ⟨#[]⟩,.int .i64 0,.string ⟨#[]⟩,.int .i64 0,.string ⟨#[]⟩,.int .i64 0,.string ⟨#[]⟩,.int .i64 0,.string ⟨#[]⟩,.int .i64 0,.string ⟨#[]⟩,.int .i64 0,.string ⟨#[]⟩,.int .i64 0]):=by kernel_rfl
theorem tS152:(Tryz.prog.info? 152).map (·.size)=some 58:=by kernel_rfl
theorem sc_rowOf (op:Int):SC Tryz.prog 132 [iInt op] [] (fun _=>False) (.pv (.agg [vStr (wSign op),vInt (zb1 op)])) []:=by
  refine SC.ofC Tryz.func132 rfl (lb rfl) rfl fun F ρ w=>?_
  refine tQ ?_
  refine tG ?_
  refine cE rfl (aLc (k:=102) rfl z4f rfl rfl rfl rfl) ?_
  refine nL ?_
  refine tQ ?_
  refine tG ?_
  refine cV rfl (bPu rfl rfl z4f z4l rfl (fbk rfl) rfl) ?_
  refine cV rfl (bPu rfl rfl z4f z4l rfl (fbk rfl) rfl) ?_
  refine cV rfl (bPu rfl rfl z4f z4l rfl (fbk rfl) rfl) ?_
  refine cV rfl (bPu rfl rfl z4f z4l rfl (fbk rfl) rfl) ?_
  refine cV rfl (bPu rfl rfl z4f z4l rfl (fbk rfl) rfl) ?_
  refine cV rfl (bPu rfl rfl z4f z4l rfl (fbk rfl) rfl) ?_
  refine cV rfl (bPu rfl rfl z4f z4l rfl (fbk rfl) rfl) ?_
  refine cV rfl (bPu rfl rfl z4f z4l rfl (fbk rfl) rfl) ?_
  refine cV rfl (bPu rfl rfl z4f z4l rfl (fbk rfl) rfl) ?_
  refine cV rfl (bPu rfl rfl z4f z4l rfl (fbk rfl) rfl) ?_
  refine cV rfl (bPu rfl rfl z4f z4l rfl (fbk rfl) rfl) ?_
  refine cV rfl (bPu rfl rfl z4f z4l rfl (fbk rfl) rfl) ?_
  refine cV rfl (bPu rfl rfl z4f z4l rfl (fbk rfl) rfl) ?_
  refine cV rfl (bPu rfl rfl z4f z4l rfl (fbk rfl) rfl) ?_
  refine cV rfl (bPu rfl rfl z4f z4l rfl (fbk rfl) rfl) ?_
  refine cV rfl (bPu rfl rfl z4f z4l rfl (fbk rfl) rfl) ?_
  refine cV rfl (bPu rfl rfl z4f z4l rfl (fbk rfl) rfl) ?_
  refine cV rfl (bPu rfl rfl z4f z4l rfl (fbk rfl) rfl) ?_
  refine cV rfl (bPu rfl rfl z4f z4l rfl (fbk rfl) rfl) ?_
  refine cV rfl (bPu rfl rfl z4f z4l rfl (fbk rfl) rfl) ?_
  refine cV rfl (bPu rfl rfl z4f z4l rfl (fbk rfl) rfl) ?_
  refine cV rfl (bPu rfl rfl z4f z4l rfl (fbk rfl) rfl) ?_
  refine cV rfl (bPu rfl rfl z4f z4l rfl (fbk rfl) rfl) ?_
  refine cV rfl (bPu rfl rfl z4f z4l rfl (fbk rfl) rfl) ?_
  refine cV rfl (bPu rfl rfl z4f z4l rfl (fbk rfl) rfl) ?_
  refine cV rfl (bPu rfl rfl z4f z4l rfl (fbk rfl) rfl) ?_
  refine cV rfl (bPu rfl rfl z4f z4l rfl (fbk rfl) rfl) ?_
  refine cV rfl (bPu rfl rfl z4f z4l rfl (fbk rfl) rfl) ?_
  refine cV rfl (zl2 rfl rfl tZ152 Tryz.underlying152 y14 rfl (fbk rfl)) ?_
  refine cE rfl (aLc (k:=103) rfl tZ152 rfl rfl rfl rfl) ?_
  refine c0 (sBA rfl rfl rfl rfl rfl ((fun h=>h)) tS152 (flk rfl) (lb rfl)) ?_
  refine nL ?_
  refine tQ ?_
  refine tQ ?_
  refine tG ?_
  refine sm 3 rfl ?_
  refine wS 35 rfl (fun hb35=>?_) fun hb35=>?_
  ·refine sm 3 rfl ?_
   refine nL ?_
   refine Tr.condT rfl ?_
   refine tQ ?_
   refine tG ?_
   refine cV rfl (bPu rfl rfl z4f z4l rfl (fbk rfl) rfl) ?_
   refine c0 (sBA rfl rfl rfl rfl rfl ((fun h=>h)) y14 (flk rfl) (lb rfl)) ?_
   refine nL ?_
   refine tRt ?_
   have hop:op<0∨op ≥ 29:=by
     simp_all
   refine rCk (.inl rfl) (fun _ _ ho=>lBP ho rfl rfl Tryz.underlying149 rfl y14 (lb rfl) rfl trivial) ?_ nPo
   rcases hop with h | h<;>simp [wSign,zb1,h]<;>rfl
  refine sm 3 rfl ?_
  refine nL ?_
  refine tC rfl (fun hc38=>?_) fun hc38=>?_
  ·refine tQ ?_
   refine tG ?_
   refine cV rfl (bPu rfl rfl z4f z4l rfl (fbk rfl) rfl) ?_
   refine c0 (sBA rfl rfl rfl rfl rfl ((fun h=>h)) y14 (flk rfl) (lb rfl)) ?_
   refine nL ?_
   refine tRt ?_
   have hop:op<0∨op ≥ 29:=by
     simp_all
   refine rCk (.inl rfl) (fun _ _ ho=>lBP ho rfl rfl Tryz.underlying149 rfl y14 (lb rfl) rfl trivial) ?_ nPo
   rcases hop with h | h<;>simp [wSign,zb1,h]<;>rfl
  refine tSk ?_
  refine tQ ?_
  have hop:0<=op/\op<29:=by
    simp_all
  rcases y9f hop.1 hop.2 with rfl | rfl | rfl | rfl | rfl | rfl | rfl | rfl | rfl | rfl | rfl | rfl | rfl | rfl | rfl | rfl | rfl | rfl | rfl | rfl | rfl | rfl | rfl | rfl | rfl | rfl | rfl | rfl | rfl
  all_goals
    refine tG ?_
    refine sm 1 rfl ?_
    refine cV rfl (zl3 rfl rfl rfl rfl Tryz.underlying152 y14 (by rfl) dC0) ?_
    refine cV rfl (lBP rfl rfl rfl Tryz.underlying149 rfl y14 (lb rfl) rfl trivial) ?_
    refine c0 (sBA rfl rfl rfl rfl rfl ((fun h=>h)) y14 (flk rfl) (lb rfl)) ?_
    refine nL ?_
    refine tRt <| rCk (.inl rfl) (fun _ _ ho=>lBP ho rfl rfl Tryz.underlying149 rfl y14 (lb rfl) rfl trivial) ?_ nPo
    rfl
theorem yi6 (op:Int):SC Tryz.prog 127 [iInt op] [] (fun _=>False) (iInt (zb1 op)) []:=by
  refine SC.of Tryz.func127 rfl (lb rfl) fun F ρ w=>?_
  refine tQ ?_
  refine tG ?_
  refine sm 1 rfl ?_
  refine nL ?_
  refine tQ ?_
  refine tG ?_
  refine sm 1 rfl ?_
  refine cE rfl (ocq (sc_rowOf op) ent132 rfl rfl) ?_
  refine cV rfl (zf2 rfl rfl Tryz.underlying149 rfl uT3 rfl rfl) ?_
  refine sm 1 rfl ?_
  refine nL ?_
  refine tRt <| rOk rfl ?_ nPo
  rfl
set_option maxRecDepth 20000
theorem ky {d:TypeDesc} {es:List (Value × PV)} (h:(es.all fun e=>z2g d e.1)=true):∀ e∈es,z2g d e.1=true:=List.all_eq_true.1 h
set_option maxHeartbeats 2000000
attribute [local simp] z11 r8op y4u zs2 r8kn Nd.kind Nd.op Nd.n Nd.name Nd.kids Nd.params z6a in
theorem yh2 (x:Nd):SC Tryz.prog 100 [.pv (ndv x)] [] (fun _=>False) (iBool (z11 x)) []:=by
  refine SC.anyR (SC.vc tb {} [] Tryz.func100 rfl rfl ?_)
  obtain ⟨kind,op,n,name,args,outs,params,kids⟩:=x
  rcases (show kind=3∨kind=4∨kind=1∨kind=2∨kind=5∨kind=6∨kind=7∨kind=11∨kind=10∨(kind≠1/\kind≠2/\kind≠3/\kind≠4/\kind≠5/\kind≠6/\kind≠7/\kind≠11/\kind≠10) by omega) with rfl | rfl | rfl | rfl | rfl | rfl | rfl | rfl | rfl | h
  · exact ⟨rfl,ky rfl,rfl,ky rfl,rfl,ky rfl,rfl,z00 (fun h3=>z00 (fun h2=>z00 (fun h1=>⟨sE (congrArg iBool (by simp_all)),trivial⟩) fun h1=>⟨sE (congrArg iBool (by simp_all)),trivial⟩) fun h2=>⟨sE (congrArg iBool (by simp_all)),trivial⟩) fun h3=>⟨sE (congrArg iBool (by simp_all)),trivial⟩⟩
  · exact ⟨rfl,ky rfl,rfl,ky rfl,rfl,ky rfl,rfl,z00 (fun h3=>z00 (fun h2=>z00 (fun h1=>⟨sE (congrArg iBool (by simp_all)),trivial⟩) fun h1=>⟨sE (congrArg iBool (by simp_all)),trivial⟩) fun h2=>⟨sE (congrArg iBool (by simp_all)),trivial⟩) fun h3=>⟨sE (congrArg iBool (by simp_all)),trivial⟩⟩
  · exact ⟨rfl,ky rfl,rfl,ky rfl,rfl,ky rfl,rfl,z00 (fun h3=>z00 (fun h2=>z00 (fun h1=>⟨sE (congrArg iBool (by simp_all)),trivial⟩) fun h1=>⟨sE (congrArg iBool (by simp_all)),trivial⟩) fun h2=>⟨sE (congrArg iBool (by simp_all)),trivial⟩) fun h3=>⟨sE (congrArg iBool (by simp_all)),trivial⟩⟩
  · exact ⟨rfl,ky rfl,rfl,ky rfl,rfl,ky rfl,rfl,z00 (fun h3=>z00 (fun h2=>z00 (fun h1=>⟨sE (congrArg iBool (by simp_all)),trivial⟩) fun h1=>⟨sE (congrArg iBool (by simp_all)),trivial⟩) fun h2=>⟨sE (congrArg iBool (by simp_all)),trivial⟩) fun h3=>⟨sE (congrArg iBool (by simp_all)),trivial⟩⟩
  · exact ⟨rfl,ky rfl,rfl,ky rfl,rfl,ky rfl,rfl,z00 (fun h4=>z00 (fun h3=>z00 (fun h2=>z00 (fun h1=>⟨sE (congrArg iBool (by simp_all)),trivial⟩) fun h1=>⟨sE (congrArg iBool (by simp_all)),trivial⟩) fun h2=>⟨sE (congrArg iBool (by simp_all)),trivial⟩) fun h3=>⟨sE (congrArg iBool (by simp_all)),trivial⟩) fun h4=>⟨sE (congrArg iBool (by simp_all)),trivial⟩⟩
  · exact ⟨rfl,ky rfl,rfl,ky rfl,rfl,ky rfl,rfl,z00 (fun h4=>z00 (fun h3=>z00 (fun h2=>z00 (fun h1=>⟨sE (congrArg iBool (by simp_all)),trivial⟩) fun h1=>⟨sE (congrArg iBool (by simp_all)),trivial⟩) fun h2=>⟨sE (congrArg iBool (by simp_all)),trivial⟩) fun h3=>⟨sE (congrArg iBool (by simp_all)),trivial⟩) fun h4=>⟨sE (congrArg iBool (by simp_all)),trivial⟩⟩
  · exact ⟨rfl,ky rfl,rfl,ky rfl,rfl,ky rfl,rfl,z00 (fun h4=>z00 (fun h3=>z00 (fun h2=>z00 (fun h1=>⟨sE (congrArg iBool (by simp_all)),trivial⟩) fun h1=>⟨sE (congrArg iBool (by simp_all)),trivial⟩) fun h2=>⟨sE (congrArg iBool (by simp_all)),trivial⟩) fun h3=>⟨sE (congrArg iBool (by simp_all)),trivial⟩) fun h4=>⟨sE (congrArg iBool (by simp_all)),trivial⟩⟩
  · exact ⟨rfl,ky rfl,rfl,ky rfl,rfl,ky rfl,rfl,z00 (fun h3=>z00 (fun h2=>z00 (fun h1=>⟨sE (congrArg iBool (by simp_all)),trivial⟩) fun h1=>⟨sE (congrArg iBool (by simp_all)),trivial⟩) fun h2=>⟨sE (congrArg iBool (by simp_all)),trivial⟩) fun h3=>⟨sE (congrArg iBool (by simp_all)),trivial⟩⟩
  · exact ⟨rfl,ky rfl,rfl,ky rfl,rfl,ky rfl,rfl,z00 (fun h4=>z00 (fun h3=>z00 (fun h2=>z00 (fun h1=>⟨sE (congrArg iBool (by simp_all)),trivial⟩) fun h1=>⟨sE (congrArg iBool (by simp_all)),trivial⟩) fun h2=>⟨sE (congrArg iBool (by simp_all)),trivial⟩) fun h3=>⟨sE (congrArg iBool (by simp_all)),trivial⟩) fun h4=>⟨sE (congrArg iBool (by simp_all)),trivial⟩⟩
  · obtain ⟨k1,k2,k3,k4,k5,k6,k7,k8,k9⟩:=h
    have no:∀ {i:Int},kind≠i->(kind==i)=true->False:=fun h e=>h (eq_of_beq e)
    exact ⟨rfl,ky rfl,rfl,ky rfl,VAsk.mk (p:=vInt 0) (b:=false) rfl (ky rfl) (by simp [Nd.kind,k8,k9,mput,keyB,z4j]<;>rfl) (z00 (fun h=>(no k3 h).elim) fun _=>z00 (fun h=>(no k4 h).elim) fun _=>z00 (fun h=>(no k1 h).elim) fun _=>z00 (fun h=>(no k2 h).elim) fun _=>z00 (fun h=>(no k5 h).elim) fun _=>z00 (fun h=>(no k6 h).elim) fun _=>z00 (fun h=>(no k7 h).elim) fun _=>z00 (fun h=>(no k8 h).elim) fun _=>z00 (fun h4=>z00 (fun h3=>z00 (fun h2=>z00 (fun h1=>⟨sE (congrArg iBool (by simp_all)),trivial⟩) fun h1=>⟨sE (congrArg iBool (by simp_all)),trivial⟩) fun h2=>⟨sE (congrArg iBool (by simp_all)),trivial⟩) fun h3=>⟨sE (congrArg iBool (by simp_all)),trivial⟩) fun h4=>⟨sE (congrArg iBool (by simp_all)),trivial⟩)⟩
theorem zj5 (u:Un) (f:Fl) (st:List Int) (hs:st.length=f.types.length) (l:List Int) (hb:l.length<=1073741824):SC Tryz.prog 113 [.ptr 3 0,.pv (ints l)] (ckS u f 3 st) (fun k=>k<100) (.pv (ints (r8of f.types l))) (ckS u f 3 st):=by
  refine SC.of Tryz.func113 rfl (lb rfl) fun F ρ w=>?_
  refine Tr.lenOf (t:=1) rfl (fun hl=>?_)
  simp only [List.length_map] at hl
  rw [yf3]
  refine tQ <| tG <| sm 1 rfl <| nL <| tQ <| tQ <| Tr.grow (t:=4) (k:=104) ⟨3,1⟩ rfl rfl rfl rfl rfl <| tG <| sm 1 rfl <| cV rfl (oSm uT35 rfl) <| sm 1 rfl <| nL ?_
  refine tBk <| Tr.sub (Sub.of (fr':=[(9,iInt 0),(8,iInt l.length),(7,.pv (ints l)),(4,.sl 104 0),(0,.ptr 3 0)]) ⟨rfl,rfl,rfl,rfl,rfl,trivial⟩) ?_
  refine Tr.loop (fun fr σ m=>∃ (k:Nat) (acc:List Int),(k<=l.length)/\(acc.length=k)/\(z71 f.types [] l=z71 f.types acc (l.drop k))/\fr=[(9,iInt k),(8,iInt l.length),(7,.pv (ints l)),(4,.sl 104 k),(0,.ptr 3 0)] /\ σ = look ((104,some (.row ⟨3,1⟩ (acc.map eInt)))::up (ckS u f 3 st))/\m=l.length - k) (n:=l.length - 0) ?_ ?_
  ·exact ⟨0,[],Nat.zero_le _,rfl,rfl,rfl,rfl,rfl⟩
  rintro fr σ m ⟨k,acc,hI0,hI1,hI2,rfl,rfl,rfl⟩
  refine tQ <| tG <| sm 1 rfl <| nL <| tQ ?_
  refine tC rfl (fun hc10=>?_) fun hc10=>?_
  ·have hlt:k<l.length:=by simpa using hc10
   have hd:=List.drop_eq_getElem_cons hlt
   have hm:=List.getElem_mem hlt
   have hi:=z0a (f:=eInt) (List.getElem?_eq_getElem hlt)
   generalize l[k]=x at hd hm hi
   refine tSk <| tQ <| tBk <| tQ <| tG <| cV rfl (iSq rfl rfl rfl uT35 hi tS3 rfl (by rfl)) <| sm 2 rfl <| nL <| tQ <| tQ <| tG <| sm 2 rfl ?_
   refine cE rfl (ocr (y0v u f st x 0) y9w rfl (po2 rfl rfl) rfl (fun k (h:_)=>.inr trivial) rfl rfl) <| sm 1 rfl <| nL ?_
   refine tC rfl (fun hc16=>?_) fun hc16=>?_
   ·refine tQ <| tG <| sm 1 rfl <| nL <| tRt ?_
    have hin:z79 f.types x=false:=by
      cases hr:z79 f.types x with
      | false=>rfl
      | true=>simp [z79] at hr;simp [z4k] at hc16;omega
    rw [hI2,hd]
    simp only [z71,hin]
    exact ⟨⟨_,rfl,fun _ _ _ _ h=>y5g h⟩,(po2 rfl rfl)⟩
   have hin:z79 f.types x=true:=by simp [z4k] at hc16;simp [z79];omega
   have hv0:x.toNat<f.types.length:=by simp [z79] at hin;omega
   have hvx:x=((x.toNat:Nat):Int):=by simp [z79] at hin;omega
   have hty:(f.types.map eInt)[x.toNat]? = some [vInt (f.types.getD x.toNat 0)]:=by rw [List.getElem?_map];simp [eInt,List.getD,hv0]
   refine tSk <| tG <| sm 2 rfl <| cV rfl (nCk rfl rfl rfl) <| sm 4 rfl <| cV rfl (iSq rfl rfl rfl uT35 hty tS3 rfl oM0) <| sm 1 rfl <| cE rfl (bSl rfl rfl uT35 tZ3 tS3 rfl rfl rfl rfl (fbk rfl) rfl) ?_
   refine cE rfl (aPp rfl rfl rfl rfl (by (simp;omega)) sI0 uT35 tB3 dC0 (by (simp [z08];done)) (by (simp [z08,PV.one];rfl)) (by simp [maxLen,z08];omega) (by simp [z08];omega)) ?_
   refine sm 1 rfl <| nL <| tG <| cV rfl (oB rfl rfl (z04 rfl oM0)) <| sm 1 rfl <| nL ?_
   refine ⟨_,_,?_,Sub.of (fr':=[(9,iInt (k+1)),(8,iInt l.length),(7,.pv (ints l)),(4,.sl 104 (k+1)),(0,.ptr 3 0)]) ⟨rfl,rfl,rfl,rfl,rfl,trivial⟩,(k+1),(acc++[f.types.getD x.toNat 0]),?_,?_,?_,rfl,zu9,rfl⟩
   ·omega
   ·omega
   ·simp [hI1]
   rw [hI2,hd]
   simp [z71,hin]
  refine tEx <| tQ ?_
  refine Tr.freeze (t:=4) (k:=104) rfl rfl (by simpa using hI1) ?_
  refine tG <| sm 2 rfl <| nL <| tRt <| rOk rfl ?_ (po2 rfl rfl)
  have hge:l.length<=k:=by simpa using hc10
  rw [hI2,List.drop_eq_nil_of_le hge]
  rfl
theorem y6y (u:Un) (f:Fl) (st:List Int) (hs:st.length=f.types.length) (x:Nd):SC Tryz.prog 117 [.ptr 3 0,.pv (ndv x)] (ckS u f 3 st) (fun k=>k=3) (iBool (z3v f st x).1) (ckS u f 3 (z3v f st x).2):=by
  refine SC.of Tryz.func117 rfl (lb rfl) fun F ρ w=>?_
  refine tQ <| tG <| cE rfl (z2m rfl rfl) <| sm 1 rfl <| nL <| tQ <| tG <| sm 2 rfl <| cE rfl (ocq (y30 _) ent126 rfl rfl) <| sm 1 rfl <| cV rfl (z0v rfl rfl rfl) <| cV rfl (z0v rfl rfl rfl) ?_
  refine sm 2 rfl <| nL <| tQ <| tQ <| tG <| sm 3 rfl <| nL ?_
  refine tC rfl (fun hc16=>?_) fun hc16=>?_
  ·refine tQ <| tG <| sm 4 rfl ?_
   refine wS 20 rfl (fun hb20=>?_) fun hb20=>?_
   ·refine sm 5 rfl ?_
    refine wS 25 rfl (fun hb25=>?_) fun hb25=>?_
    ·refine sm 4 rfl <| WL.yes rfl rfl rfl rfl rfl rfl (bSl rfl rfl uT35 tZ3 tS3 rfl rfl rfl rfl (fbk rfl) rfl) <| WL.yes rfl rfl rfl rfl rfl rfl (cRr (z2c u f st hs x.args [(z0c x.op).1]) zw2 rfl rfl (sRf _ _) (po2 rfl rfl) (by rfl) (fun k (h:_)=>.inr trivial) rfl (by rfl)) <| sm 2 rfl ?_
     refine wS 33 rfl (fun hb33=>?_) fun hb33=>?_
     ·refine sm 4 rfl <| WL.yes rfl rfl rfl rfl rfl rfl (bSl rfl rfl uT35 tZ3 tS3 rfl rfl rfl rfl (fbk rfl) rfl) <| WL.yes rfl rfl rfl rfl rfl rfl (cRr (z3l u f st hs x.outs [(z0c x.op).2]) y9v rfl rfl (sRf _ _) (po2 rfl rfl) (by rfl) (fun k (h:_)=>.inr h) rfl (by rfl)) <| sm 2 rfl <| nL <| tRt ?_
      (have h2:(z3v f st x).2=(z1h f.types st x.outs [(z0c x.op).2]).2:=(by simp_all [z3v,z26,andP];done)
       rw [h2]
       refine rOk rfl ?_ (po2 rfl rfl)
       clear h2
       skip
       simp_all [z3v,z26,andP]
       done)
     refine sm 8 rfl <| nL <| tRt ?_
     (have h2:(z3v f st x).2=st:=(by simp_all [z3v,z26,andP];done)
      rw [h2]
      refine rOk rfl ?_ (po2 rfl rfl)
      clear h2
      skip
      simp_all [z3v,z26,andP]
      done)
    refine sm 16 rfl <| nL <| tRt ?_
    (have h2:z3v f st x=(false,st):=(by (first | (simp_all [z3v,z26,andP];done) | (simp_all [z3v,z26,andP]<;>omega)))
     rw [h2]
     exact rOk rfl rfl (po2 rfl rfl))
   refine sm 21 rfl <| nL <| tRt ?_
   (have h2:z3v f st x=(false,st):=(by (first | (simp_all [z3v,z26,andP];done) | (simp_all [z3v,z26,andP]<;>omega)))
    rw [h2]
    exact rOk rfl rfl (po2 rfl rfl))
  refine tSk <| tQ <| tG <| sm 2 rfl <| cE rfl (ocq (yi6 _) ent127 rfl rfl) <| sm 2 rfl ?_
  refine wS 45 rfl (fun hb45=>?_) fun hb45=>?_
  ·refine sm 5 rfl ?_
   refine wS 50 rfl (fun hb50=>?_) fun hb50=>?_
   ·refine sm 5 rfl <| WL.yes rfl rfl rfl rfl rfl rfl (bSl rfl rfl uT35 tZ3 tS3 rfl rfl rfl rfl (fbk rfl) rfl) <| WL.yes rfl rfl rfl rfl rfl rfl (cRr (z2c u f st hs x.args [(z0c x.op).1,(z0c x.op).1]) zw2 rfl rfl (sRf _ _) (po2 rfl rfl) (by rfl) (fun k (h:_)=>.inr trivial) rfl (by rfl)) <| sm 2 rfl <| nL <| tQ <| tDr z78 (fun k=>k∈([3]:List Nat)) <| wR 4 [0,1,2,3,4,5,6,7,8,9,10,11,12,13,14,15,16,17,18,19,20,21,22,23,24,25,26,27,28,29,30] kR0 h30 <| smR 2 rfl ?_
    refine WR.split (t:=60) rfl (fun hb60=>?_) (fun hb60=>?_)
    ·obtain ⟨a,b,hab,ha0,hal,hb0,hbl⟩:=y8l (by simpa using hb60)
     have hi0:(x.args.map eInt)[0]? = some [vInt a]:=by rw [hab];rfl
     have hi1:(x.args.map eInt)[1]? = some [vInt b]:=by rw [hab];rfl
     have hta:(f.types.map eInt)[a.toNat]? = some [vInt (f.types.getD a.toNat 0)]:=by rw [List.getElem?_map];simp [eInt,List.getD,hal]
     have htb:(f.types.map eInt)[b.toNat]? = some [vInt (f.types.getD b.toNat 0)]:=by rw [List.getElem?_map];simp [eInt,List.getD,hbl]
     refine smR 1 rfl <| ryV rfl rfl rfl (nCk rfl rfl rfl) <| smR 2 rfl <| ryV rfl rfl rfl (oLb uT35 rfl rfl rfl dC0) <| smR 2 rfl <| ryV rfl rfl rfl (iSq rfl rfl rfl uT35 hi0 tS3 rfl (by rfl)) <| smR 1 rfl <| ryV rfl rfl rfl (iSq rfl rfl rfl uT35 hta tS3 rfl oM0) <| smR 2 rfl <| ryV rfl rfl rfl (nCk rfl rfl rfl) <| smR 2 rfl <| ryV rfl rfl rfl (oLb uT35 rfl rfl rfl dC0) ?_
     refine smR 2 rfl <| ryV rfl rfl rfl (iSq rfl rfl rfl uT35 hi1 tS3 rfl (by rfl)) <| smR 1 rfl <| ryV rfl rfl rfl (iSq rfl rfl rfl uT35 htb tS3 rfl oM0) <| smR 4 rfl ?_
     refine WR.split (t:=85) rfl (fun hb85=>?_) (fun hb85=>?_)
     ·refine smR 4 rfl <| nR <| wO 31 kR0 <| wY rfl rfl rfl (fun k (h:_)=>by (simp at h ⊢;omega)) nw (fun _ _=>bSl rfl rfl uT35 tZ3 tS3 rfl rfl rfl rfl (fbk rfl) rfl) <| wO 32 kR0 <| wY rfl rfl rfl (fun k (h:_)=>by (simp at h ⊢;omega)) (nAp rfl) (fun _ _=>ocr (z3l u f st hs x.outs [(z0c x.op).2]) y9v rfl (po2 rfl rfl) rfl (fun k (h:_)=>by (simp only [List.mem_cons,List.not_mem_nil,or_false] at h;rcases h with rfl<;>first | exact .inl rfl | exact .inr rfl | exact .inr dC0)) rfl rfl) <| wR 0 [33,34] kR0 h30 <| smR 2 rfl <| nR <| wDn kR0 <| tRt ?_
      (have h2:(z3v f st x).2=(z1h f.types st x.outs [(z0c x.op).2]).2:=(by (try (clear ha0 hb0));simp_all [z3v,andP];done)
       rw [h2]
       refine rOk rfl ?_ (po2 rfl rfl)
       clear h2
       try (clear ha0 hb0)
       simp_all [z3v,andP]
       done)
     refine smR 4 rfl <| nR <| wN 31 kR0 h30 rfl rfl rfl <| wN 32 kR0 h30 rfl rfl rfl <| wR 0 [33,34] kR0 h30 <| smR 2 rfl <| nR <| wDn kR0 <| tRt ?_
     (have h2:(z3v f st x).2=st:=(by (try (clear ha0 hb0));simp_all [z3v,andP];done)
      rw [h2]
      refine rOk rfl ?_ (po2 rfl rfl)
      clear h2
      try (clear ha0 hb0)
      simp_all [z3v,andP]
      done)
    refine smR 29 rfl <| nR <| wN 31 kR0 h30 rfl rfl rfl <| wN 32 kR0 h30 rfl rfl rfl <| wR 0 [33,34] kR0 h30 <| smR 2 rfl <| nR <| wDn kR0 <| tRt ?_
    (have h2:(z3v f st x).2=st:=(by (try (clear ha0 hb0));simp_all [z3v,andP];done)
     rw [h2]
     refine rOk rfl ?_ (po2 rfl rfl)
     clear h2
     try (clear ha0 hb0)
     simp_all [z3v,andP]
     done)
   refine sm 9 rfl <| nL <| tQ <| tDr z78 (fun k=>k∈([3]:List Nat)) <| wR 4 [0,1,2,3,4,5,6,7,8,9,10,11,12,13,14,15,16,17,18,19,20,21,22,23,24,25,26,27,28,29,30] kR0 h30 <| smR 31 rfl <| nR <| wN 31 kR0 h30 rfl rfl rfl <| wN 32 kR0 h30 rfl rfl rfl <| wR 0 [33,34] kR0 h30 <| smR 2 rfl <| nR ?_
   refine wDn kR0 <| tRt ?_
   (have h2:z3v f st x=(false,st):=(by (try (clear ha0 hb0));(first | (simp_all [z3v,andP];done) | (simp_all [z3v,andP]<;>omega)))
    rw [h2]
    exact rOk rfl rfl (po2 rfl rfl))
  refine sm 14 rfl <| nL <| tQ <| tDr z78 (fun k=>k∈([3]:List Nat)) <| wR 4 [0,1,2,3,4,5,6,7,8,9,10,11,12,13,14,15,16,17,18,19,20,21,22,23,24,25,26,27,28,29,30] kR0 h30 <| smR 31 rfl <| nR <| wN 31 kR0 h30 rfl rfl rfl <| wN 32 kR0 h30 rfl rfl rfl <| wR 0 [33,34] kR0 h30 <| smR 2 rfl <| nR ?_
  refine wDn kR0 <| tRt ?_
  (have h2:z3v f st x=(false,st):=(by (try (clear ha0 hb0));(first | (simp_all [z3v,andP];done) | (simp_all [z3v,andP]<;>omega)))
   rw [h2]
   exact rOk rfl rfl (po2 rfl rfl))
theorem sc_shEnd (u:Un) (f:Fl) (st:List Int) (hs:st.length=f.types.length) (x:Nd) (wh:Wh):SC Tryz.prog 104 [.ptr 3 0,.pv (ndv x),.pv (whv wh)] (ckS u f 3 st) (fun k=>k=3) (iBool (z8m f st x wh)) (ckS u f 3 st):=by
  refine SC.of Tryz.func104 rfl (lb rfl) fun F ρ w=>?_
  refine tQ <| tG <| cE rfl (z2m rfl rfl) <| cE rfl (z2m rfl rfl) <| sm 1 rfl <| nL <| tQ <| tG <| sm 2 rfl <| cV rfl (oSm uT35 rfl) <| sm 2 rfl <| nL ?_
  refine tQ <| tQ <| tG <| sm 2 rfl <| nL <| tBk <| tQ <| tG <| sm 2 rfl <| nL ?_
  refine tC rfl (fun hc14=>?_) fun hc14=>?_
  ·refine tQ <| tG <| sm 2 rfl ?_
   refine wS 17 rfl (fun hb17=>?_) fun hb17=>?_
   ·refine sm 4 rfl ?_
    refine wS 21 rfl (fun hb21=>?_) fun hb21=>?_
    ·refine sm 5 rfl <| WL.yes rfl rfl rfl rfl rfl rfl (cRr (z2c u f st hs x.args wh.Yield) zw2 rfl rfl (sRf _ _) (po2 rfl rfl) (by rfl) (fun k (h:_)=>.inr trivial) rfl (by rfl)) <| sm 2 rfl <| nL <| tRt <| rOk rfl ?_ (z2p (And.intro rfl (And.intro rfl (trivial))))
     refine congrArg (fun b=>iBool b) ?_
     simp_all [z8m]
    refine sm 8 rfl <| nL <| tRt <| rOk rfl ?_ (z2p (And.intro rfl (And.intro rfl (trivial))))
    refine congrArg (fun b=>iBool b) ?_
    simp_all [z8m]
   refine sm 12 rfl <| nL <| tRt <| rOk rfl ?_ (z2p (And.intro rfl (And.intro rfl (trivial))))
   refine congrArg (fun b=>iBool b) ?_
   simp_all [z8m]
  refine tQ <| tG <| sm 2 rfl <| nL ?_
  refine tC rfl (fun hc29=>?_) fun hc29=>?_
  ·refine tQ <| tG <| sm 2 rfl ?_
   refine wS 32 rfl (fun hb32=>?_) fun hb32=>?_
   ·refine sm 4 rfl ?_
    refine wS 36 rfl (fun hb36=>?_) fun hb36=>?_
    ·refine sm 5 rfl <| WL.yes rfl rfl rfl rfl rfl rfl (cRr (z2c u f st hs x.args wh.Next) zw2 rfl rfl (sRf _ _) (po2 rfl rfl) (by rfl) (fun k (h:_)=>.inr trivial) rfl (by rfl)) <| sm 2 rfl <| nL <| tRt <| rOk rfl ?_ (z2p (And.intro rfl (And.intro rfl (trivial))))
     refine congrArg (fun b=>iBool b) ?_
     simp_all [z8m]
    refine sm 8 rfl <| nL <| tRt <| rOk rfl ?_ (z2p (And.intro rfl (And.intro rfl (trivial))))
    refine congrArg (fun b=>iBool b) ?_
    simp_all [z8m]
   refine sm 12 rfl <| nL <| tRt <| rOk rfl ?_ (z2p (And.intro rfl (And.intro rfl (trivial))))
   refine congrArg (fun b=>iBool b) ?_
   simp_all [z8m]
  refine tQ <| tG <| sm 2 rfl <| nL ?_
  refine tC rfl (fun hc44=>?_) fun hc44=>?_
  ·refine tQ <| tG <| sm 2 rfl ?_
   refine wS 47 rfl (fun hb47=>?_) fun hb47=>?_
   ·refine sm 4 rfl ?_
    refine wS 51 rfl (fun hb51=>?_) fun hb51=>?_
    ·refine sm 5 rfl <| WL.yes rfl rfl rfl rfl rfl rfl (cRr (z2c u f st hs x.args wh.Left) zw2 rfl rfl (sRf _ _) (po2 rfl rfl) (by rfl) (fun k (h:_)=>.inr trivial) rfl (by rfl)) <| sm 2 rfl <| nL <| tRt <| rOk rfl ?_ (z2p (And.intro rfl (And.intro rfl (trivial))))
     refine congrArg (fun b=>iBool b) ?_
     simp_all [z8m]
    refine sm 8 rfl <| nL <| tRt <| rOk rfl ?_ (z2p (And.intro rfl (And.intro rfl (trivial))))
    refine congrArg (fun b=>iBool b) ?_
    simp_all [z8m]
   refine sm 12 rfl <| nL <| tRt <| rOk rfl ?_ (z2p (And.intro rfl (And.intro rfl (trivial))))
   refine congrArg (fun b=>iBool b) ?_
   simp_all [z8m]
  refine tSk <| tQ <| tDr z78 (fun k=>k∈([3,4]:List Nat)) <| wR 4 [0,1,2,3,4,5,6,7,8,9] kR0 h30 <| smR 2 rfl ?_
  refine WR.split (t:=60) rfl (fun hb60=>?_) (fun hb60=>?_)
  ·refine smR 4 rfl <| ryV rfl rfl rfl (nCk rfl rfl rfl) <| smR 2 rfl <| ryV rfl rfl rfl (oLb uT3 rfl rfl rfl dC0) <| nR <| wO 10 kR0 <| wY rfl rfl rfl (fun k (h:_)=>by (simp at h ⊢;omega)) nw (fun _ _=>bSl rfl rfl uT35 tZ3 tS3 rfl rfl rfl rfl (fbk rfl) rfl) <| wO 11 kR0 <| wY rfl rfl rfl (fun k (h:_)=>by (simp at h ⊢;omega)) (nAp rfl) (fun _ _=>ocr (z2c u f st hs x.args [f.ty]) zw2 rfl (po2 rfl rfl) rfl (fun k (h:_)=>.inr trivial) rfl rfl) <| wR 0 [12,13] kR0 h30 <| smR 2 rfl <| nR ?_
   refine wDn kR0 <| tRt <| rOk rfl ?_ (z2p (And.intro rfl (And.intro rfl (trivial))))
   refine congrArg (fun b=>iBool b) ?_
   simp_all [z8m]
  refine smR 8 rfl <| nR <| wN 10 kR0 h30 rfl rfl rfl <| wN 11 kR0 h30 rfl rfl rfl <| wR 0 [12,13] kR0 h30 <| smR 2 rfl <| nR <| wDn kR0 <| tRt <| rOk rfl ?_ (z2p (And.intro rfl (And.intro rfl (trivial))))
  refine congrArg (fun b=>iBool b) ?_
  simp_all [z8m]
set_option maxRecDepth 20000
theorem y5b (u:Un) (f:Fl) (st:List Int) (hs:st.length=f.types.length) (hg:∀ g∈u.flows,0<=g.params/\g.params<=g.types.length) (x:Nd):SC Tryz.prog 105 [.ptr 3 0,.pv (ndv x)] (ckS u f 3 st) (fun k=>k=3) (iBool (z27 u f st x).1) (ckS u f 3 (z27 u f st x).2):=by
  refine SC.sameR (SC.vc tb {} [3] Tryz.func105 rfl rfl ?_) fun k _ h=>List.mem_singleton.2 h
  obtain ⟨kind,op,n,name,args,outs,params,kids⟩:=x
  rcases (show kind=1∨kind=2∨kind=3∨kind=4∨kind=5∨kind=6∨kind=8∨kind=9∨kind=7∨(kind≠1/\kind≠2/\kind≠3/\kind≠4/\kind≠5/\kind≠6/\kind≠8/\kind≠9/\kind≠7) by omega) with rfl | rfl | rfl | rfl | rfl | rfl | rfl | rfl | rfl | h
  · have e:z27 u f st (.mk 1 op n name args outs params kids)=andP (z12 f.types st args []) st (z1h f.types st outs [1]):=rfl
    rw [e]
    have h1:=z2c u f st hs args []
    generalize z12 f.types st args []=b at h1 ⊢
    cases b
    · exact ⟨[],h1,SubA.same (SubA.same (SubA.cons sN SubA.nil)),⟨rfl,trivial,rfl,trivial⟩,rfl,sI,rfl,rfl,trivial⟩
    · exact ⟨[],h1,SubA.same (SubA.same (SubA.cons sN SubA.nil)),⟨rfl,trivial,rfl,trivial⟩,rfl,[],z3l u f st hs outs [1],sR,⟨rfl,rfl,rfl,trivial⟩,rfl,sI,rfl,rfl,trivial⟩
  · have e:z27 u f st (.mk 2 op n name args outs params kids)=andP ((n==0||n==1)&&z12 f.types st args []) st (z1h f.types st outs [2]):=rfl
    rw [e]
    have h1:=z2c u f st hs args []
    generalize z12 f.types st args []=b at h1 ⊢
    rcases (show n=0∨n=1∨((n==0)=false/\(n==1)=false) by simp;omega) with rfl | rfl | ⟨h2,h3⟩
    · cases b
      · exact ⟨[],h1,SubA.same (SubA.same (SubA.cons sN SubA.nil)),⟨rfl,trivial,rfl,trivial⟩,rfl,sI,rfl,rfl,trivial⟩
      · exact ⟨[],h1,SubA.same (SubA.same (SubA.cons sN SubA.nil)),⟨rfl,trivial,rfl,trivial⟩,rfl,[],z3l u f st hs outs [2],sR,⟨rfl,rfl,rfl,trivial⟩,rfl,sI,rfl,rfl,trivial⟩
    · cases b
      · exact ⟨[],h1,SubA.same (SubA.same (SubA.cons sN SubA.nil)),⟨rfl,trivial,rfl,trivial⟩,rfl,sI,rfl,rfl,trivial⟩
      · exact ⟨[],h1,SubA.same (SubA.same (SubA.cons sN SubA.nil)),⟨rfl,trivial,rfl,trivial⟩,rfl,[],z3l u f st hs outs [2],sR,⟨rfl,rfl,rfl,trivial⟩,rfl,sI,rfl,rfl,trivial⟩
    · rw [show ((n==0||n==1)&&b)=false by rw [h2,h3];rfl]
      refine z00 (fun h=>absurd (h.symm.trans h2) dC0) fun _=>z00 (fun h=>absurd (h.symm.trans h3) dC0) fun _=>?_
      exact ⟨sI,rfl,rfl,trivial⟩
  · exact ⟨[],y6y u f st hs (.mk 3 op n name args outs params kids),sR,⟨rfl,rfl,rfl,trivial⟩,rfl,sI,rfl,rfl,trivial⟩
  · exact ⟨[],y6y u f st hs (.mk 4 op n name args outs params kids),sR,⟨rfl,rfl,rfl,trivial⟩,rfl,sI,rfl,rfl,trivial⟩
  · have e:z27 u f st (.mk 5 op n name args outs params kids)=andP (decide (z0i name u.arrays 0 ≥ 0)&&z12 f.types st args [1]) st (z1h f.types st outs [1]):=rfl
    rw [e]
    have h0:=y6x u name
    have h1:=z2c u f st hs args [1]
    generalize z12 f.types st args [1]=b at h1 ⊢
    generalize decide (z0i name u.arrays 0 ≥ 0)=c at h0 ⊢
    cases c
    · exact ⟨[],h0,sR,trivial,rfl,sI,rfl,rfl,trivial⟩
    · cases b
      · exact ⟨[],h0,sR,trivial,rfl,[],h1,sR,⟨rfl,trivial,rfl,trivial⟩,rfl,sI,rfl,rfl,trivial⟩
      · exact ⟨[],h0,sR,trivial,rfl,[],h1,sR,⟨rfl,trivial,rfl,trivial⟩,rfl,[],z3l u f st hs outs [1],sR,⟨rfl,rfl,rfl,trivial⟩,rfl,sI,rfl,rfl,trivial⟩
  · have e:z27 u f st (.mk 6 op n name args outs params kids)=andP (decide (z0i name u.arrays 0 ≥ 0)&&z12 f.types st args [1,1]) st (z1h f.types st outs []):=rfl
    rw [e]
    have h0:=y6x u name
    have h1:=z2c u f st hs args [1,1]
    generalize z12 f.types st args [1,1]=b at h1 ⊢
    generalize decide (z0i name u.arrays 0 ≥ 0)=c at h0 ⊢
    cases c
    · exact ⟨[],h0,sR,trivial,rfl,sI,rfl,rfl,trivial⟩
    · cases b
      · exact ⟨[],h0,sR,trivial,rfl,[],h1,sR,⟨rfl,trivial,rfl,trivial⟩,rfl,sI,rfl,rfl,trivial⟩
      · exact ⟨[],h0,sR,trivial,rfl,[],h1,sR,⟨rfl,trivial,rfl,trivial⟩,rfl,[],z3l u f st hs outs [],SubA.same (SubA.same (SubA.cons sN SubA.nil)),⟨rfl,rfl,rfl,trivial⟩,rfl,sI,rfl,rfl,trivial⟩
  · have e:z27 u f st (.mk 8 op n name args outs params kids)=andP (z12 f.types st args []) st (z1h f.types st outs [1]):=rfl
    rw [e]
    have h1:=z2c u f st hs args []
    generalize z12 f.types st args []=b at h1 ⊢
    cases b
    · exact ⟨[],h1,SubA.same (SubA.same (SubA.cons sN SubA.nil)),⟨rfl,trivial,rfl,trivial⟩,rfl,sI,rfl,rfl,trivial⟩
    · exact ⟨[],h1,SubA.same (SubA.same (SubA.cons sN SubA.nil)),⟨rfl,trivial,rfl,trivial⟩,rfl,[],z3l u f st hs outs [1],sR,⟨rfl,rfl,rfl,trivial⟩,rfl,sI,rfl,rfl,trivial⟩
  · have e:z27 u f st (.mk 9 op n name args outs params kids)=andP (z12 f.types st args [1]) st (z1h f.types st outs []):=rfl
    rw [e]
    have h1:=z2c u f st hs args [1]
    generalize z12 f.types st args [1]=b at h1 ⊢
    cases b
    · exact ⟨[],h1,sR,⟨rfl,trivial,rfl,trivial⟩,rfl,sI,rfl,rfl,trivial⟩
    · exact ⟨[],h1,sR,⟨rfl,trivial,rfl,trivial⟩,rfl,[],z3l u f st hs outs [],SubA.same (SubA.same (SubA.cons sN SubA.nil)),⟨rfl,rfl,rfl,trivial⟩,rfl,sI,rfl,rfl,trivial⟩
  · have e:z27 u f st (.mk 7 op n name args outs params kids)=zl9 u f st (.mk 7 op n name args outs params kids):=rfl
    rw [e]
    refine ⟨[],z9t u name,sR,trivial,rfl,z00 (fun hc=>?_) fun hc=>?_⟩
    · rw [show zl9 u f st (.mk 7 op n name args outs params kids)=(false,st) from if_pos (of_decide_eq_true hc)]
      exact ⟨sI,rfl,rfl,trivial⟩
    · have hl:¬ z05 name u.flows 0<0:=of_decide_eq_false hc
      have hk0:z05 name u.flows 0 ≥ 0:=by omega
      obtain ⟨g,hgk,_⟩:=z9r hk0
      obtain ⟨hgp0,hgpl⟩:=hg g (List.mem_of_getElem? hgk)
      have e2:zl9 u f st (.mk 7 op n name args outs params kids)=andP (z12 f.types st args (g.types.take g.params.toNat)) st (z1h f.types st outs [g.ty]):=by
        show (if z05 name u.flows 0<0 then _ else match u.flows[(z05 name u.flows 0).toNat]? with | some g=>_ | none=>_)=_
        rw [if_neg hl,hgk]
        rfl
      rw [e2]
      have h1:=z2c u f st hs args (g.types.take g.params.toNat)
      generalize z12 f.types st args (g.types.take g.params.toNat)=b at h1 ⊢
      have hi:=z0a (f:=Fl.enc) hgk
      have hkn:(((z05 name u.flows 0).toNat:Nat):Int)=z05 name u.flows 0:=by omega
      have hpn:((g.params.toNat:Nat):Int)=g.params:=by omega
      have hle:0<=g.params.toNat:=Nat.zero_le _
      have hge:g.params.toNat<=(g.types.map eInt).length:=by simp;omega
      cases b
      · exact ⟨hi,hkn.symm,_,hpn.symm,hle,hge,z5p,[],h1,SubA.same (SubA.same (SubA.cons (sP (by simp only [ints,List.map_take];exact PSub.refl _)) SubA.nil)),⟨rfl,trivial,rfl,trivial⟩,rfl,sI,rfl,rfl,trivial⟩
      · exact ⟨hi,hkn.symm,_,hpn.symm,hle,hge,z5p,[],h1,SubA.same (SubA.same (SubA.cons (sP (by simp only [ints,List.map_take];exact PSub.refl _)) SubA.nil)),⟨rfl,trivial,rfl,trivial⟩,rfl,[],z3l u f st hs outs [g.ty],sR,⟨rfl,rfl,rfl,trivial⟩,rfl,sI,rfl,rfl,trivial⟩
  · obtain ⟨h1,h2,h3,h4,h5,h6,h8,h9,h7⟩:=h
    rw [show z27 u f st (.mk kind op n name args outs params kids)=(false,st) by unfold z27;simp [Nd.kind,h1,h2,h3,h4,h5,h6,h7,h8,h9]]
    have no:∀ {i:Int},kind≠i->(kind==i)=true->False:=fun h e=>h (eq_of_beq e)
    exact z00 (fun h=>(no h1 h).elim) fun _=>z00 (fun h=>(no h2 h).elim) fun _=>z00 (fun h=>(no h3 h).elim) fun _=>z00 (fun h=>(no h4 h).elim) fun _=>z00 (fun h=>(no h5 h).elim) fun _=>z00 (fun h=>(no h6 h).elim) fun _=>z00 (fun h=>(no h8 h).elim) fun _=>z00 (fun h=>(no h9 h).elim) fun _=>z00 (fun h=>(no h7 h).elim) fun _=>⟨sI,rfl,rfl,trivial⟩
set_option maxRecDepth 20000
set_option maxHeartbeats 2000000
theorem zo2 (f:Fl) {x:Nd} (st:List Int) {c:Bool} (h:((x.outs.length:Int)==0 || !z01 x)=c):z46 f x st=andP c st (z1h f.types st x.outs (List.replicate x.outs.length 0)):=by rw [z46,h]
theorem y59 (u:Un) (f:Fl) (st:List Int) (hs:st.length=f.types.length) (x:Nd) (ka kb:List Nd) (hkids:x.kids=[ka,kb]) (wh:Wh) (deep:Int) (hbo:x.outs.length<=1073741824) (ih:∀ q∈x.kids,∀ (w:Wh) (st:List Int),st.length=f.types.length->SC Tryz.prog 61 [.ptr 3 0,.pv (z0o q),.pv (whv w),iInt deep] (ckS u f 3 st) (fun k=>k=3) (iBool (z1g u f deep w st q).1) (ckS u f 3 (z1g u f deep w st q).2)):SC Tryz.prog 101 [.ptr 3 0,.pv (ndv x),.pv (whv wh),iInt deep] (ckS u f 3 st) (fun k=>k=3) (iBool (if z12 f.types st x.args [2] then andQ (z1g u f deep ⟨true,wh.Loop,r8of f.types x.outs,wh.Next,wh.Left⟩ st ka) (fun s1=>andQ (z1g u f deep ⟨true,wh.Loop,r8of f.types x.outs,wh.Next,wh.Left⟩ s1 kb) fun s2=>z46 f x s2) else (false,st)).1) (ckS u f 3 (if z12 f.types st x.args [2] then andQ (z1g u f deep ⟨true,wh.Loop,r8of f.types x.outs,wh.Next,wh.Left⟩ st ka) (fun s1=>andQ (z1g u f deep ⟨true,wh.Loop,r8of f.types x.outs,wh.Next,wh.Left⟩ s1 kb) fun s2=>z46 f x s2) else (false,st)).2):=by
  refine SC.sameR (SC.vc tb {} [3] Tryz.func101 rfl rfl ?_) fun k _ h=>List.mem_singleton.2 h
  have hi0:(x.kids.map eKid)[0]? = some [z0o ka]:=by rw [hkids];rfl
  have hi1:(x.kids.map eKid)[1]? = some [z0o kb]:=by rw [hkids];rfl
  have hm0:ka∈x.kids:=by rw [hkids];exact .head _
  have hm1:kb∈x.kids:=by rw [hkids];exact .tail _ (.head _)
  have hT:=zj5 u f st hs x.outs hbo
  have h1:=z2c u f st hs x.args [2]
  have h2:=ih ka hm0 ⟨true,wh.Loop,r8of f.types x.outs,wh.Next,wh.Left⟩ st hs
  have l2:=(z85 u f deep ⟨true,wh.Loop,r8of f.types x.outs,wh.Next,wh.Left⟩ st ka).trans hs
  have hC:=zc7 x
  generalize z12 f.types st x.args [2]=b1 at h1 ⊢
  generalize z1g u f deep ⟨true,wh.Loop,r8of f.types x.outs,wh.Next,wh.Left⟩ st ka=R2 at h2 l2 ⊢
  obtain ⟨b2,st2⟩:=R2
  have h3:=ih kb hm1 ⟨true,wh.Loop,r8of f.types x.outs,wh.Next,wh.Left⟩ st2 l2
  have l3:=(z85 u f deep ⟨true,wh.Loop,r8of f.types x.outs,wh.Next,wh.Left⟩ st2 kb).trans l2
  cases b1
  · exact ⟨[],hT,sR,⟨rfl,by decide,rfl,trivial⟩,rfl,[],h1,sR,⟨rfl,trivial,rfl,trivial⟩,rfl,sI,rfl,rfl,trivial⟩
  cases b2
  · exact ⟨[],hT,sR,⟨rfl,by decide,rfl,trivial⟩,rfl,[],h1,sR,⟨rfl,trivial,rfl,trivial⟩,rfl,hi0,rfl,[],h2,sR,⟨rfl,rfl,rfl,trivial⟩,rfl,sI,rfl,rfl,trivial⟩
  rw [show andQ (true,st2) (fun s1=>andQ (z1g u f deep ⟨true,wh.Loop,r8of f.types x.outs,wh.Next,wh.Left⟩ s1 kb) fun s2=>z46 f x s2)=andQ (z1g u f deep ⟨true,wh.Loop,r8of f.types x.outs,wh.Next,wh.Left⟩ st2 kb) (fun s2=>z46 f x s2) from rfl]
  generalize z1g u f deep ⟨true,wh.Loop,r8of f.types x.outs,wh.Next,wh.Left⟩ st2 kb=R3 at h3 l3 ⊢
  obtain ⟨b3,st3⟩:=R3
  cases b3
  · exact ⟨[],hT,sR,⟨rfl,by decide,rfl,trivial⟩,rfl,[],h1,sR,⟨rfl,trivial,rfl,trivial⟩,rfl,hi0,rfl,[],h2,sR,⟨rfl,rfl,rfl,trivial⟩,rfl,hi1,rfl,[],h3,sR,⟨rfl,rfl,rfl,trivial⟩,rfl,sI,rfl,rfl,trivial⟩
  rw [show andQ (true,st3) (fun s2=>z46 f x s2)=z46 f x st3 from rfl]
  have hA:=y0t u f st3 l3 x.outs hbo
  refine ⟨[],hT,sR,⟨rfl,by decide,rfl,trivial⟩,rfl,[],h1,sR,⟨rfl,trivial,rfl,trivial⟩,rfl,hi0,rfl,[],h2,sR,⟨rfl,rfl,rfl,trivial⟩,rfl,hi1,rfl,[],h3,sR,⟨rfl,rfl,rfl,trivial⟩,rfl,z00 (fun h=>?_) fun h=>?_⟩
  · rw [zo2 f st3 (c:=true) (by rw [List.length_map] at h;rw [h,Bool.true_or])]
    exact ⟨[],hA,sR,⟨rfl,rfl,rfl,trivial⟩,rfl,sI,rfl,rfl,trivial⟩
  · rw [List.length_map] at h
    have hq:((x.outs.length:Int)==0 || !z01 x) = !z01 x:=by rw [h,Bool.false_or]
    rw [zo2 f st3 hq]
    generalize z01 x=c at hC ⊢
    cases c
    · exact ⟨[],hC,sR,trivial,rfl,[],hA,sR,⟨rfl,rfl,rfl,trivial⟩,rfl,sI,rfl,rfl,trivial⟩
    · exact ⟨[],hC,sR,trivial,rfl,sI,rfl,rfl,trivial⟩
theorem yh7 (u:Un) (f:Fl) (st:List Int) (hs:st.length=f.types.length) (x:Nd) (ka:List Nd) (hkids:x.kids=[ka]) (deep:Int) (hbo:x.outs.length<=1073741824) (hbp:x.params.length<=1073741824) (ih:∀ q∈x.kids,∀ (w:Wh) (st:List Int),st.length=f.types.length->SC Tryz.prog 61 [.ptr 3 0,.pv (z0o q),.pv (whv w),iInt deep] (ckS u f 3 st) (fun k=>k=3) (iBool (z1g u f deep w st q).1) (ckS u f 3 (z1g u f deep w st q).2)):SC Tryz.prog 102 [.ptr 3 0,.pv (ndv x),iInt deep] (ckS u f 3 st) (fun k=>k=3) (iBool (if z12 f.types st x.args (r8of f.types x.params) then andQ (z1h f.types st x.params (List.replicate x.params.length 0)) (fun s1=>andQ (z1g u f deep ⟨false,true,[],r8of f.types x.params,r8of f.types x.outs⟩ s1 ka) fun s2=>z46 f x (z3e s2 x.params)) else (false,st)).1) (ckS u f 3 (if z12 f.types st x.args (r8of f.types x.params) then andQ (z1h f.types st x.params (List.replicate x.params.length 0)) (fun s1=>andQ (z1g u f deep ⟨false,true,[],r8of f.types x.params,r8of f.types x.outs⟩ s1 ka) fun s2=>z46 f x (z3e s2 x.params)) else (false,st)).2):=by
  refine SC.sameR (SC.vc tb {} [3] Tryz.func102 rfl rfl ?_) fun k _ h=>List.mem_singleton.2 h
  have hi0:(x.kids.map eKid)[0]? = some [z0o ka]:=by rw [hkids];rfl
  have hm0:ka∈x.kids:=by rw [hkids];exact .head _
  have hT:=zj5 u f st hs x.params hbp
  have hT2:=zj5 u f st hs x.outs hbo
  have h1:=z2c u f st hs x.args (r8of f.types x.params)
  have hA1:=y0t u f st hs x.params hbp
  have l1:=(z34 f.types st x.params (List.replicate x.params.length 0)).trans hs
  have hC:=zc7 x
  generalize z12 f.types st x.args (r8of f.types x.params)=b1 at h1 ⊢
  cases b1
  · exact ⟨[],hT,sR,⟨rfl,by decide,rfl,trivial⟩,rfl,[],hT2,sR,⟨rfl,by decide,rfl,trivial⟩,rfl,[],h1,sR,⟨rfl,trivial,rfl,trivial⟩,rfl,sI,rfl,rfl,trivial⟩
  have hpin:(z1h f.types st x.params (List.replicate x.params.length 0)).1=true->∀ v∈x.params,0<=v/\v<f.types.length:=fun h=>zt7 h
  generalize z1h f.types st x.params (List.replicate x.params.length 0)=R2 at hA1 l1 hpin ⊢
  obtain ⟨b2,st1⟩:=R2
  cases b2
  · exact ⟨[],hT,sR,⟨rfl,by decide,rfl,trivial⟩,rfl,[],hT2,sR,⟨rfl,by decide,rfl,trivial⟩,rfl,[],h1,sR,⟨rfl,trivial,rfl,trivial⟩,rfl,[],hA1,sR,⟨rfl,rfl,rfl,trivial⟩,rfl,sI,rfl,rfl,trivial⟩
  have hpin:=hpin rfl
  have h2:=ih ka hm0 ⟨false,true,[],r8of f.types x.params,r8of f.types x.outs⟩ st1 l1
  have l2:=(z85 u f deep ⟨false,true,[],r8of f.types x.params,r8of f.types x.outs⟩ st1 ka).trans l1
  rw [show andQ (true,st1) (fun s1=>andQ (z1g u f deep ⟨false,true,[],r8of f.types x.params,r8of f.types x.outs⟩ s1 ka) fun s2=>z46 f x (z3e s2 x.params))=andQ (z1g u f deep ⟨false,true,[],r8of f.types x.params,r8of f.types x.outs⟩ st1 ka) (fun s2=>z46 f x (z3e s2 x.params)) from rfl]
  generalize z1g u f deep ⟨false,true,[],r8of f.types x.params,r8of f.types x.outs⟩ st1 ka=R3 at h2 l2 ⊢
  obtain ⟨b3,st2⟩:=R3
  cases b3
  · exact ⟨[],hT,sR,⟨rfl,by decide,rfl,trivial⟩,rfl,[],hT2,sR,⟨rfl,by decide,rfl,trivial⟩,rfl,[],h1,sR,⟨rfl,trivial,rfl,trivial⟩,rfl,[],hA1,sR,⟨rfl,rfl,rfl,trivial⟩,rfl,hi0,rfl,[],h2,SubA.same (SubA.same (SubA.cons (sP (z18 _)) sR)),⟨rfl,rfl,rfl,trivial⟩,rfl,sI,rfl,rfl,trivial⟩
  have hH:=y2y u f st2 l2 x.params hpin
  have l3:=(z4v x.params st2).trans l2
  rw [show andQ (true,st2) (fun s2=>z46 f x (z3e s2 x.params))=z46 f x (z3e st2 x.params) from rfl]
  generalize z3e st2 x.params=st3 at hH l3 ⊢
  have hA:=y0t u f st3 l3 x.outs hbo
  refine ⟨[],hT,sR,⟨rfl,by decide,rfl,trivial⟩,rfl,[],hT2,sR,⟨rfl,by decide,rfl,trivial⟩,rfl,[],h1,sR,⟨rfl,trivial,rfl,trivial⟩,rfl,[],hA1,sR,⟨rfl,rfl,rfl,trivial⟩,rfl,hi0,rfl,[],h2,SubA.same (SubA.same (SubA.cons (sP (z18 _)) sR)),⟨rfl,rfl,rfl,trivial⟩,rfl,[],hH,sR,⟨rfl,rfl,rfl,trivial⟩,rfl,z00 (fun h=>?_) fun h=>?_⟩
  · rw [zo2 f st3 (c:=true) (by rw [List.length_map] at h;rw [h,Bool.true_or])]
    exact ⟨[],hA,sR,⟨rfl,rfl,rfl,trivial⟩,rfl,sI,rfl,rfl,trivial⟩
  · rw [List.length_map] at h
    have hq:((x.outs.length:Int)==0 || !z01 x) = !z01 x:=by rw [h,Bool.false_or]
    rw [zo2 f st3 hq]
    generalize z01 x=c at hC ⊢
    cases c
    · exact ⟨[],hC,sR,trivial,rfl,[],hA,sR,⟨rfl,rfl,rfl,trivial⟩,rfl,sI,rfl,rfl,trivial⟩
    · exact ⟨[],hC,sR,trivial,rfl,sI,rfl,rfl,trivial⟩
theorem yh8 (u:Un) (f:Fl) (hg:∀ g∈u.flows,0<=g.params/\g.params<=g.types.length) (x:Nd) (deep:Int) (hd:0<=deep/\deep<=100) (wh:Wh) (st:List Int) (hs:st.length=f.types.length) (hbo:x.outs.length<=1073741824) (hbp:x.params.length<=1073741824) (ih:∀ q∈x.kids,∀ (w:Wh) (st:List Int),st.length=f.types.length->SC Tryz.prog 61 [.ptr 3 0,.pv (z0o q),.pv (whv w),iInt (deep+1)] (ckS u f 3 st) (fun k=>k=3) (iBool (z1g u f (deep+1) w st q).1) (ckS u f 3 (z1g u f (deep+1) w st q).2)):SC Tryz.prog 85 [.ptr 3 0,.pv (ndv x),.pv (whv wh),iInt deep] (ckS u f 3 st) (fun k=>k=3) (iBool (z3m u f deep wh st x).1) (ckS u f 3 (z3m u f deep wh st x).2):=by
  refine SC.of Tryz.func85 rfl (lb rfl) fun F ρ w=>?_
  refine tQ <| tG <| cE rfl (z2m rfl rfl) <| cE rfl (z2m rfl rfl) <| sm 1 rfl <| nL <| tQ <| tBk <| tQ <| tG <| cV rfl (lEA rfl rfl uT43 rfl tS43 (lb rfl)) <| cE rfl (ocq (yh2 _) ent100 rfl rfl) ?_
  refine sm 2 rfl <| nL ?_
  refine tC rfl (fun hc9=>?_) fun hc9=>?_
  ·refine tQ <| tG <| sm 1 rfl <| nL <| tRt ?_
   have hbare:z11 x=false:=by simpa using hc9
   rw [zc9 _ _ _ _ _ hbare]
   exact rOk rfl rfl (po2 rfl rfl)
  have hbare:z11 x=true:=by simpa using hc9
  refine tQ <| tG <| sm 4 rfl <| nL ?_
  refine tC rfl (fun hc13=>?_) fun hc13=>?_
  ·have hk10:x.kind=10:=by simpa using hc13
   obtain ⟨ka,kb,hkids⟩:=z2x hbare hk10
   refine tQ <| tG <| sm 1 rfl <| cV rfl (lEA rfl rfl uT43 rfl tS43 (lb rfl)) <| cV rfl (lEA rfl rfl Tryz.underlying104 rfl tS104 (lb rfl)) <| sm 1 rfl <| cV rfl (oB rfl rfl (z04 rfl oM0)) <| cE rfl (ocr (y59 u f st hs x ka kb hkids wh (deep+1) hbo ih) ent101 rfl (po2 rfl rfl) rfl (fun k (h:_)=>.inr h) rfl rfl) <| sm 1 rfl <| nL <| tRt ?_
   rw [zt6 _ _ _ _ _ hbare hk10 hkids]
   exact rOk rfl rfl (po2 rfl rfl)
  refine tQ <| tG <| sm 4 rfl <| nL ?_
  refine tC rfl (fun hc23=>?_) fun hc23=>?_
  ·have hk11:x.kind=11:=by simpa using hc23
   obtain ⟨ka,hkids⟩:=z1u hbare hk11
   refine tQ <| tG <| sm 1 rfl <| cV rfl (lEA rfl rfl uT43 rfl tS43 (lb rfl)) <| sm 1 rfl <| cV rfl (oB rfl rfl (z04 rfl oM0)) <| cE rfl (ocr (yh7 u f st hs x ka hkids (deep+1) hbo hbp ih) ent102 rfl (po2 rfl rfl) rfl (fun k (h:_)=>.inr h) rfl rfl) <| sm 1 rfl <| nL <| tRt ?_
   rw [zd0 _ _ _ _ _ hbare hk11 hkids]
   exact rOk rfl rfl (po2 rfl rfl)
  refine tQ <| tG <| cV rfl (lEA rfl rfl uT43 rfl tS43 (lb rfl)) <| cE rfl (ocq (z9e _) y1p rfl rfl) <| sm 1 rfl <| nL ?_
  refine tC rfl (fun hc32=>?_) fun hc32=>?_
  ·refine tQ <| tG <| sm 1 rfl <| cV rfl (lEA rfl rfl uT43 rfl tS43 (lb rfl)) <| cV rfl (lEA rfl rfl Tryz.underlying104 rfl tS104 (lb rfl)) <| cE rfl (ocr (sc_shEnd u f st hs x wh) ent104 rfl (po2 rfl rfl) rfl (fun k (h:_)=>.inr h) rfl rfl) <| sm 1 rfl <| nL <| tRt ?_
   rw [zj8 _ _ _ _ _ hbare hc13 hc23 hc32]
   exact rOk rfl rfl (po2 rfl rfl)
  refine tSk <| tQ <| tG <| sm 1 rfl <| cV rfl (lEA rfl rfl uT43 rfl tS43 (lb rfl)) <| cE rfl (ocr (y5b u f st hs hg x) ent105 rfl (po2 rfl rfl) rfl (fun k (h:_)=>.inr h) rfl rfl) <| sm 1 rfl <| nL <| tRt ?_
  rw [z86 _ _ _ _ _ hbare hc13 hc23 hc32]
  exact rOk rfl rfl (po2 rfl rfl)
theorem y0u (N:Nat):∀ (u:Un) (f:Fl) (hg:∀ g∈u.flows,0<=g.params/\g.params<=g.types.length) (l:List Nd) (deep:Int) (hd:0<=deep/\deep<=101) (wh:Wh) (st:List Int) (hs:st.length=f.types.length) (hb:lsW l<=1073741824),SizeOf.sizeOf l<N->SC Tryz.prog 61 [.ptr 3 0,.pv (z0o l),.pv (whv wh),iInt deep] (ckS u f 3 st) (fun k=>k=3) (iBool (z1g u f deep wh st l).1) (ckS u f 3 (z1g u f deep wh st l).2):=by
  induction N with
  | zero=>intro u f hg l deep hd wh st hs hb hN;exact absurd hN (Nat.not_lt_zero _)
  | succ N ih =>
    intro u f hg l deep hd wh st hs hb hN
    refine SC.of Tryz.func61 rfl (lb rfl) fun F ρ w=>?_
    refine Tr.lenOf (t:=1) rfl (fun hl=>?_)
    simp only [List.length_map] at hl
    refine tQ <| tG <| cE rfl (z2m rfl rfl) <| sm 1 rfl <| nL <| tQ <| tQ <| tG <| sm 1 rfl <| cV rfl (oSm uT44 rfl) <| sm 1 rfl <| nL ?_
    refine tBk <| Tr.sub (Sub.of (fr':=[(15,iInt 0),(14,iInt l.length),(13,.pv (z0o l)),(6,.pv (.ept [vBool wh.If,vBool wh.Loop,ints wh.Yield,ints wh.Next,ints wh.Left] 0)),(0,.ptr 3 0),(1,.pv (z0o l)),(3,iInt deep)]) ⟨rfl,rfl,rfl,rfl,rfl,rfl,rfl,trivial⟩) ?_
    refine Tr.loop (fun fr σ m=>∃ (k:Nat) (s:List Int),(k<=l.length)/\(shGo u f deep wh st l=shGo u f deep wh s (l.drop k))/\(s.length=f.types.length)/\fr=[(15,iInt k),(14,iInt l.length),(13,.pv (z0o l)),(6,.pv (.ept [vBool wh.If,vBool wh.Loop,ints wh.Yield,ints wh.Next,ints wh.Left] 0)),(0,.ptr 3 0),(1,.pv (z0o l)),(3,iInt deep)] /\ σ = look (up (ckS u f 3 s))/\m=l.length - k) (n:=l.length - 0) ?_ ?_
    ·exact ⟨0,st,Nat.zero_le _,rfl,hs,rfl,rfl,rfl⟩
    rintro fr σ m ⟨k,s,hI0,hI1,hI2,rfl,rfl,rfl⟩
    refine tQ <| tG <| sm 1 rfl <| nL <| tQ ?_
    refine tC rfl (fun hc16=>?_) fun hc16=>?_
    ·have hlt:k<l.length:=by simpa using hc16
     have hd2:=List.drop_eq_getElem_cons hlt
     have hm:=List.getElem_mem hlt
     have hi:=z0k (List.getElem?_eq_getElem hlt)
     generalize l[k]=x at hd2 hm hi
     have hWx:=z92 x
     have hWl:=y4f hm
     have hxo:x.outs.length<=1073741824:=by omega
     have hxp:x.params.length<=1073741824:=by omega
     refine tSk <| tQ <| tBk <| tQ <| tG <| sm 1 rfl <| cV rfl (iSq rfl rfl rfl uT44 hi tS43 rfl (by rfl)) <| cV rfl (lEA rfl rfl uT43 rfl tS43 (lb rfl)) <| cE rfl (aLc (k:=110) rfl tZ43 rfl rfl rfl rfl) <| sm 1 rfl <| c0 (sBA rfl rfl rfl rfl rfl sI0 tS43 (flk rfl) (lb rfl)) <| nL ?_
     refine tQ <| Tr.freezeBox (t:=10) (k:=110) rfl rfl rfl ?_
     refine Tr.heap (σ':=look (up (ckS u f 3 s))) (fun k=>by
       simp only [look]
       by_cases h:110=k
       · subst h;rfl
       · simp [z06 h]) ?_
     refine tG <| sm 3 rfl ?_
     refine wS 22 rfl (fun hb22=>?_) fun hb22=>?_
     ·refine sm 17 rfl <| nL <| Tr.condT rfl <| tQ <| tG <| sm 1 rfl <| nL <| tRt ?_
      (have h2:z1g u f deep wh st l=(false,s):=by
         unfold z1g
         rw [hI1,hd2]
         unfold shGo
         rw [if_pos (by simpa using hb22)]
         simp [andQ]
       rw [h2]
       exact rOk rfl rfl (po2 rfl rfl))
     refine sm 1 rfl <| yV rfl rfl (lEA rfl rfl uT43 rfl tS43 (lb rfl)) <| yV rfl rfl (lEA rfl rfl Tryz.underlying104 rfl tS104 (lb rfl)) <| sm 1 rfl <| WL.yes rfl rfl rfl rfl rfl rfl (cRr (yh8 u f hg x deep ⟨hd.1,by simp at hb22;omega⟩ wh s hI2 hxo hxp (fun q hq w st hst=>ih u f hg q (deep+1) ⟨by omega,by simp at hb22;omega⟩ w st hst (by have:=z8x hq;omega) (Nat.lt_of_lt_of_le (z8g hm rfl hq) (Nat.le_of_lt_succ hN)))) ent85 rfl rfl (sRf _ _) (po2 rfl rfl) (by rfl) (fun k (h:_)=>.inr h) rfl (by rfl)) <| sm 3 rfl ?_
     refine wS 30 rfl (fun hb30=>?_) fun hb30=>?_
     ·refine sm 9 rfl <| nL <| Tr.condT rfl <| tQ <| tG <| sm 1 rfl <| nL <| tRt ?_
      (have h2:z1g u f deep wh st l=(false,(z3m u f deep wh s x).2):=by
         unfold z1g
         rw [hI1,hd2]
         unfold shGo
         rw [if_neg (by simpa using hb22)]
         have hn1:(z3m u f deep wh s x).1=false:=by simpa using hb30
         simp [andQ,hn1]
       rw [h2]
       exact rOk rfl rfl (po2 rfl rfl))
     refine yV rfl rfl (lEA rfl rfl uT43 rfl tS43 (lb rfl)) <| WL.yes rfl rfl rfl rfl rfl rfl (z1s (zc7 x) ent86 rfl rfl (sRf _ _) rfl) <| sm 2 rfl <| yV rfl rfl (oSm uT44 rfl) <| yV rfl rfl (oB rfl rfl (z3i rfl oM0)) <| sm 1 rfl <| yV rfl rfl (zc0 rfl rfl rfl Tryz.underlying4) <| sm 1 rfl <| nL ?_
     refine tC rfl (fun hc39=>?_) fun hc39=>?_
     ·refine tQ <| tG <| sm 1 rfl <| nL <| tRt ?_
      (have h2:z1g u f deep wh st l=(false,(z3m u f deep wh s x).2):=by
         unfold z1g
         rw [hI1,hd2]
         unfold shGo
         rw [if_neg (by simpa using hb22)]
         have hn1:(z3m u f deep wh s x).1=true:=by simpa using hb30
         have hcl:(z01 x != (l.drop (k+1)).isEmpty)=true:=by rw [z6t hlt];simpa using hc39
         simp [andQ,hn1,hcl]
       rw [h2]
       exact rOk rfl rfl (po2 rfl rfl))
     refine tSk <| tG <| cV rfl (oB rfl rfl (z04 rfl oM0)) <| sm 1 rfl <| nL ?_
     refine ⟨_,_,?_,Sub.of (fr':=[(15,iInt (k+1)),(14,iInt l.length),(13,.pv (z0o l)),(6,.pv (.ept [vBool wh.If,vBool wh.Loop,ints wh.Yield,ints wh.Next,ints wh.Left] 0)),(0,.ptr 3 0),(1,.pv (z0o l)),(3,iInt deep)]) ⟨rfl,rfl,rfl,rfl,rfl,rfl,rfl,trivial⟩,(k+1),(z3m u f deep wh s x).2,?_,?_,?_,rfl,(z25 rfl),rfl⟩
     ·omega
     ·omega
     ·rw [hI1,hd2]
      have hn1:(z3m u f deep wh s x).1=true:=by simpa using hb30
      have hcl:(z01 x != (l.drop (k+1)).isEmpty)=false:=by rw [z6t hlt];simpa using hc39
      have hdp:¬ deep > 100:=by simpa using hb22
      conv=>lhs;unfold shGo
      simp only [if_neg hdp,andQ,hn1,hcl,if_true]
      rfl
     exact (zf9 ..).trans hI2
    refine tEx <| tQ <| tQ ?_
    have hgo2:shGo u f deep wh st l=(true,s):=by rw [hI1,List.drop_eq_nil_of_le (by simpa using hc16)];simp [shGo]
    have hgo:(shGo u f deep wh st l).1=true:=by rw [hgo2]
    have hs0:=hI2
    generalize s=s0 at hgo2 hs0 ⊢
    refine tG <| sm 1 rfl <| cV rfl (oSm uT44 rfl) <| sm 1 rfl <| nL <| tBk <| Tr.sub (Sub.of (fr':=[(43,iInt 0),(42,iInt l.length),(41,.pv (z0o l)),(0,.ptr 3 0),(1,.pv (z0o l))]) ⟨rfl,rfl,rfl,rfl,rfl,trivial⟩) ?_
    refine Tr.loop (fun fr σ m=>∃ (k:Nat) (s:List Int),(k<=l.length)/\(z6p s0 l=z6p s (l.drop k))/\(s.length=f.types.length)/\fr=[(43,iInt k),(42,iInt l.length),(41,.pv (z0o l)),(0,.ptr 3 0),(1,.pv (z0o l))] /\ σ = look (up (ckS u f 3 s))/\m=l.length - k) (n:=l.length - 0) ?_ ?_
    ·exact ⟨0,s0,Nat.zero_le _,rfl,hs0,rfl,rfl,rfl⟩
    rintro fr σ m ⟨k,s,hJ0,hJ1,hJ2,rfl,rfl,rfl⟩
    refine tQ <| tG <| sm 1 rfl <| nL <| tQ ?_
    refine tC rfl (fun hc44=>?_) fun hc44=>?_
    ·have hlt:k<l.length:=by simpa using hc44
     have hd2:=List.drop_eq_getElem_cons hlt
     have hm:=List.getElem_mem hlt
     have hi:=z0k (List.getElem?_eq_getElem hlt)
     generalize l[k]=x at hd2 hm hi
     refine tSk <| tQ <| tBk <| tQ <| tG <| cV rfl (iSq rfl rfl rfl uT44 hi tS43 rfl (by rfl)) <| cV rfl (lEA rfl rfl uT43 rfl tS43 (lb rfl)) <| cE rfl (aLc (k:=112) rfl tZ43 rfl rfl rfl rfl) <| c0 (sBA rfl rfl rfl rfl rfl sI0 tS43 (flk rfl) (lb rfl)) <| nL <| Tr.freezeBox (t:=12) (k:=112) rfl rfl rfl ?_
     refine Tr.heap (σ':=look (up (ckS u f 3 s))) (fun k=>by
       simp only [look]
       by_cases h:112=k
       · subst h;rfl
       · simp [z06 h]) ?_
     refine tG <| sm 3 rfl <| cE rfl (ocr (y2y u f s hJ2 x.outs (y35 hgo x hm)) ent87 rfl (po2 rfl rfl) rfl (fun k (h:_)=>.inr h) rfl rfl) <| nL <| tG <| cV rfl (oB rfl rfl (z04 rfl oM0)) <| sm 1 rfl <| nL ?_
     refine ⟨_,_,?_,Sub.of (fr':=[(43,iInt (k+1)),(42,iInt l.length),(41,.pv (z0o l)),(0,.ptr 3 0),(1,.pv (z0o l))]) ⟨rfl,rfl,rfl,rfl,rfl,trivial⟩,(k+1),(z3e s x.outs),?_,?_,?_,rfl,(z25 rfl),rfl⟩
     ·omega
     ·omega
     ·rw [hJ1,hd2];rfl
     exact (z4v ..).trans hJ2
    refine tEx <| tQ <| tG <| sm 1 rfl <| cV rfl (oSm uT44 rfl) <| sm 2 rfl <| nL <| tRt ?_
    have hge:l.length<=k:=by simpa using hc44
    have h2:z1g u f deep wh st l=(decide ((l.length:Int) > 0),s):=by
      unfold z1g
      rw [hgo2]
      simp only [andQ,if_true,y34,hJ1,List.drop_eq_nil_of_le hge]
      rfl
    rw [h2]
    exact rOk rfl rfl (po2 rfl rfl)
theorem yh6 (u:Un) (f:Fl) (hg:∀ g∈u.flows,0<=g.params/\g.params<=g.types.length) (l:List Nd) (deep:Int) (hd:0<=deep/\deep<=101) (wh:Wh) (st:List Int) (hs:st.length=f.types.length) (hb:lsW l<=1073741824):SC Tryz.prog 61 [.ptr 3 0,.pv (z0o l),.pv (whv wh),iInt deep] (ckS u f 3 st) (fun k=>k=3) (iBool (z1g u f deep wh st l).1) (ckS u f 3 (z1g u f deep wh st l).2):=y0u _ u f hg l deep hd wh st hs hb (Nat.lt_succ_self _)
theorem yh3 (u:Un) (f:Fl) (hg:∀ g∈u.flows,0<=g.params/\g.params<=g.types.length) (hp:0<=f.params/\f.params<=f.types.length) (hb:lsW f.body<=536870912):SC Tryz.prog 38 [.pv u.enc,.pv (.agg f.enc)] [] (fun _=>False) (iBool (za9 u f)) []:=by
  refine SC.of Tryz.func38 rfl (lb rfl) fun F ρ w=>?_
  refine tQ <| tG <| cE rfl (z2m rfl rfl) <| cE rfl (z2m rfl rfl) <| sm 1 rfl <| nL <| tQ <| tQ <| tG <| sm 4 rfl ?_
  refine wS 10 rfl (fun hb10=>?_) fun hb10=>?_
  ·refine sm 10 rfl <| nL <| Tr.condT rfl <| tQ <| tG <| sm 1 rfl <| nL <| tRt <| rOk rfl ?_ nPo
   have hno:(decide (f.params > 8)||decide ((f.types.length:Int) > 20000)||f.types.any (fun t=>!isTy t))=true:=by
     simp_all
   simp only [za9,hno,Bool.not_true,Bool.false_and]
  refine sm 2 rfl <| yV rfl rfl (oSm uT35 rfl) <| sm 3 rfl ?_
  refine wS 16 rfl (fun hb16=>?_) fun hb16=>?_
  ·refine sm 4 rfl <| nL <| Tr.condT rfl <| tQ <| tG <| sm 1 rfl <| nL <| tRt <| rOk rfl ?_ nPo
   have hno:(decide (f.params > 8)||decide ((f.types.length:Int) > 20000)||f.types.any (fun t=>!isTy t))=true:=by
     simp_all
   simp only [za9,hno,Bool.not_true,Bool.false_and]
  refine sm 2 rfl <| WL.yes rfl rfl rfl rfl rfl rfl (z1s (y87 60 [] [] rfl ent60 (fun t=>!isTy t) f.types (fun x hm=>(sc_flow1 x).anyR)) ent59 rfl rfl (sSm rfl (Subs.cons (fun _ _ _ _ h=>y13 h) Subs.nil)) rfl) <| sm 1 rfl <| nL ?_
  refine tC rfl (fun hc20=>?_) fun hc20=>?_
  ·refine tQ <| tG <| sm 1 rfl <| nL <| tRt <| rOk rfl ?_ nPo
   have hno:(decide (f.params > 8)||decide ((f.types.length:Int) > 20000)||f.types.any (fun t=>!isTy t))=true:=by
     simp_all
   simp only [za9,hno,Bool.not_true,Bool.false_and]
  ·have hpar:f.params<=8/\f.types.length<=20000:=by
     (simp_all<;>omega)
   have hpt:f.params.toNat<=f.types.length:=by omega
   have hpi:f.params=(f.params.toNat:Int):=by omega
   have hno:(decide (f.params > 8)||decide ((f.types.length:Int) > 20000)||f.types.any (fun t=>!isTy t))=false:=by
     clear hpi
     simp_all
   refine tSk <| tQ <| tDr z78 (fun k=>k<3) <| wR 4 [0,1,2,3,4] kR0 h30 <| rV rfl rfl (lEA rfl rfl uT25 rfl tS25 (lb rfl)) <| rV rfl rfl (lEA rfl rfl Tryz.underlying51 rfl tS51 (lb rfl)) <| smR 2 rfl <| rV rfl rfl (oSm uT35 rfl) <| nR <| wO 5 kR0 <| wI rfl rfl nf (zi4 rfl) (fun _ _=>z6x (k:=4) (s:=⟨3,1⟩) rfl rfl rfl uT35 tZ3 tC3 rfl dC0 oM0 oM0 rfl rfl rfl rfl) <| wR 2 [6] kR0 h30 ?_
   refine rV rfl rfl (by exact z9m rfl rfl tZ101 tP101 rfl (z8s (by (simp [y61,firm1,look,PV.one];exact ⟨_,_,⟨rfl,rfl⟩,by simp⟩)))) <| nR <| wO 7 kR0 <| wI rfl rfl nf (zi4 rfl) (fun _ _=>z5e (k:=3) rfl rfl rfl rfl rfl rfl rfl) <| wR 0 [8] kR0 h30 <| smR 1 rfl <| nR <| wDn kR0 <| tQ <| tQ <| tG <| sm 3 rfl ?_
   refine nL <| tBk <| Tr.sub (Sub.of (fr':=[(31,iInt 0),(30,iInt f.params),(5,.ptr 3 0),(2,.pv (.ept [arrs u.arrays,flws u.flows] 0)),(3,.pv (.ept [vStr f.name,vInt f.ty,vInt f.params,ints f.types,z0o f.body] 0))]) ⟨rfl,rfl,rfl,rfl,rfl,trivial⟩) ?_
   refine Tr.heap (σ':=look (up (ckS u f 3 (z9f 0 f.types.length)))) (fun k=>by
  rw [show (z9f 0 f.types.length)=List.replicate f.types.length 0 by simp [z9f]]
  simp only [ckS,up,List.map_cons,List.map_nil,look,List.length_map,List.length_replicate,List.map_replicate]
  by_cases h3:3=k
  · subst h3;rfl
  · by_cases h4:4=k
    · subst h4;rfl
    · simp [z06 h3,z06 h4]) ?_
   refine Tr.loop (fun fr σ m=>∃ (k:Nat),(k<=f.params.toNat)/\fr=[(31,iInt k),(30,iInt f.params),(5,.ptr 3 0),(2,.pv (.ept [arrs u.arrays,flws u.flows] 0)),(3,.pv (.ept [vStr f.name,vInt f.ty,vInt f.params,ints f.types,z0o f.body] 0))] /\ σ = look (up (ckS u f 3 (z9f k f.types.length)))/\m=f.params.toNat - k) (n:=f.params.toNat - 0) ?_ ?_
   ·exact ⟨0,Nat.zero_le _,rfl,rfl,rfl⟩
   rintro fr σ m ⟨k,hI0,rfl,rfl,rfl⟩
   refine tQ <| tG <| sm 1 rfl <| nL <| tQ ?_
   refine tC rfl (fun hc32=>?_) fun hc32=>?_
   ·have hkp:k<f.params.toNat:=by simp at hc32;omega
    have hkt:k<f.types.length:=by omega
    have hst:((z9f k f.types.length).map eInt)[k]? = some [vInt 0]:=by
      rw [List.getElem?_map]
      simp only [z9f]
      rw [List.getElem?_append_right sI0]
      simp [List.getElem?_replicate,eInt]
      omega
    have hstl:k<((z9f k f.types.length).map eInt).length:=by rw [List.length_map,z9g oM0];exact hkt
    refine tSk <| tQ <| tBk <| tQ <| tG <| sm 2 rfl <| nL <| tG <| sm 1 rfl <| cV rfl (nCk rfl rfl rfl) <| sm 3 rfl <| cV rfl (iRw rfl rfl rfl rfl rfl uT35 tS3 (by assumption) (by rfl)) ?_
    refine c0 (z5g rfl rfl rfl rfl rfl (Nat.add_zero _).symm (by assumption) sI0 tS3 rfl ((fun h=>h))) <| nL <| tG <| cV rfl (oB rfl rfl (z04 rfl oM0)) <| sm 1 rfl <| nL ?_
    refine ⟨_,_,?_,Sub.of (fr':=[(31,iInt (k+1)),(30,iInt f.params),(5,.ptr 3 0),(2,.pv (.ept [arrs u.arrays,flws u.flows] 0)),(3,.pv (.ept [vStr f.name,vInt f.ty,vInt f.params,ints f.types,z0o f.body] 0))]) ⟨rfl,rfl,rfl,rfl,rfl,trivial⟩,(k+1),?_,rfl,(by rw [<- yi7 hkt];exact funext y9k),rfl⟩
    all_goals omega
   refine tEx <| tQ ?_
   have hkp:k=f.params.toNat:=by simp at hc32;omega
   subst hkp
   refine tG <| sm 3 rfl <| cV rfl (bPu rfl rfl tZ104 tP104 rfl (fbk rfl) rfl) <| cE rfl (cRr (yh6 u f hg f.body 1 ⟨by omega,by omega⟩ z1k (z9f f.params.toNat f.types.length) (z9g hpt) oM0) ent61 rfl rfl (sSm rfl (sSm rfl (Subs.cons (fun _ _ _ _ h=>z7l (q:=whv z1k) (PSub.agg (ps:=[vBool false,vBool false,.val (.slice none 0 0),.val (.slice none 0 0),.val (.slice none 0 0)]) (And.intro (PSub.refl _) (And.intro (PSub.refl _) (And.intro PSub.nil (And.intro PSub.nil (And.intro PSub.nil trivial)))))) h) (sSm rfl Subs.nil)))) (po2 rfl rfl) (by rfl) (fun k (h:_)=>(show False from h).elim) rfl (by rfl)) <| sm 1 rfl <| nL <| tRt <| rOk rfl ?_ nPo
   simp only [za9,hno,Bool.not_false,Bool.true_and]
set_option maxRecDepth 20000
set_option maxHeartbeats 2000000
theorem zt5 (n:Int):SC Tryz.prog 79 [.pv (.val (.int .i32 n))] [] (fun _=>False) (iBool (z6v n)) []:=by
  refine SC.anyR (SC.vc tb {} [] Tryz.func79 rfl rfl ?_)
  unfold z6v
  refine z00 (fun h1=>z00 (fun h2=>⟨sE (by rw [h1,h2];rfl),trivial⟩) fun h2=>?_) fun h1=>?_
  · refine z00 (fun h3=>z00 (fun h4=>⟨sE (by rw [h1,h2,h3,h4];rfl),trivial⟩) fun h4=>⟨sE (by rw [h1,h2,h3,h4];rfl),trivial⟩) fun h3=>⟨sE (by rw [h1,h2,h3];rfl),trivial⟩
  · refine z00 (fun h3=>z00 (fun h4=>⟨sE (by rw [h1,h3,h4];rfl),trivial⟩) fun h4=>⟨sE (by rw [h1,h3,h4];rfl),trivial⟩) fun h3=>⟨sE (by rw [h1,h3];rfl),trivial⟩
theorem y8h (n:Int):SC Tryz.prog 99 [.pv (.val (.int .i32 n))] [] (fun _=>False) (iBool (zb7 n)) []:=by
  refine SC.anyR (SC.vc tb {} [] Tryz.func99 rfl rfl ?_)
  unfold zb7
  exact z00 (fun h1=>⟨sE (by rw [h1];rfl),trivial⟩) fun h1=>⟨sE (by rw [h1];rfl),trivial⟩
theorem yi4 (s:ByteArray):SC Tryz.prog 81 [iStr s] [] (fun _=>False) (iBool (z1d s)) []:=by
  refine SC.anyR (SC.vc tb {} [] Tryz.func81 rfl rfl ?_)
  have N:∀ {b:Bool} {P:Prop},b=true->b=false->P:=fun h g=>by rw [h] at g;cases g
  have T:∀ {b:Bool},b=true->SubI (iBool true) (iBool b):=fun h=>sE (by rw [h])
  exact z00 (fun h=>z00 (fun _=>⟨T (by unfold z1d;rw [h];simp only [Bool.or_true,Bool.true_or]),trivial⟩) fun g=>N h g) fun h1=>z00 (fun h=>z00 (fun _=>⟨T (by unfold z1d;rw [h];simp only [Bool.or_true,Bool.true_or]),trivial⟩) fun g=>N h g) fun h2=>z00 (fun h=>z00 (fun _=>⟨T (by unfold z1d;rw [h];simp only [Bool.or_true,Bool.true_or]),trivial⟩) fun g=>N h g) fun h3=>z00 (fun h=>z00 (fun _=>⟨T (by unfold z1d;rw [h];simp only [Bool.or_true,Bool.true_or]),trivial⟩) fun g=>N h g) fun h4=>z00 (fun h=>z00 (fun _=>⟨T (by unfold z1d;rw [h];simp only [Bool.or_true,Bool.true_or]),trivial⟩) fun g=>N h g) fun h5=>z00 (fun h=>z00 (fun _=>⟨T (by unfold z1d;rw [h];simp only [Bool.or_true,Bool.true_or]),trivial⟩) fun g=>N h g) fun h6=>z00 (fun h=>z00 (fun _=>⟨T (by unfold z1d;rw [h];simp only [Bool.or_true,Bool.true_or]),trivial⟩) fun g=>N h g) fun h7=>z00 (fun h=>z00 (fun _=>⟨T (by unfold z1d;rw [h];simp only [Bool.or_true,Bool.true_or]),trivial⟩) fun g=>N h g) fun h8=>z00 (fun h=>z00 (fun _=>⟨T (by unfold z1d;rw [h];simp only [Bool.or_true,Bool.true_or]),trivial⟩) fun g=>N h g) fun h9=>z00 (fun h=>z00 (fun _=>⟨T (by unfold z1d;rw [h];simp only [Bool.or_true,Bool.true_or]),trivial⟩) fun g=>N h g) fun h10=>z00 (fun h=>z00 (fun _=>⟨T (by unfold z1d;rw [h];simp only [Bool.or_true,Bool.true_or]),trivial⟩) fun g=>N h g) fun h11=>z00 (fun h=>z00 (fun _=>⟨T (by unfold z1d;rw [h];simp only [Bool.or_true,Bool.true_or]),trivial⟩) fun g=>N h g) fun h12=>z00 (fun h=>z00 (fun _=>⟨T (by unfold z1d;rw [h];simp only [Bool.or_true,Bool.true_or]),trivial⟩) fun g=>N h g) fun h13=>z00 (fun h=>z00 (fun _=>⟨T (by unfold z1d;rw [h];simp only [Bool.or_true,Bool.true_or]),trivial⟩) fun g=>N h g) fun h14=>z00 (fun h=>z00 (fun _=>⟨T (by unfold z1d;rw [h];simp only [Bool.or_true,Bool.true_or]),trivial⟩) fun g=>N h g) fun h15=>z00 (fun h=>z00 (fun _=>⟨T (by unfold z1d;rw [h];simp only [Bool.or_true,Bool.true_or]),trivial⟩) fun g=>N h g) fun h16=>z00 (fun h=>z00 (fun _=>⟨T (by unfold z1d;rw [h];simp only [Bool.or_true,Bool.true_or]),trivial⟩) fun g=>N h g) fun h17=>z00 (fun h=>⟨T (by unfold z1d;rw [h];simp only [Bool.or_true,Bool.true_or]),trivial⟩) fun h18=>⟨sE (by unfold z1d;rw [h1,h2,h3,h4,h5,h6,h7,h8,h9,h10,h11,h12,h13,h14,h15,h16,h17,h18];rfl),trivial⟩
theorem sc_tkRun (s:ByteArray):SC Tryz.prog 80 [iStr s] [] (fun _=>False) (iStr (y80 s)) []:=by
  refine SC.of Tryz.func80 rfl (lb rfl) fun F ρ w=>?_
  refine tQ <| tG <| sm 1 rfl <| nL <| tQ ?_
  refine Tr.strRange rfl rfl rfl rfl rfl rfl rfl rfl Tryz.underlying9 rfl rfl rfl rfl rfl rfl rfl rfl rfl rfl rfl (fun _ h=>h) (fun k fr=>(k<=s.toList.length/\(s.toList.take k).all isLD=true)/\fr=[(0,iStr s)]) ⟨[(0,iStr s)],Sub.of ⟨rfl,trivial⟩,⟨Nat.zero_le _,rfl⟩,rfl⟩ ?_ ?_
  ·rintro b0 k _ hk ⟨hI,rfl⟩
   refine tQ <| tG <| sm 2 rfl <| nL <| tRt <| rOk rfl ?_ nPo
   have hall:s.toList.all isLD=true:=by
     have:=hI.2
     rwa [List.take_of_length_le (by rw [za4];exact hk)] at this
   simp [y80,hall]
  rintro ρ2 w2 b0 k _ hk ⟨hI,rfl⟩
  have hlt:k<s.toList.length:=by rw [za4];exact hk
  refine tBk <| tQ <| tG <| cV rfl (z0v rfl rfl rfl) <| cV rfl (z0v rfl rfl rfl) <| sm 2 rfl <| nL <| tQ <| tG <| sm 1 rfl <| cE rfl (ocq (zt5 _) ent79 rfl rfl) <| sm 2 rfl ?_
  refine wS 14 rfl (fun hb14=>?_) fun hb14=>?_
  ·refine sm 1 rfl <| WL.yes rfl rfl rfl rfl rfl rfl (z1s (y8h _) ent99 rfl rfl (sRf _ _) rfl) <| sm 2 rfl <| nL ?_
   refine tC rfl (fun hc18=>?_) fun hc18=>?_
   ·refine tQ <| tG <| sm 2 rfl <| cV rfl (zl4 rfl rfl Tryz.underlying9 (.inl ⟨rfl,rfl⟩) (.inr ⟨_,_,rfl,rfl⟩) oM0 (Nat.le_of_lt (by assumption))) <| sm 1 rfl <| nL <| tRt <| rOk rfl ?_ nPo
    have hld:zu8 (Utf8.decode s k).1=false:=by
      simp only [zu8]
      simp_all
    rw [runOf_at hI.2 (List.getElem?_eq_getElem hlt) ((zp4 hlt).2 hld)]
   refine tSk ?_
   refine ⟨rfl,[(0,iStr s)],Sub.of ⟨rfl,rfl,trivial⟩,?_,rfl⟩
   have hld:zu8 (Utf8.decode s k).1=true:=by
     simp only [zu8]
     simp_all
   obtain ⟨hw1,hb1⟩:=(zp4 hlt).1 hld
   rw [hw1]
   exact ⟨by omega,by rw [List.take_succ_eq_append_getElem hlt,List.all_append,hI.2];simp [hb1]⟩
  refine sm 4 rfl <| nL <| Tr.condF rfl <| tSk ?_
  refine ⟨rfl,[(0,iStr s)],Sub.of ⟨rfl,rfl,trivial⟩,?_,rfl⟩
  have hld:zu8 (Utf8.decode s k).1=true:=by
    simp only [zu8]
    simp_all
  obtain ⟨hw1,hb1⟩:=(zp4 hlt).1 hld
  rw [hw1]
  exact ⟨by omega,by rw [List.take_succ_eq_append_getElem hlt,List.all_append,hI.2];simp [hb1]⟩
theorem y31 (s:ByteArray):SC Tryz.prog 56 [iStr s] [] (fun _=>False) (iBool (z3d s)) []:=by
  refine SC.of Tryz.func56 rfl (lb rfl) fun F ρ w=>?_
  refine tQ <| tG <| sm 1 rfl <| nL <| tQ <| tG <| sm 1 rfl <| cV rfl (bSt rfl rfl rfl rfl) <| sm 1 rfl ?_
  refine wS 5 rfl (fun hb5=>?_) fun hb5=>?_
  ·have hne:s.toList≠[]:=by simpa using hb5
   obtain ⟨b0,r0,hs0⟩:=List.exists_cons_of_ne_nil hne
   have hi0:s[0]? = some b0:=by rw [y5y (i:=0) (by rw [hs0];simp)];simp [hs0]
   have hw0:IntKind.i32.wrap (b0.toNat:Int)=b0.toNat:=by
     have:b0.toNat<256:=b0.toNat_lt
     simp [IntKind.wrap,IntKind.bits,IntKind.signed]
     omega
   have hre:=runOf_eq s
   refine sm 1 rfl <| yV rfl rfl (z5f rfl rfl rfl Tryz.underlying9 (by assumption) (by rfl)) <| yV rfl rfl (zb9 rfl rfl ⟨_,Tryz.underlying5⟩ Tryz.underlying21) <| WL.yes rfl rfl rfl rfl rfl rfl (z1s (zt5 _) ent79 rfl rfl (sRf _ _) rfl) <| sm 2 rfl ?_
   refine wS 11 rfl (fun hb11=>?_) fun hb11=>?_
   ·refine sm 1 rfl <| WL.yes rfl rfl rfl rfl rfl rfl (z1s (sc_tkRun s) ent80 rfl rfl (sRf _ _) rfl) <| sm 1 rfl <| yV rfl rfl (bSt rfl rfl rfl rfl) <| sm 2 rfl ?_
    refine wS 17 rfl (fun hb17=>?_) fun hb17=>?_
    ·refine sm 1 rfl <| yV rfl rfl (z9o rfl rfl Tryz.underlying9) <| sm 3 rfl ?_
     refine wS 22 rfl (fun hb22=>?_) fun hb22=>?_
     ·refine sm 1 rfl <| WL.yes rfl rfl rfl rfl rfl rfl (z1s (yi4 s) ent81 rfl rfl (sRf _ _) rfl) <| sm 3 rfl <| nL <| tRt <| rOk rfl ?_ nPo
      refine congrArg (fun b=>iBool b) ?_
      simp_all [z3d]
     refine sm 5 rfl <| nL <| tRt <| rOk rfl ?_ nPo
     refine congrArg (fun b=>iBool b) ?_
     (simp_all [z3d]<;>omega)
    refine sm 10 rfl <| nL <| tRt <| rOk rfl ?_ nPo
    refine congrArg (fun b=>iBool b) ?_
    simp_all [z3d]
   refine sm 16 rfl <| nL <| tRt <| rOk rfl ?_ nPo
   refine congrArg (fun b=>iBool b) ?_
   simp_all [z3d]
  refine sm 22 rfl <| nL <| tRt <| rOk rfl ?_ nPo
  refine congrArg (fun b=>iBool b) ?_
  simp_all [z3d]
set_option maxRecDepth 20000
set_option maxHeartbeats 2000000
theorem yh5 (u:Un) (hW:z0s u<=536870912):SC Tryz.prog 37 [.pv u.enc] [] (fun _=>False) (iBool (z73 u)) []:=by
  refine SC.anyR (SC.vc tb {} [] Tryz.func37 rfl rfl ?_)
  have hw1:u.arrays.length<=z0s u:=by unfold z0s;omega
  have hw2:u.flows.length<=z0s u:=by unfold z0s;omega
  refine ⟨Nat × List (Value × PV),fun (k,_)=>[(13,iInt k)],fun (_,es)=>[(109,.map es)],fun (k,_)=>u.arrays.length - k,fun (k,es)=>k<=u.arrays.length/\u.arrays.all zm1=(u.arrays.drop k).all zm1/\zp2 [] u.arrays=zp2 es (u.arrays.drop k)/\Cnt es,[],(0,[]),⟨Nat.zero_le _,rfl,rfl,Cnt.nil⟩,⟨rfl,trivial⟩,⟨rfl,trivial⟩,?_⟩
  rintro ⟨k,es⟩ ⟨hk,hA,hC,hes⟩
  refine z00 (fun hc=>?_) fun hc=>?_
  · have hlt:=z7s (f:=Ar.enc) rfl hc
    obtain ⟨a,ha,_,hd,_⟩:=z69 hlt
    rw [hd] at hA hC
    rw [List.all_cons] at hA
    obtain ⟨n,hn⟩:=hes.find (.string a.name)
    have bad:zm1 a=false->SubI (iBool false) (iBool (z73 u)):=fun h=>sE (by unfold z73;rw [hA,h];rfl)
    have hNm:=y31 a.name
    cases hN:z3d a.name with
    | false =>
      rw [hN] at hNm
      exact ⟨z0a (f:=Ar.enc) ha,rfl,VAsk.mk (p:=vInt n) (b:=(z4j (.string a.name) es).isSome) rfl hes.1 (Prod.ext hn rfl) ⟨rfl,rfl,hes.1,[],hNm,sR,trivial,rfl,bad (by unfold zm1;rw [hN];rfl),trivial⟩⟩
    | true =>
      rw [hN] at hNm
      refine ⟨z0a (f:=Ar.enc) ha,rfl,VAsk.mk (p:=vInt n) (b:=(z4j (.string a.name) es).isSome) rfl hes.1 (Prod.ext hn rfl) ⟨rfl,rfl,hes.1,[],hNm,sR,trivial,rfl,z00 (fun h1=>⟨bad (by unfold zm1;rw [hN,show decide (a.size<1)=true from h1];rfl),trivial⟩) fun h1=>z00 (fun h2=>⟨bad (by unfold zm1;rw [hN,show decide (a.size<1)=false from h1,show decide (a.size > 1000)=true from h2];rfl),trivial⟩) fun h2=>?_⟩⟩
      have good:zm1 a=true:=by unfold zm1;rw [hN,show decide (a.size<1)=false from h1,show decide (a.size > 1000)=false from h2];rfl
      exact ⟨z04 rfl oM0,(k+1,bump a.name es),z10 hlt,⟨hlt,by rw [hA,good];rfl,hC,hes.bump _⟩,⟨rfl,trivial⟩,⟨mpq (zz6 hn).symm,trivial⟩,rfl,rfl,rfl,rfl⟩
  · have hge:=z8k (f:=Ar.enc) rfl hc
    rw [List.drop_eq_nil_of_le hge] at hA hC
    refine ⟨Nat × List (Value × PV),fun (k,_)=>[(40,iInt k)],fun (_,es)=>[(109,.map es)],fun (k,_)=>u.flows.length - k,fun (k,es)=>k<=u.flows.length/\u.flows.all zf7=(u.flows.drop k).all zf7/\zv8 (zp2 [] u.arrays) u.flows=zv8 es (u.flows.drop k)/\Cnt es,[],(0,es),⟨Nat.zero_le _,rfl,by rw [hC];rfl,hes⟩,⟨rfl,trivial⟩,⟨rfl,trivial⟩,?_⟩
    rintro ⟨k,es⟩ ⟨hk,hF,hC,hes⟩
    refine z00 (fun hc=>?_) fun hc=>?_
    · have hlt:=z7s (f:=Fl.enc) rfl hc
      obtain ⟨f,hf,_,hd,hm⟩:=z69 hlt
      rw [hd] at hF hC
      rw [List.all_cons] at hF
      obtain ⟨n,hn⟩:=hes.find (.string f.name)
      have bad:zf7 f=false->SubI (iBool false) (iBool (z73 u)):=fun h=>sE (by unfold z73;rw [hA,hF,h];rfl)
      have hNm:=y31 f.name
      cases hN:z3d f.name with
      | false =>
        rw [hN] at hNm
        exact ⟨z0a (f:=Fl.enc) hf,rfl,VAsk.mk (p:=vInt n) (b:=(z4j (.string f.name) es).isSome) rfl hes.1 (Prod.ext hn rfl) ⟨rfl,rfl,hes.1,[],hNm,sR,trivial,rfl,bad (by unfold zf7;rw [hN];rfl),trivial⟩⟩
      | true =>
        rw [hN] at hNm
        have hT:=yg5 f.ty
        cases hty:isTy f.ty with
        | false =>
          rw [hty] at hT
          exact ⟨z0a (f:=Fl.enc) hf,rfl,VAsk.mk (p:=vInt n) (b:=(z4j (.string f.name) es).isSome) rfl hes.1 (Prod.ext hn rfl) ⟨rfl,rfl,hes.1,[],hNm,sR,trivial,rfl,[],hT,sR,trivial,rfl,bad (by unfold zf7;rw [hN,hty];rfl),trivial⟩⟩
        | true =>
          rw [hty] at hT
          refine ⟨z0a (f:=Fl.enc) hf,rfl,VAsk.mk (p:=vInt n) (b:=(z4j (.string f.name) es).isSome) rfl hes.1 (Prod.ext hn rfl) ⟨rfl,rfl,hes.1,[],hNm,sR,trivial,rfl,[],hT,sR,trivial,rfl,z00 (fun h1=>⟨bad (by unfold zf7;rw [hN,hty,show decide (f.params<0)=true from h1];rfl),trivial⟩) fun h1=>z00 (fun h2=>⟨bad (by unfold zf7;rw [hN,hty,show decide (f.params<0)=false from h1,show decide (f.params > f.types.length)=true by simpa using h2];rfl),trivial⟩) fun h2=>?_⟩⟩
          have good:zf7 f=true:=by unfold zf7;rw [hN,hty,show decide (f.params<0)=false from h1,show decide (f.params > f.types.length)=false by simpa using h2];rfl
          exact ⟨z04 rfl oM0,(k+1,bump f.name es),z10 hlt,⟨hlt,by rw [hF,good];rfl,hC,hes.bump _⟩,⟨rfl,trivial⟩,⟨mpq (zz6 hn).symm,trivial⟩,rfl,rfl,rfl,rfl⟩
    · have hge:=z8k (f:=Fl.enc) rfl hc
      rw [List.drop_eq_nil_of_le hge] at hF hC
      have hG:z73 u=((es.length:Int)==u.arrays.length+u.flows.length&&z70 u):=by unfold z73;rw [hA,hF,hC];rfl
      rw [hG]
      have N:∀ {P:Prop} {b:Bool},b=true->b=false->P:=fun h g=>by rw [h] at g;cases g
      cases hb:((es.length:Int)==u.arrays.length+u.flows.length) with
      | false=>exact ⟨[],z9t u z0d,sR,trivial,rfl,z04 rfl (by simp;omega),z00 (fun h=>N (show ((es.length:Int)==u.arrays.length+u.flows.length)=true by simpa using h) hb) fun _=>⟨sI,trivial⟩⟩
      | true =>
        cases hp:decide (z05 z0d u.flows 0 ≥ 0) with
        | false=>exact ⟨[],z9t u z0d,sR,trivial,rfl,z04 rfl (by simp;omega),z00 (fun _=>z00 (fun h=>N h hp) fun _=>⟨sE (by unfold z70;rw [hp];rfl),trivial⟩) fun h=>N hb (by simpa using h)⟩
        | true =>
          have h0:z05 z0d u.flows 0 ≥ 0:=by simpa using hp
          obtain ⟨g,hg,_⟩:=z9r h0
          have hD:u.flows.getD (z05 z0d u.flows 0).toNat y1u=g:=by rw [List.getD_eq_getElem?_getD,hg];rfl
          have hi:=z0a (f:=Fl.enc) hg
          refine ⟨[],z9t u z0d,sR,trivial,rfl,z04 rfl (by simp;omega),z00 (fun _=>z00 (fun _=>⟨hi,by omega,z00 (fun h1=>⟨hi,by omega,sE ?_,trivial⟩) fun h1=>⟨sE ?_,trivial⟩⟩) fun h=>N hp h) fun h=>N hb (by simpa using h)⟩
          · unfold z70;rw [hp,hD,show (g.ty==1)=true from h1];rfl
          · unfold z70;rw [hp,hD,show (g.ty==1)=false from h1];rfl
theorem y8f (u:Un) (hW:z0s u<=536870912):SC Tryz.prog 22 [.pv u.enc] [] (fun _=>False) (.tup [iInt (z4c u).1,iInt (z4c u).2]) []:=by
  refine SC.of Tryz.func22 rfl (lb rfl) fun F ρ w=>?_
  refine tQ <| tG <| cE rfl (z2m rfl rfl) <| sm 2 rfl <| nL <| tQ <| tQ <| tG <| cV rfl (lEA rfl rfl uT25 rfl tS25 (lb rfl)) <| cE rfl (ocq (yh5 u hW) ent37 rfl rfl) <| sm 1 rfl <| nL ?_
  refine tC rfl (fun hc8=>?_) fun hc8=>?_
  ·refine tQ <| tG <| sm 2 rfl <| nL <| tRt <| rOk rfl ?_ nPo
   have hg:z73 u=false:=by simpa using hc8
   simp [z4c,hg]
  have hg:z73 u=true:=by simpa using hc8
  refine tSk <| tQ <| tQ <| tG <| sm 2 rfl ?_
  refine WL.lenOf (t:=10) rfl (fun hl1=>?_)
  simp only [List.length_map] at hl1
  refine cV rfl (oSm uT23 rfl) <| sm 1 rfl <| nL <| tBk <| Tr.sub (Sub.of (fr':=[(12,iInt 0),(11,iInt u.flows.length),(10,.pv (flws u.flows)),(1,.pv (.ept [arrs u.arrays,flws u.flows] 0))]) ⟨rfl,rfl,rfl,rfl,trivial⟩) ?_
  refine Tr.loop (fun fr σ m=>∃ (k:Nat),(k<=u.flows.length)/\(z88 u u.flows 0=z88 u (u.flows.drop k) k)/\fr=[(12,iInt k),(11,iInt u.flows.length),(10,.pv (flws u.flows)),(1,.pv (.ept [arrs u.arrays,flws u.flows] 0))] /\ σ = look []/\m=u.flows.length - k) (n:=u.flows.length - 0) ?_ ?_
  ·exact ⟨0,Nat.zero_le _,rfl,rfl,rfl,rfl⟩
  rintro fr σ m ⟨k,hI0,hI1,rfl,rfl,rfl⟩
  refine tQ <| tG <| sm 1 rfl <| nL <| tQ ?_
  refine tC rfl (fun hc13=>?_) fun hc13=>?_
  ·have hlt:k<u.flows.length:=by simpa using hc13
   have hd:=List.drop_eq_getElem_cons hlt
   have hm:=List.getElem_mem hlt
   have hi:=z0a (f:=Fl.enc) (List.getElem?_eq_getElem hlt)
   generalize u.flows[k]=x at hd hm hi
   refine tSk <| tQ <| tBk <| tQ <| tG <| sm 1 rfl <| cV rfl (iSq rfl rfl rfl uT23 hi tS51 rfl (by rfl)) <| cV rfl (lEA rfl rfl Tryz.underlying51 rfl tS51 (lb rfl)) <| cE rfl (aLc (k:=105) rfl tZ51 rfl rfl rfl rfl) <| sm 1 rfl <| c0 (sBA rfl rfl rfl rfl rfl ((fun h=>h)) tS51 (flk rfl) (lb rfl)) <| nL ?_
   refine tQ <| Tr.freezeBox (t:=5) (k:=105) rfl rfl rfl <| Tr.heap (σ':=look []) (fun k=>by simp only [look];cases Nat.beq 105 k<;>rfl) <| tG <| cV rfl (lEA rfl rfl uT25 rfl tS25 (lb rfl)) <| cV rfl (lEA rfl rfl Tryz.underlying51 rfl tS51 (lb rfl)) <| cE rfl (ocq (yh3 u x (zf8 hg) (zf8 hg x hm) (zh6 hW hm)) ent38 rfl rfl) <| sm 1 rfl <| nL ?_
   refine tC rfl (fun hc20=>?_) fun hc20=>?_
   ·refine tQ <| tG <| sm 3 rfl <| nL <| tRt <| rOk rfl ?_ nPo
    have hx:za9 u x=false:=by simpa using hc20
    simp only [z4c,hg,if_true,hI1,hd,z88,hx,Bool.false_eq_true,if_false]
   refine tSk <| tG <| cV rfl (oB rfl rfl (z04 rfl oM0)) <| sm 1 rfl <| nL ?_
   refine ⟨_,_,?_,Sub.of (fr':=[(12,iInt (k+1)),(11,iInt u.flows.length),(10,.pv (flws u.flows)),(1,.pv (.ept [arrs u.arrays,flws u.flows] 0))]) ⟨rfl,rfl,rfl,rfl,trivial⟩,(k+1),?_,?_,rfl,rfl,rfl⟩
   ·omega
   ·omega
   rw [hI1,hd]
   have hx:za9 u x=true:=by simpa using hc20
   simp only [z88,hx,if_true]
   rfl
  refine tEx <| tQ <| tG <| sm 2 rfl <| nL <| tRt <| rOk rfl ?_ nPo
  have hge:u.flows.length<=k:=by simpa using hc13
  simp only [z4c,hg,if_true,hI1,List.drop_eq_nil_of_le hge,z88]
set_option maxRecDepth 100000 in
set_option maxHeartbeats 4000000 in
theorem y1j (b:Nat) (r:Array MapEntry) (ck:Nat) (w:World) (hb:w.heap[b]? = some (.map r ck)) :
    Calls Tryz.prog 63 #[.map (some b)] w fun e w'=>e = .returned (.map (some w.heap.size))/\w'=w.alloc (.map r ck):=by
  have hq:=fun w=>run_eql_map_nil_sl (P:=Tryz.prog) w 60 _ _ (some b) Tryz.underlying60
  go_enter Tryz.func63,Tryz.ntmps63
  go_wp2
  rw [run_callFunc_extern Tryz.func88 kR0 kR0 kR0 (e:=Extern.MapsClone.clone) kR0,run_maps_clone_sl w 60 hb]
  simp only [Result.andThen]
  rw [Oper.upon_value]
  go_wp2
  rw [run_typeAssert_map_sl _ 60 20 _ _ _ Tryz.underlying60]
  simp only [Result.andThen]
  rw [Oper.upon_value]
  go_wp2
  go_ret
  exact ⟨rfl,rfl⟩
set_option maxRecDepth 100000 in
set_option maxHeartbeats 4000000 in
theorem y1k (b:Nat) (r:Array MapEntry) (ck:Nat) (w:World) (hb:w.heap[b]? = some (.map r ck)) :
    Calls Tryz.prog 62 #[.map (some b)] w fun e w'=>e = .returned (.map (some w.heap.size))/\w'=w.alloc (.map r ck):=by
  have hq:=fun w=>run_eql_map_nil_sl (P:=Tryz.prog) w 59 _ _ (some b) Tryz.underlying59
  go_enter Tryz.func62,Tryz.ntmps62
  go_wp2
  rw [run_callFunc_extern Tryz.func88 kR0 kR0 kR0 (e:=Extern.MapsClone.clone) kR0,run_maps_clone_sl w 59 hb]
  simp only [Result.andThen]
  rw [Oper.upon_value]
  go_wp2
  rw [run_typeAssert_map_sl _ 59 20 _ _ _ Tryz.underlying59]
  simp only [Result.andThen]
  rw [Oper.upon_value]
  go_wp2
  go_ret
  exact ⟨rfl,rfl⟩
theorem key5E:∃ f0 f1 f2 f3 f4,K5 Tryz.prog 108 f0 f1 f2 f3 f4:=⟨_,_,_,_,_,⟨Tryz.underlying108,by kernel_rfl,uT3,uT3,uT3,uT3,uT3,by decide,by decide,by decide,by decide,by decide,rfl,rfl,rfl,rfl,rfl⟩⟩
mutual
def kdN:Nd->Bool
  | .mk kind _ _ _ _ _ _ ks=>decide (1<=kind)&&kdK ks
def kdL:List Nd->Bool
  | []=>true
  | x::r=>kdN x&&kdL r
def kdK:List (List Nd)->Bool
  | []=>true
  | l::r=>kdL l&&kdK r
end
theorem kdN_eq (x:Nd):kdN x=(decide (1<=x.kind)&&kdK x.kids):=by cases x;simp only [kdN];rfl
theorem y83 {u:Un} {f:Fl} {x:Nd} {s:List Int} {w:Wh} {tys outs:List Int} (h:(z3f u f x s w).ok tys outs=true):1<=x.kind:=by
  rcases Int.lt_or_le x.kind 1 with hk | hk
  ·exfalso
   have e:∀ n:Int,1<=n->(x.kind==n)=false:=fun n hn=>by simp only [beq_eq_false_iff_ne];omega
   unfold z3f at h
   simp only [e 1 oM0,e 2 oM0,e 3 oM0,e 4 oM0,e 5 oM0,e 6 oM0,e 7 oM0,e 8 oM0,e 9 oM0,e 12 oM0,e 13 oM0,e 14 oM0,e 15 oM0,Bool.false_eq_true,if_false] at h
   simp [SForm.ok] at h
  exact hk
mutual
theorem yc2 (u:Un) (f:Fl):∀ (x:Nd) (deep:Int) (w:Wh) (s:List Int),z4g u f deep w s x=true->kdN x=true
  | .mk kind op n name args outs params ks,deep,w,s,h=>by
    have hb:=z29 u f deep w s h
    simp only [kdN,Bool.and_eq_true,decide_eq_true_eq]
    by_cases h10:kind=10
    ·refine ⟨by omega,?_⟩
     obtain ⟨a,b,hk⟩:=z2x hb h10
     rw [z4x u f deep w s hb h10 hk] at h
     simp only [Bool.and_eq_true,z36] at h
     simp only [Nd.kids] at hk
     match ks,hk with
     | [a',b'],hk =>
       cases hk
       simp only [kdK,Bool.and_eq_true,Bool.and_true]
       exact ⟨z8w u f a _ _ _ h.1.1.1.2.2,z8w u f b _ _ _ h.1.1.2.2⟩
    by_cases h11:kind=11
    ·refine ⟨by omega,?_⟩
     obtain ⟨a,hk⟩:=z1u hb h11
     rw [z37 u f deep w s hb h11 hk] at h
     simp only [Bool.and_eq_true,z36] at h
     simp only [Nd.kids] at hk
     match ks,hk with
     | [a'],hk =>
       cases hk
       simp only [kdK,Bool.and_true]
       exact z8w u f a _ _ _ h.1.1.2.2
    have e10:(kind==10)=false:=by simpa using h10
    have e11:(kind==11)=false:=by simpa using h11
    have hk0:=z50 hb e10 e11
    simp only [Nd.kids] at hk0
    rw [z17 u f deep w s hb e10 e11] at h
    exact ⟨y83 h,by rw [hk0];rfl⟩
theorem z8w (u:Un) (f:Fl):∀ (l:List Nd) (deep:Int) (w:Wh) (s:List Int),vGo u f deep w s l=true->kdL l=true
  | [],_,_,_,_=>rfl
  | x::r,deep,w,s,h=>by
    simp only [vGo,Bool.and_eq_true] at h
    simp only [kdL,Bool.and_eq_true]
    exact ⟨yc2 u f x _ _ _ h.1.1.2,z8w u f r _ _ _ h.2⟩
end
theorem kd_valid {u:Un} (h:(z4c u).1=0):∀ f∈u.flows,kdL f.body=true:=by
  rw [z7k] at h
  intro f hf
  have hF:=((z4o u).1 h).2 f hf
  unfold z2w at hF
  simp only [Bool.and_eq_true] at hF
  obtain ⟨h1,h2⟩:=hF
  have hp:f.params.toNat<=f.types.length:=by
    have a1:=h1.1.1.1.1
    have a2:=h1.1.1.2
    simp only [Bool.not_eq_true',decide_eq_false_iff_not] at a1 a2
    omega
  have hn:(z2z f.params.toNat f.types.length).length=f.types.length:=z2j hp
  rw [z7i u f f.body 1 z1k _ _ hn] at h2
  have hv:=h2.1
  simp only [z36,Bool.and_eq_true] at hv
  exact z8w u f f.body _ _ _ hv.2
end Go.Proofs.YthbcibeddfacbaaGreat
