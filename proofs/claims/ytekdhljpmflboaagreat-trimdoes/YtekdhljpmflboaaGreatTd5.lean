/- PART 5 of 7 of a proof: see the last part. -/
import Derived.Test.YtekdhljpmflboaaGreatTd4
set_option maxRecDepth 8000
set_option maxHeartbeats 2000000
set_option linter.unusedSimpArgs false
set_option linter.unusedVariables false
set_option linter.unusedSectionVars false
namespace Go.Proofs.YtekdhljpmflboaaGreat
open Go
set_option maxRecDepth 20000
set_option maxHeartbeats 2000000
theorem zw2:∀ {l:List Nd},l.length<=lsW l/\∀ x∈l,ndW x<=lsW l
  | []=>⟨Nat.zero_le _,fun x h=>by cases h⟩
  | y::r=>by
    obtain ⟨h1,h2⟩:=@zw2 r
    have h3:=z9t y
    refine ⟨by simp only [lsW,List.length_cons];omega,fun x hx=>?_⟩
    rcases List.mem_cons.1 hx with rfl | hx
    · simp only [lsW];omega
    · have:=h2 x hx;simp only [lsW];omega
theorem zl8 (s:Rs):(z85 s).2.ar=s.ar:=by
  unfold z85
  split
  · rfl
  · split<;>rfl
theorem sr_list0 (u:Un) (D:Nat) (ihC:SRC u D) (ihL:SRL u D) (hA:∀ d k a s r,z3r u d k a s=some r->r.2.ar.length=s.ar.length) (hAL:∀ d l v s r,z1s u d l v s=some r->r.2.2.ar.length=s.ar.length) (hALo:∀ d x v a s r,z36 u d x v a s=some r->r.2.2.ar.length=s.ar.length) (hAS:∀ d x a s r,mSum u d x a s=some r->r.2.ar.length=s.ar.length) (d:Nat) (hd:d<=D) (l:List Nd) (v:List Int) (s:Rs) (r:Rres) (h:z1s u d l v { s with ar:=[] }=some r) (hb:lsW l<=1073741824):SC Tryz.prog 49 [.ptr 1001 0,.pv (z0m l),.sl 510 (v.map eInt).length] (rHV u { s with ar:=[] } v) (fun _=>False) (.pv (endv r.1)) (rHV u r.2.2 r.2.1):=by
  refine SC.sameR (SC.vc tb {} [] Tryz.func49 rfl rfl ?_) (fun k _ h=>h.elim)
  have hll:=(@zw2 l).1
  refine ⟨Nat × Nat × List Int × Rs,fun (e,k,w,z)=>[(7,iInt k)],fun (e,k,w,z)=>[(1001,rBox u { z with ar:=[] }),(1002,rowI z.out),(510,rowI w)],fun (e,k,w,z)=>l.length - k,fun (e,k,w,z)=>e<=D/\k<=l.length/\w.length=v.length/\z1s u e (l.drop k) w { z with ar:=[] }=some r,[],(d,0,v,s),⟨hd,Nat.zero_le _,rfl,h⟩,⟨rfl,trivial⟩,⟨rfl,rfl,rfl,trivial⟩,?_⟩
  rintro ⟨e,k,w,z⟩ ⟨he,hk,hw,hm⟩
  refine z00 (fun hc=>?_) fun hc=>?_
  · have hlt:=z41 (f:=Nd.enc) rfl hc
    obtain ⟨x,hx,_,hdr,hmem⟩:=z2s hlt
    rw [hdr] at hm
    have hxw:=(@zw2 l).2 x hmem
    have hxe:=z9t x
    obtain ⟨e,rfl,hm2⟩:=z71 rfl hm
    clear hm
    have hSt:=yi9 u { z with ar:=[] }
    have har:=zl8 { z with ar:=[] }
    generalize z85 { z with ar:=[] }=p at hm2 hSt har
    obtain ⟨b,ins,ar,st,code,out,cost,fuel,spent⟩:=p
    obtain rfl:ar=[]:=har
    rcases hm2 with ⟨hb0,rfl⟩ | ⟨hb0,a,r1,ha,hn,hm⟩
    · obtain rfl:b=false:=hb0
      exact ⟨z08 hx,rfl,[],hSt,sR,⟨rfl,rfl,trivial⟩,rfl,sP z5b,rfl,rfl,rfl,trivial⟩
    · obtain rfl:b=true:=hb0
      have hOf:=sr_of w x.args a ha oM0
      have hO:=z4h u ⟨ins,[],st,code,out,cost,fuel,spent⟩
      obtain ⟨kind,op,n,name,args,outs,params,kids⟩:=x
      rcases (show kind=1∨kind=2∨kind=12∨kind=13∨kind=14∨kind=15∨kind=10∨kind=11∨(kind≠1/\kind≠2/\kind≠12/\kind≠13/\kind≠14/\kind≠15/\kind≠10/\kind≠11) by omega) with rfl | rfl | rfl | rfl | rfl | rfl | rfl | rfl | hkk
      · obtain ⟨o,w2,ho,hv2,rfl⟩:=z72 hn rfl
        obtain ⟨ho0,hol,rfl⟩:=zb9 hv2
        dsimp only at hm
        generalize z0z ⟨ins,[],st,code,out,cost,fuel,spent⟩=ov at hm hO
        cases ov with
        | true =>
          cases hm
          exact ⟨z08 hx,rfl,[],hSt,sR,⟨rfl,rfl,trivial⟩,rfl,[],hOf,SubA.cons (slE (by simp [hw])) sR,⟨rfl,trivial⟩,rfl,z06 (f:=eInt) ho,rfl,by simp [hw],by rw [hw] at hol;simpa using hol,by omega,o.toNat,0,_,by simp [hw],(Nat.add_zero _).symm,z06 (f:=eInt) (List.getElem?_eq_getElem hol),Nat.zero_lt_one,[],hO,sR,⟨rfl,rfl,trivial⟩,rfl,sP z5b,rfl,rfl,rwq (by simp [eInt,List.map_set,Nd.n]),trivial⟩
        | false =>
          exact ⟨z08 hx,rfl,[],hSt,sR,⟨rfl,rfl,trivial⟩,rfl,[],hOf,SubA.cons (slE (by simp [hw])) sR,⟨rfl,trivial⟩,rfl,z06 (f:=eInt) ho,rfl,by simp [hw],by rw [hw] at hol;simpa using hol,by omega,o.toNat,0,_,by simp [hw],(Nat.add_zero _).symm,z06 (f:=eInt) (List.getElem?_eq_getElem hol),Nat.zero_lt_one,[],hO,sR,⟨rfl,rfl,trivial⟩,rfl,z03 rfl oM0,(e,k+1,w.set o.toNat n,⟨ins,[],st,code,out,cost,fuel,spent⟩),z0g hlt,⟨by omega,hlt,by simp [hw],hm⟩,⟨rfl,trivial⟩,⟨rfl,rfl,rwq (by simp [eInt,List.map_set,Nd.n]),trivial⟩,rfl,rfl,rfl,rfl⟩
      · obtain ⟨o,w2,ho,hv2,rfl⟩:=z72 hn rfl
        obtain ⟨ho0,hol,rfl⟩:=zb9 hv2
        dsimp only at hm
        generalize z0z ⟨ins,[],st,code,out,cost,fuel,spent⟩=ov at hm hO
        cases ov with
        | true =>
          cases hm
          exact ⟨z08 hx,rfl,[],hSt,sR,⟨rfl,rfl,trivial⟩,rfl,[],hOf,SubA.cons (slE (by simp [hw])) sR,⟨rfl,trivial⟩,rfl,z06 (f:=eInt) ho,rfl,by simp [hw],by rw [hw] at hol;simpa using hol,by omega,o.toNat,0,_,by simp [hw],(Nat.add_zero _).symm,z06 (f:=eInt) (List.getElem?_eq_getElem hol),Nat.zero_lt_one,[],hO,sR,⟨rfl,rfl,trivial⟩,rfl,sP z5b,rfl,rfl,rwq (by simp [eInt,List.map_set,Nd.n]),trivial⟩
        | false =>
          exact ⟨z08 hx,rfl,[],hSt,sR,⟨rfl,rfl,trivial⟩,rfl,[],hOf,SubA.cons (slE (by simp [hw])) sR,⟨rfl,trivial⟩,rfl,z06 (f:=eInt) ho,rfl,by simp [hw],by rw [hw] at hol;simpa using hol,by omega,o.toNat,0,_,by simp [hw],(Nat.add_zero _).symm,z06 (f:=eInt) (List.getElem?_eq_getElem hol),Nat.zero_lt_one,[],hO,sR,⟨rfl,rfl,trivial⟩,rfl,z03 rfl oM0,(e,k+1,w.set o.toNat n,⟨ins,[],st,code,out,cost,fuel,spent⟩),z0g hlt,⟨by omega,hlt,by simp [hw],hm⟩,⟨rfl,trivial⟩,⟨rfl,rfl,rwq (by simp [eInt,List.map_set,Nd.n]),trivial⟩,rfl,rfl,rfl,rfl⟩
      · obtain rfl:=z4u hn rfl
        have hm3:=(if_pos (by simp [Nd.kind])).symm.trans hm
        cases hm3
        exact ⟨z08 hx,rfl,[],hSt,sR,⟨rfl,rfl,trivial⟩,rfl,[],hOf,SubA.cons (slE (by simp [hw])) sR,⟨rfl,trivial⟩,rfl,sI,rfl,rfl,rfl,trivial⟩
      · obtain rfl:=z4u hn rfl
        have hm3:=(if_pos (by simp [Nd.kind])).symm.trans hm
        cases hm3
        exact ⟨z08 hx,rfl,[],hSt,sR,⟨rfl,rfl,trivial⟩,rfl,[],hOf,SubA.cons (slE (by simp [hw])) sR,⟨rfl,trivial⟩,rfl,sI,rfl,rfl,rfl,trivial⟩
      · obtain rfl:=z4u hn rfl
        have hm3:=(if_pos (by simp [Nd.kind])).symm.trans hm
        cases hm3
        exact ⟨z08 hx,rfl,[],hSt,sR,⟨rfl,rfl,trivial⟩,rfl,[],hOf,SubA.cons (slE (by simp [hw])) sR,⟨rfl,trivial⟩,rfl,sI,rfl,rfl,rfl,trivial⟩
      · obtain rfl:=z4u hn rfl
        have hm3:=(if_pos (by simp [Nd.kind])).symm.trans hm
        cases hm3
        exact ⟨z08 hx,rfl,[],hSt,sR,⟨rfl,rfl,trivial⟩,rfl,[],hOf,SubA.cons (slE (by simp [hw])) sR,⟨rfl,trivial⟩,rfl,sI,rfl,rfl,rfl,trivial⟩
      · obtain ⟨a0,q0,r2,h1,h2,h3,h4⟩:=zd8 hn rfl
        have hi:=z06 (f:=eInt) h1
        have hkw:lsW q0<=1073741824:=by have:=za6 (List.mem_of_getElem? h2);dsimp only [Nd.kids] at this hxe;omega
        have hL:=ihL e oM0 _ _ _ _ h3 hkw sI0
        have hl2:r2.2.1.length=w.length:=z70 h3
        have hal:=hAL _ _ _ _ _ h3
        obtain ⟨⟨ek,el⟩,v3,ins',ar',st',code',out',cost',fuel',spent'⟩:=r2
        obtain rfl:ar'=[]:=List.eq_nil_of_length_eq_zero hal
        have hO2:=z4h u ⟨ins',[],st',code',out',cost',fuel',spent'⟩
        clear hO
        dsimp only at h4 hl2 hO2 hm
        generalize hov:z0z ⟨ins',[],st',code',out',cost',fuel',spent'⟩=ov at h4 hO2
        refine ⟨z08 hx,rfl,[],hSt,sR,⟨rfl,rfl,trivial⟩,rfl,[],hOf,SubA.cons (slE (by simp [hw])) sR,⟨rfl,trivial⟩,rfl,hi,rfl,z00 (fun hc0=>?_) fun hc0=>?_⟩
        · rw [show (a0 != 0)=true from hc0] at h2
          have hkl:=z06 (f:=eKid) h2
          cases ov with
          | true =>
            cases h4
            rw [hov] at hm
            cases hm
            exact ⟨hkl,rfl,[],hL,SubA.same (SubA.same (SubA.cons (slE (by simp [hw])) SubA.nil)),⟨rfl,rfl,rfl,trivial⟩,rfl,[],hO2,sR,⟨rfl,rfl,trivial⟩,rfl,[],hO2,sR,⟨rfl,rfl,trivial⟩,rfl,sI,rfl,rfl,rfl,trivial⟩
          | false =>
            refine ⟨hkl,rfl,[],hL,SubA.same (SubA.same (SubA.cons (slE (by simp [hw])) SubA.nil)),⟨rfl,rfl,rfl,trivial⟩,rfl,[],hO2,sR,⟨rfl,rfl,trivial⟩,rfl,z00 (fun h5=>?_) fun h5=>?_⟩
            · rw [show (ek==12)=true from h5] at h4
              obtain ⟨v4,h7,rfl⟩:=Option.map_eq_some_iff.1 h4
              dsimp only at hm
              rw [hov] at hm
              exact ⟨[],zk5 _ _ _ _ h7,SubA.cons (slE (by simp [hl2,hw])) sR,⟨rfl,trivial⟩,rfl,[],hO2,sR,⟨rfl,rfl,trivial⟩,rfl,z03 rfl oM0,(e,k+1,v4,⟨ins',[],st',code',out',cost',fuel',spent'⟩),z0g hlt,⟨by omega,hlt,by rw [z4e h7,hl2,hw],hm⟩,⟨rfl,trivial⟩,⟨rfl,rfl,rfl,trivial⟩,rfl,rfl,rfl,rfl⟩
            · rw [show (ek==12)=false from h5] at h4
              cases h4
              dsimp only at hm
              rw [hov] at hm
              refine ⟨[],hO2,sR,⟨rfl,rfl,trivial⟩,rfl,z00 (fun h6=>?_) fun h6=>?_⟩
              · rw [show (ek != 0)=true from h6] at hm
                cases hm
                exact ⟨sI,rfl,rfl,rfl,trivial⟩
              · rw [show (ek != 0)=false from h6] at hm
                exact ⟨z03 rfl oM0,(e,k+1,v3,⟨ins',[],st',code',out',cost',fuel',spent'⟩),z0g hlt,⟨by omega,hlt,by rw [hl2,hw],hm⟩,⟨rfl,trivial⟩,⟨rfl,rfl,rfl,trivial⟩,rfl,rfl,rfl,rfl⟩
        · rw [show (a0 != 0)=false from hc0] at h2
          have hkl:=z06 (f:=eKid) h2
          cases ov with
          | true =>
            cases h4
            rw [hov] at hm
            cases hm
            exact ⟨hkl,rfl,[],hL,SubA.same (SubA.same (SubA.cons (slE (by simp [hw])) SubA.nil)),⟨rfl,rfl,rfl,trivial⟩,rfl,[],hO2,sR,⟨rfl,rfl,trivial⟩,rfl,[],hO2,sR,⟨rfl,rfl,trivial⟩,rfl,sI,rfl,rfl,rfl,trivial⟩
          | false =>
            refine ⟨hkl,rfl,[],hL,SubA.same (SubA.same (SubA.cons (slE (by simp [hw])) SubA.nil)),⟨rfl,rfl,rfl,trivial⟩,rfl,[],hO2,sR,⟨rfl,rfl,trivial⟩,rfl,z00 (fun h5=>?_) fun h5=>?_⟩
            · rw [show (ek==12)=true from h5] at h4
              obtain ⟨v4,h7,rfl⟩:=Option.map_eq_some_iff.1 h4
              dsimp only at hm
              rw [hov] at hm
              exact ⟨[],zk5 _ _ _ _ h7,SubA.cons (slE (by simp [hl2,hw])) sR,⟨rfl,trivial⟩,rfl,[],hO2,sR,⟨rfl,rfl,trivial⟩,rfl,z03 rfl oM0,(e,k+1,v4,⟨ins',[],st',code',out',cost',fuel',spent'⟩),z0g hlt,⟨by omega,hlt,by rw [z4e h7,hl2,hw],hm⟩,⟨rfl,trivial⟩,⟨rfl,rfl,rfl,trivial⟩,rfl,rfl,rfl,rfl⟩
            · rw [show (ek==12)=false from h5] at h4
              cases h4
              dsimp only at hm
              rw [hov] at hm
              refine ⟨[],hO2,sR,⟨rfl,rfl,trivial⟩,rfl,z00 (fun h6=>?_) fun h6=>?_⟩
              · rw [show (ek != 0)=true from h6] at hm
                cases hm
                exact ⟨sI,rfl,rfl,rfl,trivial⟩
              · rw [show (ek != 0)=false from h6] at hm
                exact ⟨z03 rfl oM0,(e,k+1,v3,⟨ins',[],st',code',out',cost',fuel',spent'⟩),z0g hlt,⟨by omega,hlt,by rw [hl2,hw],hm⟩,⟨rfl,trivial⟩,⟨rfl,rfl,rfl,trivial⟩,rfl,rfl,rfl,rfl⟩
      · have h3:=z5y hn rfl
        have hL:=sr_loop0 u D ihL hAL e oM0 _ oM0 _ _ ⟨ins,[],st,code,out,cost,fuel,spent⟩ _ h3
        have hl2:r1.2.1.length=w.length:=(zh4 u e).2 _ _ _ _ _ h3
        have hal:=hALo _ _ _ _ _ _ h3
        obtain ⟨⟨ek,el⟩,v3,ins',ar',st',code',out',cost',fuel',spent'⟩:=r1
        obtain rfl:ar'=[]:=List.eq_nil_of_length_eq_zero hal
        have hO2:=z4h u ⟨ins',[],st',code',out',cost',fuel',spent'⟩
        clear hO
        dsimp only at hl2 hO2 hm
        generalize hov:z0z ⟨ins',[],st',code',out',cost',fuel',spent'⟩=ov at hm hO2
        cases ov with
        | true =>
          cases hm
          exact ⟨z08 hx,rfl,[],hSt,sR,⟨rfl,rfl,trivial⟩,rfl,[],hOf,SubA.cons (slE (by simp [hw])) sR,⟨rfl,trivial⟩,rfl,[],hL,SubA.same (SubA.same (SubA.cons (slE (by simp [hw])) sR)),⟨rfl,rfl,rfl,trivial⟩,rfl,[],hO2,sR,⟨rfl,rfl,trivial⟩,rfl,sI,rfl,rfl,rfl,trivial⟩
        | false =>
          refine ⟨z08 hx,rfl,[],hSt,sR,⟨rfl,rfl,trivial⟩,rfl,[],hOf,SubA.cons (slE (by simp [hw])) sR,⟨rfl,trivial⟩,rfl,[],hL,SubA.same (SubA.same (SubA.cons (slE (by simp [hw])) sR)),⟨rfl,rfl,rfl,trivial⟩,rfl,[],hO2,sR,⟨rfl,rfl,trivial⟩,rfl,z00 (fun h6=>?_) fun h6=>?_⟩
          · rw [show (ek != 0)=true from h6] at hm
            cases hm
            exact ⟨sI,rfl,rfl,rfl,trivial⟩
          · rw [show (ek != 0)=false from h6] at hm
            exact ⟨z03 rfl oM0,(e,k+1,v3,⟨ins',[],st',code',out',cost',fuel',spent'⟩),z0g hlt,⟨by omega,hlt,by rw [hl2,hw],hm⟩,⟨rfl,trivial⟩,⟨rfl,rfl,rfl,trivial⟩,rfl,rfl,rfl,rfl⟩
      · obtain ⟨k1,k2,k12,k13,k14,k15,k10,k11⟩:=hkk
        have ne:∀ {i:Int},kind≠i->(kind==i)=false:=fun h=>beq_eq_false_iff_ne.2 h
        have no:∀ {i:Int},kind≠i->(kind==i)=true->False:=fun h e=>h (eq_of_beq e)
        obtain ⟨r2,h1,h2⟩:=z73 hn (by simp only [Nd.kind,ne k1,ne k2];rfl) (by simp only [Nd.kind,ne k12,ne k13,ne k14,ne k15];rfl) (ne k10) (ne k11)
        have hS:=sr_sum u D ihC hA e oM0 _ a _ _ h1 sI0
        have hal:=hAS _ _ _ _ _ h1
        obtain ⟨y,ins',ar',st',code',out',cost',fuel',spent'⟩:=r2
        obtain rfl:ar'=[]:=List.eq_nil_of_length_eq_zero hal
        have hO2:=z4h u ⟨ins',[],st',code',out',cost',fuel',spent'⟩
        clear hO
        dsimp only at h2 hO2
        generalize hov:z0z ⟨ins',[],st',code',out',cost',fuel',spent'⟩=ov at h2 hO2
        refine ⟨z08 hx,rfl,[],hSt,sR,⟨rfl,rfl,trivial⟩,rfl,[],hOf,SubA.cons (slE (by simp [hw])) sR,⟨rfl,trivial⟩,rfl,z00 (fun h=>(no k1 h).elim) fun _=>z00 (fun h=>(no k2 h).elim) fun _=>z00 (fun h=>(no k12 h).elim) fun _=>z00 (fun h=>(no k13 h).elim) fun _=>z00 (fun h=>(no k14 h).elim) fun _=>z00 (fun h=>(no k15 h).elim) fun _=>z00 (fun h=>(no k10 h).elim) fun _=>z00 (fun h=>(no k11 h).elim) fun _=>?_⟩
        cases ov with
        | true =>
          cases h2
          dsimp only at hm
          rw [hov] at hm
          cases hm
          exact ⟨[],hS,sR,⟨rfl,rfl,trivial⟩,rfl,[],hO2,sR,⟨rfl,rfl,trivial⟩,rfl,[],hO2,sR,⟨rfl,rfl,trivial⟩,rfl,sP z5b,rfl,rfl,rfl,trivial⟩
        | false =>
          cases outs with
          | nil =>
            cases h2
            dsimp only at hm
            rw [hov] at hm
            exact ⟨[],hS,sR,⟨rfl,rfl,trivial⟩,rfl,[],hO2,sR,⟨rfl,rfl,trivial⟩,rfl,[],hO2,sR,⟨rfl,rfl,trivial⟩,rfl,z03 rfl oM0,(e,k+1,w,⟨ins',[],st',code',out',cost',fuel',spent'⟩),z0g hlt,⟨by omega,hlt,hw,hm⟩,⟨rfl,trivial⟩,⟨rfl,rfl,rfl,trivial⟩,rfl,rfl,rfl,rfl⟩
          | cons o os =>
            rw [if_pos (by simp [Nd.outs])] at h2
            obtain ⟨o',ho,h3⟩:=Option.bind_eq_some_iff.1 h2
            obtain rfl:o=o':=Option.some.inj ho
            obtain ⟨w2,hv2,rfl⟩:=Option.map_eq_some_iff.1 h3
            obtain ⟨ho0,hol,rfl⟩:=zb9 hv2
            dsimp only at hm
            rw [hov] at hm
            exact ⟨[],hS,sR,⟨rfl,rfl,trivial⟩,rfl,[],hO2,sR,⟨rfl,rfl,trivial⟩,rfl,z00 (fun _=>⟨at0 (a:=eInt o),rfl,by simp [hw],by rw [hw] at hol;simpa using hol,by omega,o.toNat,0,_,by simp [hw],(Nat.add_zero _).symm,z06 (f:=eInt) (List.getElem?_eq_getElem hol),Nat.zero_lt_one,[],hO2,sR,⟨rfl,rfl,trivial⟩,rfl,z03 rfl oM0,(e,k+1,w.set o.toNat y,⟨ins',[],st',code',out',cost',fuel',spent'⟩),z0g hlt,⟨by omega,hlt,by simp [hw],hm⟩,⟨rfl,trivial⟩,⟨rfl,rfl,rwq (by simp [eInt,List.map_set]),trivial⟩,rfl,rfl,rfl,rfl⟩) fun h=>absurd h (by simp [Nd.outs])⟩
  · rw [List.drop_eq_nil_of_le (z47 (f:=Nd.enc) rfl hc)] at hm
    obtain rfl:=y24 hm
    exact ⟨sP z5b,rfl,rfl,rfl,trivial⟩
theorem sr_list1 (u:Un) (D:Nat) (ihC:SRC u D) (ihL:SRL u D) (hA:∀ d k a s r,z3r u d k a s=some r->r.2.ar.length=s.ar.length) (hAL:∀ d l v s r,z1s u d l v s=some r->r.2.2.ar.length=s.ar.length) (hALo:∀ d x v a s r,z36 u d x v a s=some r->r.2.2.ar.length=s.ar.length) (hAS:∀ d x a s r,mSum u d x a s=some r->r.2.ar.length=s.ar.length) (d:Nat) (hd:d<=D) (l:List Nd) (v:List Int) (s:Rs) (row:List Int) (r:Rres) (h:z1s u d l v { s with ar:=[row] }=some r) (hb:lsW l<=1073741824):SC Tryz.prog 49 [.ptr 1001 0,.pv (z0m l),.sl 510 (v.map eInt).length] (rHV u { s with ar:=[row] } v) (fun _=>False) (.pv (endv r.1)) (rHV u r.2.2 r.2.1):=by
  refine SC.sameR (SC.vc tb {} [] Tryz.func49 rfl rfl ?_) (fun k _ h=>h.elim)
  have hll:=(@zw2 l).1
  refine ⟨Nat × Nat × List Int × Rs × List Int,fun (e,k,w,z,q)=>[(7,iInt k)],fun (e,k,w,z,q)=>[(1001,rBox u { z with ar:=[q] }),(1002,rowI z.out),(510,rowI w),(1003,.box [.sl 1004 (q.map eInt).length]),(1004,rowI q)],fun (e,k,w,z,q)=>l.length - k,fun (e,k,w,z,q)=>e<=D/\k<=l.length/\w.length=v.length/\z1s u e (l.drop k) w { z with ar:=[q] }=some r,[],(d,0,v,s,row),⟨hd,Nat.zero_le _,rfl,h⟩,⟨rfl,trivial⟩,⟨rfl,rfl,rfl,rfl,rfl,trivial⟩,?_⟩
  rintro ⟨e,k,w,z,q⟩ ⟨he,hk,hw,hm⟩
  refine z00 (fun hc=>?_) fun hc=>?_
  · have hlt:=z41 (f:=Nd.enc) rfl hc
    obtain ⟨x,hx,_,hdr,hmem⟩:=z2s hlt
    rw [hdr] at hm
    have hxw:=(@zw2 l).2 x hmem
    have hxe:=z9t x
    obtain ⟨e,rfl,hm2⟩:=z71 rfl hm
    clear hm
    have hSt:=yi9 u { z with ar:=[q] }
    have har:=zl8 { z with ar:=[q] }
    generalize z85 { z with ar:=[q] }=p at hm2 hSt har
    obtain ⟨b,ins,ar,st,code,out,cost,fuel,spent⟩:=p
    obtain rfl:ar=[q]:=har
    rcases hm2 with ⟨hb0,rfl⟩ | ⟨hb0,a,r1,ha,hn,hm⟩
    · obtain rfl:b=false:=hb0
      exact ⟨z08 hx,rfl,[],hSt,sR,⟨rfl,rfl,rfl,rfl,trivial⟩,rfl,sP z5b,rfl,rfl,rfl,rfl,rfl,trivial⟩
    · obtain rfl:b=true:=hb0
      have hOf:=sr_of w x.args a ha oM0
      have hO:=z4h u ⟨ins,[q],st,code,out,cost,fuel,spent⟩
      obtain ⟨kind,op,n,name,args,outs,params,kids⟩:=x
      rcases (show kind=1∨kind=2∨kind=12∨kind=13∨kind=14∨kind=15∨kind=10∨kind=11∨(kind≠1/\kind≠2/\kind≠12/\kind≠13/\kind≠14/\kind≠15/\kind≠10/\kind≠11) by omega) with rfl | rfl | rfl | rfl | rfl | rfl | rfl | rfl | hkk
      · obtain ⟨o,w2,ho,hv2,rfl⟩:=z72 hn rfl
        obtain ⟨ho0,hol,rfl⟩:=zb9 hv2
        dsimp only at hm
        generalize z0z ⟨ins,[q],st,code,out,cost,fuel,spent⟩=ov at hm hO
        cases ov with
        | true =>
          cases hm
          exact ⟨z08 hx,rfl,[],hSt,sR,⟨rfl,rfl,rfl,rfl,trivial⟩,rfl,[],hOf,SubA.cons (slE (by simp [hw])) sR,⟨rfl,trivial⟩,rfl,z06 (f:=eInt) ho,rfl,by simp [hw],by rw [hw] at hol;simpa using hol,by omega,o.toNat,0,_,by simp [hw],(Nat.add_zero _).symm,z06 (f:=eInt) (List.getElem?_eq_getElem hol),Nat.zero_lt_one,[],hO,sR,⟨rfl,rfl,rfl,rfl,trivial⟩,rfl,sP z5b,rfl,rfl,rwq (by simp [eInt,List.map_set,Nd.n]),rfl,rfl,trivial⟩
        | false =>
          exact ⟨z08 hx,rfl,[],hSt,sR,⟨rfl,rfl,rfl,rfl,trivial⟩,rfl,[],hOf,SubA.cons (slE (by simp [hw])) sR,⟨rfl,trivial⟩,rfl,z06 (f:=eInt) ho,rfl,by simp [hw],by rw [hw] at hol;simpa using hol,by omega,o.toNat,0,_,by simp [hw],(Nat.add_zero _).symm,z06 (f:=eInt) (List.getElem?_eq_getElem hol),Nat.zero_lt_one,[],hO,sR,⟨rfl,rfl,rfl,rfl,trivial⟩,rfl,z03 rfl oM0,(e,k+1,w.set o.toNat n,⟨ins,[q],st,code,out,cost,fuel,spent⟩,q),z0g hlt,⟨by omega,hlt,by simp [hw],hm⟩,⟨rfl,trivial⟩,⟨rfl,rfl,rwq (by simp [eInt,List.map_set,Nd.n]),rfl,rfl,trivial⟩,rfl,rfl,rfl,rfl⟩
      · obtain ⟨o,w2,ho,hv2,rfl⟩:=z72 hn rfl
        obtain ⟨ho0,hol,rfl⟩:=zb9 hv2
        dsimp only at hm
        generalize z0z ⟨ins,[q],st,code,out,cost,fuel,spent⟩=ov at hm hO
        cases ov with
        | true =>
          cases hm
          exact ⟨z08 hx,rfl,[],hSt,sR,⟨rfl,rfl,rfl,rfl,trivial⟩,rfl,[],hOf,SubA.cons (slE (by simp [hw])) sR,⟨rfl,trivial⟩,rfl,z06 (f:=eInt) ho,rfl,by simp [hw],by rw [hw] at hol;simpa using hol,by omega,o.toNat,0,_,by simp [hw],(Nat.add_zero _).symm,z06 (f:=eInt) (List.getElem?_eq_getElem hol),Nat.zero_lt_one,[],hO,sR,⟨rfl,rfl,rfl,rfl,trivial⟩,rfl,sP z5b,rfl,rfl,rwq (by simp [eInt,List.map_set,Nd.n]),rfl,rfl,trivial⟩
        | false =>
          exact ⟨z08 hx,rfl,[],hSt,sR,⟨rfl,rfl,rfl,rfl,trivial⟩,rfl,[],hOf,SubA.cons (slE (by simp [hw])) sR,⟨rfl,trivial⟩,rfl,z06 (f:=eInt) ho,rfl,by simp [hw],by rw [hw] at hol;simpa using hol,by omega,o.toNat,0,_,by simp [hw],(Nat.add_zero _).symm,z06 (f:=eInt) (List.getElem?_eq_getElem hol),Nat.zero_lt_one,[],hO,sR,⟨rfl,rfl,rfl,rfl,trivial⟩,rfl,z03 rfl oM0,(e,k+1,w.set o.toNat n,⟨ins,[q],st,code,out,cost,fuel,spent⟩,q),z0g hlt,⟨by omega,hlt,by simp [hw],hm⟩,⟨rfl,trivial⟩,⟨rfl,rfl,rwq (by simp [eInt,List.map_set,Nd.n]),rfl,rfl,trivial⟩,rfl,rfl,rfl,rfl⟩
      · obtain rfl:=z4u hn rfl
        have hm3:=(if_pos (by simp [Nd.kind])).symm.trans hm
        cases hm3
        exact ⟨z08 hx,rfl,[],hSt,sR,⟨rfl,rfl,rfl,rfl,trivial⟩,rfl,[],hOf,SubA.cons (slE (by simp [hw])) sR,⟨rfl,trivial⟩,rfl,sI,rfl,rfl,rfl,rfl,rfl,trivial⟩
      · obtain rfl:=z4u hn rfl
        have hm3:=(if_pos (by simp [Nd.kind])).symm.trans hm
        cases hm3
        exact ⟨z08 hx,rfl,[],hSt,sR,⟨rfl,rfl,rfl,rfl,trivial⟩,rfl,[],hOf,SubA.cons (slE (by simp [hw])) sR,⟨rfl,trivial⟩,rfl,sI,rfl,rfl,rfl,rfl,rfl,trivial⟩
      · obtain rfl:=z4u hn rfl
        have hm3:=(if_pos (by simp [Nd.kind])).symm.trans hm
        cases hm3
        exact ⟨z08 hx,rfl,[],hSt,sR,⟨rfl,rfl,rfl,rfl,trivial⟩,rfl,[],hOf,SubA.cons (slE (by simp [hw])) sR,⟨rfl,trivial⟩,rfl,sI,rfl,rfl,rfl,rfl,rfl,trivial⟩
      · obtain rfl:=z4u hn rfl
        have hm3:=(if_pos (by simp [Nd.kind])).symm.trans hm
        cases hm3
        exact ⟨z08 hx,rfl,[],hSt,sR,⟨rfl,rfl,rfl,rfl,trivial⟩,rfl,[],hOf,SubA.cons (slE (by simp [hw])) sR,⟨rfl,trivial⟩,rfl,sI,rfl,rfl,rfl,rfl,rfl,trivial⟩
      · obtain ⟨a0,q0,r2,h1,h2,h3,h4⟩:=zd8 hn rfl
        have hi:=z06 (f:=eInt) h1
        have hkw:lsW q0<=1073741824:=by have:=za6 (List.mem_of_getElem? h2);dsimp only [Nd.kids] at this hxe;omega
        have hL:=ihL e oM0 _ _ _ _ h3 hkw sI0
        have hl2:r2.2.1.length=w.length:=z70 h3
        have hal:=hAL _ _ _ _ _ h3
        obtain ⟨⟨ek,el⟩,v3,ins',ar',st',code',out',cost',fuel',spent'⟩:=r2
        obtain ⟨q2,rfl⟩:∃ q2,ar'=[q2]:=List.length_eq_one_iff.1 hal
        have hO2:=z4h u ⟨ins',[q2],st',code',out',cost',fuel',spent'⟩
        clear hO
        dsimp only at h4 hl2 hO2 hm
        generalize hov:z0z ⟨ins',[q2],st',code',out',cost',fuel',spent'⟩=ov at h4 hO2
        refine ⟨z08 hx,rfl,[],hSt,sR,⟨rfl,rfl,rfl,rfl,trivial⟩,rfl,[],hOf,SubA.cons (slE (by simp [hw])) sR,⟨rfl,trivial⟩,rfl,hi,rfl,z00 (fun hc0=>?_) fun hc0=>?_⟩
        · rw [show (a0 != 0)=true from hc0] at h2
          have hkl:=z06 (f:=eKid) h2
          cases ov with
          | true =>
            cases h4
            rw [hov] at hm
            cases hm
            exact ⟨hkl,rfl,[],hL,SubA.same (SubA.same (SubA.cons (slE (by simp [hw])) SubA.nil)),⟨rfl,rfl,rfl,rfl,rfl,trivial⟩,rfl,[],hO2,sR,⟨rfl,rfl,rfl,rfl,trivial⟩,rfl,[],hO2,sR,⟨rfl,rfl,rfl,rfl,trivial⟩,rfl,sI,rfl,rfl,rfl,rfl,rfl,trivial⟩
          | false =>
            refine ⟨hkl,rfl,[],hL,SubA.same (SubA.same (SubA.cons (slE (by simp [hw])) SubA.nil)),⟨rfl,rfl,rfl,rfl,rfl,trivial⟩,rfl,[],hO2,sR,⟨rfl,rfl,rfl,rfl,trivial⟩,rfl,z00 (fun h5=>?_) fun h5=>?_⟩
            · rw [show (ek==12)=true from h5] at h4
              obtain ⟨v4,h7,rfl⟩:=Option.map_eq_some_iff.1 h4
              dsimp only at hm
              rw [hov] at hm
              exact ⟨[],zk5 _ _ _ _ h7,SubA.cons (slE (by simp [hl2,hw])) sR,⟨rfl,trivial⟩,rfl,[],hO2,sR,⟨rfl,rfl,rfl,rfl,trivial⟩,rfl,z03 rfl oM0,(e,k+1,v4,⟨ins',[q2],st',code',out',cost',fuel',spent'⟩,q2),z0g hlt,⟨by omega,hlt,by rw [z4e h7,hl2,hw],hm⟩,⟨rfl,trivial⟩,⟨rfl,rfl,rfl,rfl,rfl,trivial⟩,rfl,rfl,rfl,rfl⟩
            · rw [show (ek==12)=false from h5] at h4
              cases h4
              dsimp only at hm
              rw [hov] at hm
              refine ⟨[],hO2,sR,⟨rfl,rfl,rfl,rfl,trivial⟩,rfl,z00 (fun h6=>?_) fun h6=>?_⟩
              · rw [show (ek != 0)=true from h6] at hm
                cases hm
                exact ⟨sI,rfl,rfl,rfl,rfl,rfl,trivial⟩
              · rw [show (ek != 0)=false from h6] at hm
                exact ⟨z03 rfl oM0,(e,k+1,v3,⟨ins',[q2],st',code',out',cost',fuel',spent'⟩,q2),z0g hlt,⟨by omega,hlt,by rw [hl2,hw],hm⟩,⟨rfl,trivial⟩,⟨rfl,rfl,rfl,rfl,rfl,trivial⟩,rfl,rfl,rfl,rfl⟩
        · rw [show (a0 != 0)=false from hc0] at h2
          have hkl:=z06 (f:=eKid) h2
          cases ov with
          | true =>
            cases h4
            rw [hov] at hm
            cases hm
            exact ⟨hkl,rfl,[],hL,SubA.same (SubA.same (SubA.cons (slE (by simp [hw])) SubA.nil)),⟨rfl,rfl,rfl,rfl,rfl,trivial⟩,rfl,[],hO2,sR,⟨rfl,rfl,rfl,rfl,trivial⟩,rfl,[],hO2,sR,⟨rfl,rfl,rfl,rfl,trivial⟩,rfl,sI,rfl,rfl,rfl,rfl,rfl,trivial⟩
          | false =>
            refine ⟨hkl,rfl,[],hL,SubA.same (SubA.same (SubA.cons (slE (by simp [hw])) SubA.nil)),⟨rfl,rfl,rfl,rfl,rfl,trivial⟩,rfl,[],hO2,sR,⟨rfl,rfl,rfl,rfl,trivial⟩,rfl,z00 (fun h5=>?_) fun h5=>?_⟩
            · rw [show (ek==12)=true from h5] at h4
              obtain ⟨v4,h7,rfl⟩:=Option.map_eq_some_iff.1 h4
              dsimp only at hm
              rw [hov] at hm
              exact ⟨[],zk5 _ _ _ _ h7,SubA.cons (slE (by simp [hl2,hw])) sR,⟨rfl,trivial⟩,rfl,[],hO2,sR,⟨rfl,rfl,rfl,rfl,trivial⟩,rfl,z03 rfl oM0,(e,k+1,v4,⟨ins',[q2],st',code',out',cost',fuel',spent'⟩,q2),z0g hlt,⟨by omega,hlt,by rw [z4e h7,hl2,hw],hm⟩,⟨rfl,trivial⟩,⟨rfl,rfl,rfl,rfl,rfl,trivial⟩,rfl,rfl,rfl,rfl⟩
            · rw [show (ek==12)=false from h5] at h4
              cases h4
              dsimp only at hm
              rw [hov] at hm
              refine ⟨[],hO2,sR,⟨rfl,rfl,rfl,rfl,trivial⟩,rfl,z00 (fun h6=>?_) fun h6=>?_⟩
              · rw [show (ek != 0)=true from h6] at hm
                cases hm
                exact ⟨sI,rfl,rfl,rfl,rfl,rfl,trivial⟩
              · rw [show (ek != 0)=false from h6] at hm
                exact ⟨z03 rfl oM0,(e,k+1,v3,⟨ins',[q2],st',code',out',cost',fuel',spent'⟩,q2),z0g hlt,⟨by omega,hlt,by rw [hl2,hw],hm⟩,⟨rfl,trivial⟩,⟨rfl,rfl,rfl,rfl,rfl,trivial⟩,rfl,rfl,rfl,rfl⟩
      · have h3:=z5y hn rfl
        have hL:=sr_loop1 u D ihL hAL e oM0 _ oM0 _ _ ⟨ins,[],st,code,out,cost,fuel,spent⟩ q _ h3
        have hl2:r1.2.1.length=w.length:=(zh4 u e).2 _ _ _ _ _ h3
        have hal:=hALo _ _ _ _ _ _ h3
        obtain ⟨⟨ek,el⟩,v3,ins',ar',st',code',out',cost',fuel',spent'⟩:=r1
        obtain ⟨q2,rfl⟩:∃ q2,ar'=[q2]:=List.length_eq_one_iff.1 hal
        have hO2:=z4h u ⟨ins',[q2],st',code',out',cost',fuel',spent'⟩
        clear hO
        dsimp only at hl2 hO2 hm
        generalize hov:z0z ⟨ins',[q2],st',code',out',cost',fuel',spent'⟩=ov at hm hO2
        cases ov with
        | true =>
          cases hm
          exact ⟨z08 hx,rfl,[],hSt,sR,⟨rfl,rfl,rfl,rfl,trivial⟩,rfl,[],hOf,SubA.cons (slE (by simp [hw])) sR,⟨rfl,trivial⟩,rfl,[],hL,SubA.same (SubA.same (SubA.cons (slE (by simp [hw])) sR)),⟨rfl,rfl,rfl,rfl,rfl,trivial⟩,rfl,[],hO2,sR,⟨rfl,rfl,rfl,rfl,trivial⟩,rfl,sI,rfl,rfl,rfl,rfl,rfl,trivial⟩
        | false =>
          refine ⟨z08 hx,rfl,[],hSt,sR,⟨rfl,rfl,rfl,rfl,trivial⟩,rfl,[],hOf,SubA.cons (slE (by simp [hw])) sR,⟨rfl,trivial⟩,rfl,[],hL,SubA.same (SubA.same (SubA.cons (slE (by simp [hw])) sR)),⟨rfl,rfl,rfl,rfl,rfl,trivial⟩,rfl,[],hO2,sR,⟨rfl,rfl,rfl,rfl,trivial⟩,rfl,z00 (fun h6=>?_) fun h6=>?_⟩
          · rw [show (ek != 0)=true from h6] at hm
            cases hm
            exact ⟨sI,rfl,rfl,rfl,rfl,rfl,trivial⟩
          · rw [show (ek != 0)=false from h6] at hm
            exact ⟨z03 rfl oM0,(e,k+1,v3,⟨ins',[q2],st',code',out',cost',fuel',spent'⟩,q2),z0g hlt,⟨by omega,hlt,by rw [hl2,hw],hm⟩,⟨rfl,trivial⟩,⟨rfl,rfl,rfl,rfl,rfl,trivial⟩,rfl,rfl,rfl,rfl⟩
      · obtain ⟨k1,k2,k12,k13,k14,k15,k10,k11⟩:=hkk
        have ne:∀ {i:Int},kind≠i->(kind==i)=false:=fun h=>beq_eq_false_iff_ne.2 h
        have no:∀ {i:Int},kind≠i->(kind==i)=true->False:=fun h e=>h (eq_of_beq e)
        obtain ⟨r2,h1,h2⟩:=z73 hn (by simp only [Nd.kind,ne k1,ne k2];rfl) (by simp only [Nd.kind,ne k12,ne k13,ne k14,ne k15];rfl) (ne k10) (ne k11)
        have hS:=sr_sum u D ihC hA e oM0 _ a _ _ h1 sI0
        have hal:=hAS _ _ _ _ _ h1
        obtain ⟨y,ins',ar',st',code',out',cost',fuel',spent'⟩:=r2
        obtain ⟨q2,rfl⟩:∃ q2,ar'=[q2]:=List.length_eq_one_iff.1 hal
        have hO2:=z4h u ⟨ins',[q2],st',code',out',cost',fuel',spent'⟩
        clear hO
        dsimp only at h2 hO2
        generalize hov:z0z ⟨ins',[q2],st',code',out',cost',fuel',spent'⟩=ov at h2 hO2
        refine ⟨z08 hx,rfl,[],hSt,sR,⟨rfl,rfl,rfl,rfl,trivial⟩,rfl,[],hOf,SubA.cons (slE (by simp [hw])) sR,⟨rfl,trivial⟩,rfl,z00 (fun h=>(no k1 h).elim) fun _=>z00 (fun h=>(no k2 h).elim) fun _=>z00 (fun h=>(no k12 h).elim) fun _=>z00 (fun h=>(no k13 h).elim) fun _=>z00 (fun h=>(no k14 h).elim) fun _=>z00 (fun h=>(no k15 h).elim) fun _=>z00 (fun h=>(no k10 h).elim) fun _=>z00 (fun h=>(no k11 h).elim) fun _=>?_⟩
        cases ov with
        | true =>
          cases h2
          dsimp only at hm
          rw [hov] at hm
          cases hm
          exact ⟨[],hS,sR,⟨rfl,rfl,rfl,rfl,trivial⟩,rfl,[],hO2,sR,⟨rfl,rfl,rfl,rfl,trivial⟩,rfl,[],hO2,sR,⟨rfl,rfl,rfl,rfl,trivial⟩,rfl,sP z5b,rfl,rfl,rfl,rfl,rfl,trivial⟩
        | false =>
          cases outs with
          | nil =>
            cases h2
            dsimp only at hm
            rw [hov] at hm
            exact ⟨[],hS,sR,⟨rfl,rfl,rfl,rfl,trivial⟩,rfl,[],hO2,sR,⟨rfl,rfl,rfl,rfl,trivial⟩,rfl,[],hO2,sR,⟨rfl,rfl,rfl,rfl,trivial⟩,rfl,z03 rfl oM0,(e,k+1,w,⟨ins',[q2],st',code',out',cost',fuel',spent'⟩,q2),z0g hlt,⟨by omega,hlt,hw,hm⟩,⟨rfl,trivial⟩,⟨rfl,rfl,rfl,rfl,rfl,trivial⟩,rfl,rfl,rfl,rfl⟩
          | cons o os =>
            rw [if_pos (by simp [Nd.outs])] at h2
            obtain ⟨o',ho,h3⟩:=Option.bind_eq_some_iff.1 h2
            obtain rfl:o=o':=Option.some.inj ho
            obtain ⟨w2,hv2,rfl⟩:=Option.map_eq_some_iff.1 h3
            obtain ⟨ho0,hol,rfl⟩:=zb9 hv2
            dsimp only at hm
            rw [hov] at hm
            exact ⟨[],hS,sR,⟨rfl,rfl,rfl,rfl,trivial⟩,rfl,[],hO2,sR,⟨rfl,rfl,rfl,rfl,trivial⟩,rfl,z00 (fun _=>⟨at0 (a:=eInt o),rfl,by simp [hw],by rw [hw] at hol;simpa using hol,by omega,o.toNat,0,_,by simp [hw],(Nat.add_zero _).symm,z06 (f:=eInt) (List.getElem?_eq_getElem hol),Nat.zero_lt_one,[],hO2,sR,⟨rfl,rfl,rfl,rfl,trivial⟩,rfl,z03 rfl oM0,(e,k+1,w.set o.toNat y,⟨ins',[q2],st',code',out',cost',fuel',spent'⟩,q2),z0g hlt,⟨by omega,hlt,by simp [hw],hm⟩,⟨rfl,trivial⟩,⟨rfl,rfl,rwq (by simp [eInt,List.map_set]),rfl,rfl,trivial⟩,rfl,rfl,rfl,rfl⟩) fun h=>absurd h (by simp [Nd.outs])⟩
  · rw [List.drop_eq_nil_of_le (z47 (f:=Nd.enc) rfl hc)] at hm
    obtain rfl:=y24 hm
    exact ⟨sP z5b,rfl,rfl,rfl,rfl,rfl,trivial⟩
set_option maxRecDepth 20000
set_option maxHeartbeats 2000000
theorem copyA {a:List Int} {i n:Nat} {x:Int} (hx:a[i]? = some x) (hn:a.length<=n):(a.take i++List.replicate (n - i) 0).set i x=a.take (i+1)++List.replicate (n - (i+1)) 0:=by
  have hi:i<a.length:=(List.getElem?_eq_some_iff.1 hx).1
  have hl:(a.take i).length=i:=by rw [List.length_take];omega
  rw [List.set_append_right _ _ oM0,hl,Nat.sub_self,show n - i=(n - (i+1))+1 by omega,List.replicate_succ,List.set_cons_zero,List.take_add_one,hx]
  simp
theorem sr_call0 (u:Un) (hub:∀ f∈u.flows,lsW f.body<=1073741824) (D:Nat) (ihL:SRL u D) (hAL:∀ d l v s r,z1s u d l v s=some r->r.2.2.ar.length=s.ar.length) (d:Nat) (hd:d<=D) (k:Int) (a:List Int) (s:Rs) (r:Int × Rs) (h:z3r u d k a { s with ar:=[] }=some r):SC Tryz.prog 29 [.ptr 1001 0,iInt k,.pv (ints a)] (rH u { s with ar:=[] }) (fun _=>False) (iInt r.1) (rH u r.2):=by
  refine SC.sameR (SC.vc tb { pb:=[107,110],ids:=[(22,510)] } [] Tryz.func29 rfl rfl ?_) (fun k _ h=>h.elim)
  obtain ⟨d1,f,r1,rfl,hk0,hf,hal0,hfl,hlist,rfl⟩:=z5x h
  have hif:=z06 (f:=Fl.enc) hf
  have hL:=ihL d1 oM0 _ _ _ _ hlist (hub f (List.mem_of_getElem? hf)) sI0
  have hal:=hAL _ _ _ _ _ hlist
  obtain ⟨⟨ek,el⟩,v3,ins',ar',st',code',out',cost',fuel',spent'⟩:=r1
  obtain rfl:ar'=[]:=List.eq_nil_of_length_eq_zero hal
  have hO:=z4h u ⟨ins',[],st',code',out',cost',fuel',spent'⟩
  dsimp only at hO ⊢
  generalize z0z ⟨ins',[],st',code',out',cost',fuel',spent'⟩=ov at hO
  refine ⟨hif,by omega,rfl,rfl,by simp;omega,Nat,fun i=>[(9,iInt i)],fun i=>[(510,rowI (a.take i++List.replicate (f.types.length - i) 0))],fun i=>a.length - i,fun i=>i<=a.length,[],0,Nat.zero_le _,⟨rfl,trivial⟩,⟨rwq (by simp [eInt];exact .inr rfl),trivial⟩,?_⟩
  intro i hi
  refine z00 (fun hc=>?_) fun hc=>?_
  · have hlt:=z41 (f:=eInt) rfl hc
    obtain ⟨x,hx,_,_,_⟩:=z2s hlt
    have hvl:(a.take i++List.replicate (f.types.length - i) 0).length=f.types.length:=by simp;omega
    exact ⟨z06 (f:=eInt) hx,rfl,by simp;omega,by simp;omega,rfl,i,0,_,by simp;omega,(Nat.add_zero _).symm,z06 (f:=eInt) (List.getElem?_eq_getElem oM0),Nat.zero_lt_one,z03 rfl oM0,i+1,z0g hlt,hlt,⟨rfl,trivial⟩,⟨rwq (by rw [<- copyA hx oM0];simp [eInt,List.map_set]),trivial⟩,rfl,rfl,rfl,rfl⟩
  · have hge:a.take i++List.replicate (f.types.length - i) 0=a++List.replicate (f.types.length - a.length) 0:=by
      have:=z47 (f:=eInt) rfl hc
      obtain rfl:i=a.length:=by omega
      rw [List.take_length]
    cases ov with
    | true=>exact ⟨[],hL,SubA.same (SubA.same (SubA.cons (slE (by simp;omega)) sR)),⟨rfl,rfl,rwq (by rw [hge]),trivial⟩,rfl,[],hO,sR,⟨rfl,rfl,trivial⟩,rfl,sI,rfl,rfl,trivial⟩
    | false =>
      cases el with
      | nil=>exact ⟨[],hL,SubA.same (SubA.same (SubA.cons (slE (by simp;omega)) sR)),⟨rfl,rfl,rwq (by rw [hge]),trivial⟩,rfl,[],hO,sR,⟨rfl,rfl,trivial⟩,rfl,sI,rfl,rfl,trivial⟩
      | cons y el=>exact ⟨[],hL,SubA.same (SubA.same (SubA.cons (slE (by simp;omega)) sR)),⟨rfl,rfl,rwq (by rw [hge]),trivial⟩,rfl,[],hO,sR,⟨rfl,rfl,trivial⟩,rfl,at0 (a:=eInt y),rfl,sI,rfl,rfl,trivial⟩
theorem sr_call1 (u:Un) (hub:∀ f∈u.flows,lsW f.body<=1073741824) (D:Nat) (ihL:SRL u D) (hAL:∀ d l v s r,z1s u d l v s=some r->r.2.2.ar.length=s.ar.length) (d:Nat) (hd:d<=D) (k:Int) (a:List Int) (s:Rs) (row:List Int) (r:Int × Rs) (h:z3r u d k a { s with ar:=[row] }=some r):SC Tryz.prog 29 [.ptr 1001 0,iInt k,.pv (ints a)] (rH u { s with ar:=[row] }) (fun _=>False) (iInt r.1) (rH u r.2):=by
  refine SC.sameR (SC.vc tb { pb:=[107,110],ids:=[(22,510)] } [] Tryz.func29 rfl rfl ?_) (fun k _ h=>h.elim)
  obtain ⟨d1,f,r1,rfl,hk0,hf,hal0,hfl,hlist,rfl⟩:=z5x h
  have hif:=z06 (f:=Fl.enc) hf
  have hL:=ihL d1 oM0 _ _ _ _ hlist (hub f (List.mem_of_getElem? hf)) sI0
  have hal:=hAL _ _ _ _ _ hlist
  obtain ⟨⟨ek,el⟩,v3,ins',ar',st',code',out',cost',fuel',spent'⟩:=r1
  obtain ⟨q2,rfl⟩:∃ q2,ar'=[q2]:=List.length_eq_one_iff.1 hal
  have hO:=z4h u ⟨ins',[q2],st',code',out',cost',fuel',spent'⟩
  dsimp only at hO ⊢
  generalize z0z ⟨ins',[q2],st',code',out',cost',fuel',spent'⟩=ov at hO
  refine ⟨hif,by omega,rfl,rfl,by simp;omega,Nat,fun i=>[(9,iInt i)],fun i=>[(510,rowI (a.take i++List.replicate (f.types.length - i) 0))],fun i=>a.length - i,fun i=>i<=a.length,[],0,Nat.zero_le _,⟨rfl,trivial⟩,⟨rwq (by simp [eInt];exact .inr rfl),trivial⟩,?_⟩
  intro i hi
  refine z00 (fun hc=>?_) fun hc=>?_
  · have hlt:=z41 (f:=eInt) rfl hc
    obtain ⟨x,hx,_,_,_⟩:=z2s hlt
    have hvl:(a.take i++List.replicate (f.types.length - i) 0).length=f.types.length:=by simp;omega
    exact ⟨z06 (f:=eInt) hx,rfl,by simp;omega,by simp;omega,rfl,i,0,_,by simp;omega,(Nat.add_zero _).symm,z06 (f:=eInt) (List.getElem?_eq_getElem oM0),Nat.zero_lt_one,z03 rfl oM0,i+1,z0g hlt,hlt,⟨rfl,trivial⟩,⟨rwq (by rw [<- copyA hx oM0];simp [eInt,List.map_set]),trivial⟩,rfl,rfl,rfl,rfl⟩
  · have hge:a.take i++List.replicate (f.types.length - i) 0=a++List.replicate (f.types.length - a.length) 0:=by
      have:=z47 (f:=eInt) rfl hc
      obtain rfl:i=a.length:=by omega
      rw [List.take_length]
    cases ov with
    | true=>exact ⟨[],hL,SubA.same (SubA.same (SubA.cons (slE (by simp;omega)) sR)),⟨rfl,rfl,rwq (by rw [hge]),rfl,rfl,trivial⟩,rfl,[],hO,sR,⟨rfl,rfl,rfl,rfl,trivial⟩,rfl,sI,rfl,rfl,rfl,rfl,trivial⟩
    | false =>
      cases el with
      | nil=>exact ⟨[],hL,SubA.same (SubA.same (SubA.cons (slE (by simp;omega)) sR)),⟨rfl,rfl,rwq (by rw [hge]),rfl,rfl,trivial⟩,rfl,[],hO,sR,⟨rfl,rfl,rfl,rfl,trivial⟩,rfl,sI,rfl,rfl,rfl,rfl,trivial⟩
      | cons y el=>exact ⟨[],hL,SubA.same (SubA.same (SubA.cons (slE (by simp;omega)) sR)),⟨rfl,rfl,rwq (by rw [hge]),rfl,rfl,trivial⟩,rfl,[],hO,sR,⟨rfl,rfl,rfl,rfl,trivial⟩,rfl,at0 (a:=eInt y),rfl,sI,rfl,rfl,rfl,rfl,trivial⟩
set_option maxRecDepth 20000
set_option maxHeartbeats 2000000
theorem z4a (u:Un) (f:Fl) (set:List Bool) (l want:List Int) (hs:set.length=f.types.length):SC Tryz.prog 103 [.ptr 3 0,.pv (ints l),.pv (ints want)] (ckHp u f 4 set) (fun k=>k=3) (iBool (z1o f.types set l want).1) (ckHp u f 4 (z1o f.types set l want).2):=by
  refine SC.sameR (SC.vc tb { gh:=[(0,[.len 1])] } [3] Tryz.func103 rfl rfl ?_) fun k _ h=>List.mem_singleton.2 h
  intro hl
  simp only [List.length_map] at hl
  refine z00 (fun h1=>?_) fun h1=>?_
  · have e:((l.length:Int)==want.length)=false:=by simpa using h1
    rw [show z1o f.types set l want=(false,set) by unfold z1o;rw [e];rfl]
    exact ⟨sI,rfl,rfl,trivial⟩
  · have e:((l.length:Int)==want.length)=true:=by simpa using h1
    have hlw:l.length=want.length:=by
      have:=eq_of_beq e
      omega
    rw [show z1o f.types set l want=z1v f.types set l want by unfold z1o;rw [e];rfl]
    refine ⟨Nat × List Bool,fun (k,_)=>[(7,iInt k)],fun (_,S)=>[(4,.row ⟨4,1⟩ (S.map z9m))],fun (k,_)=>l.length - k,fun (k,S)=>k<=l.length/\S.length=set.length/\z1v f.types set l want=z1v f.types S (l.drop k) (want.drop k),[],(0,set),⟨Nat.zero_le _,rfl,rfl⟩,⟨rfl,trivial⟩,⟨rfl,trivial⟩,?_⟩
    rintro ⟨k,S⟩ ⟨hk,hS,hI⟩
    have ln:(S.map z9m).length=(set.map z9m).length:=by rw [List.length_map,List.length_map,hS]
    rw [hI]
    have bx:∀ {n m:Nat},n=m->some (HO.box (y6y u f n))=some (HO.box (y6y u f m)):=fun h=>by rw [h]
    refine z00 (fun hc=>?_) fun hc=>?_
    · have hlt:=z41 (f:=eInt) rfl hc
      obtain ⟨v,hv,_,hd,_⟩:=z2s hlt
      obtain ⟨w,hw,_,hd2,_⟩:=z2s (show k<want.length by omega)
      have iv:=z06 (f:=eInt) hv
      have iw:=z06 (f:=eInt) hw
      rw [hd,hd2,show z1v f.types S (v::l.drop (k+1)) (w::want.drop (k+1))=if z7m f.types S v w then (false,S) else z1v f.types (S.set v.toNat true) (l.drop (k+1)) (want.drop (k+1)) from rfl]
      refine ⟨iv,rfl,z00 (fun h2=>?_) fun h2=>⟨iv,rfl,z00 (fun h3=>?_) fun h3=>?_⟩⟩
      · rw [if_pos (show z7m f.types S v w=true by unfold z7m;rw [show decide (v<0)=true from h2];rfl)]
        exact ⟨sI,bx ln.symm,rfl,trivial⟩
      · have e3:decide (v ≥ f.types.length)=true:=by simpa using h3
        rw [if_pos (show z7m f.types S v w=true by unfold z7m;rw [e3];simp)]
        exact ⟨sI,bx ln.symm,rfl,trivial⟩
      · have e2:decide (v<0)=false:=h2
        have e3:decide (v ≥ f.types.length)=false:=by simpa using h3
        have v0:0<=v:=by simpa using h2
        have v1:v.toNat<f.types.length:=by
          have:¬ v ≥ f.types.length:=by simpa using e3
          omega
        have it:(f.types.map eInt)[v.toNat]? = some (eInt (f.types.getD v.toNat 0)):=z06 (f:=eInt) (by rw [List.getD_eq_getElem?_getD,List.getElem?_eq_getElem v1];rfl)
        have iS:(S.map z9m)[v.toNat]? = some (z9m (S.getD v.toNat false)):=z06 (f:=z9m) (by rw [List.getD_eq_getElem?_getD,List.getElem?_eq_getElem oM0];rfl)
        have vlt:v.toNat<(set.map z9m).length:=by rw [List.length_map];omega
        have vv:v=(v.toNat:Int):=by omega
        refine ⟨iv,rfl,ln,vlt,vv,?_⟩
        cases h4:S.getD v.toNat false with
        | true =>
          rw [if_pos (show z7m f.types S v w=true by unfold z7m;rw [h4];simp)]
          rw [h4] at iS
          exact VRow.mk (i:=v.toNat) (j:=0) ln rfl iS rfl ⟨sI,bx ln.symm,rfl,trivial⟩
        | false =>
          rw [h4] at iS
          refine VRow.mk (i:=v.toNat) (j:=0) ln rfl iS rfl ⟨iw,rfl,z00 (fun h5=>⟨iv,rfl,it,by omega,iw,rfl,z00 (fun h6=>?_) fun h6=>?_⟩) fun h5=>?_⟩
          · have e5:(w != 0)=true:=h5
            have e6:(f.types.getD v.toNat 0 != w)=true:=h6
            rw [if_pos (show z7m f.types S v w=true by unfold z7m;rw [e5,e6];simp)]
            exact ⟨sI,bx ln.symm,rfl,trivial⟩
          · have e6:(f.types.getD v.toNat 0 != w)=false:=h6
            have ok:z7m f.types S v w=false:=by unfold z7m;rw [e2,e3,h4,e6,Bool.and_false];rfl
            rw [if_neg (by rw [ok];exact Bool.false_ne_true)]
            exact ⟨iv,rfl,ln,vlt,vv,⟨v.toNat,0,z9m false,ln,rfl,iS,by decide,z03 rfl oM0,(k+1,S.set v.toNat true),z0g hlt,⟨hlt,by rw [List.length_set,hS],rfl⟩,⟨rfl,trivial⟩,⟨by rw [List.map_set];rfl,trivial⟩,rfl,rfl,rfl,rfl⟩⟩
          · have e5:(w != 0)=false:=h5
            have ok:z7m f.types S v w=false:=by unfold z7m;rw [e2,e3,h4,e5,Bool.false_and];rfl
            rw [if_neg (by rw [ok];exact Bool.false_ne_true)]
            exact ⟨iv,rfl,ln,vlt,vv,⟨v.toNat,0,z9m false,ln,rfl,iS,by decide,z03 rfl oM0,(k+1,S.set v.toNat true),z0g hlt,⟨hlt,by rw [List.length_set,hS],rfl⟩,⟨rfl,trivial⟩,⟨by rw [List.map_set];rfl,trivial⟩,rfl,rfl,rfl,rfl⟩⟩
    · rw [List.drop_eq_nil_of_le (z47 (f:=eInt) rfl hc)]
      exact ⟨sI,bx ln.symm,rfl,trivial⟩
theorem y84 (op:Int):SC Tryz.prog 116 [iInt op] [] (fun _=>False) (iBool (z2a op)) []:=by
  refine SC.of Tryz.func116 rfl (lb rfl) fun F ρ w=>?_
  refine tQ <| tG <| sm 1 rfl <| nL <| tQ <| tG <| sm 3 rfl ?_
  refine wS 5 rfl (fun hb5=>?_) fun hb5=>?_
  ·refine sm 4 rfl <| nL <| tRt <| rOk rfl ?_ nPo
   first | (simp_all [z2a];done) | (simp_all [z2a];omega)
  refine sm 4 rfl <| nL <| tRt <| rOk rfl ?_ nPo
  first | (simp_all [z2a];done) | (simp_all [z2a];omega)
theorem y85 (op:Int):SC Tryz.prog 117 [iInt op] [] (fun _=>False) (iBool (z1t op)) []:=by
  refine SC.of Tryz.func117 rfl (lb rfl) fun F ρ w=>?_
  refine tQ <| tG <| sm 1 rfl <| nL <| tQ <| tG <| sm 3 rfl ?_
  refine wS 5 rfl (fun hb5=>?_) fun hb5=>?_
  ·refine sm 4 rfl <| nL <| tRt <| rOk rfl ?_ nPo
   first | (simp_all [z1t];done) | (simp_all [z1t];omega)
  refine sm 4 rfl <| nL <| tRt <| rOk rfl ?_ nPo
  first | (simp_all [z1t];done) | (simp_all [z1t];omega)
theorem zk3 (op:Int):SC Tryz.prog 115 [iInt op] [] (fun _=>False) (.tup [iInt (z0a op).1,iInt (z0a op).2]) []:=by
  refine SC.of Tryz.func115 rfl (lb rfl) fun F ρ w=>?_
  refine tQ <| tG <| sm 2 rfl <| nL <| tQ <| tBk <| tQ <| tG <| sm 3 rfl ?_
  refine wS 7 rfl (fun hb7=>?_) fun hb7=>?_
  ·refine sm 8 rfl <| nL <| Tr.condT rfl <| tQ <| tG <| sm 2 rfl <| nL <| tRt <| rOk rfl ?_ nPo
   first | (simp_all [z0a];done) | (simp_all [z0a];split<;>first | omega | (simp;done))
  refine sm 4 rfl ?_
  refine wS 11 rfl (fun hb11=>?_) fun hb11=>?_
  ·refine sm 4 rfl <| nL <| Tr.condT rfl <| tQ <| tG <| sm 2 rfl <| nL <| tRt <| rOk rfl ?_ nPo
   first | (simp_all [z0a];done) | (simp_all [z0a];split<;>first | omega | (simp;done))
  refine sm 4 rfl <| nL ?_
  refine tC rfl (fun hc4=>?_) fun hc4=>?_
  ·refine tQ <| tG <| sm 2 rfl <| nL <| tRt <| rOk rfl ?_ nPo
   first | (simp_all [z0a];done) | (simp_all [z0a];split<;>first | omega | (simp;done))
  refine tQ <| tG <| sm 3 rfl ?_
  refine wS 18 rfl (fun hb18=>?_) fun hb18=>?_
  ·refine sm 4 rfl <| nL <| Tr.condT rfl <| tQ <| tG <| sm 2 rfl <| nL <| tRt <| rOk rfl ?_ nPo
   first | (simp_all [z0a];done) | (simp_all [z0a];split<;>first | omega | (simp;done))
  refine sm 4 rfl <| nL ?_
  refine tC rfl (fun hc15=>?_) fun hc15=>?_
  ·refine tQ <| tG <| sm 2 rfl <| nL <| tRt <| rOk rfl ?_ nPo
   first | (simp_all [z0a];done) | (simp_all [z0a];split<;>first | omega | (simp;done))
  refine tQ <| tG <| sm 3 rfl ?_
  refine wS 25 rfl (fun hb25=>?_) fun hb25=>?_
  ·refine sm 4 rfl <| nL ?_
   refine tC rfl (fun hc22=>?_) fun hc22=>?_
   ·refine tQ <| tG <| sm 2 rfl <| nL <| tRt <| rOk rfl ?_ nPo
    first | (simp_all [z0a];done) | (simp_all [z0a];split<;>first | omega | (simp;done))
   refine tSk <| tQ <| tG <| sm 2 rfl <| nL <| tRt <| rOk rfl ?_ nPo
   first | (simp_all [z0a];done) | (simp_all [z0a];split<;>first | omega | (simp;done))
  refine sm 4 rfl <| nL <| Tr.condF rfl <| tSk <| tQ <| tG <| sm 2 rfl <| nL <| tRt <| rOk rfl ?_ nPo
  first | (simp_all [z0a];done) | (simp_all [z0a];split<;>first | omega | (simp;done))
theorem y4s (u:Un) (f:Fl) (set:List Bool) (l:List Int) (hb:l.length<=1073741824):SC Tryz.prog 101 [.ptr 3 0,.pv (ints l)] (ckHp u f 4 set) (fun k=>k<100) (.pv (ints (r8of f.types l))) (ckHp u f 4 set):=by
  refine SC.of Tryz.func101 rfl (lb rfl) fun F ρ w=>?_
  refine Tr.lenOf (t:=1) rfl (fun hl=>?_)
  simp only [List.length_map] at hl
  rw [ye1]
  refine tQ <| tG <| sm 1 rfl <| nL <| tQ <| tG <| sm 1 rfl <| nL <| tQ <| tQ <| tG <| sm 1 rfl ?_
  refine nL <| tBk <| Tr.grow (t:=5) (k:=105) ⟨3,1⟩ rfl rfl rfl rfl rfl <| Tr.sub (Sub.of (fr':=[(6,iInt 0),(5,.sl 105 0),(0,.ptr 3 0),(1,.pv (ints l))]) ⟨rfl,rfl,rfl,rfl,trivial⟩) ?_
  refine Tr.loop (fun fr σ m=>∃ (k:Nat) (st:List Int),(k<=l.length)/\(st.length=k)/\(z6s f.types [] l=z6s f.types st (l.drop k))/\fr=[(6,iInt k),(5,.sl 105 k),(0,.ptr 3 0),(1,.pv (ints l))] /\ σ = look ((105,some (.row ⟨3,1⟩ (st.map eInt)))::up (ckHp u f 4 set))/\m=l.length - k) (n:=l.length - 0) ?_ ?_
  ·exact ⟨0,[],Nat.zero_le _,rfl,rfl,rfl,rfl,rfl⟩
  rintro fr σ m ⟨k,st,hI0,hI1,hI2,rfl,rfl,rfl⟩
  refine tQ <| tQ <| tG <| sm 2 rfl <| cV rfl (oSm uT35 rfl) <| sm 1 rfl <| nL ?_
  refine tC rfl (fun hc10=>?_) fun hc10=>?_
  ·have hlt:k<l.length:=by simpa using hc10
   have hd:=List.drop_eq_getElem_cons hlt
   have hm:=List.getElem_mem hlt
   have hi:=z06 (f:=eInt) (List.getElem?_eq_getElem hlt)
   generalize l[k]=x at hd hm hi
   refine tSk <| tQ <| tBk <| tQ <| tQ <| Tr.still zd9 kR0 rfl <| smS 2 rfl <| sV rfl (iSq rfl rfl rfl uT35 hi tS3 rfl (by rfl)) <| smS 3 rfl ?_
   refine WS.split (t:=18) rfl (fun hb18=>?_) (fun hb18=>?_)
   ·refine smS 12 rfl <| WS.nil <| Tr.condT rfl <| tQ <| tG <| sm 1 rfl <| nL <| tRt ?_
    have hin:z6k f.types x=false:=by simp [z6k] at *;omega
    rw [hI2,hd]
    simp only [z6s,hin]
    exact ⟨⟨_,rfl,fun _ _ _ _ h=>y52 h⟩,(po2 rfl rfl)⟩
   refine smS 2 rfl <| syV rfl rfl (iSq rfl rfl rfl uT35 hi tS3 rfl (by rfl)) <| smS 2 rfl <| syV rfl rfl (nCk rfl rfl rfl) <| smS 3 rfl <| syV rfl rfl (oSm uT35 rfl) <| smS 2 rfl <| WS.nil ?_
   refine tC rfl (fun hc30=>?_) fun hc30=>?_
   ·refine tQ <| tG <| sm 1 rfl <| nL <| tRt ?_
    have hin:z6k f.types x=false:=by simp [z6k] at *;omega
    rw [hI2,hd]
    simp only [z6s,hin]
    exact ⟨⟨_,rfl,fun _ _ _ _ h=>y52 h⟩,(po2 rfl rfl)⟩
   have hv0:x.toNat<f.types.length:=by simp at *;omega
   have hvx:x=((x.toNat:Nat):Int):=by simp at *;omega
   have hin:z6k f.types x=true:=by simp [z6k];omega
   have hty:(f.types.map eInt)[x.toNat]? = some [vInt (f.types.getD x.toNat 0)]:=by rw [List.getElem?_map];simp [eInt,List.getD,hv0]
   refine tSk <| tDr zd9 (fun k=>k<100) <| wR 3 [0,1,2,3,4,5,6,7,8,9,10,11] kR0 h30 <| smR 2 rfl <| rV rfl rfl (nCk rfl rfl rfl) <| smR 2 rfl <| rV rfl rfl (oLb uT35 rfl rfl rfl dC0) <| smR 2 rfl <| rV rfl rfl (iSq rfl rfl rfl uT35 (by assumption) tS3 rfl (by rfl)) <| smR 1 rfl <| rV rfl rfl (iSq rfl rfl rfl uT35 hty tS3 rfl oM0) <| smR 1 rfl ?_
   refine nR <| wO 12 kR0 <| wI rfl rfl (fun k (h:_)=>h) nw (fun _ _=>bSl rfl rfl uT35 tZ3 tS3 rfl rfl rfl rfl (fbk rfl) rfl) <| wO 13 kR0 ?_
   refine wI rfl rfl (fun k (h:_)=>h) (nOl rfl) (fun _ _=>aPp rfl rfl rfl rfl (by (simp;omega)) sI0 uT35 tB3 dC0 (by simp [z0c]) (by (simp [z0c,PV.one];rfl)) (by simp [maxLen,z0c];omega) (by simp [z0c];omega)) ?_
   refine wR 0 [14] kR0 h30 <| smR 1 rfl <| nR <| wDn kR0 <| tG <| sm 1 rfl <| cV rfl (oB rfl rfl (z03 rfl oM0)) <| sm 1 rfl <| nL ?_
   refine ⟨_,_,?_,Sub.of (fr':=[(6,iInt (k+1)),(5,.sl 105 (k+1)),(0,.ptr 3 0),(1,.pv (ints l))]) ⟨rfl,rfl,rfl,rfl,trivial⟩,(k+1),(st++[f.types.getD x.toNat 0]),?_,?_,?_,rfl,y01,rfl⟩
   ·omega
   ·omega
   ·simp [hI1]
   rw [hI2,hd]
   simp [z6s,hin]
  refine tEx <| tQ ?_
  refine Tr.freeze (t:=5) (k:=105) rfl rfl (by simpa using hI1) ?_
  refine tG <| sm 2 rfl <| nL <| tRt <| rOk rfl ?_ (po2 rfl rfl)
  have hge:l.length<=k:=by simpa using hc10
  rw [hI2,List.drop_eq_nil_of_le hge]
  rfl
set_option maxRecDepth 20000
set_option maxHeartbeats 2000000
theorem y4f {u:Un} {f:Fl} {set:List Bool} {x:Nd} {seen:List Int} {g:Fl} (h:z04 x.name u.flows 0 ≥ 0) (hg:u.flows[(z04 x.name u.flows 0).toNat]? = some g) :
    z8t u f set x seen=andS (z02 f.types seen x.args (g.types.take g.params.toNat)) set (z1o f.types set x.outs [g.ty]):=by
  unfold z8t
  rw [if_pos (decide_eq_true h),hg]
theorem y4e {u:Un} {f:Fl} {set:List Bool} {x:Nd} {seen:List Int} (h:decide (z04 x.name u.flows 0 ≥ 0)=false):z8t u f set x seen=(false,set):=by
  unfold z8t
  rw [h];rfl
theorem y4t (u:Un) (f:Fl) (set:List Bool) (hs:set.length=f.types.length) (hg:∀ g∈u.flows,0<=g.params/\g.params<=g.types.length) (x:Nd) (seen:List Int) (wh:Wh):SC Tryz.prog 104 [.ptr 3 0,.pv (ndv x),.pv (ints seen),.pv (whv wh)] (ckHp u f 4 set) (fun k=>k=3) (iBool (z1c u f set x seen wh).1) (ckHp u f 4 (z1c u f set x seen wh).2):=by
  refine SC.sameR (SC.vc tb {} [3] Tryz.func104 rfl rfl ?_) fun k _ h=>List.mem_singleton.2 h
  obtain ⟨kind,op,n,name,args,outs,params,kids⟩:=x
  rcases (show kind=1∨kind=2∨kind=3∨kind=4∨kind=5∨kind=6∨kind=7∨kind=9∨kind=8∨kind=12∨kind=13∨kind=14∨kind=15∨(kind≠1/\kind≠2/\kind≠3/\kind≠4/\kind≠5/\kind≠6/\kind≠7/\kind≠8/\kind≠9/\kind≠12/\kind≠13/\kind≠14/\kind≠15) by omega) with rfl | rfl | rfl | rfl | rfl | rfl | rfl | rfl | rfl | rfl | rfl | rfl | rfl | hk
  · have hT:=z1x u f set args seen []
    have hS:=z4a u f set outs [1] hs
    rw [show z1c u f set ⟨1,op,n,name,args,outs,params,kids⟩ seen wh=andS (z02 f.types seen args []) set (z1o f.types set outs [1]) from rfl]
    generalize z02 f.types seen args []=b at hT ⊢
    cases b with
    | true=>exact ⟨[3,4],hT,SubA.same (SubA.same (SubA.same (SubA.cons sN sR))),⟨rfl,rfl,trivial,rfl,rfl,trivial⟩,rfl,[],hS,sR,⟨rfl,rfl,rfl,trivial⟩,rfl,sI,rfl,rfl,trivial⟩
    | false=>exact ⟨[3,4],hT,SubA.same (SubA.same (SubA.same (SubA.cons sN sR))),⟨rfl,rfl,trivial,rfl,rfl,trivial⟩,rfl,sI,rfl,rfl,trivial⟩
  · have hT:=z1x u f set args seen []
    have hS:=z4a u f set outs [2] hs
    rw [show z1c u f set ⟨2,op,n,name,args,outs,params,kids⟩ seen wh=andS ((n==0||n==1)&&z02 f.types seen args []) set (z1o f.types set outs [2]) from rfl]
    generalize z02 f.types seen args []=b at hT ⊢
    refine z00 (fun h0=>?_) fun h0=>?_
    · rw [show (n==0)=true from h0]
      cases b with
      | true=>exact ⟨[3,4],hT,SubA.same (SubA.same (SubA.same (SubA.cons sN sR))),⟨rfl,rfl,trivial,rfl,rfl,trivial⟩,rfl,[],hS,sR,⟨rfl,rfl,rfl,trivial⟩,rfl,sI,rfl,rfl,trivial⟩
      | false=>exact ⟨[3,4],hT,SubA.same (SubA.same (SubA.same (SubA.cons sN sR))),⟨rfl,rfl,trivial,rfl,rfl,trivial⟩,rfl,sI,rfl,rfl,trivial⟩
    · rw [show (n==0)=false from h0]
      refine z00 (fun h1=>?_) fun h1=>?_
      · rw [show (n==1)=true from h1]
        cases b with
        | true=>exact ⟨[3,4],hT,SubA.same (SubA.same (SubA.same (SubA.cons sN sR))),⟨rfl,rfl,trivial,rfl,rfl,trivial⟩,rfl,[],hS,sR,⟨rfl,rfl,rfl,trivial⟩,rfl,sI,rfl,rfl,trivial⟩
        | false=>exact ⟨[3,4],hT,SubA.same (SubA.same (SubA.same (SubA.cons sN sR))),⟨rfl,rfl,trivial,rfl,rfl,trivial⟩,rfl,sI,rfl,rfl,trivial⟩
      · rw [show (n==1)=false from h1]
        exact ⟨sI,rfl,rfl,trivial⟩
  · have hO:=zk3 op
    have hT:=z1x u f set args seen [(z0a op).1]
    have hS:=z4a u f set outs [(z0a op).2] hs
    have hI:=y84 op
    rw [show z1c u f set ⟨3,op,n,name,args,outs,params,kids⟩ seen wh=andS (z2a op&&z02 f.types seen args [(z0a op).1]) set (z1o f.types set outs [(z0a op).2]) from rfl]
    generalize z02 f.types seen args [(z0a op).1]=b at hT ⊢
    generalize z2a op=q at hI ⊢
    cases q with
    | true =>
      cases b with
      | true=>exact ⟨[],hO,sR,trivial,rfl,[],hI,sR,trivial,rfl,[3,4],hT,sR,⟨rfl,rfl,trivial,rfl,rfl,trivial⟩,rfl,[],hS,sR,⟨rfl,rfl,rfl,trivial⟩,rfl,sI,rfl,rfl,trivial⟩
      | false=>exact ⟨[],hO,sR,trivial,rfl,[],hI,sR,trivial,rfl,[3,4],hT,sR,⟨rfl,rfl,trivial,rfl,rfl,trivial⟩,rfl,sI,rfl,rfl,trivial⟩
    | false=>exact ⟨[],hO,sR,trivial,rfl,[],hI,sR,trivial,rfl,sI,rfl,rfl,trivial⟩
  · have hO:=zk3 op
    have hT:=z1x u f set args seen [(z0a op).1,(z0a op).1]
    have hS:=z4a u f set outs [(z0a op).2] hs
    have hI:=y85 op
    rw [show z1c u f set ⟨4,op,n,name,args,outs,params,kids⟩ seen wh=andS (z1t op&&z02 f.types seen args [(z0a op).1,(z0a op).1]&&f.types.getD (args.getD 0 0).toNat 0==f.types.getD (args.getD 1 0).toNat 0) set (z1o f.types set outs [(z0a op).2]) from rfl]
    cases hb:z02 f.types seen args [(z0a op).1,(z0a op).1] with
    | false =>
      rw [hb] at hT
      generalize z1t op=q at hI ⊢
      cases q with
      | true=>exact ⟨[],hO,sR,trivial,rfl,[],hI,sR,trivial,rfl,[3,4],hT,sR,⟨rfl,rfl,trivial,rfl,rfl,trivial⟩,rfl,sI,rfl,rfl,trivial⟩
      | false=>exact ⟨[],hO,sR,trivial,rfl,[],hI,sR,trivial,rfl,sI,rfl,rfl,trivial⟩
    | true =>
      rw [hb] at hT
      obtain ⟨a,b,rfl,a0,a1,b0,b1⟩:=y4g hb
      have ga:f.types[a.toNat]? = some (f.types.getD a.toNat 0):=by rw [List.getD_eq_getElem?_getD,List.getElem?_eq_getElem a1];rfl
      have gb:f.types[b.toNat]? = some (f.types.getD b.toNat 0):=by rw [List.getD_eq_getElem?_getD,List.getElem?_eq_getElem b1];rfl
      generalize z1t op=q at hI ⊢
      cases q with
      | false=>exact ⟨[],hO,sR,trivial,rfl,[],hI,sR,trivial,rfl,sI,rfl,rfl,trivial⟩
      | true =>
        rw [show ([a,b].getD 0 0:Int)=a from rfl,show ([a,b].getD 1 0:Int)=b from rfl]
        refine ⟨[],hO,sR,trivial,rfl,[],hI,sR,trivial,rfl,[3,4],hT,sR,⟨rfl,rfl,trivial,rfl,rfl,trivial⟩,rfl,at0 (a:=eInt a),rfl,z06 (f:=eInt) ga,by omega,at1 (b:=eInt b),rfl,z06 (f:=eInt) gb,by omega,z00 (fun h=>?_) fun h=>?_⟩
        · rw [show (f.types.getD a.toNat 0==f.types.getD b.toNat 0)=true from h]
          exact ⟨[],hS,sR,⟨rfl,rfl,rfl,trivial⟩,rfl,sI,rfl,rfl,trivial⟩
        · rw [show (f.types.getD a.toNat 0==f.types.getD b.toNat 0)=false from h]
          exact ⟨sI,rfl,rfl,trivial⟩
  · have hA:=z0s u name
    have hT:=z1x u f set args seen [1]
    have hS:=z4a u f set outs [1] hs
    rw [show z1c u f set ⟨5,op,n,name,args,outs,params,kids⟩ seen wh=andS (decide (z0e name u.arrays 0 ≥ 0)&&z02 f.types seen args [1]) set (z1o f.types set outs [1]) from rfl]
    generalize z02 f.types seen args [1]=b at hT ⊢
    refine ⟨[],hA,sR,trivial,rfl,z00 (fun h=>?_) fun h=>?_⟩
    · rw [show decide (z0e name u.arrays 0 ≥ 0)=true from h]
      cases b with
      | true=>exact ⟨[3,4],hT,sR,⟨rfl,rfl,trivial,rfl,rfl,trivial⟩,rfl,[],hS,sR,⟨rfl,rfl,rfl,trivial⟩,rfl,sI,rfl,rfl,trivial⟩
      | false=>exact ⟨[3,4],hT,sR,⟨rfl,rfl,trivial,rfl,rfl,trivial⟩,rfl,sI,rfl,rfl,trivial⟩
    · rw [show decide (z0e name u.arrays 0 ≥ 0)=false from h]
      exact ⟨sI,rfl,rfl,trivial⟩
  · have hA:=z0s u name
    have hT:=z1x u f set args seen [1,1]
    rw [show z1c u f set ⟨6,op,n,name,args,outs,params,kids⟩ seen wh=(decide (z0e name u.arrays 0 ≥ 0)&&z02 f.types seen args [1,1]&&(outs.length:Int)==0,set) from rfl]
    generalize z02 f.types seen args [1,1]=b at hT ⊢
    refine ⟨[],hA,sR,trivial,rfl,z00 (fun h=>?_) fun h=>?_⟩
    · rw [show decide (z0e name u.arrays 0 ≥ 0)=true from h]
      cases b with
      | true=>exact ⟨[3,4],hT,sR,⟨rfl,rfl,trivial,rfl,rfl,trivial⟩,rfl,sE (by simp [Nd.outs]),rfl,rfl,trivial⟩
      | false=>exact ⟨[3,4],hT,sR,⟨rfl,rfl,trivial,rfl,rfl,trivial⟩,rfl,sI,rfl,rfl,trivial⟩
    · rw [show decide (z0e name u.arrays 0 ≥ 0)=false from h]
      exact ⟨sI,rfl,rfl,trivial⟩
  · have hP:=z4l u name
    rw [show z1c u f set ⟨7,op,n,name,args,outs,params,kids⟩ seen wh=z8t u f set ⟨7,op,n,name,args,outs,params,kids⟩ seen from rfl]
    cases hp:decide (z04 name u.flows 0 ≥ 0) with
    | true =>
      have h0:z04 name u.flows 0 ≥ 0:=by simpa using hp
      obtain ⟨g,hgk,_⟩:=z9e h0
      rw [show z8t u f set ⟨7,op,n,name,args,outs,params,kids⟩ seen=andS (z02 f.types seen args (g.types.take g.params.toNat)) set (z1o f.types set outs [g.ty]) from y4f h0 hgk]
      obtain ⟨g0,g1⟩:=hg g (List.mem_of_getElem? hgk)
      have hT:=z1x u f set args seen (g.types.take g.params.toNat)
      have hS:=z4a u f set outs [g.ty] hs
      have hi:=z06 (f:=Fl.enc) hgk
      generalize z02 f.types seen args (g.types.take g.params.toNat)=b at hT ⊢
      cases b with
      | true=>exact ⟨[],hP,sR,trivial,rfl,z00 (fun _=>⟨hi,by omega,hi,by omega,g.params.toNat,by omega,by omega,by simp;omega,z5j,[3,4],hT,SubA.same (SubA.same (SubA.same (SubA.cons (sE (by simp [ints])) sR))),⟨rfl,rfl,trivial,rfl,rfl,trivial⟩,rfl,hi,by omega,[],hS,sR,⟨rfl,rfl,rfl,trivial⟩,rfl,sI,rfl,rfl,trivial⟩) fun h=>absurd (hp.symm.trans h) dC0⟩
      | false=>exact ⟨[],hP,sR,trivial,rfl,z00 (fun _=>⟨hi,by omega,hi,by omega,g.params.toNat,by omega,by omega,by simp;omega,z5j,[3,4],hT,SubA.same (SubA.same (SubA.same (SubA.cons (sE (by simp [ints])) sR))),⟨rfl,rfl,trivial,rfl,rfl,trivial⟩,rfl,sI,rfl,rfl,trivial⟩) fun h=>absurd (hp.symm.trans h) dC0⟩
    | false =>
      rw [show z8t u f set ⟨7,op,n,name,args,outs,params,kids⟩ seen=(false,set) from y4e hp]
      exact ⟨[],hP,sR,trivial,rfl,z00 (fun h=>absurd (hp.symm.trans h) dC0) fun _=>⟨sI,rfl,rfl,trivial⟩⟩
  · have hT:=z1x u f set args seen [1]
    rw [show z1c u f set ⟨9,op,n,name,args,outs,params,kids⟩ seen wh=(z02 f.types seen args [1]&&(outs.length:Int)==0,set) from rfl]
    generalize z02 f.types seen args [1]=b at hT ⊢
    cases b with
    | true=>exact ⟨[3,4],hT,sR,⟨rfl,rfl,trivial,rfl,rfl,trivial⟩,rfl,sE (by simp [Nd.outs]),rfl,rfl,trivial⟩
    | false=>exact ⟨[3,4],hT,sR,⟨rfl,rfl,trivial,rfl,rfl,trivial⟩,rfl,sI,rfl,rfl,trivial⟩
  · have hS:=z4a u f set outs [1] hs
    rw [show z1c u f set ⟨8,op,n,name,args,outs,params,kids⟩ seen wh=andS ((args.length:Int)==0) set (z1o f.types set outs [1]) from rfl]
    refine z00 (fun h=>?_) fun h=>?_
    · rw [show ((args.length:Int)==0)=true by simpa [Nd.args] using h]
      exact ⟨[],hS,sR,⟨rfl,rfl,rfl,trivial⟩,rfl,sI,rfl,rfl,trivial⟩
    · rw [show ((args.length:Int)==0)=false by simpa [Nd.args] using h]
      exact ⟨sI,rfl,rfl,trivial⟩
  · obtain ⟨If,Loop,Yield,Next,Left⟩:=wh
    have hT:=z1x u f set args seen Yield
    rw [show z1c u f set ⟨12,op,n,name,args,outs,params,kids⟩ seen ⟨If,Loop,Yield,Next,Left⟩=(If&&z02 f.types seen args Yield&&(outs.length:Int)==0,set) from rfl]
    generalize z02 f.types seen args Yield=b at hT ⊢
    cases If with
    | true =>
      cases b with
      | true=>exact ⟨[3,4],hT,sR,⟨rfl,rfl,trivial,rfl,rfl,trivial⟩,rfl,sE (by simp [Nd.outs]),rfl,rfl,trivial⟩
      | false=>exact ⟨[3,4],hT,sR,⟨rfl,rfl,trivial,rfl,rfl,trivial⟩,rfl,sI,rfl,rfl,trivial⟩
    | false=>exact ⟨sI,rfl,rfl,trivial⟩
  · obtain ⟨If,Loop,Yield,Next,Left⟩:=wh
    have hT:=z1x u f set args seen Next
    rw [show z1c u f set ⟨13,op,n,name,args,outs,params,kids⟩ seen ⟨If,Loop,Yield,Next,Left⟩=(Loop&&z02 f.types seen args Next&&(outs.length:Int)==0,set) from rfl]
    generalize z02 f.types seen args Next=b at hT ⊢
    cases Loop with
    | true =>
      cases b with
      | true=>exact ⟨[3,4],hT,sR,⟨rfl,rfl,trivial,rfl,rfl,trivial⟩,rfl,sE (by simp [Nd.outs]),rfl,rfl,trivial⟩
      | false=>exact ⟨[3,4],hT,sR,⟨rfl,rfl,trivial,rfl,rfl,trivial⟩,rfl,sI,rfl,rfl,trivial⟩
    | false=>exact ⟨sI,rfl,rfl,trivial⟩
  · obtain ⟨If,Loop,Yield,Next,Left⟩:=wh
    have hT:=z1x u f set args seen Left
    rw [show z1c u f set ⟨14,op,n,name,args,outs,params,kids⟩ seen ⟨If,Loop,Yield,Next,Left⟩=(Loop&&z02 f.types seen args Left&&(outs.length:Int)==0,set) from rfl]
    generalize z02 f.types seen args Left=b at hT ⊢
    cases Loop with
    | true =>
      cases b with
      | true=>exact ⟨[3,4],hT,sR,⟨rfl,rfl,trivial,rfl,rfl,trivial⟩,rfl,sE (by simp [Nd.outs]),rfl,rfl,trivial⟩
      | false=>exact ⟨[3,4],hT,sR,⟨rfl,rfl,trivial,rfl,rfl,trivial⟩,rfl,sI,rfl,rfl,trivial⟩
    | false=>exact ⟨sI,rfl,rfl,trivial⟩
  · have hT:=z1x u f set args seen [f.ty]
    rw [show z1c u f set ⟨15,op,n,name,args,outs,params,kids⟩ seen wh=(z02 f.types seen args [f.ty]&&(outs.length:Int)==0,set) from rfl]
    generalize z02 f.types seen args [f.ty]=b at hT ⊢
    cases b with
    | true=>exact ⟨[3,4],hT,sR,⟨rfl,rfl,trivial,rfl,rfl,trivial⟩,rfl,sE (by simp [Nd.outs]),rfl,rfl,trivial⟩
    | false=>exact ⟨[3,4],hT,sR,⟨rfl,rfl,trivial,rfl,rfl,trivial⟩,rfl,sI,rfl,rfl,trivial⟩
  · obtain ⟨k1,k2,k3,k4,k5,k6,k7,k8,k9,k12,k13,k14,k15⟩:=hk
    have no:∀ {i:Int},kind≠i->(kind==i)=true->False:=fun h e=>h (eq_of_beq e)
    have ne:∀ {i:Int},kind≠i->(kind==i)=false:=fun h=>beq_eq_false_iff_ne.2 h
    rw [show z1c u f set ⟨kind,op,n,name,args,outs,params,kids⟩ seen wh=(false,set) by unfold z1c;simp only [Nd.kind,ne k1,ne k2,ne k3,ne k4,ne k5,ne k6,ne k7,ne k8,ne k9,ne k12,ne k13,ne k14,ne k15];rfl]
    exact z00 (fun h=>(no k1 h).elim) fun _=>z00 (fun h=>(no k2 h).elim) fun _=>z00 (fun h=>(no k3 h).elim) fun _=>z00 (fun h=>(no k4 h).elim) fun _=>z00 (fun h=>(no k5 h).elim) fun _=>z00 (fun h=>(no k6 h).elim) fun _=>z00 (fun h=>(no k7 h).elim) fun _=>z00 (fun h=>(no k8 h).elim) fun _=>z00 (fun h=>(no k9 h).elim) fun _=>z00 (fun h=>(no k12 h).elim) fun _=>z00 (fun h=>(no k13 h).elim) fun _=>z00 (fun h=>(no k14 h).elim) fun _=>z00 (fun h=>(no k15 h).elim) fun _=>⟨sI,rfl,rfl,trivial⟩
set_option maxRecDepth 20000
set_option maxHeartbeats 4000000
theorem yf9 (u:Un) (f:Fl) (hg:∀ g∈u.flows,0<=g.params/\g.params<=g.types.length) (x:Nd) (deep:Int) (hd:0<=deep/\deep<=100) (wh:Wh) (seen:List Int) (set:List Bool) (hs:set.length=f.types.length) (hb:seen.length+ndW x<=1073741824) (ih:∀ q∈x.kids,∀ (deep:Int) (w:Wh) (all:List Int) (set:List Bool),0<=deep/\deep<=101->set.length=f.types.length->all.length+lsW q<=1073741824->SC Tryz.prog 52 [.ptr 3 0,.pv (z0m q),.pv (ints all),.pv (whv w),iInt deep] (ckHp u f 4 set) (fun k=>k=3) (iBool (z1n u f deep w all set q).1) (ckHp u f 4 (z1n u f deep w all set q).2)):SC Tryz.prog 79 [.ptr 3 0,.pv (ndv x),.pv (ints seen),.pv (whv wh),iInt deep] (ckHp u f 4 set) (fun k=>k=3) (iBool (z2v u f deep wh seen set x).1) (ckHp u f 4 (z2v u f deep wh seen set x).2):=by
  refine SC.sameR (SC.vc tb { pb:=[182,213,252],gh:=[(15,[.fz 14 219])] } [3] Tryz.func79 rfl rfl ?_) fun k _ h=>List.mem_singleton.2 h
  have hbW:=z9t x
  have hbo:x.outs.length<=1073741824:=by omega
  have hbp:x.params.length<=1073741824:=by omega
  have hml:((x.outs.map eInt).length:Int)=x.outs.length:=by simp
  have hBare:=yf7 x
  cases hbr:z12 x with
  | false =>
    rw [hbr] at hBare
    rw [zb5 u f deep wh seen set hbr]
    exact ⟨[],hBare,sR,trivial,rfl,sI,rfl,rfl,trivial⟩
  | true =>
    rw [hbr] at hBare
    by_cases h10:x.kind=10
    · obtain ⟨a,b,hk⟩:=z2k hbr h10
      rw [zr1 u f deep wh seen set hbr h10 hk]
      have k0:(x.kids.map eKid)[0]? = some [z0m a]:=by rw [hk];rfl
      have k1:(x.kids.map eKid)[1]? = some [z0m b]:=by rw [hk];rfl
      have hkw:kdW x.kids=1+lsW a+(1+lsW b+0):=by rw [hk];rfl
      have hO:=y4s u f set x.outs hbo
      have hT:=z1x u f set x.args seen [2]
      generalize z02 f.types seen x.args [2]=tb at hT ⊢
      cases tb with
      | false=>exact ⟨[],hBare,sR,trivial,rfl,z00 (fun _=>⟨[3,4],hO,sR,⟨rfl,rfl,by decide,rfl,rfl,trivial⟩,rfl,[3,4],hT,sR,⟨rfl,rfl,trivial,rfl,rfl,trivial⟩,rfl,sI,rfl,rfl,trivial⟩) fun h=>absurd (beq_iff_eq.2 h10) (by rw [h];decide)⟩
      | true =>
        rw [if_pos rfl]
        have hA:=ih a (by rw [hk];exact .head _) (deep+1) ⟨true,wh.Loop,r8of f.types x.outs,wh.Next,wh.Left⟩ seen set oM0 hs oM0
        have hl1:=(z5r u f (deep+1) ⟨true,wh.Loop,r8of f.types x.outs,wh.Next,wh.Left⟩ seen set a).trans hs
        generalize z1n u f (deep+1) ⟨true,wh.Loop,r8of f.types x.outs,wh.Next,wh.Left⟩ seen set a=ra at hA hl1 ⊢
        obtain ⟨ba,s1⟩:=ra
        cases ba with
        | false=>exact ⟨[],hBare,sR,trivial,rfl,z00 (fun _=>⟨[3,4],hO,sR,⟨rfl,rfl,by decide,rfl,rfl,trivial⟩,rfl,[3,4],hT,sR,⟨rfl,rfl,trivial,rfl,rfl,trivial⟩,rfl,k0,rfl,z03 rfl oM0,[],hA,sR,⟨rfl,rfl,rfl,trivial⟩,rfl,sI,rfl,rfl,trivial⟩) fun h=>absurd (beq_iff_eq.2 h10) (by rw [h];decide)⟩
        | true =>
          unfold andT
          rw [if_pos rfl]
          dsimp only at hl1
          have hB:=ih b (by rw [hk];exact .tail _ (.head _)) (deep+1) ⟨true,wh.Loop,r8of f.types x.outs,wh.Next,wh.Left⟩ seen s1 oM0 hl1 oM0
          have hl2:=(z5r u f (deep+1) ⟨true,wh.Loop,r8of f.types x.outs,wh.Next,wh.Left⟩ seen s1 b).trans hl1
          dsimp only
          generalize z1n u f (deep+1) ⟨true,wh.Loop,r8of f.types x.outs,wh.Next,wh.Left⟩ seen s1 b=rb at hB hl2 ⊢
          obtain ⟨bb,s2⟩:=rb
          cases bb with
          | false=>exact ⟨[],hBare,sR,trivial,rfl,z00 (fun _=>⟨[3,4],hO,sR,⟨rfl,rfl,by decide,rfl,rfl,trivial⟩,rfl,[3,4],hT,sR,⟨rfl,rfl,trivial,rfl,rfl,trivial⟩,rfl,k0,rfl,z03 rfl oM0,[],hA,sR,⟨rfl,rfl,rfl,trivial⟩,rfl,k1,rfl,z03 rfl oM0,[],hB,sR,⟨rfl,rfl,rfl,trivial⟩,rfl,sI,rfl,rfl,trivial⟩) fun h=>absurd (beq_iff_eq.2 h10) (by rw [h];decide)⟩
          | true =>
            rw [if_pos rfl]
            dsimp only at hl2 ⊢
            have hE:=z4a u f s2 x.outs (List.replicate x.outs.length 0) hl2
            have hC:=z4g x
            unfold z9o
            generalize z01 x=cl at hC ⊢
            cases ho:((x.outs.length:Int)==0) with
            | true=>exact ⟨[],hBare,sR,trivial,rfl,z00 (fun _=>⟨[3,4],hO,sR,⟨rfl,rfl,by decide,rfl,rfl,trivial⟩,rfl,[3,4],hT,sR,⟨rfl,rfl,trivial,rfl,rfl,trivial⟩,rfl,k0,rfl,z03 rfl oM0,[],hA,sR,⟨rfl,rfl,rfl,trivial⟩,rfl,k1,rfl,z03 rfl oM0,[],hB,sR,⟨rfl,rfl,rfl,trivial⟩,rfl,z00 (fun _=>⟨rfl,rfl,by simp;omega,[],hE,SubA.same (SubA.same (SubA.cons (sE (by simp [ints,eInt];exact .inr rfl)) sR)),⟨rfl,rfl,rfl,trivial⟩,rfl,sI,rfl,rfl,trivial⟩) fun h=>absurd (ho.symm.trans (show ((x.outs.length:Int)==0)=false by rw [hml] at h;exact h)) dC0⟩) fun h=>absurd (beq_iff_eq.2 h10) (by rw [h];decide)⟩
            | false =>
              cases cl with
              | true=>exact ⟨[],hBare,sR,trivial,rfl,z00 (fun _=>⟨[3,4],hO,sR,⟨rfl,rfl,by decide,rfl,rfl,trivial⟩,rfl,[3,4],hT,sR,⟨rfl,rfl,trivial,rfl,rfl,trivial⟩,rfl,k0,rfl,z03 rfl oM0,[],hA,sR,⟨rfl,rfl,rfl,trivial⟩,rfl,k1,rfl,z03 rfl oM0,[],hB,sR,⟨rfl,rfl,rfl,trivial⟩,rfl,z00 (fun h=>absurd (ho.symm.trans (show ((x.outs.length:Int)==0)=true by rw [hml] at h;exact h)) dC0) fun _=>⟨[],hC,sR,trivial,rfl,sI,rfl,rfl,trivial⟩⟩) fun h=>absurd (beq_iff_eq.2 h10) (by rw [h];decide)⟩
              | false=>exact ⟨[],hBare,sR,trivial,rfl,z00 (fun _=>⟨[3,4],hO,sR,⟨rfl,rfl,by decide,rfl,rfl,trivial⟩,rfl,[3,4],hT,sR,⟨rfl,rfl,trivial,rfl,rfl,trivial⟩,rfl,k0,rfl,z03 rfl oM0,[],hA,sR,⟨rfl,rfl,rfl,trivial⟩,rfl,k1,rfl,z03 rfl oM0,[],hB,sR,⟨rfl,rfl,rfl,trivial⟩,rfl,z00 (fun h=>absurd (ho.symm.trans (show ((x.outs.length:Int)==0)=true by rw [hml] at h;exact h)) dC0) fun _=>⟨[],hC,sR,trivial,rfl,rfl,rfl,by simp;omega,[],hE,SubA.same (SubA.same (SubA.cons (sE (by simp [ints,eInt];exact .inr rfl)) sR)),⟨rfl,rfl,rfl,trivial⟩,rfl,sI,rfl,rfl,trivial⟩⟩) fun h=>absurd (beq_iff_eq.2 h10) (by rw [h];decide)⟩
    by_cases h11:x.kind=11
    · obtain ⟨a,hk⟩:=z1m hbr h11
      rw [zb6 u f deep wh seen set hbr h11 hk]
      have k0:(x.kids.map eKid)[0]? = some [z0m a]:=by rw [hk];rfl
      have hkw:kdW x.kids=1+lsW a+0:=by rw [hk];rfl
      have hP:=y4s u f set x.params hbp
      have hO:=y4s u f set x.outs hbo
      have hT:=z1x u f set x.args seen (r8of f.types x.params)
      generalize z02 f.types seen x.args (r8of f.types x.params)=tb at hT ⊢
      cases tb with
      | false=>exact ⟨[],hBare,sR,trivial,rfl,z00 (fun h=>absurd (eq_of_beq h) h10) fun _=>z00 (fun _=>⟨[3,4],hP,sR,⟨rfl,rfl,by decide,rfl,rfl,trivial⟩,rfl,[3,4],hO,sR,⟨rfl,rfl,by decide,rfl,rfl,trivial⟩,rfl,[3,4],hP,sR,⟨rfl,rfl,by decide,rfl,rfl,trivial⟩,rfl,[3,4],hT,sR,⟨rfl,rfl,trivial,rfl,rfl,trivial⟩,rfl,sI,rfl,rfl,trivial⟩) fun h=>absurd (beq_iff_eq.2 h11) (by rw [h];decide)⟩
      | true =>
        rw [if_pos rfl]
        have hS:=z4a u f set x.params (List.replicate x.params.length 0) hs
        have hl1:=(z5s f.types set x.params (List.replicate x.params.length 0)).trans hs
        generalize z1o f.types set x.params (List.replicate x.params.length 0)=rs at hS hl1 ⊢
        obtain ⟨bs,s1⟩:=rs
        cases bs with
        | false=>exact ⟨[],hBare,sR,trivial,rfl,z00 (fun h=>absurd (eq_of_beq h) h10) fun _=>z00 (fun _=>⟨[3,4],hP,sR,⟨rfl,rfl,by decide,rfl,rfl,trivial⟩,rfl,[3,4],hO,sR,⟨rfl,rfl,by decide,rfl,rfl,trivial⟩,rfl,[3,4],hP,sR,⟨rfl,rfl,by decide,rfl,rfl,trivial⟩,rfl,[3,4],hT,sR,⟨rfl,rfl,trivial,rfl,rfl,trivial⟩,rfl,rfl,rfl,by simp;omega,[],hS,SubA.same (SubA.same (SubA.cons (sE (by simp [ints,eInt];exact .inr rfl)) sR)),⟨rfl,rfl,rfl,trivial⟩,rfl,sI,rfl,rfl,trivial⟩) fun h=>absurd (beq_iff_eq.2 h11) (by rw [h];decide)⟩
        | true =>
          unfold andT
          rw [if_pos rfl]
          dsimp only at hl1
          have hA:=ih a (by rw [hk];exact .head _) (deep+1) ⟨false,true,[],r8of f.types x.params,r8of f.types x.outs⟩ (seen++x.params) s1 oM0 hl1 (by simp;omega)
          have hl2:=(z5r u f (deep+1) ⟨false,true,[],r8of f.types x.params,r8of f.types x.outs⟩ (seen++x.params) s1 a).trans hl1
          dsimp only
          generalize z1n u f (deep+1) ⟨false,true,[],r8of f.types x.params,r8of f.types x.outs⟩ (seen++x.params) s1 a=ra at hA hl2 ⊢
          obtain ⟨ba,s2⟩:=ra
          cases ba with
          | false=>exact ⟨[],hBare,sR,trivial,rfl,z00 (fun h=>absurd (eq_of_beq h) h10) fun _=>z00 (fun _=>⟨[3,4],hP,sR,⟨rfl,rfl,by decide,rfl,rfl,trivial⟩,rfl,[3,4],hO,sR,⟨rfl,rfl,by decide,rfl,rfl,trivial⟩,rfl,[3,4],hP,sR,⟨rfl,rfl,by decide,rfl,rfl,trivial⟩,rfl,[3,4],hT,sR,⟨rfl,rfl,trivial,rfl,rfl,trivial⟩,rfl,rfl,rfl,by simp;omega,[],hS,SubA.same (SubA.same (SubA.cons (sE (by simp [ints,eInt];exact .inr rfl)) sR)),⟨rfl,rfl,rfl,trivial⟩,rfl,rfl,zt7 (fun _ _=>⟨rfl,fun y hy=>by simp [eInt] at hy;subst hy;rfl⟩),by simp;omega,rfl,zt7 (fun _ _=>⟨rfl,fun y hy=>by simp [eInt] at hy;subst hy;rfl⟩),by simp;omega,by simp,k0,rfl,z03 rfl oM0,[],hA,SubA.same (SubA.same (SubA.cons (sE (by simp [ints])) (SubA.cons (sP (PSub.agg (And.intro (PSub.refl _) (And.intro (PSub.refl _) (And.intro PSub.nil (And.intro (PSub.refl _) (And.intro (PSub.refl _) trivial))))))) sR))),⟨rfl,rfl,rfl,trivial⟩,rfl,sI,rfl,rfl,trivial⟩) fun h=>absurd (beq_iff_eq.2 h11) (by rw [h];decide)⟩
          | true =>
            rw [if_pos rfl]
            dsimp only at hl2 ⊢
            have hE:=z4a u f s2 x.outs (List.replicate x.outs.length 0) hl2
            have hC:=z4g x
            unfold z9o
            generalize z01 x=cl at hC ⊢
            cases ho:((x.outs.length:Int)==0) with
            | true=>exact ⟨[],hBare,sR,trivial,rfl,z00 (fun h=>absurd (eq_of_beq h) h10) fun _=>z00 (fun _=>⟨[3,4],hP,sR,⟨rfl,rfl,by decide,rfl,rfl,trivial⟩,rfl,[3,4],hO,sR,⟨rfl,rfl,by decide,rfl,rfl,trivial⟩,rfl,[3,4],hP,sR,⟨rfl,rfl,by decide,rfl,rfl,trivial⟩,rfl,[3,4],hT,sR,⟨rfl,rfl,trivial,rfl,rfl,trivial⟩,rfl,rfl,rfl,by simp;omega,[],hS,SubA.same (SubA.same (SubA.cons (sE (by simp [ints,eInt];exact .inr rfl)) sR)),⟨rfl,rfl,rfl,trivial⟩,rfl,rfl,zt7 (fun _ _=>⟨rfl,fun y hy=>by simp [eInt] at hy;subst hy;rfl⟩),by simp;omega,rfl,zt7 (fun _ _=>⟨rfl,fun y hy=>by simp [eInt] at hy;subst hy;rfl⟩),by simp;omega,by simp,k0,rfl,z03 rfl oM0,[],hA,SubA.same (SubA.same (SubA.cons (sE (by simp [ints])) (SubA.cons (sP (PSub.agg (And.intro (PSub.refl _) (And.intro (PSub.refl _) (And.intro PSub.nil (And.intro (PSub.refl _) (And.intro (PSub.refl _) trivial))))))) sR))),⟨rfl,rfl,rfl,trivial⟩,rfl,z00 (fun _=>⟨rfl,rfl,by simp;omega,[],hE,SubA.same (SubA.same (SubA.cons (sE (by simp [ints,eInt];exact .inr rfl)) sR)),⟨rfl,rfl,rfl,trivial⟩,rfl,sI,rfl,rfl,trivial⟩) fun h=>absurd (ho.symm.trans (show ((x.outs.length:Int)==0)=false by rw [hml] at h;exact h)) dC0⟩) fun h=>absurd (beq_iff_eq.2 h11) (by rw [h];decide)⟩
            | false =>
              cases cl with
              | true=>exact ⟨[],hBare,sR,trivial,rfl,z00 (fun h=>absurd (eq_of_beq h) h10) fun _=>z00 (fun _=>⟨[3,4],hP,sR,⟨rfl,rfl,by decide,rfl,rfl,trivial⟩,rfl,[3,4],hO,sR,⟨rfl,rfl,by decide,rfl,rfl,trivial⟩,rfl,[3,4],hP,sR,⟨rfl,rfl,by decide,rfl,rfl,trivial⟩,rfl,[3,4],hT,sR,⟨rfl,rfl,trivial,rfl,rfl,trivial⟩,rfl,rfl,rfl,by simp;omega,[],hS,SubA.same (SubA.same (SubA.cons (sE (by simp [ints,eInt];exact .inr rfl)) sR)),⟨rfl,rfl,rfl,trivial⟩,rfl,rfl,zt7 (fun _ _=>⟨rfl,fun y hy=>by simp [eInt] at hy;subst hy;rfl⟩),by simp;omega,rfl,zt7 (fun _ _=>⟨rfl,fun y hy=>by simp [eInt] at hy;subst hy;rfl⟩),by simp;omega,by simp,k0,rfl,z03 rfl oM0,[],hA,SubA.same (SubA.same (SubA.cons (sE (by simp [ints])) (SubA.cons (sP (PSub.agg (And.intro (PSub.refl _) (And.intro (PSub.refl _) (And.intro PSub.nil (And.intro (PSub.refl _) (And.intro (PSub.refl _) trivial))))))) sR))),⟨rfl,rfl,rfl,trivial⟩,rfl,z00 (fun h=>absurd (ho.symm.trans (show ((x.outs.length:Int)==0)=true by rw [hml] at h;exact h)) dC0) fun _=>⟨[],hC,sR,trivial,rfl,sI,rfl,rfl,trivial⟩⟩) fun h=>absurd (beq_iff_eq.2 h11) (by rw [h];decide)⟩
              | false=>exact ⟨[],hBare,sR,trivial,rfl,z00 (fun h=>absurd (eq_of_beq h) h10) fun _=>z00 (fun _=>⟨[3,4],hP,sR,⟨rfl,rfl,by decide,rfl,rfl,trivial⟩,rfl,[3,4],hO,sR,⟨rfl,rfl,by decide,rfl,rfl,trivial⟩,rfl,[3,4],hP,sR,⟨rfl,rfl,by decide,rfl,rfl,trivial⟩,rfl,[3,4],hT,sR,⟨rfl,rfl,trivial,rfl,rfl,trivial⟩,rfl,rfl,rfl,by simp;omega,[],hS,SubA.same (SubA.same (SubA.cons (sE (by simp [ints,eInt];exact .inr rfl)) sR)),⟨rfl,rfl,rfl,trivial⟩,rfl,rfl,zt7 (fun _ _=>⟨rfl,fun y hy=>by simp [eInt] at hy;subst hy;rfl⟩),by simp;omega,rfl,zt7 (fun _ _=>⟨rfl,fun y hy=>by simp [eInt] at hy;subst hy;rfl⟩),by simp;omega,by simp,k0,rfl,z03 rfl oM0,[],hA,SubA.same (SubA.same (SubA.cons (sE (by simp [ints])) (SubA.cons (sP (PSub.agg (And.intro (PSub.refl _) (And.intro (PSub.refl _) (And.intro PSub.nil (And.intro (PSub.refl _) (And.intro (PSub.refl _) trivial))))))) sR))),⟨rfl,rfl,rfl,trivial⟩,rfl,z00 (fun h=>absurd (ho.symm.trans (show ((x.outs.length:Int)==0)=true by rw [hml] at h;exact h)) dC0) fun _=>⟨[],hC,sR,trivial,rfl,rfl,rfl,by simp;omega,[],hE,SubA.same (SubA.same (SubA.cons (sE (by simp [ints,eInt];exact .inr rfl)) sR)),⟨rfl,rfl,rfl,trivial⟩,rfl,sI,rfl,rfl,trivial⟩⟩) fun h=>absurd (beq_iff_eq.2 h11) (by rw [h];decide)⟩
    · have e10:(x.kind==10)=false:=by simpa using h10
      have e11:(x.kind==11)=false:=by simpa using h11
      have no:∀ {i:Int},x.kind≠i->(x.kind==i)=true->False:=fun h e=>h (eq_of_beq e)
      rw [z7p u f deep wh seen set hbr e10 e11]
      exact ⟨[],hBare,sR,trivial,rfl,z00 (fun h=>(no h10 h).elim) fun _=>z00 (fun h=>(no h11 h).elim) fun _=>⟨[],y4t u f set hs hg x seen wh,sR,⟨rfl,rfl,rfl,trivial⟩,rfl,sI,rfl,rfl,trivial⟩⟩
theorem y0l (N:Nat):∀ (u:Un) (f:Fl) (hg:∀ g∈u.flows,0<=g.params/\g.params<=g.types.length) (l:List Nd) (deep:Int) (wh:Wh) (all:List Int) (set:List Bool) (hd:0<=deep/\deep<=101) (hs:set.length=f.types.length) (hb:all.length+lsW l<=1073741824),SizeOf.sizeOf l<N->SC Tryz.prog 52 [.ptr 3 0,.pv (z0m l),.pv (ints all),.pv (whv wh),iInt deep] (ckHp u f 4 set) (fun k=>k=3) (iBool (z1n u f deep wh all set l).1) (ckHp u f 4 (z1n u f deep wh all set l).2):=by
  induction N with
  | zero=>intro u f hg l deep wh all set hd hs hb hN;exact absurd hN (Nat.not_lt_zero _)
  | succ N ih =>
    intro u f hg l deep wh all set hd hs hb hN
    refine SC.of Tryz.func52 rfl (lb rfl) fun F ρ w=>?_
    refine Tr.lenOf (t:=1) rfl (fun hl=>?_)
    simp only [List.length_map] at hl
    refine tQ <| tG <| cE rfl (z3y rfl rfl) <| sm 1 rfl <| nL <| tQ <| tG <| sm 1 rfl <| nL <| tQ <| Tr.grow (t:=11) (k:=111) ⟨3,1⟩ rfl rfl rfl rfl rfl <| tG ?_
    refine sm 2 rfl ?_
    refine cE rfl (aPp rfl rfl rfl rfl (by rfl) sI0 uT35 tB3 dC0 (z5j) (z5n) (by simp [maxLen,z0c];omega) (by simp [z0c];omega)) ?_
    refine sm 1 rfl <| nL <| tQ <| tQ <| tG <| sm 1 rfl <| nL <| tBk <| Tr.sub (Sub.of (fr':=[(12,iInt 0),(11,.sl 111 all.length),(8,.pv (.ept [vBool wh.If,vBool wh.Loop,ints wh.Yield,ints wh.Next,ints wh.Left] 0)),(0,.ptr 3 0),(1,.pv (z0m l)),(4,iInt deep)]) ⟨rfl,congrArg (fun z=>some (IV.sl 111 z)) sI0,rfl,rfl,rfl,rfl,trivial⟩) <| Tr.heap (σ':=look ((111,some (.row ⟨3,1⟩ (all.map eInt)))::up (ckHp u f 4 set))) (fun _=>congrFun za9 _) ?_
    refine Tr.loop (fun fr σ m=>∃ (k:Nat) (al:List Int) (st:List Bool),(k<=l.length)/\(r8go u f deep wh all set l=r8go u f deep wh al st (l.drop k))/\(st.length=f.types.length)/\(al.length+lsW (l.drop k)<=1073741824)/\fr=[(12,iInt k),(11,.sl 111 al.length),(8,.pv (.ept [vBool wh.If,vBool wh.Loop,ints wh.Yield,ints wh.Next,ints wh.Left] 0)),(0,.ptr 3 0),(1,.pv (z0m l)),(4,iInt deep)] /\ σ = look ((111,some (.row ⟨3,1⟩ (al.map eInt)))::up (ckHp u f 4 st))/\m=l.length - k) (n:=l.length - 0) ?_ ?_
    ·exact ⟨0,all,set,Nat.zero_le _,rfl,hs,hb,rfl,rfl,rfl⟩
    rintro fr σ m ⟨k,al,st,hI0,hI1,hI2,hI3,rfl,rfl,rfl⟩
    refine tQ <| tQ <| tG <| sm 2 rfl <| cV rfl (oSm uT43 rfl) <| sm 1 rfl <| nL ?_
    refine tC rfl (fun hc19=>?_) fun hc19=>?_
    ·have hlt:k<l.length:=by simpa using hc19
     have hd2:=List.drop_eq_getElem_cons hlt
     have hm:=List.getElem_mem hlt
     have hi:=z08 (List.getElem?_eq_getElem hlt)
     generalize l[k]=x at hd2 hm hi
     have hxo:x.outs.length<=ndW x:=by have:=z9t x;omega
     have hbn:al.length+ndW x<=1073741824:=by rw [hd2] at hI3;simp only [lsW] at hI3;omega
     refine tSk <| tQ <| tBk <| tQ <| tQ <| tDr zd9 (fun k=>k∈([3]:List Nat)) <| wR 16 [0,1,2,3,4,5,6,7,8,9,10] kR0 h30 <| smR 3 rfl ?_
     refine WR.split (t:=24) rfl (fun hb24=>?_) (fun hb24=>?_)
     ·refine smR 8 rfl <| nR <| wN 11 kR0 h30 rfl rfl rfl <| wR 3 [12,13,14,15,16,17,18,20,21,22,23,24] kR0 h30 <| smR 12 rfl <| nR <| wN 19 kR0 h30 rfl rfl rfl <| wR 0 [25,26] kR0 h30 <| smR 2 rfl <| nR <| wDn kR0 <| Tr.condT rfl ?_
      refine tQ <| tG <| sm 1 rfl <| nL <| tRt ?_
      (have h2:z1n u f deep wh all set l=(false,st):=by
         rw [zr0 hlt,hI1,hd2]
         unfold r8go
         rw [if_pos (by simpa using hb24)]
       rw [h2]
       exact rOk rfl rfl (po2 rfl rfl))
     refine smR 3 rfl <| ryV rfl rfl rfl (iSq rfl rfl rfl uT43 hi tS42 rfl (by rfl)) <| ryV rfl rfl rfl (lEA rfl rfl uT42 rfl tS42 (lb rfl)) <| smR 1 rfl <| ryV rfl rfl rfl (lEA rfl rfl Tryz.underlying90 rfl tS90 (lb rfl)) <| smR 1 rfl <| nR <| wO 11 kR0 <| wY rfl rfl rfl (fun k (h:_)=>by (simp at h ⊢;omega)) (nAp rfl) (fun _ _=>y4a (fun k=>k=111) (yf9 u f hg x deep ⟨hd.1,by simp at hb24;omega⟩ wh al st hI2 hbn (fun q hq deep w all set hd hs hb=>ih u f hg q deep w all set hd hs hb (Nat.lt_of_lt_of_le (z5k hm rfl hq) (Nat.le_of_lt_succ hN)))) ent79 rfl rfl (sRf _ _) (And.intro LendOf.same (And.intro LendOf.same (And.intro (LendOf.row rfl rfl (by (simp;done)) (by rfl)) (And.intro LendOf.same (And.intro LendOf.same (trivial)))))) (fun k h=>by subst h;rfl) (po2 rfl rfl) rfl (fun k (h:_)=>by (simp only [List.mem_cons,List.not_mem_nil,or_false] at h;rcases h with rfl<;>first | exact .inl rfl | exact .inr rfl | exact .inr dC0)) ⟨_,rfl⟩ (y9d (z7o ..))) <| wR 3 [12,13,14,15,16,17,18,20,21,22,23,24] kR0 h30 <| smR 3 rfl ?_
     refine WR.split (t:=36) rfl (fun hb36=>?_) (fun hb36=>?_)
     ·refine smR 9 rfl <| nR <| wN 19 kR0 h30 rfl rfl rfl <| wR 0 [25,26] kR0 h30 <| smR 2 rfl <| nR <| wDn kR0 <| Tr.condT rfl <| tQ <| tG <| sm 1 rfl <| nL ?_
      refine tRt ?_
      (have h2:z1n u f deep wh all set l=(false,(z2v u f deep wh al st x).2):=by
         rw [zr0 hlt,hI1,hd2]
         unfold r8go
         rw [if_neg (by simpa using hb24)]
         have hn1:(z2v u f deep wh al st x).1=false:=by simpa using hb36
         simp [andT,hn1]
       rw [h2]
       exact rOk rfl rfl (po2 rfl rfl))
     refine smR 2 rfl <| ryV rfl rfl rfl (iSq rfl rfl rfl uT43 hi tS42 rfl (by rfl)) <| ryV rfl rfl rfl (lEA rfl rfl uT42 rfl tS42 (lb rfl)) <| smR 2 rfl <| ryV rfl rfl rfl (oSm uT43 rfl) <| ryV rfl rfl rfl (oB rfl rfl (z2f rfl oM0)) <| smR 1 rfl <| nR <| wO 19 kR0 <| wY rfl rfl rfl (fun k (h:_)=>by (simp at h ⊢;omega)) nw (fun _ _=>ocq (z4g _) y9s rfl rfl) <| wR 0 [25,26] kR0 h30 <| ryV rfl rfl rfl (zb1 rfl rfl rfl Tryz.underlying4) ?_
     refine smR 1 rfl <| nR <| wDn kR0 ?_
     refine tC rfl (fun hc48=>?_) fun hc48=>?_
     ·refine tQ <| tG <| sm 1 rfl <| nL <| tRt ?_
      (have h2:z1n u f deep wh all set l=(false,(z2v u f deep wh al st x).2):=by
         rw [zr0 hlt,hI1,hd2]
         unfold r8go
         rw [if_neg (by simpa using hb24)]
         have hn1:(z2v u f deep wh al st x).1=true:=by simpa using hb36
         have hcl:(z01 x != (l.drop (k+1)).isEmpty)=true:=by rw [z6l hlt];simpa using hc48
         simp [andT,hn1,hcl]
       rw [h2]
       exact rOk rfl rfl (po2 rfl rfl))
     refine tSk <| tG <| sm 3 rfl <| cV rfl (iSq rfl rfl rfl uT43 hi tS42 rfl (by rfl)) <| sm 2 rfl ?_
     refine cE rfl (aPp rfl rfl rfl rfl (by (simp;done)) sI0 uT35 tB3 dC0 (z5j) (z5n) (by simp [maxLen,z0c];omega) (by simp [z0c];omega)) ?_
     refine sm 1 rfl <| nL <| tG <| sm 1 rfl <| cV rfl (oB rfl rfl (z03 rfl oM0)) <| sm 1 rfl <| nL ?_
     refine ⟨_,_,?_,Sub.of (fr':=[(12,iInt (k+1)),(11,.sl 111 (al++x.outs).length),(8,.pv (.ept [vBool wh.If,vBool wh.Loop,ints wh.Yield,ints wh.Next,ints wh.Left] 0)),(0,.ptr 3 0),(1,.pv (z0m l)),(4,iInt deep)]) ⟨rfl,congrArg (fun z=>some (IV.sl 111 z)) sI0,rfl,rfl,rfl,rfl,trivial⟩,(k+1),(al++x.outs),(z2v u f deep wh al st x).2,?_,?_,?_,?_,rfl,ck_row',rfl⟩
     ·omega
     ·omega
     ·rw [hI1,hd2]
      have hn1:(z2v u f deep wh al st x).1=true:=by simpa using hb36
      have hcl:(z01 x != (l.drop (k+1)).isEmpty)=false:=by rw [z6l hlt];simpa using hc48
      have hdp:¬ deep > 100:=by simpa using hb24
      conv=>lhs;unfold r8go
      simp only [if_neg hdp,andT,hn1,hcl,if_true]
      rfl
     ·exact (z7o ..).trans hI2
     rw [hd2] at hI3;have hWx:=z9t x;simp only [lsW] at hI3;simp only [List.length_append];omega
    refine tEx <| tQ <| tG <| sm 1 rfl <| cV rfl (oSm uT43 rfl) <| sm 2 rfl <| nL <| tRt ?_
    have hge:l.length<=k:=by simpa using hc19
    have hgo:r8go u f deep wh all set l=(true,st):=by rw [hI1,List.drop_eq_nil_of_le hge];simp [r8go]
    have h2:(z1n u f deep wh all set l)=(decide ((l.length:Int) > 0),st):=by
      unfold z1n ne
      rw [hgo]
      cases l<;>simp<;>omega
    rw [h2]
    exact rOk rfl rfl (po2 rfl rfl)
theorem yf8 (u:Un) (f:Fl) (hg:∀ g∈u.flows,0<=g.params/\g.params<=g.types.length) (l:List Nd) (deep:Int) (wh:Wh) (all:List Int) (set:List Bool) (hd:0<=deep/\deep<=101) (hs:set.length=f.types.length) (hb:all.length+lsW l<=1073741824):SC Tryz.prog 52 [.ptr 3 0,.pv (z0m l),.pv (ints all),.pv (whv wh),iInt deep] (ckHp u f 4 set) (fun k=>k=3) (iBool (z1n u f deep wh all set l).1) (ckHp u f 4 (z1n u f deep wh all set l).2):=y0l _ u f hg l deep wh all set hd hs hb (Nat.lt_succ_self _)
set_option maxRecDepth 20000
set_option maxHeartbeats 2000000
theorem zr9 (n:Int):SC Tryz.prog 76 [.pv (vU8 n)] [] (fun _=>False) (iBool (z6n n)) []:=by
  refine SC.anyR (SC.vc tb {} [] Tryz.func76 rfl rfl ?_)
  unfold z6n
  refine z00 (fun h1=>z00 (fun h2=>⟨sE (by rw [h1,h2];rfl),trivial⟩) fun h2=>?_) fun h1=>?_
  · refine z00 (fun h3=>z00 (fun h4=>⟨sE (by rw [h1,h2,h3,h4];rfl),trivial⟩) fun h4=>⟨sE (by rw [h1,h2,h3,h4];rfl),trivial⟩) fun h3=>⟨sE (by rw [h1,h2,h3];rfl),trivial⟩
  · refine z00 (fun h3=>z00 (fun h4=>⟨sE (by rw [h1,h3,h4];rfl),trivial⟩) fun h4=>⟨sE (by rw [h1,h3,h4];rfl),trivial⟩) fun h3=>⟨sE (by rw [h1,h3];rfl),trivial⟩
theorem y86 (n:Int):SC Tryz.prog 78 [.pv (vU8 n)] [] (fun _=>False) (iBool (za5 n)) []:=by
  refine SC.anyR (SC.vc tb {} [] Tryz.func78 rfl rfl ?_)
  unfold za5
  exact z00 (fun h1=>⟨sE (by rw [h1];rfl),trivial⟩) fun h1=>⟨sE (by rw [h1];rfl),trivial⟩
theorem yf5 (s:ByteArray):SC Tryz.prog 77 [iStr s] [] (fun _=>False) (iBool (z1e s)) []:=by
  refine SC.anyR (SC.vc tb {} [] Tryz.func77 rfl rfl ?_)
  have N:∀ {b:Bool} {P:Prop},b=true->b=false->P:=fun h g=>by rw [h] at g;cases g
  have T:∀ {b:Bool},b=true->SubI (iBool true) (iBool b):=fun h=>sE (by rw [h])
  exact z00 (fun h=>z00 (fun _=>⟨T (by unfold z1e;rw [h];simp only [Bool.or_true,Bool.true_or]),trivial⟩) fun g=>N h g) fun h1=>z00 (fun h=>z00 (fun _=>⟨T (by unfold z1e;rw [h];simp only [Bool.or_true,Bool.true_or]),trivial⟩) fun g=>N h g) fun h2=>z00 (fun h=>z00 (fun _=>⟨T (by unfold z1e;rw [h];simp only [Bool.or_true,Bool.true_or]),trivial⟩) fun g=>N h g) fun h3=>z00 (fun h=>z00 (fun _=>⟨T (by unfold z1e;rw [h];simp only [Bool.or_true,Bool.true_or]),trivial⟩) fun g=>N h g) fun h4=>z00 (fun h=>z00 (fun _=>⟨T (by unfold z1e;rw [h];simp only [Bool.or_true,Bool.true_or]),trivial⟩) fun g=>N h g) fun h5=>z00 (fun h=>z00 (fun _=>⟨T (by unfold z1e;rw [h];simp only [Bool.or_true,Bool.true_or]),trivial⟩) fun g=>N h g) fun h6=>z00 (fun h=>z00 (fun _=>⟨T (by unfold z1e;rw [h];simp only [Bool.or_true,Bool.true_or]),trivial⟩) fun g=>N h g) fun h7=>z00 (fun h=>z00 (fun _=>⟨T (by unfold z1e;rw [h];simp only [Bool.or_true,Bool.true_or]),trivial⟩) fun g=>N h g) fun h8=>z00 (fun h=>z00 (fun _=>⟨T (by unfold z1e;rw [h];simp only [Bool.or_true,Bool.true_or]),trivial⟩) fun g=>N h g) fun h9=>z00 (fun h=>z00 (fun _=>⟨T (by unfold z1e;rw [h];simp only [Bool.or_true,Bool.true_or]),trivial⟩) fun g=>N h g) fun h10=>z00 (fun h=>z00 (fun _=>⟨T (by unfold z1e;rw [h];simp only [Bool.or_true,Bool.true_or]),trivial⟩) fun g=>N h g) fun h11=>z00 (fun h=>z00 (fun _=>⟨T (by unfold z1e;rw [h];simp only [Bool.or_true,Bool.true_or]),trivial⟩) fun g=>N h g) fun h12=>z00 (fun h=>z00 (fun _=>⟨T (by unfold z1e;rw [h];simp only [Bool.or_true,Bool.true_or]),trivial⟩) fun g=>N h g) fun h13=>z00 (fun h=>z00 (fun _=>⟨T (by unfold z1e;rw [h];simp only [Bool.or_true,Bool.true_or]),trivial⟩) fun g=>N h g) fun h14=>z00 (fun h=>z00 (fun _=>⟨T (by unfold z1e;rw [h];simp only [Bool.or_true,Bool.true_or]),trivial⟩) fun g=>N h g) fun h15=>z00 (fun h=>z00 (fun _=>⟨T (by unfold z1e;rw [h];simp only [Bool.or_true,Bool.true_or]),trivial⟩) fun g=>N h g) fun h16=>z00 (fun h=>z00 (fun _=>⟨T (by unfold z1e;rw [h];simp only [Bool.or_true,Bool.true_or]),trivial⟩) fun g=>N h g) fun h17=>z00 (fun h=>⟨T (by unfold z1e;rw [h];simp only [Bool.or_true,Bool.true_or]),trivial⟩) fun h18=>⟨sE (by unfold z1e;rw [h1,h2,h3,h4,h5,h6,h7,h8,h9,h10,h11,h12,h13,h14,h15,h16,h17,h18];rfl),trivial⟩
theorem y2n (s:ByteArray):SC Tryz.prog 50 [iStr s] [] (fun _=>False) (iBool (z3a s)) []:=by
  refine SC.of Tryz.func50 rfl (lb rfl) fun F ρ w=>?_
  have hsz:s.size<=9223372036854775807∨9223372036854775807<s.size:=by omega
  refine tQ <| tG <| sm 1 rfl <| nL <| tQ <| tQ <| tG <| sm 1 rfl <| cV rfl (bSt rfl rfl rfl rfl) <| sm 1 rfl ?_
  refine wS 6 rfl (fun hb6=>?_) fun hb6=>?_
  ·refine sm 14 rfl <| nL <| Tr.condT rfl <| tQ <| tG <| sm 1 rfl <| nL <| tRt <| rOk rfl ?_ nPo
   refine congrArg (fun b=>iBool b) ?_
   simp_all [z3a]
  have hne:s.toList≠[]:=by simpa using hb6
  obtain ⟨b0,r0,hs0⟩:=List.exists_cons_of_ne_nil hne
  have hi0:s[0]? = some b0:=by rw [y5j (i:=0) (by rw [hs0];simp)];simp [hs0]
  refine sm 1 rfl <| yV rfl rfl (z9c rfl rfl Tryz.underlying9) <| sm 3 rfl ?_
  refine wS 11 rfl (fun hb11=>?_) fun hb11=>?_
  ·refine sm 9 rfl <| nL <| Tr.condT rfl <| tQ <| tG <| sm 1 rfl <| nL <| tRt <| rOk rfl ?_ nPo
   refine congrArg (fun b=>iBool b) ?_
   (have h20:¬ ((s.size:Int)<=20):=by simp at hb11;omega
    simp [z3a,h20];done)
  refine sm 1 rfl <| yV rfl rfl (z58 rfl rfl rfl Tryz.underlying9 (by assumption) (by rfl)) <| WL.yes rfl rfl rfl rfl rfl rfl (z3s (zr9 _) ent76 rfl rfl (sRf _ _) rfl) <| sm 3 rfl ?_
  refine wS 17 rfl (fun hb17=>?_) fun hb17=>?_
  ·refine sm 3 rfl <| nL <| Tr.condT rfl <| tQ <| tG <| sm 1 rfl <| nL <| tRt <| rOk rfl ?_ nPo
   refine congrArg (fun b=>iBool b) ?_
   simp_all [z3a]
  refine sm 1 rfl <| WL.yes rfl rfl rfl rfl rfl rfl (z3s (yf5 _) ent77 rfl rfl (sRf _ _) rfl) <| sm 1 rfl <| nL ?_
  refine tC rfl (fun hc20=>?_) fun hc20=>?_
  ·refine tQ <| tG <| sm 1 rfl <| nL <| tRt <| rOk rfl ?_ nPo
   refine congrArg (fun b=>iBool b) ?_
   simp_all [z3a]
  refine tSk <| tQ <| tQ <| tG <| sm 1 rfl <| nL <| tBk <| Tr.sub (Sub.of (fr':=[(3,iInt 0),(0,iStr s)]) ⟨rfl,rfl,trivial⟩) ?_
  refine Tr.loop (fun fr σ m=>∃ (k:Nat),(k<=s.toList.length)/\(s.toList.all isLD=(s.toList.drop k).all isLD)/\fr=[(3,iInt k),(0,iStr s)] /\ σ = look []/\m=s.toList.length - k) (n:=s.toList.length - 0) ?_ ?_
  ·exact ⟨0,Nat.zero_le _,rfl,rfl,rfl,rfl⟩
  rintro fr σ m ⟨k,hI0,hI1,rfl,rfl,rfl⟩
  refine tQ <| tQ <| tG <| sm 2 rfl <| cV rfl (z9c rfl rfl Tryz.underlying9) <| sm 1 rfl <| nL ?_
  refine tC rfl (fun hc24=>?_) fun hc24=>?_
  ·have hlt:k<s.toList.length:=by rw [z9r];simpa using hc24
   have hd:=List.drop_eq_getElem_cons hlt
   have hi:=y5j hlt
   generalize s.toList[k]=b at hd hi
   have hl20:s.toList.length<=20:=by rw [z9r];simp at hb11;omega
   refine tSk <| tQ <| tBk <| tQ <| tG <| sm 2 rfl <| cV rfl (z58 rfl rfl rfl Tryz.underlying9 (by assumption) (by rfl)) <| cE rfl (ocq (zr9 _) ent76 rfl rfl) <| sm 2 rfl ?_
   refine wS 32 rfl (fun hb32=>?_) fun hb32=>?_
   ·refine sm 2 rfl <| yV rfl rfl (z58 rfl rfl rfl Tryz.underlying9 (by assumption) (by rfl)) <| WL.yes rfl rfl rfl rfl rfl rfl (z3s (y86 _) ent78 rfl rfl (sRf _ _) rfl) <| sm 2 rfl <| nL ?_
    refine tC rfl (fun hc38=>?_) fun hc38=>?_
    ·refine tQ <| tG <| sm 1 rfl <| nL <| tRt <| rOk rfl ?_ nPo
     have hb:isLD b=false:=by simp_all [isLD]
     have hall:s.toList.all isLD=false:=by rw [hI1,hd];simp [hb]
     simp [z3a,hall]
    refine tSk <| tG <| sm 1 rfl <| cV rfl (oB rfl rfl (z03 rfl oM0)) <| sm 1 rfl <| nL ?_
    refine ⟨_,_,?_,Sub.of (fr':=[(3,iInt (k+1)),(0,iStr s)]) ⟨rfl,rfl,trivial⟩,(k+1),?_,?_,rfl,rfl,rfl⟩
    ·omega
    ·omega
    have hb:isLD b=true:=by simp_all [isLD]
    rw [hI1,hd];simp [hb]
   refine sm 6 rfl <| nL <| Tr.condF rfl <| tSk <| tG <| sm 1 rfl <| cV rfl (oB rfl rfl (z03 rfl oM0)) <| sm 1 rfl <| nL ?_
   refine ⟨_,_,?_,Sub.of (fr':=[(3,iInt (k+1)),(0,iStr s)]) ⟨rfl,rfl,trivial⟩,(k+1),?_,?_,rfl,rfl,rfl⟩
   ·omega
   ·omega
   have hb:isLD b=true:=by simp_all [isLD]
   rw [hI1,hd];simp [hb]
  refine tEx <| tQ <| tG <| sm 1 rfl <| nL <| tRt <| rOk rfl ?_ nPo
  have hge:s.toList.length<=k:=by rw [z9r];simpa using hc24
  have hall:s.toList.all isLD=true:=by rw [hI1,List.drop_eq_nil_of_le hge];rfl
  refine congrArg (fun b=>iBool b) ?_
  simp_all [z3a]
theorem yf6 (u:Un) (f:Fl) (hg:∀ g∈u.flows,0<=g.params/\g.params<=g.types.length) (hb:lsW f.body<=536870912):SC Tryz.prog 33 [.pv u.enc,.pv (.agg f.enc)] [] (fun _=>False) (iBool (z2j u f)) []:=by
  refine SC.of Tryz.func33 rfl (lb rfl) fun F ρ w=>?_
  refine tQ <| tG <| cE rfl (z3y rfl rfl) <| cE rfl (z3y rfl rfl) <| sm 1 rfl <| nL <| tQ <| tQ <| tG <| sm 4 rfl ?_
  refine wS 12 rfl (fun hb12=>?_) fun hb12=>?_
  ·refine sm 18 rfl <| nL <| Tr.condT rfl <| tQ <| tG <| sm 1 rfl <| nL <| tRt <| rOk rfl ?_ nPo
   refine congrArg (fun b=>iBool b) ?_
   have hno:(!decide (f.params<0) && !decide (f.params > 8) && !decide (f.params > f.types.length) && !decide ((f.types.length:Int) > 20000))=false:=by
     simp_all
   simp only [z2j,hno,Bool.false_and]
  refine sm 5 rfl ?_
  refine wS 17 rfl (fun hb17=>?_) fun hb17=>?_
  ·refine sm 13 rfl <| nL <| Tr.condT rfl <| tQ <| tG <| sm 1 rfl <| nL <| tRt <| rOk rfl ?_ nPo
   refine congrArg (fun b=>iBool b) ?_
   have hno:(!decide (f.params<0) && !decide (f.params > 8) && !decide (f.params > f.types.length) && !decide ((f.types.length:Int) > 20000))=false:=by
     simp_all
   simp only [z2j,hno,Bool.false_and]
  refine sm 4 rfl <| yV rfl rfl (oSm uT35 rfl) <| sm 3 rfl ?_
  refine wS 25 rfl (fun hb25=>?_) fun hb25=>?_
  ·refine sm 5 rfl <| nL <| Tr.condT rfl <| tQ <| tG <| sm 1 rfl <| nL <| tRt <| rOk rfl ?_ nPo
   refine congrArg (fun b=>iBool b) ?_
   have hno:(!decide (f.params<0) && !decide (f.params > 8) && !decide (f.params > f.types.length) && !decide ((f.types.length:Int) > 20000))=false:=by
     simp_all
   simp only [z2j,hno,Bool.false_and]
  ·refine sm 2 rfl <| yV rfl rfl (oSm uT35 rfl) <| sm 2 rfl <| nL ?_
   refine tC rfl (fun hc30=>?_) fun hc30=>?_
   ·refine tQ <| tG <| sm 1 rfl <| nL <| tRt <| rOk rfl ?_ nPo
    refine congrArg (fun b=>iBool b) ?_
    have hno:(!decide (f.params<0) && !decide (f.params > 8) && !decide (f.params > f.types.length) && !decide ((f.types.length:Int) > 20000))=false:=by
      simp_all
    simp only [z2j,hno,Bool.false_and]
   ·have hpar:0<=f.params/\f.params<=8/\f.params<=f.types.length/\f.types.length<=20000:=by
      (simp_all<;>omega)
    refine tSk <| tQ <| tQ <| tG <| sm 1 rfl <| nL <| tBk <| Tr.sub (Sub.of (fr':=[(5,iInt 0),(2,.pv (.ept [arrs u.arrays,flws u.flows] 0)),(3,.pv (.ept [vStr f.name,vInt f.ty,vInt f.params,ints f.types,z0m f.body] 0))]) ⟨rfl,rfl,rfl,trivial⟩) ?_
    refine Tr.loop (fun fr σ m=>∃ (k:Nat),(k<=f.types.length)/\(f.types.all (fun t=>t==1||t==2)=(f.types.drop k).all (fun t=>t==1||t==2))/\fr=[(5,iInt k),(2,.pv (.ept [arrs u.arrays,flws u.flows] 0)),(3,.pv (.ept [vStr f.name,vInt f.ty,vInt f.params,ints f.types,z0m f.body] 0))] /\ σ = look []/\m=f.types.length - k) (n:=f.types.length - 0) ?_ ?_
    ·exact ⟨0,Nat.zero_le _,rfl,rfl,rfl,rfl⟩
    rintro fr σ m ⟨k,hI0,hI1,rfl,rfl,rfl⟩
    refine tQ <| tQ <| tG <| sm 3 rfl <| cV rfl (oSm uT35 rfl) <| sm 1 rfl <| nL ?_
    refine tC rfl (fun hc35=>?_) fun hc35=>?_
    ·have hlt:k<f.types.length:=by simpa using hc35
     have hd:=List.drop_eq_getElem_cons hlt
     have hm:=List.getElem_mem hlt
     have hi:=z06 (f:=eInt) (List.getElem?_eq_getElem hlt)
     generalize f.types[k]=x at hd hm hi
     refine tSk <| tQ <| tBk <| tQ <| tG <| sm 3 rfl <| cV rfl (iSq rfl rfl rfl uT35 hi tS3 rfl (by rfl)) <| sm 3 rfl ?_
     refine wS 44 rfl (fun hb44=>?_) fun hb44=>?_
     ·refine sm 3 rfl <| yV rfl rfl (iSq rfl rfl rfl uT35 hi tS3 rfl (by rfl)) <| sm 3 rfl <| nL ?_
      refine tC rfl (fun hc51=>?_) fun hc51=>?_
      ·refine tQ <| tG <| sm 1 rfl <| nL <| tRt <| rOk rfl ?_ nPo
       have hx:(x==1||x==2)=false:=by
         clear hd hm hi hI1
         simp_all
       have hty:f.types.all (fun t=>t==1||t==2)=false:=by rw [hI1,hd];simp only [List.all_cons,hx,Bool.false_and]
       simp only [z2j,hty,Bool.and_false,Bool.false_and]
      refine tSk <| tG <| sm 1 rfl <| cV rfl (oB rfl rfl (z03 rfl oM0)) <| sm 1 rfl <| nL ?_
      refine ⟨_,_,?_,Sub.of (fr':=[(5,iInt (k+1)),(2,.pv (.ept [arrs u.arrays,flws u.flows] 0)),(3,.pv (.ept [vStr f.name,vInt f.ty,vInt f.params,ints f.types,z0m f.body] 0))]) ⟨rfl,rfl,rfl,trivial⟩,(k+1),?_,?_,rfl,rfl,rfl⟩
      ·omega
      ·omega
      rw [hI1,hd]
      have hx:(x==1||x==2)=true:=by
        clear hd hm hi hI1
        simp_all
      simp only [List.all_cons,hx,Bool.true_and]
     refine sm 7 rfl <| nL <| Tr.condF rfl <| tSk <| tG <| sm 1 rfl <| cV rfl (oB rfl rfl (z03 rfl oM0)) <| sm 1 rfl <| nL ?_
     refine ⟨_,_,?_,Sub.of (fr':=[(5,iInt (k+1)),(2,.pv (.ept [arrs u.arrays,flws u.flows] 0)),(3,.pv (.ept [vStr f.name,vInt f.ty,vInt f.params,ints f.types,z0m f.body] 0))]) ⟨rfl,rfl,rfl,trivial⟩,(k+1),?_,?_,rfl,rfl,rfl⟩
     ·omega
     ·omega
     rw [hI1,hd]
     have hx:(x==1||x==2)=true:=by
       clear hd hm hi hI1
       simp_all
     simp only [List.all_cons,hx,Bool.true_and]
    refine tEx <| tQ ?_
    have hty:f.types.all (fun t=>t==1||t==2)=true:=by
      rw [hI1,List.drop_eq_nil_of_le (by simpa using hc35)];rfl
    have hpt:f.params.toNat<=f.types.length:=by omega
    have hpi:f.params=(f.params.toNat:Int):=by omega
    refine tDr zd9 (fun k=>k<3) <| wR 4 [0,1,2,3,4] kR0 h30 <| rV rfl rfl (lEA rfl rfl Tryz.underlying25 rfl tS25 (lb rfl)) <| rV rfl rfl (lEA rfl rfl Tryz.underlying51 rfl tS51 (lb rfl)) <| smR 2 rfl <| rV rfl rfl (oSm uT35 rfl) <| nR <| wO 5 kR0 <| wI rfl rfl nf (y06 rfl) (fun _ _=>z6p (k:=4) (s:=⟨4,1⟩) rfl rfl rfl Tryz.underlying86 tZ4 tC4 rfl dC0 oM0 oM0 rfl rfl rfl rfl) <| wR 2 [6] kR0 h30 <| rV rfl rfl (by exact zm0 rfl rfl tZ88 tP88 rfl (zo2 (by (simp [y5o,firm1,look,PV.one];exact ⟨_,_,⟨rfl,rfl⟩,by simp⟩)))) <| nR ?_
    refine wO 7 kR0 <| wI rfl rfl nf (y06 rfl) (fun _ _=>zp9 (k:=3) rfl rfl rfl rfl rfl rfl rfl) <| wR 0 [8] kR0 h30 <| smR 1 rfl <| nR <| wDn kR0 <| tQ <| tG <| sm 1 rfl <| nL <| tQ <| tQ ?_
    refine Tr.grow (t:=7) (k:=107) ⟨3,1⟩ rfl rfl rfl rfl rfl <| tG <| sm 1 rfl <| nL <| tBk <| Tr.sub (Sub.of (fr':=[(8,iInt 0),(7,.sl 107 (iota 0).length),(6,.ptr 3 0),(2,.pv (.ept [arrs u.arrays,flws u.flows] 0)),(3,.pv (.ept [vStr f.name,vInt f.ty,vInt f.params,ints f.types,z0m f.body] 0))]) ⟨rfl,rfl,rfl,rfl,rfl,trivial⟩) ?_
    refine Tr.heap (σ':=look ((107,some (.row ⟨3,1⟩ ((iota 0).map eInt)))::up (ckHp u f 4 (z34 0 f.types.length)))) (fun k=>by
  rw [show (z34 0 f.types.length)=List.replicate f.types.length false by simp [z34]]
  simp only [ckHp,up,List.map_cons,List.map_nil,look,List.length_map,List.length_replicate,List.map_replicate,iota,List.range_zero]
  by_cases h3:3=k
  · subst h3;rfl
  · by_cases h4:4=k
    · subst h4;rfl
    · simp [z25 h3,z25 h4]) ?_
    refine Tr.loop (fun fr σ m=>∃ (k:Nat),(k<=f.params.toNat)/\fr=[(8,iInt k),(7,.sl 107 (iota k).length),(6,.ptr 3 0),(2,.pv (.ept [arrs u.arrays,flws u.flows] 0)),(3,.pv (.ept [vStr f.name,vInt f.ty,vInt f.params,ints f.types,z0m f.body] 0))] /\ σ = look ((107,some (.row ⟨3,1⟩ ((iota k).map eInt)))::up (ckHp u f 4 (z34 k f.types.length)))/\m=f.params.toNat - k) (n:=f.params.toNat - 0) ?_ ?_
    ·exact ⟨0,Nat.zero_le _,rfl,rfl,rfl⟩
    rintro fr σ m ⟨k,hJ0,rfl,rfl,rfl⟩
    refine tQ <| tQ <| tG <| sm 4 rfl <| nL ?_
    refine tC rfl (fun hc63=>?_) fun hc63=>?_
    ·have hkp:k<f.params.toNat:=by simp at hc63;omega
     have hkt:k<f.types.length:=by omega
     have hil:=za4 k
     have hst:((z34 k f.types.length).map z9m)[k]? = some [vBool false]:=by
       rw [List.getElem?_map]
       simp only [z34]
       rw [List.getElem?_append_right sI0]
       simp [List.getElem?_replicate,z9m]
       omega
     have hstl:k<((z34 k f.types.length).map z9m).length:=by rw [List.length_map,z2x oM0];exact hkt
     refine tSk <| tQ <| tBk <| tQ <| tG <| sm 1 rfl <| cV rfl (nCk rfl rfl rfl) <| sm 3 rfl <| cV rfl (iRw rfl rfl rfl rfl rfl Tryz.underlying86 tS4 (by assumption) (by rfl)) <| c0 (z59 rfl rfl rfl rfl rfl (Nat.add_zero _).symm (by assumption) sI0 tS4 rfl ((fun h=>h))) <| nL <| tG ?_
     refine sm 2 rfl <| cE rfl (bSl rfl rfl uT35 tZ3 tS3 rfl rfl rfl rfl (fbk rfl) rfl) ?_
     refine cE rfl (aPp rfl rfl rfl rfl (by (simp;done)) ((fun h=>h)) uT35 tB3 dC0 (by (simp [z0c];done)) (by (simp [z0c,PV.one];rfl)) (by simp [maxLen,z0c];omega) (by simp [z0c];omega)) ?_
     refine sm 1 rfl <| nL <| tG <| sm 1 rfl <| cV rfl (oB rfl rfl (z03 rfl oM0)) <| sm 1 rfl <| nL ?_
     refine ⟨_,_,?_,Sub.of (fr':=[(8,iInt (k+1)),(7,.sl 107 (iota (k+1)).length),(6,.ptr 3 0),(2,.pv (.ept [arrs u.arrays,flws u.flows] 0)),(3,.pv (.ept [vStr f.name,vInt f.ty,vInt f.params,ints f.types,z0m f.body] 0))]) ⟨rfl,congrArg (fun z=>some (IV.sl 107 z)) (by (simp [za4,z0c];done)),rfl,rfl,rfl,trivial⟩,(k+1),?_,rfl,(funext fun j=>by
  rw [<- y75 hkt,<- yb4,List.map_append]
  simp only [ckHp,up,List.map_cons,List.map_nil,look,List.length_map,List.length_set]
  by_cases h7:107=j
  · subst h7;rfl
  · by_cases h4:4=j
    · subst h4;simp [List.map_set,z9m,show Nat.beq 3 4=false from rfl,show Nat.beq 107 4=false from rfl]
    · by_cases h3:3=j
      · subst h3;simp [show Nat.beq 4 3=false from rfl,show Nat.beq 107 3=false from rfl]
      · simp [z25 h3,z25 h4,z25 h7]),rfl⟩
     all_goals omega
    refine tEx <| tQ ?_
    have hkp:k=f.params.toNat:=by simp at hc63;omega
    subst hkp
    have hbl:(iota f.params.toNat).length+lsW f.body<=1073741824:=by rw [za4];omega
    refine tG <| sm 4 rfl <| cV rfl (bPu rfl rfl tZ90 tP90 rfl (fbk rfl) rfl) <| cE rfl (y4a (fun k=>k=107) (yf8 u f hg f.body 1 z1d (iota f.params.toNat) (z34 f.params.toNat f.types.length) ⟨by omega,by omega⟩ (z2x hpt) hbl) ent52 rfl rfl (sSm rfl (sSm rfl (sSm rfl (Subs.cons (fun _ _ _ _ h=>z90 (q:=whv z1d) (PSub.agg (ps:=[vBool false,vBool false,.val (.slice none 0 0),.val (.slice none 0 0),.val (.slice none 0 0)]) (And.intro (PSub.refl _) (And.intro (PSub.refl _) (And.intro PSub.nil (And.intro PSub.nil (And.intro PSub.nil trivial)))))) h) (sSm rfl Subs.nil))))) (And.intro LendOf.same (And.intro LendOf.same (And.intro (LendOf.row rfl rfl (by (simp;done)) (by rfl)) (And.intro LendOf.same (And.intro LendOf.same (trivial)))))) (fun k h=>by subst h;rfl) (po2 rfl rfl) rfl (fun k (h:_)=>(show False from h).elim) ⟨_,rfl⟩ (y9d (z5r ..))) <| sm 1 rfl <| nL <| tRt <| rOk rfl ?_ nPo
    have hno:(!decide (f.params<0) && !decide (f.params > 8) && !decide (f.params > f.types.length) && !decide ((f.types.length:Int) > 20000))=true:=by
      simp
      omega
    simp only [z2j,hno,hty,Bool.true_and]
set_option maxRecDepth 20000
set_option maxHeartbeats 2000000
theorem y2o (u:Un):SC Tryz.prog 32 [.pv u.enc] [] (fun _=>False) (iBool (z10 u)) []:=by
  refine SC.anyR (SC.vc tb { gh:=[(4,[.len 10]),(10,[.len 51])] } [] Tryz.func32 rfl rfl ?_)
  refine ⟨Nat,fun k=>[(3,iInt k)],fun _=>[],fun k=>u.arrays.length - k,fun k=>k<=u.arrays.length/\r8gA u u.arrays 0=r8gA u (u.arrays.drop k) k,[],0,⟨Nat.zero_le _,rfl⟩,⟨rfl,trivial⟩,trivial,?_⟩
  rintro k ⟨hk,hA⟩
  refine z00 (fun hc=>?_) fun hc=>?_
  · have hlt:=z41 (f:=Ar.enc) rfl hc
    intro hl
    simp only [List.length_map] at hl
    obtain ⟨a,ha,_,hd,_⟩:=z2s hlt
    rw [hd,show r8gA u (a::u.arrays.drop (k+1)) k=(gArr u a k&&r8gA u (u.arrays.drop (k+1)) (k+1)) from rfl] at hA
    have bad:gArr u a k=false->SubI (iBool false) (iBool (z10 u)):=fun h=>sE (by unfold z10;rw [hA,h];rfl)
    have hNm:=y2n a.name
    cases hN:z3a a.name with
    | false=>rw [hN] at hNm;exact ⟨z06 (f:=Ar.enc) ha,rfl,[],hNm,sR,trivial,rfl,bad (by unfold gArr;rw [hN];rfl),trivial⟩
    | true =>
      rw [hN] at hNm
      refine ⟨z06 (f:=Ar.enc) ha,rfl,[],hNm,sR,trivial,rfl,z00 (fun h1=>⟨bad (by unfold gArr;rw [hN,show decide (a.size<1)=true from h1];rfl),trivial⟩) fun h1=>z00 (fun h2=>⟨bad (by unfold gArr;rw [hN,show decide (a.size<1)=false from h1,show decide (a.size > 1000)=true from h2];rfl),trivial⟩) fun h2=>⟨[],z0s u a.name,sR,trivial,rfl,z00 (fun h3=>?_) fun h3=>⟨[],z4l u a.name,sR,trivial,rfl,z00 (fun h4=>?_) fun h4=>?_⟩⟩⟩
      · have q3:(z0e a.name u.arrays 0==(k:Int))=false:=by simpa using h3
        exact ⟨bad (by unfold gArr;rw [hN,show decide (a.size<1)=false from h1,show decide (a.size > 1000)=false from h2,q3];rfl),trivial⟩
      · have q3:(z0e a.name u.arrays 0==(k:Int))=true:=by simpa using h3
        exact ⟨bad (by unfold gArr;rw [hN,show decide (a.size<1)=false from h1,show decide (a.size > 1000)=false from h2,q3,show decide (z04 a.name u.flows 0 ≥ 0)=true from h4];rfl),trivial⟩
      · have q3:(z0e a.name u.arrays 0==(k:Int))=true:=by simpa using h3
        have good:gArr u a k=true:=by unfold gArr;rw [hN,show decide (a.size<1)=false from h1,show decide (a.size > 1000)=false from h2,q3,show decide (z04 a.name u.flows 0 ≥ 0)=false from h4];rfl
        exact ⟨z03 rfl oM0,k+1,z0g hlt,⟨hlt,by rw [hA,good];rfl⟩,⟨rfl,trivial⟩,trivial,rfl,rfl,rfl,rfl⟩
  · rw [List.drop_eq_nil_of_le (z47 (f:=Ar.enc) rfl hc),show r8gA u [] k=true from rfl] at hA
    refine ⟨Nat,fun k=>[(5,iInt k)],fun _=>[],fun k=>u.flows.length - k,fun k=>k<=u.flows.length/\r8gF u u.flows 0=r8gF u (u.flows.drop k) k,[],0,⟨Nat.zero_le _,rfl⟩,⟨rfl,trivial⟩,trivial,?_⟩
    rintro k ⟨hk,hF⟩
    refine z00 (fun hc=>?_) fun hc=>?_
    · have hlt:=z41 (f:=Fl.enc) rfl hc
      intro hl
      simp only [List.length_map] at hl
      obtain ⟨f,hf,_,hd,_⟩:=z2s hlt
      rw [hd,show r8gF u (f::u.flows.drop (k+1)) k=(gFlw u f k&&r8gF u (u.flows.drop (k+1)) (k+1)) from rfl] at hF
      have bad:gFlw u f k=false->SubI (iBool false) (iBool (z10 u)):=fun h=>sE (by unfold z10;rw [hA,hF,h];rfl)
      have hNm:=y2n f.name
      cases hN:z3a f.name with
      | false=>rw [hN] at hNm;exact ⟨z06 (f:=Fl.enc) hf,rfl,[],hNm,sR,trivial,rfl,bad (by unfold gFlw;rw [hN];rfl),trivial⟩
      | true =>
        rw [hN] at hNm
        have tail:∀ (q1:(z04 f.name u.flows 0==(k:Int))=true) (q2:(f.ty==1||f.ty==2)=true),gFlw u f k=(!decide (f.params<0) && !decide (f.params > f.types.length)):=fun q1 q2=>by unfold gFlw;rw [hN,q1,q2];rfl
        refine ⟨z06 (f:=Fl.enc) hf,rfl,[],hNm,sR,trivial,rfl,[],z4l u f.name,sR,trivial,rfl,z00 (fun h1=>?_) fun h1=>?_⟩
        · have q1:(z04 f.name u.flows 0==(k:Int))=false:=by simpa using h1
          exact ⟨bad (by unfold gFlw;rw [hN,q1];rfl),trivial⟩
        · have q1:(z04 f.name u.flows 0==(k:Int))=true:=by simpa using h1
          refine z00 (fun h2=>z00 (fun h3=>?_) fun h3=>?_) fun h2=>?_
          · have e2:(f.ty==1)=false:=by simpa using h2
            have e3:(f.ty==2)=false:=by simpa using h3
            exact ⟨bad (by unfold gFlw;rw [hN,q1,e2,e3];rfl),trivial⟩
          · have e3:(f.ty==2)=true:=by simpa using h3
            have T:=tail q1 (by rw [e3,Bool.or_true])
            refine z00 (fun h4=>⟨bad (by rw [T,show decide (f.params<0)=true from h4];rfl),trivial⟩) fun h4=>z00 (fun h5=>⟨bad (by rw [T,show decide (f.params<0)=false from h4,show decide (f.params > f.types.length)=true by simpa using h5];rfl),trivial⟩) fun h5=>?_
            have good:gFlw u f k=true:=by rw [T,show decide (f.params<0)=false from h4,show decide (f.params > f.types.length)=false by simpa using h5];rfl
            exact ⟨z03 rfl oM0,k+1,z0g hlt,⟨hlt,by rw [hF,good];rfl⟩,⟨rfl,trivial⟩,trivial,rfl,rfl,rfl,rfl⟩
          · have e2:(f.ty==1)=true:=by simpa using h2
            have T:=tail q1 (by rw [e2,Bool.true_or])
            refine z00 (fun h4=>⟨bad (by rw [T,show decide (f.params<0)=true from h4];rfl),trivial⟩) fun h4=>z00 (fun h5=>⟨bad (by rw [T,show decide (f.params<0)=false from h4,show decide (f.params > f.types.length)=true by simpa using h5];rfl),trivial⟩) fun h5=>?_
            have good:gFlw u f k=true:=by rw [T,show decide (f.params<0)=false from h4,show decide (f.params > f.types.length)=false by simpa using h5];rfl
            exact ⟨z03 rfl oM0,k+1,z0g hlt,⟨hlt,by rw [hF,good];rfl⟩,⟨rfl,trivial⟩,trivial,rfl,rfl,rfl,rfl⟩
    · rw [List.drop_eq_nil_of_le (z47 (f:=Fl.enc) rfl hc),show r8gF u [] k=true from rfl] at hF
      have hG:z10 u=z6r u:=by unfold z10;rw [hA,hF];rfl
      rw [hG]
      refine ⟨[],z4l u z0b,sR,trivial,rfl,?_⟩
      cases hp:decide (z04 z0b u.flows 0 ≥ 0) with
      | false=>exact z00 (fun h=>absurd (hp.symm.trans h) dC0) fun _=>⟨sE (by unfold z6r;rw [hp];rfl),trivial⟩
      | true =>
        have h0:z04 z0b u.flows 0 ≥ 0:=by simpa using hp
        obtain ⟨g,hg,_⟩:=z9e h0
        have hD:u.flows.getD (z04 z0b u.flows 0).toNat y1m=g:=by rw [List.getD_eq_getElem?_getD,hg];rfl
        have hi:=z06 (f:=Fl.enc) hg
        refine z00 (fun _=>⟨hi,by omega,z00 (fun h1=>⟨hi,by omega,sE ?_,trivial⟩) fun h1=>⟨sE ?_,trivial⟩⟩) fun h=>absurd (hp.symm.trans h) dC0
        · unfold z6r;rw [hp,hD,show (g.ty==1)=true from h1];rfl
        · unfold z6r;rw [hp,hD,show (g.ty==1)=false from h1];rfl
theorem zx2 (u:Un) (hW:z0p u<=536870912):SC Tryz.prog 19 [.pv u.enc] [] (fun _=>False) (.tup [iInt (z1a u).1,iInt (z1a u).2]) []:=by
  refine SC.of Tryz.func19 rfl (lb rfl) fun F ρ w=>?_
  refine tQ <| tG <| cE rfl (z3y rfl rfl) <| sm 2 rfl <| nL <| tQ <| tQ <| tG <| cV rfl (lEA rfl rfl Tryz.underlying25 rfl tS25 (lb rfl)) <| cE rfl (ocq (y2o u) ent32 rfl rfl) <| sm 1 rfl <| nL ?_
  refine tC rfl (fun hc7=>?_) fun hc7=>?_
  ·refine tQ <| tG <| sm 2 rfl <| nL <| tRt <| rOk rfl ?_ nPo
   have hg:z10 u=false:=by simpa using hc7
   simp [z1a,hg]
  have hg:z10 u=true:=by simpa using hc7
  refine tSk <| tQ <| tQ <| tG <| sm 1 rfl <| nL <| tBk <| Tr.sub (Sub.of (fr':=[(4,iInt 0),(1,.pv (.ept [arrs u.arrays,flws u.flows] 0))]) ⟨rfl,rfl,trivial⟩) ?_
  refine Tr.loop (fun fr σ m=>∃ (k:Nat),(k<=u.flows.length)/\(z4v u u.flows 0=z4v u (u.flows.drop k) k)/\fr=[(4,iInt k),(1,.pv (.ept [arrs u.arrays,flws u.flows] 0))] /\ σ = look []/\m=u.flows.length - k) (n:=u.flows.length - 0) ?_ ?_
  ·exact ⟨0,Nat.zero_le _,rfl,rfl,rfl,rfl⟩
  rintro fr σ m ⟨k,hI0,hI1,rfl,rfl,rfl⟩
  refine tQ <| tQ <| tG <| sm 3 rfl ?_
  refine WL.lenOf (t:=10) rfl (fun hl1=>?_)
  simp only [List.length_map] at hl1
  refine cV rfl (oSm uT23 rfl) <| sm 1 rfl <| nL ?_
  refine tC rfl (fun hc12=>?_) fun hc12=>?_
  ·have hlt:k<u.flows.length:=by simpa using hc12
   have hd:=List.drop_eq_getElem_cons hlt
   have hm:=List.getElem_mem hlt
   have hi:=z06 (f:=Fl.enc) (List.getElem?_eq_getElem hlt)
   generalize u.flows[k]=x at hd hm hi
   refine tSk <| tQ <| tBk <| tQ <| tDr zd9 (fun k=>k∈([]:List Nat)) <| wR 2 [0,1,2,3,4,5] kR0 h30 <| rV rfl rfl (lEA rfl rfl Tryz.underlying25 rfl tS25 (lb rfl)) <| smR 3 rfl <| rV rfl rfl (iSq rfl rfl rfl uT23 hi tS51 rfl (by rfl)) <| rV rfl rfl (lEA rfl rfl Tryz.underlying51 rfl tS51 (lb rfl)) <| nR <| wO 6 kR0 ?_
   refine wI rfl rfl nf nw (fun _ _=>ocq (yf6 u x (z5f hg) (zo5 hW hm)) ent33 rfl rfl) <| wR 0 [7] kR0 h30 <| smR 1 rfl <| nR <| wDn kR0 ?_
   refine tC rfl (fun hc22=>?_) fun hc22=>?_
   ·refine tQ <| tG <| sm 3 rfl <| nL <| tRt <| rOk rfl ?_ nPo
    have hx:z2j u x=false:=by simpa using hc22
    simp only [z1a,hg,if_true,hI1,hd,z4v,hx,Bool.false_eq_true,if_false]
   refine tSk <| tG <| sm 1 rfl <| cV rfl (oB rfl rfl (z03 rfl oM0)) <| sm 1 rfl <| nL ?_
   refine ⟨_,_,?_,Sub.of (fr':=[(4,iInt (k+1)),(1,.pv (.ept [arrs u.arrays,flws u.flows] 0))]) ⟨rfl,rfl,trivial⟩,(k+1),?_,?_,rfl,rfl,rfl⟩
   ·omega
   ·omega
   rw [hI1,hd]
   have hx:z2j u x=true:=by simpa using hc22
   simp only [z4v,hx,if_true]
   rfl
  refine tEx <| tQ <| tG <| sm 2 rfl <| nL <| tRt <| rOk rfl ?_ nPo
  have hge:u.flows.length<=k:=by simpa using hc12
  simp only [z1a,hg,if_true,hI1,List.drop_eq_nil_of_le hge,z4v]
set_option maxRecDepth 20000
set_option maxHeartbeats 2000000
theorem zu5 (u:Un):∀ d,
    (∀ l a s r,z1s u d l a s=some r->r.2.2.ar.length=s.ar.length)/\(∀ x a p s r,z36 u d x a p s=some r->r.2.2.ar.length=s.ar.length) /\
    (∀ k p s r,z3r u d k p s=some r->r.2.ar.length=s.ar.length)/\∀ x p s r,mSum u d x p s=some r->r.2.ar.length=s.ar.length
  | 0=>⟨fun _ _ _ _ h=>by simp [z1s] at h,fun _ _ _ _ _ h=>by simp [z36] at h,fun _ _ _ _ h=>by simp [z3r] at h,fun _ _ _ _ h=>by simp [mSum] at h⟩
  | d+1=>by
    obtain ⟨i1,i2,i3,i4⟩:=zu5 u d
    refine ⟨fun l a s r h=>?_,fun x a p s r h=>?_,fun k p s r h=>?_,fun x p s r h=>?_⟩
    ·cases l with
     | nil=>rw [y24 h]
     | cons x l =>
       obtain ⟨d1,e,h2⟩:=z71 rfl h
       obtain rfl:d1=d:=by omega
       rcases h2 with ⟨_,rfl⟩ | ⟨_,p,r1,_,h3,h4⟩
       ·exact congrArg List.length (zl8 s)
       have E1:r1.2.2.ar.length=s.ar.length:=by
         rw [<- zl8 s]
         unfold z4t at h3
         split at h3
         ·simp only [Option.bind_eq_some_iff,Option.map_eq_some_iff] at h3
          obtain ⟨o,_,v',_,rfl⟩:=h3
          rfl
         split at h3
         ·cases h3;rfl
         split at h3
         ·simp only [Option.bind_eq_some_iff] at h3
          obtain ⟨a0,_,q,_,r2,h5,h6⟩:=h3
          have h7:=i1 _ _ _ _ h5
          split at h6
          ·simp only [Option.map_eq_some_iff] at h6
           obtain ⟨v',_,rfl⟩:=h6
           exact h7
          cases h6;exact h7
         split at h3
         ·exact i2 _ _ _ _ _ h3
         simp only [Option.bind_eq_some_iff] at h3
         obtain ⟨r2,h5,h6⟩:=h3
         have h7:=i4 _ _ _ _ h5
         split at h6
         ·simp only [Option.bind_eq_some_iff,Option.map_eq_some_iff] at h6
          obtain ⟨o,_,v',_,rfl⟩:=h6
          exact h7
         cases h6;exact h7
       split at h4
       ·cases h4;exact E1
       exact (i1 _ _ _ _ h4).trans E1
    ·obtain ⟨d1,v2,q,r1,e,_,_,h3,h4⟩:=z4k h
     obtain rfl:d1=d:=by omega
     have E1:=i1 _ _ _ _ h3
     split at h4
     ·cases h4;exact E1
     split at h4
     ·simp only [Option.map_eq_some_iff] at h4
      obtain ⟨v',_,rfl⟩:=h4
      exact E1
     exact (i2 _ _ _ _ _ h4).trans E1
    ·obtain ⟨d1,f,r1,e,_,_,_,_,h3,rfl⟩:=z5x h
     obtain rfl:d1=d:=by omega
     exact i1 _ _ _ _ h3
    have ne:∀ {i:Int},x.kind≠i->(x.kind==i)=false:=fun h=>beq_eq_false_iff_ne.2 h
    by_cases k3:x.kind=3
    ·obtain ⟨a0,_,rfl⟩:=z98 h (beq_iff_eq.2 k3);rfl
    by_cases k4:x.kind=4
    ·obtain ⟨a0,a1,_,_,rfl⟩:=z99 h (beq_iff_eq.2 k4)
     dsimp only
     split<;>rfl
    by_cases k5:x.kind=5
    ·obtain ⟨a0,b,s',_,h2,h3⟩:=z74 h k5
     rcases h3 with ⟨rfl,rfl⟩ | ⟨rfl,row,y,_,_,rfl⟩
     ·exact zd7 h2
     rfl
    by_cases k6:x.kind=6
    ·obtain ⟨a0,b,s',_,h2,h3⟩:=z65 h k6
     rcases h3 with ⟨rfl,rfl⟩ | ⟨rfl,row,y,_,_,rfl⟩
     ·exact zd7 h2
     simp [z57]
    by_cases k7:x.kind=7
    ·have:=i3 _ _ _ _ (z8h h (beq_iff_eq.2 k7));exact this
    by_cases k9:x.kind=9
    ·obtain ⟨a0,_,_,rfl⟩:=z75 h (beq_iff_eq.2 k9);rfl
    by_cases k8:x.kind=8
    ·rcases z8j h (beq_iff_eq.2 k8) with ⟨_,rfl⟩ | ⟨y,q,_,rfl⟩<;>rfl
    obtain rfl:=z8i h (ne k3) (ne k4) (ne k5) (ne k6) (ne k7) (ne k9) (ne k8);rfl
theorem y91 {u:Un} {d:Nat} {k:Int} {p:List Int} {s:Rs} {r:Int × Rs} (h:z3r u d k p s=some r):r.2.ar.length=s.ar.length:=(zu5 u d).2.2.1 _ _ _ _ h
theorem zi8 (u:Un) (hub:∀ f∈u.flows,lsW f.body<=1073741824):∀ D,SRC u D/\SRL u D
  | 0=>⟨fun _ h=>absurd h (Nat.not_lt_zero _),fun _ h=>absurd h (Nat.not_lt_zero _)⟩
  | D+1=>by
    obtain ⟨i1,i2⟩:=zi8 u hub D
    have a1:∀ d l v s r,z1s u d l v s=some r->r.2.2.ar.length=s.ar.length:=fun d=>(zu5 u d).1
    have a2:∀ d x v a s r,z36 u d x v a s=some r->r.2.2.ar.length=s.ar.length:=fun d=>(zu5 u d).2.1
    have a3:∀ d k a s r,z3r u d k a s=some r->r.2.ar.length=s.ar.length:=fun d=>(zu5 u d).2.2.1
    have a4:∀ d x a s r,mSum u d x a s=some r->r.2.ar.length=s.ar.length:=fun d=>(zu5 u d).2.2.2
    refine ⟨fun d hd k a s r h h1=>?_,fun d hd l v s r h hb h1=>?_⟩
    ·obtain ⟨ins,ar,st,code,out,cost,fuel,spent⟩:=s
     rcases ar with _ | ⟨row,_ | ⟨row2,t⟩⟩
     ·exact sr_call0 u hub D i2 a1 d (Nat.le_of_lt_succ hd) k a ⟨ins,[],st,code,out,cost,fuel,spent⟩ r h
     ·exact sr_call1 u hub D i2 a1 d (Nat.le_of_lt_succ hd) k a ⟨ins,[],st,code,out,cost,fuel,spent⟩ row r h
     simp at h1
    obtain ⟨ins,ar,st,code,out,cost,fuel,spent⟩:=s
    rcases ar with _ | ⟨row,_ | ⟨row2,t⟩⟩
    ·exact sr_list0 u D i1 i2 a3 a1 a2 a4 d (Nat.le_of_lt_succ hd) l v ⟨ins,[],st,code,out,cost,fuel,spent⟩ r h hb
    ·exact sr_list1 u D i1 i2 a3 a1 a2 a4 d (Nat.le_of_lt_succ hd) l v ⟨ins,[],st,code,out,cost,fuel,spent⟩ row r h hb
    simp at h1
def inEs (l:TT):List (Value × PV):=l.map fun e=>(vKey e.1,vInt e.2)
theorem y1w (l:TT):∀ e∈inEs l,z2d (.int .i64) e.1=true:=fun e he=>by
  obtain ⟨x,_,rfl⟩:=List.mem_map.1 he
  rfl
theorem yb7 (a b:Int):keyB (vKey a) (vKey b)=decide (a=b):=by
  show (a==b)=_
  by_cases h:a=b<;>simp [h]
theorem y1v (v:Int):∀ l:TT,z4m (vKey v) (inEs l)=(aGet v l).map vInt
  | []=>rfl
  | (a,b)::r=>by
    have ih:=y1v v r
    unfold inEs at ih ⊢
    simp only [List.map_cons,z4m,aGet,yb7,decide_eq_true_eq]
    by_cases h:v=a
    · rw [if_pos h,if_pos h];rfl
    · rw [if_neg h,if_neg h];exact ih
theorem y5u (k v:Int):∀ l:TT,mput (vKey k) (vInt v) (inEs l)=inEs (aPut k v l)
  | []=>rfl
  | (a,b)::r=>by
    have ih:=y5u k v r
    unfold inEs at ih ⊢
    simp only [List.map_cons,mput,aPut,yb7,decide_eq_true_eq]
    by_cases h:k=a
    · rw [if_pos h,if_pos h];rfl
    · rw [if_neg h,if_neg h,ih];rfl
theorem yb3 (v:Int) (l:TT):((z4m (vKey v) (inEs l)).getD (.val (.int .i64 0)),(z4m (vKey v) (inEs l)).isSome)=(vInt ((aGet v l).getD 0),(aGet v l).isSome):=by
  rw [y1v]
  cases aGet v l<;>rfl
theorem y8e {to:TT} {v:Int} (h:(aGet v to).isSome=true):(aGet v to).getD 0=z0o to v:=by
  unfold z0o
  cases hg:aGet v to with
  | none=>rw [hg] at h;cases h
  | some y=>rfl
theorem y8d {to:TT} {v:Int} (h:(aGet v to).isSome=false):z0o to v=v:=by
  unfold z0o
  cases hg:aGet v to with
  | none=>rfl
  | some y=>rw [hg] at h;cases h
theorem y92 {l m:List Int} (h:¬ (l.length:Int)=m.length):(l==m)=false:=by
  cases hb:(l==m) with
  | false=>rfl
  | true=>exact absurd (by rw [eq_of_beq hb]) h
theorem y9l (B:List Nd->List Nd) (l:List Fl) (x:Fl):(l++[z48 B x]).map Fl.enc=l.map Fl.enc++[[vStr x.name,vInt x.ty,vInt x.params,ints x.types,z0m (B x.body)]]:=by
  rw [List.map_append];rfl
def tM (to:TT):List (Nat × HO):=[(3001,.map (inEs to))]
abbrev wV:IV:=.agg [.mp 3001]
def y5s (to:TT) (x:Nd):Bool:=x.kids.length==1&&decide (x.params.length<=x.args.length) &&
  (if z27 (kid0 x.kids) then gdKs (z0k x.params x.args to) x.kids && !(kid0 (trKs (z0k x.params x.args to) x.kids).1).isEmpty &&
      (z0h (kid0 (trKs (z0k x.params x.args to) x.kids).1) != 14||decide (x.outs.length<=(z30 (kid0 (trKs (z0k x.params x.args to) x.kids).1)).length))
    else gdKs to x.kids)
def zz1 (to:TT) (x:Nd):Bool:=x.kids.length==2&&gdKs to x.kids&&(!z2e (kid0 (trKs to x.kids).1) (kid1 (trKs to x.kids).1)||decide (x.outs.length<=(z6z (kid0 (trKs to x.kids).1)).length))
theorem gdN_loop {to:TT} {x:Nd} (h:x.kind=11):gdN to x=y5s to (trA to x):=by
  rw [y1r,if_pos (by simp [h])]
  unfold y5s
  have:(trA to x).args.length=x.args.length:=List.length_map _
  rw [this]
  rfl
theorem y78 {to:TT} {x:Nd} (h:x.kind=10):gdN to x=zz1 to (trA to x):=by
  rw [y1r,if_neg (by simp [h]),if_pos (by simp [h])]
  rfl
theorem trN_loop {to:TT} {x:Nd} (h:x.kind=11):trN to x=z91 to (trA to x):=by rw [z9y,if_pos (by simp [h])]
theorem y8g {to:TT} {x:Nd} (h:x.kind=10):trN to x=z6v to (trA to x):=by rw [z9y,if_neg (by simp [h]),if_pos (by simp [h])]
theorem yj9 {to:TT} {x:Nd} (h10:(x.kind==10)=false) (h11:(x.kind==11)=false):trN to x=([trA to x],to):=by rw [z9y,if_neg (by simp [h11]),if_neg (by simp [h10])]
theorem y0x (to:TT) (a:List Nd):trKs to [a]=([(trL to a).1],(trL to a).2):=by rw [z3m];rfl
theorem trKs_two (to:TT) (a b:List Nd):trKs to [a,b]=([(trL to a).1,(trL (trL to a).2 b).1],(trL (trL to a).2 b).2):=by rw [z3m,z3m];rfl
mutual
theorem cnN_wt (k:Int):∀ x:Nd,cnN k x<=1+wtN x
  | .mk kind op n name args outs params ks=>by
    have h:=cnK_wt k ks
    simp only [cnN,wtN]
    split<;>split<;>omega
theorem y5k (k:Int):∀ l:List Nd,cnL k l<=l.length+wtL l
  | []=>Nat.le_refl _
  | x::r=>by
    have h1:=cnN_wt k x
    have h2:=y5k k r
    simp only [cnL,wtL,List.length_cons];omega
theorem cnK_wt (k:Int):∀ ks:List (List Nd),cnK k ks<=wtK ks
  | []=>Nat.le_refl _
  | l::r=>by
    have h1:=y5k k l
    have h2:=cnK_wt k r
    simp only [cnK,wtK];omega
end
theorem zy0:∀ {l:List Nd} {x:Nd},x∈l->1+wtN x<=l.length+wtL l
  | y::r,x,h=>by
    simp only [wtL,List.length_cons]
    rcases List.mem_cons.1 h with rfl | h
    · omega
    · have:=zy0 h;omega
theorem zt6:∀ {ks:List (List Nd)} {q:List Nd},q∈ks->q.length+wtL q+1<=wtK ks
  | y::r,q,h=>by
    simp only [wtK]
    rcases List.mem_cons.1 h with rfl | h
    · omega
    · have:=zt6 h;omega
theorem z93 (x:Nd):x.args.length<=wtN x/\x.outs.length<=wtN x/\wtK x.kids<=wtN x:=by rw [y6v];omega
theorem y82 (fq:FuncId) (ws:List IV) (pre:List (Nat × HO)) (hon:z2u (pre.map (·.1)) pre=true) (hent:z0f Tryz.prog fq) (p:Int->Bool) (l:List Int) (h:∀ x∈l,SC Tryz.prog fq ((iInt x)::ws) pre (fun _=>True) (iBool (p x)) pre):SC Tryz.prog 89 [.pv (ints l),.fn (.func fq) [] ws] pre (fun _=>True) (iInt (idxP p l 0)) pre:=by
  refine SC.of Tryz.func89 rfl (lb rfl) fun F ρ w=>?_
  refine Tr.lenOf (t:=0) rfl (fun hl=>?_)
  simp only [List.length_map] at hl
  refine tQ <| tG <| sm 1 rfl <| nL <| tQ <| tQ <| tG <| sm 1 rfl <| cV rfl (oSm uT35 rfl) <| sm 1 rfl <| nL <| tBk ?_
  refine Tr.sub (Sub.of (fr':=[(8,iInt 0),(7,iInt l.length),(0,.pv (ints l)),(1,.fn (.func fq) [] ws)]) ⟨rfl,rfl,rfl,rfl,trivial⟩) ?_
  refine Tr.loop (fun fr σ m=>∃ (k:Nat),(k<=l.length)/\(idxP p l 0=idxP p (l.drop k) k)/\fr=[(8,iInt k),(7,iInt l.length),(0,.pv (ints l)),(1,.fn (.func fq) [] ws)] /\ σ = look (up pre)/\m=l.length - k) (n:=l.length - 0) ?_ ?_
  ·exact ⟨0,Nat.zero_le _,rfl,rfl,rfl,rfl⟩
  rintro fr σ m ⟨k,hI0,hI1,rfl,rfl,rfl⟩
  refine tQ <| tG <| sm 1 rfl <| nL <| tQ ?_
  refine tC rfl (fun hc9=>?_) fun hc9=>?_
  ·have hlt:k<l.length:=by simpa using hc9
   have hd:=List.drop_eq_getElem_cons hlt
   have hm:=List.getElem_mem hlt
   have hi:=z06 (f:=eInt) (List.getElem?_eq_getElem hlt)
   generalize l[k]=x at hd hm hi
   refine tSk <| tQ <| tBk <| tQ <| tG <| sm 2 rfl <| nL <| tQ <| tG <| sm 3 rfl <| cV rfl (iSq rfl rfl rfl uT35 hi tS3 rfl (by rfl)) <| sm 1 rfl ?_
   refine cE rfl (z7h (h x hm) hent rfl rfl rfl (sRf _ _) (fun _ _ h=>h) (by rfl) (fun k (h:_)=>trivial) rfl (by assumption)) <| nL ?_
   refine tC rfl (fun hc16=>?_) fun hc16=>?_
   ·refine tQ <| tG <| sm 2 rfl <| nL <| tRt <| rOk rfl ?_ (fun k o h=>z49 rfl k o h)
    have hx:p x=true:=by simpa using hc16
    rw [hI1,hd]
    simp only [idxP,hx,if_true]
   refine tSk <| tG <| cV rfl (oB rfl rfl (z03 rfl oM0)) <| sm 1 rfl <| nL ?_
   refine ⟨_,_,?_,Sub.of (fr':=[(8,iInt (k+1)),(7,iInt l.length),(0,.pv (ints l)),(1,.fn (.func fq) [] ws)]) ⟨rfl,rfl,rfl,rfl,trivial⟩,(k+1),?_,?_,rfl,(z23 rfl),rfl⟩
   ·omega
   ·omega
   rw [hI1,hd]
   have hx:p x=false:=by simpa using hc16
   simp only [idxP,hx,Bool.false_eq_true,if_false]
   rfl
  refine tEx <| tQ <| tG <| sm 1 rfl <| nL <| tRt <| rOk rfl ?_ (fun _ _ h=>h)
  have hge:l.length<=k:=by simpa using hc9
  rw [hI1,List.drop_eq_nil_of_le hge]
  rfl
theorem y7z (fq:FuncId) (ws:List IV) (pre:List (Nat × HO)) (hon:z2u (pre.map (·.1)) pre=true) (hent:z0f Tryz.prog fq) (p:Int->Bool) (l:List Int) (h:∀ x∈l,SC Tryz.prog fq ((iInt x)::ws) pre (fun _=>True) (iBool (p x)) pre):SC Tryz.prog 62 [.pv (ints l),.fn (.func fq) [] ws] pre (fun _=>True) (iBool (l.any p)) pre:=by
  refine SC.of Tryz.func62 rfl (lb rfl) fun F ρ w=>?_
  refine tQ <| tG <| sm 1 rfl <| nL <| tQ <| tG <| sm 2 rfl <| cE rfl (cRr (y82 fq ws pre hon hent p l h) ent89 rfl rfl (sRf _ _) (fun _ _ h=>h) (by rfl) (fun k (h:_)=>.inr trivial) rfl (by assumption)) <| sm 2 rfl <| nL <| tRt <| rOk rfl ?_ (fun k o h=>z49 rfl k o h)
  exact congrArg (fun b=>iBool b) (zd5 p l 0 (Int.le_refl 0))
theorem y4q (fq:FuncId) (ws:List IV) (pre:List (Nat × HO)) (hon:z2u (pre.map (·.1)) pre=true) (hent:z0f Tryz.prog fq) (p:Nd->Bool) (l:List Nd) (h:∀ x∈l,SC Tryz.prog fq ((.pv (ndv x))::ws) pre (fun _=>True) (iBool (p x)) pre):SC Tryz.prog 111 [.pv (z0m l),.fn (.func fq) [] ws] pre (fun _=>True) (iInt (idxP p l 0)) pre:=by
  refine SC.of Tryz.func111 rfl (lb rfl) fun F ρ w=>?_
  refine Tr.lenOf (t:=0) rfl (fun hl=>?_)
  simp only [List.length_map] at hl
  refine tQ <| tG <| sm 1 rfl <| nL <| tQ <| tQ <| tG <| sm 1 rfl <| cV rfl (oSm uT43 rfl) <| sm 1 rfl <| nL <| tBk ?_
  refine Tr.sub (Sub.of (fr':=[(8,iInt 0),(7,iInt l.length),(0,.pv (z0m l)),(1,.fn (.func fq) [] ws)]) ⟨rfl,rfl,rfl,rfl,trivial⟩) ?_
  refine Tr.loop (fun fr σ m=>∃ (k:Nat),(k<=l.length)/\(idxP p l 0=idxP p (l.drop k) k)/\fr=[(8,iInt k),(7,iInt l.length),(0,.pv (z0m l)),(1,.fn (.func fq) [] ws)] /\ σ = look (up pre)/\m=l.length - k) (n:=l.length - 0) ?_ ?_
  ·exact ⟨0,Nat.zero_le _,rfl,rfl,rfl,rfl⟩
  rintro fr σ m ⟨k,hI0,hI1,rfl,rfl,rfl⟩
  refine tQ <| tG <| sm 1 rfl <| nL <| tQ ?_
  refine tC rfl (fun hc9=>?_) fun hc9=>?_
  ·have hlt:k<l.length:=by simpa using hc9
   have hd:=List.drop_eq_getElem_cons hlt
   have hm:=List.getElem_mem hlt
   have hi:=z08 (List.getElem?_eq_getElem hlt)
   generalize l[k]=x at hd hm hi
   refine tSk <| tQ <| tBk <| tQ <| tG <| sm 2 rfl <| nL <| tQ <| tG <| sm 3 rfl <| cV rfl (iSq rfl rfl rfl uT43 hi tS42 rfl (by rfl)) <| cV rfl (lEA rfl rfl uT42 rfl tS42 (lb rfl)) ?_
   refine cE rfl (z7h (h x hm) hent rfl rfl rfl (sRf _ _) (fun _ _ h=>h) (by rfl) (fun k (h:_)=>trivial) rfl (by assumption)) <| nL ?_
   refine tC rfl (fun hc16=>?_) fun hc16=>?_
   ·refine tQ <| tG <| sm 2 rfl <| nL <| tRt <| rOk rfl ?_ (fun k o h=>z49 rfl k o h)
    have hx:p x=true:=by simpa using hc16
    rw [hI1,hd]
    simp only [idxP,hx,if_true]
   refine tSk <| tG <| cV rfl (oB rfl rfl (z03 rfl oM0)) <| sm 1 rfl <| nL ?_
   refine ⟨_,_,?_,Sub.of (fr':=[(8,iInt (k+1)),(7,iInt l.length),(0,.pv (z0m l)),(1,.fn (.func fq) [] ws)]) ⟨rfl,rfl,rfl,rfl,trivial⟩,(k+1),?_,?_,rfl,(z23 rfl),rfl⟩
   ·omega
   ·omega
   rw [hI1,hd]
   have hx:p x=false:=by simpa using hc16
   simp only [idxP,hx,Bool.false_eq_true,if_false]
   rfl
  refine tEx <| tQ <| tG <| sm 1 rfl <| nL <| tRt <| rOk rfl ?_ (fun _ _ h=>h)
  have hge:l.length<=k:=by simpa using hc9
  rw [hI1,List.drop_eq_nil_of_le hge]
  rfl
theorem y4o (fq:FuncId) (ws:List IV) (pre:List (Nat × HO)) (hon:z2u (pre.map (·.1)) pre=true) (hent:z0f Tryz.prog fq) (p:Nd->Bool) (l:List Nd) (h:∀ x∈l,SC Tryz.prog fq ((.pv (ndv x))::ws) pre (fun _=>True) (iBool (p x)) pre):SC Tryz.prog 94 [.pv (z0m l),.fn (.func fq) [] ws] pre (fun _=>True) (iBool (l.any p)) pre:=by
  refine SC.of Tryz.func94 rfl (lb rfl) fun F ρ w=>?_
  refine tQ <| tG <| sm 1 rfl <| nL <| tQ <| tG <| sm 2 rfl <| cE rfl (cRr (y4q fq ws pre hon hent p l h) ent111 rfl rfl (sRf _ _) (fun _ _ h=>h) (by rfl) (fun k (h:_)=>.inr trivial) rfl (by assumption)) <| sm 2 rfl <| nL <| tRt <| rOk rfl ?_ (fun k o h=>z49 rfl k o h)
  exact congrArg (fun b=>iBool b) (zd5 p l 0 (Int.le_refl 0))
theorem y83 (fq:FuncId) (ws:List IV) (pre:List (Nat × HO)) (hon:z2u (pre.map (·.1)) pre=true) (hent:z0f Tryz.prog fq) (p:(List Nd)->Bool) (l:List (List Nd)) (h:∀ x∈l,SC Tryz.prog fq ((.pv (z0m x))::ws) pre (fun _=>True) (iBool (p x)) pre):SC Tryz.prog 112 [.pv (kids l),.fn (.func fq) [] ws] pre (fun _=>True) (iInt (idxP p l 0)) pre:=by
  refine SC.of Tryz.func112 rfl (lb rfl) fun F ρ w=>?_
  refine Tr.lenOf (t:=0) rfl (fun hl=>?_)
  simp only [List.length_map] at hl
  refine tQ <| tG <| sm 1 rfl <| nL <| tQ <| tQ <| tG <| sm 1 rfl <| cV rfl (oSm Tryz.underlying40 rfl) <| sm 1 rfl <| nL <| tBk ?_
  refine Tr.sub (Sub.of (fr':=[(8,iInt 0),(7,iInt l.length),(0,.pv (kids l)),(1,.fn (.func fq) [] ws)]) ⟨rfl,rfl,rfl,rfl,trivial⟩) ?_
  refine Tr.loop (fun fr σ m=>∃ (k:Nat),(k<=l.length)/\(idxP p l 0=idxP p (l.drop k) k)/\fr=[(8,iInt k),(7,iInt l.length),(0,.pv (kids l)),(1,.fn (.func fq) [] ws)] /\ σ = look (up pre)/\m=l.length - k) (n:=l.length - 0) ?_ ?_
  ·exact ⟨0,Nat.zero_le _,rfl,rfl,rfl,rfl⟩
  rintro fr σ m ⟨k,hI0,hI1,rfl,rfl,rfl⟩
  refine tQ <| tG <| sm 1 rfl <| nL <| tQ ?_
  refine tC rfl (fun hc9=>?_) fun hc9=>?_
  ·have hlt:k<l.length:=by simpa using hc9
   have hd:=List.drop_eq_getElem_cons hlt
   have hm:=List.getElem_mem hlt
   have hi:=z06 (f:=eKid) (List.getElem?_eq_getElem hlt)
   generalize l[k]=x at hd hm hi
   refine tSk <| tQ <| tBk <| tQ <| tG <| sm 2 rfl <| nL <| tQ <| tG <| sm 3 rfl <| cV rfl (iSq rfl rfl rfl Tryz.underlying40 hi tS43 rfl (by rfl)) <| sm 1 rfl ?_
   refine cE rfl (z7h (h x hm) hent rfl rfl rfl (sRf _ _) (fun _ _ h=>h) (by rfl) (fun k (h:_)=>trivial) rfl (by assumption)) <| nL ?_
   refine tC rfl (fun hc16=>?_) fun hc16=>?_
   ·refine tQ <| tG <| sm 2 rfl <| nL <| tRt <| rOk rfl ?_ (fun k o h=>z49 rfl k o h)
    have hx:p x=true:=by simpa using hc16
    rw [hI1,hd]
    simp only [idxP,hx,if_true]
   refine tSk <| tG <| cV rfl (oB rfl rfl (z03 rfl oM0)) <| sm 1 rfl <| nL ?_
   refine ⟨_,_,?_,Sub.of (fr':=[(8,iInt (k+1)),(7,iInt l.length),(0,.pv (kids l)),(1,.fn (.func fq) [] ws)]) ⟨rfl,rfl,rfl,rfl,trivial⟩,(k+1),?_,?_,rfl,(z23 rfl),rfl⟩
   ·omega
   ·omega
   rw [hI1,hd]
   have hx:p x=false:=by simpa using hc16
   simp only [idxP,hx,Bool.false_eq_true,if_false]
   rfl
  refine tEx <| tQ <| tG <| sm 1 rfl <| nL <| tRt <| rOk rfl ?_ (fun _ _ h=>h)
  have hge:l.length<=k:=by simpa using hc9
  rw [hI1,List.drop_eq_nil_of_le hge]
  rfl
theorem y80 (fq:FuncId) (ws:List IV) (pre:List (Nat × HO)) (hon:z2u (pre.map (·.1)) pre=true) (hent:z0f Tryz.prog fq) (p:(List Nd)->Bool) (l:List (List Nd)) (h:∀ x∈l,SC Tryz.prog fq ((.pv (z0m x))::ws) pre (fun _=>True) (iBool (p x)) pre):SC Tryz.prog 96 [.pv (kids l),.fn (.func fq) [] ws] pre (fun _=>True) (iBool (l.any p)) pre:=by
  refine SC.of Tryz.func96 rfl (lb rfl) fun F ρ w=>?_
  refine tQ <| tG <| sm 1 rfl <| nL <| tQ <| tG <| sm 2 rfl <| cE rfl (cRr (y83 fq ws pre hon hent p l h) ent112 rfl rfl (sRf _ _) (fun _ _ h=>h) (by rfl) (fun k (h:_)=>.inr trivial) rfl (by assumption)) <| sm 2 rfl <| nL <| tRt <| rOk rfl ?_ (fun k o h=>z49 rfl k o h)
  exact congrArg (fun b=>iBool b) (zd5 p l 0 (Int.le_refl 0))
theorem y81 (fq:FuncId) (ws:List IV) (pre:List (Nat × HO)) (hon:z2u (pre.map (·.1)) pre=true) (hent:z0f Tryz.prog fq) (p:Ar->Bool) (l:List Ar) (h:∀ x∈l,SC Tryz.prog fq ((.pv (.agg x.enc))::ws) pre (fun _=>True) (iBool (p x)) pre):SC Tryz.prog 133 [.pv (arrs l),.fn (.func fq) [] ws] pre (fun _=>True) (iInt (idxP p l 0)) pre:=by
  refine SC.of Tryz.func133 rfl (lb rfl) fun F ρ w=>?_
  refine Tr.lenOf (t:=0) rfl (fun hl=>?_)
  simp only [List.length_map] at hl
  refine tQ <| tG <| sm 1 rfl <| nL <| tQ <| tQ <| tG <| sm 1 rfl <| cV rfl (oSm Tryz.underlying22 rfl) <| sm 1 rfl <| nL <| tBk ?_
  refine Tr.sub (Sub.of (fr':=[(8,iInt 0),(7,iInt l.length),(0,.pv (arrs l)),(1,.fn (.func fq) [] ws)]) ⟨rfl,rfl,rfl,rfl,trivial⟩) ?_
  refine Tr.loop (fun fr σ m=>∃ (k:Nat),(k<=l.length)/\(idxP p l 0=idxP p (l.drop k) k)/\fr=[(8,iInt k),(7,iInt l.length),(0,.pv (arrs l)),(1,.fn (.func fq) [] ws)] /\ σ = look (up pre)/\m=l.length - k) (n:=l.length - 0) ?_ ?_
  ·exact ⟨0,Nat.zero_le _,rfl,rfl,rfl,rfl⟩
  rintro fr σ m ⟨k,hI0,hI1,rfl,rfl,rfl⟩
  refine tQ <| tG <| sm 1 rfl <| nL <| tQ ?_
  refine tC rfl (fun hc9=>?_) fun hc9=>?_
  ·have hlt:k<l.length:=by simpa using hc9
   have hd:=List.drop_eq_getElem_cons hlt
   have hm:=List.getElem_mem hlt
   have hi:=z06 (f:=Ar.enc) (List.getElem?_eq_getElem hlt)
   generalize l[k]=x at hd hm hi
   refine tSk <| tQ <| tBk <| tQ <| tG <| sm 2 rfl <| nL <| tQ <| tG <| sm 3 rfl <| cV rfl (iSq rfl rfl rfl Tryz.underlying22 hi tS49 rfl (by rfl)) <| cV rfl (lEA rfl rfl Tryz.underlying49 rfl tS49 (lb rfl)) ?_
   refine cE rfl (z7h (h x hm) hent rfl rfl rfl (sRf _ _) (fun _ _ h=>h) (by rfl) (fun k (h:_)=>trivial) rfl (by assumption)) <| nL ?_
   refine tC rfl (fun hc16=>?_) fun hc16=>?_
   ·refine tQ <| tG <| sm 2 rfl <| nL <| tRt <| rOk rfl ?_ (fun k o h=>z49 rfl k o h)
    have hx:p x=true:=by simpa using hc16
    rw [hI1,hd]
    simp only [idxP,hx,if_true]
   refine tSk <| tG <| cV rfl (oB rfl rfl (z03 rfl oM0)) <| sm 1 rfl <| nL ?_
   refine ⟨_,_,?_,Sub.of (fr':=[(8,iInt (k+1)),(7,iInt l.length),(0,.pv (arrs l)),(1,.fn (.func fq) [] ws)]) ⟨rfl,rfl,rfl,rfl,trivial⟩,(k+1),?_,?_,rfl,(z23 rfl),rfl⟩
   ·omega
   ·omega
   rw [hI1,hd]
   have hx:p x=false:=by simpa using hc16
   simp only [idxP,hx,Bool.false_eq_true,if_false]
   rfl
  refine tEx <| tQ <| tG <| sm 1 rfl <| nL <| tRt <| rOk rfl ?_ (fun _ _ h=>h)
  have hge:l.length<=k:=by simpa using hc9
  rw [hI1,List.drop_eq_nil_of_le hge]
  rfl
theorem y7y (fq:FuncId) (ws:List IV) (pre:List (Nat × HO)) (hon:z2u (pre.map (·.1)) pre=true) (hent:z0f Tryz.prog fq) (p:Ar->Bool) (l:List Ar) (h:∀ x∈l,SC Tryz.prog fq ((.pv (.agg x.enc))::ws) pre (fun _=>True) (iBool (p x)) pre):SC Tryz.prog 130 [.pv (arrs l),.fn (.func fq) [] ws] pre (fun _=>True) (iBool (l.any p)) pre:=by
  refine SC.of Tryz.func130 rfl (lb rfl) fun F ρ w=>?_
  refine tQ <| tG <| sm 1 rfl <| nL <| tQ <| tG <| sm 2 rfl <| cE rfl (cRr (y81 fq ws pre hon hent p l h) ent133 rfl rfl (sRf _ _) (fun _ _ h=>h) (by rfl) (fun k (h:_)=>.inr trivial) rfl (by assumption)) <| sm 2 rfl <| nL <| tRt <| rOk rfl ?_ (fun k o h=>z49 rfl k o h)
  exact congrArg (fun b=>iBool b) (zd5 p l 0 (Int.le_refl 0))
theorem y4p (fq:FuncId) (ws:List IV) (pre:List (Nat × HO)) (hon:z2u (pre.map (·.1)) pre=true) (hent:z0f Tryz.prog fq) (p:Fl->Bool) (l:List Fl) (h:∀ x∈l,SC Tryz.prog fq ((.pv (.agg x.enc))::ws) pre (fun _=>True) (iBool (p x)) pre):SC Tryz.prog 87 [.pv (flws l),.fn (.func fq) [] ws] pre (fun _=>True) (iInt (idxP p l 0)) pre:=by
  refine SC.of Tryz.func87 rfl (lb rfl) fun F ρ w=>?_
  refine Tr.lenOf (t:=0) rfl (fun hl=>?_)
  simp only [List.length_map] at hl
  refine tQ <| tG <| sm 1 rfl <| nL <| tQ <| tQ <| tG <| sm 1 rfl <| cV rfl (oSm uT23 rfl) <| sm 1 rfl <| nL <| tBk ?_
  refine Tr.sub (Sub.of (fr':=[(8,iInt 0),(7,iInt l.length),(0,.pv (flws l)),(1,.fn (.func fq) [] ws)]) ⟨rfl,rfl,rfl,rfl,trivial⟩) ?_
  refine Tr.loop (fun fr σ m=>∃ (k:Nat),(k<=l.length)/\(idxP p l 0=idxP p (l.drop k) k)/\fr=[(8,iInt k),(7,iInt l.length),(0,.pv (flws l)),(1,.fn (.func fq) [] ws)] /\ σ = look (up pre)/\m=l.length - k) (n:=l.length - 0) ?_ ?_
  ·exact ⟨0,Nat.zero_le _,rfl,rfl,rfl,rfl⟩
  rintro fr σ m ⟨k,hI0,hI1,rfl,rfl,rfl⟩
  refine tQ <| tG <| sm 1 rfl <| nL <| tQ ?_
  refine tC rfl (fun hc9=>?_) fun hc9=>?_
  ·have hlt:k<l.length:=by simpa using hc9
   have hd:=List.drop_eq_getElem_cons hlt
   have hm:=List.getElem_mem hlt
   have hi:=z06 (f:=Fl.enc) (List.getElem?_eq_getElem hlt)
   generalize l[k]=x at hd hm hi
   refine tSk <| tQ <| tBk <| tQ <| tG <| sm 2 rfl <| nL <| tQ <| tG <| sm 3 rfl <| cV rfl (iSq rfl rfl rfl uT23 hi tS51 rfl (by rfl)) <| cV rfl (lEA rfl rfl Tryz.underlying51 rfl tS51 (lb rfl)) ?_
   refine cE rfl (z7h (h x hm) hent rfl rfl rfl (sRf _ _) (fun _ _ h=>h) (by rfl) (fun k (h:_)=>trivial) rfl (by assumption)) <| nL ?_
   refine tC rfl (fun hc16=>?_) fun hc16=>?_
   ·refine tQ <| tG <| sm 2 rfl <| nL <| tRt <| rOk rfl ?_ (fun k o h=>z49 rfl k o h)
    have hx:p x=true:=by simpa using hc16
    rw [hI1,hd]
    simp only [idxP,hx,if_true]
   refine tSk <| tG <| cV rfl (oB rfl rfl (z03 rfl oM0)) <| sm 1 rfl <| nL ?_
   refine ⟨_,_,?_,Sub.of (fr':=[(8,iInt (k+1)),(7,iInt l.length),(0,.pv (flws l)),(1,.fn (.func fq) [] ws)]) ⟨rfl,rfl,rfl,rfl,trivial⟩,(k+1),?_,?_,rfl,(z23 rfl),rfl⟩
   ·omega
   ·omega
   rw [hI1,hd]
   have hx:p x=false:=by simpa using hc16
   simp only [idxP,hx,Bool.false_eq_true,if_false]
   rfl
  refine tEx <| tQ <| tG <| sm 1 rfl <| nL <| tRt <| rOk rfl ?_ (fun _ _ h=>h)
  have hge:l.length<=k:=by simpa using hc9
  rw [hI1,List.drop_eq_nil_of_le hge]
  rfl
theorem sc_eqf (fq:FuncId) (ws:List IV) (S:Type) (H:S->List (Nat × HO)) (ks:List Nat) (hks:∀ s,(H s).map (·.1)=ks) (hon:∀ s,z2u ((H s).map (·.1)) (H s)=true) (hent:z0f Tryz.prog fq) (p:S->Int->Int->Bool × S) (R:Nat->Prop) (G:S->Prop) (hG:∀ s x y,G s->G (p s x y).2) (h:∀ s x y,G s->SC Tryz.prog fq (iInt x::iInt y::ws) (H s) R (iBool (p s x y).1) (H (p s x y).2)) (s:S) (hs:G s) (a b:List Int):SC Tryz.prog 125 [.pv (ints a),.pv (ints b),.fn (.func fq) [] ws] (H s) (R) (iBool (eqf p s a b).1) (H (eqf p s a b).2):=by
  refine SC.of Tryz.func125 rfl (lb rfl) fun F ρ w=>?_
  refine Tr.lenOf (t:=0) rfl (fun hl=>?_)
  simp only [List.length_map] at hl
  refine Tr.lenOf (t:=1) rfl (fun hl2=>?_)
  simp only [List.length_map] at hl2
  refine tQ <| tG <| sm 1 rfl <| nL <| tQ <| tQ <| tG <| sm 1 rfl <| cV rfl (oSm uT35 rfl) <| sm 1 rfl <| cV rfl (oSm uT35 rfl) <| sm 1 rfl ?_
  refine nL ?_
  refine tC rfl (fun hc14=>?_) fun hc14=>?_
  ·refine tQ <| tG <| sm 1 rfl <| nL <| tRt ?_
   have hne:¬ (a.length:Int)=b.length:=by simpa using hc14
   have he:eqf p s a b=(false,s):=by simp only [eqf,hne,if_false]
   rw [he]
   exact rOk rfl rfl (fun _ _ h=>h)
  have hlen:a.length=b.length:=by simp at hc14;omega
  have hlz:(a.length:Int)=b.length:=by omega
  refine tSk <| tQ <| tQ <| tG <| sm 1 rfl <| cV rfl (oSm uT35 rfl) <| sm 1 rfl <| nL <| tBk <| Tr.sub (Sub.of (fr':=[(17,iInt 0),(16,iInt a.length),(15,.pv (ints a)),(0,.pv (ints a)),(1,.pv (ints b)),(2,.fn (.func fq) [] ws)]) ⟨rfl,rfl,rfl,rfl,rfl,rfl,trivial⟩) ?_
  refine Tr.loop (fun fr σ m=>∃ (k:Nat) (st:S),(k<=a.length)/\(eqGo p s a b=eqGo p st (a.drop k) (b.drop k))/\(G st)/\fr=[(17,iInt k),(16,iInt a.length),(15,.pv (ints a)),(0,.pv (ints a)),(1,.pv (ints b)),(2,.fn (.func fq) [] ws)] /\ σ = look (up (H st))/\m=a.length - k) (n:=a.length - 0) ?_ ?_
  ·exact ⟨0,s,Nat.zero_le _,rfl,hs,rfl,rfl,rfl⟩
  rintro fr σ m ⟨k,st,hI0,hI1,hI2,rfl,rfl,rfl⟩
  refine tQ <| tG <| sm 1 rfl <| nL <| tQ ?_
  refine tC rfl (fun hc18=>?_) fun hc18=>?_
  ·have hlt:k<a.length:=by simpa using hc18
   have hd:=List.drop_eq_getElem_cons hlt
   have hm:=List.getElem_mem hlt
   have hi:=z06 (f:=eInt) (List.getElem?_eq_getElem hlt)
   generalize a[k]=x at hd hm hi
   have hltw:k<b.length:=by omega
   have hdw:=List.drop_eq_getElem_cons hltw
   have hw:=z06 (f:=eInt) (List.getElem?_eq_getElem hltw)
   generalize b[k]=y at hdw hw
   have hdom:=(hks st).trans (hks (p st x y).2).symm
   have hon2:=hon (p st x y).2
   refine tSk <| tQ <| tBk <| tQ <| tG <| sm 1 rfl <| cV rfl (iSq rfl rfl rfl uT35 hi tS3 rfl (by rfl)) <| sm 3 rfl <| nL <| tQ <| tG <| sm 2 rfl ?_
   refine cV rfl (iSq rfl rfl rfl uT35 hw tS3 rfl (by rfl)) <| sm 2 rfl <| nL <| tQ <| tG <| sm 3 rfl <| cE rfl (z7h (h st x y hI2) hent rfl rfl rfl (sRf _ _) (fun _ _ h=>h) (by assumption) (fun k (h:_)=>h) rfl (by assumption)) <| sm 1 rfl <| nL ?_
   refine tC rfl (fun hc30=>?_) fun hc30=>?_
   ·refine tQ <| tG <| sm 1 rfl <| nL <| tRt ?_
    have hx:(p st x y).1=false:=by simpa using hc30
    have he:eqf p s a b=(false,(p st x y).2):=by simp only [eqf,hlz,if_true,hI1,hd,hdw,eqGo,hx,Bool.false_eq_true,if_false]
    rw [he]
    exact rOk rfl rfl (fun k o h=>z49 ((hks _).trans (hks _).symm) k o h)
   refine tSk <| tG <| cV rfl (oB rfl rfl (z03 rfl oM0)) <| sm 1 rfl <| nL ?_
   refine ⟨_,_,?_,Sub.of (fr':=[(17,iInt (k+1)),(16,iInt a.length),(15,.pv (ints a)),(0,.pv (ints a)),(1,.pv (ints b)),(2,.fn (.func fq) [] ws)]) ⟨rfl,rfl,rfl,rfl,rfl,rfl,trivial⟩,(k+1),(p st x y).2,?_,?_,?_,rfl,(z23 ((hks _).trans (hks _).symm)),rfl⟩
   ·omega
   ·omega
   ·rw [hI1,hd,hdw]
    have hx:(p st x y).1=true:=by simpa using hc30
    simp only [eqGo,hx,if_true]
   exact hG _ _ _ hI2
  refine tEx <| tQ <| tG <| sm 1 rfl <| nL <| tRt ?_
  have hge:a.length<=k:=by simpa using hc18
  have he:eqf p s a b=(true,st):=by simp only [eqf,hlz,if_true,hI1,List.drop_eq_nil_of_le hge,eqGo]
  rw [he]
  exact rOk rfl rfl (fun _ _ h=>h)
theorem yf3 (t:Int):SC Tryz.prog 60 [iInt t] [] (fun _=>False) (iBool (isTy t)) []:=by
  refine SC.of Tryz.func60 rfl (lb rfl) fun F ρ w=>?_
  refine tQ <| tG <| sm 1 rfl <| nL <| tQ <| tG <| sm 3 rfl ?_
  refine wS 5 rfl (fun hb5=>?_) fun hb5=>?_
  ·refine sm 4 rfl <| nL <| tRt <| rOk rfl ?_ nPo
   simp_all [isTy]
  refine sm 4 rfl <| nL <| tRt <| rOk rfl ?_ nPo
  simp_all [isTy]
theorem sc_flow1 (t:Int):SC Tryz.prog 63 [iInt t] [] (fun _=>False) (iBool (!isTy t)) []:=by
  refine SC.of Tryz.func63 rfl (lb rfl) fun F ρ w=>?_
  refine tQ <| tG <| sm 1 rfl <| nL <| tQ <| tG <| sm 1 rfl <| cE rfl (ocq (yf3 _) ent60 rfl rfl) <| sm 2 rfl <| nL <| tRt <| rOk rfl ?_ nPo
  rfl
theorem z8x (x:Nd):SC Tryz.prog 70 [.pv (ndv x)] [] (fun _=>False) (iBool (z0q x.kind)) []:=by
  refine SC.of Tryz.func70 rfl (lb rfl) fun F ρ w=>?_
  refine tQ <| tG <| cE rfl (z3y rfl rfl) <| sm 1 rfl <| nL <| tQ <| tG <| sm 4 rfl ?_
  refine wS 6 rfl (fun hb6=>?_) fun hb6=>?_
  ·refine sm 5 rfl <| nL <| tRt <| rOk rfl ?_ nPo
   unfold z0q
   simp_all<;>omega
  refine sm 5 rfl <| nL <| tRt <| rOk rfl ?_ nPo
  unfold z0q
  simp_all<;>omega
theorem zs2 (l:List Nd):SC Tryz.prog 68 [.pv (z0m l)] [] (fun _=>False) (iBool (zm6 l)) []:=by
  refine SC.of Tryz.func68 rfl (lb rfl) fun F ρ w=>?_
  refine Tr.lenOf (t:=0) rfl (fun hl=>?_)
  simp only [List.length_map] at hl
  refine tQ <| tG <| sm 1 rfl <| nL <| tQ <| tG <| sm 1 rfl <| cV rfl (oSm uT43 rfl) <| sm 2 rfl ?_
  refine wS 6 rfl (fun hb6=>?_) fun hb6=>?_
  ·have hpos:0<l.length:=by simp at hb6;omega
   have hlt:l.length - 1<l.length:=by omega
   have hi:=z08 (List.getElem?_eq_getElem hlt)
   have hlast:l.getLast? = some l[l.length - 1]:=by rw [List.getLast?_eq_getElem?];exact List.getElem?_eq_getElem hlt
   generalize l[l.length - 1]=x at hi hlast
   have hsub:(l.length:Int) - 1=((l.length - 1:Nat):Int):=by omega
   refine sm 2 rfl <| yV rfl rfl (oSm uT43 rfl) <| yV rfl rfl (oB rfl rfl (z2f rfl oM0)) <| WL.sub (Sub.of (fr':=[(10,iInt ((l.length - 1:Nat):Int)),(7,.pv (z0m l)),(6,iBool true)]) ⟨by rw [<- hsub];rfl,rfl,rfl,trivial⟩) <| yV rfl rfl (iSq rfl rfl rfl uT43 (by assumption) tS42 rfl (by rfl)) <| sm 5 rfl <| nL <| tRt <| rOk rfl ?_ nPo
   refine congrArg (fun b=>iBool b) ?_
   simp [zm6,hlast]
  refine sm 10 rfl <| nL <| tRt <| rOk rfl ?_ nPo
  refine congrArg (fun b=>iBool b) ?_
  (have h0:l=[]:=by cases l<;>simp_all<;>omega
   subst h0;rfl)
theorem y2s (op:Int):SC Tryz.prog 128 [iInt op] [] (fun _=>False) (.tup [iInt (z09 op).1,iInt (z09 op).2]) []:=by
  refine SC.of Tryz.func128 rfl (lb rfl) fun F ρ w=>?_
  refine tQ <| tG <| sm 2 rfl <| nL <| tQ <| tQ <| tG <| sm 1 rfl <| nL <| tBk <| tQ <| tG ?_
  refine sm 2 rfl <| nL ?_
  refine tC rfl (fun hc5=>?_) fun hc5=>?_
  ·refine tQ <| tG <| sm 2 rfl <| nL <| tRt <| rOk rfl ?_ nPo
   first | (simp_all [z09];done) | (simp_all [z09];split<;>first | omega | (simp;done))
  refine tQ <| tQ <| tG <| sm 2 rfl <| nL ?_
  refine tC rfl (fun hc7=>?_) fun hc7=>?_
  ·refine tSk ?_
   refine tC rfl (fun hc7=>?_) fun hc7=>?_
   ·refine tQ <| tG <| sm 2 rfl <| nL <| tRt <| rOk rfl ?_ nPo
    first | (simp_all [z09];done) | (simp_all [z09];split<;>first | omega | (simp;done))
   refine tQ <| tQ <| tG <| sm 2 rfl <| nL ?_
   refine tC rfl (fun hc10=>?_) fun hc10=>?_
   ·refine tSk ?_
    refine tC rfl (fun hc10=>?_) fun hc10=>?_
    ·refine tQ <| tG <| sm 2 rfl <| nL <| tRt <| rOk rfl ?_ nPo
     first | (simp_all [z09];done) | (simp_all [z09];split<;>first | omega | (simp;done))
    refine tSk <| tQ <| tG <| sm 2 rfl <| nL <| tRt <| rOk rfl ?_ nPo
    first | (simp_all [z09];done) | (simp_all [z09];split<;>first | omega | (simp;done))
   refine tQ <| tG <| sm 2 rfl <| nL ?_
   refine tC rfl (fun hc10=>?_) fun hc10=>?_
   ·refine tSk ?_
    refine tC rfl (fun hc10=>?_) fun hc10=>?_
    ·refine tQ <| tG <| sm 2 rfl <| nL <| tRt <| rOk rfl ?_ nPo
     first | (simp_all [z09];done) | (simp_all [z09];split<;>first | omega | (simp;done))
    refine tSk <| tQ <| tG <| sm 2 rfl <| nL <| tRt <| rOk rfl ?_ nPo
    first | (simp_all [z09];done) | (simp_all [z09];split<;>first | omega | (simp;done))
   refine tQ <| tG <| sm 2 rfl <| nL ?_
   refine tC rfl (fun hc10=>?_) fun hc10=>?_
   ·refine tSk ?_
    refine tC rfl (fun hc10=>?_) fun hc10=>?_
    ·refine tQ <| tG <| sm 2 rfl <| nL <| tRt <| rOk rfl ?_ nPo
     first | (simp_all [z09];done) | (simp_all [z09];split<;>first | omega | (simp;done))
    refine tSk <| tQ <| tG <| sm 2 rfl <| nL <| tRt <| rOk rfl ?_ nPo
    first | (simp_all [z09];done) | (simp_all [z09];split<;>first | omega | (simp;done))
   refine tG <| sm 2 rfl <| nL ?_
   refine tC rfl (fun hc10=>?_) fun hc10=>?_
   ·refine tQ <| tG <| sm 2 rfl <| nL <| tRt <| rOk rfl ?_ nPo
    first | (simp_all [z09];done) | (simp_all [z09];split<;>first | omega | (simp;done))
   refine tSk <| tQ <| tG <| sm 2 rfl <| nL <| tRt <| rOk rfl ?_ nPo
   first | (simp_all [z09];done) | (simp_all [z09];split<;>first | omega | (simp;done))
  refine tG <| sm 2 rfl <| nL ?_
  refine tC rfl (fun hc7=>?_) fun hc7=>?_
  ·refine tQ <| tG <| sm 2 rfl <| nL <| tRt <| rOk rfl ?_ nPo
   first | (simp_all [z09];done) | (simp_all [z09];split<;>first | omega | (simp;done))
  refine tQ <| tQ <| tG <| sm 2 rfl <| nL ?_
  refine tC rfl (fun hc10=>?_) fun hc10=>?_
  ·refine tSk ?_
   refine tC rfl (fun hc10=>?_) fun hc10=>?_
   ·refine tQ <| tG <| sm 2 rfl <| nL <| tRt <| rOk rfl ?_ nPo
    first | (simp_all [z09];done) | (simp_all [z09];split<;>first | omega | (simp;done))
   refine tSk <| tQ <| tG <| sm 2 rfl <| nL <| tRt <| rOk rfl ?_ nPo
   first | (simp_all [z09];done) | (simp_all [z09];split<;>first | omega | (simp;done))
  refine tQ <| tG <| sm 2 rfl <| nL ?_
  refine tC rfl (fun hc10=>?_) fun hc10=>?_
  ·refine tSk ?_
   refine tC rfl (fun hc10=>?_) fun hc10=>?_
   ·refine tQ <| tG <| sm 2 rfl <| nL <| tRt <| rOk rfl ?_ nPo
    first | (simp_all [z09];done) | (simp_all [z09];split<;>first | omega | (simp;done))
   refine tSk <| tQ <| tG <| sm 2 rfl <| nL <| tRt <| rOk rfl ?_ nPo
   first | (simp_all [z09];done) | (simp_all [z09];split<;>first | omega | (simp;done))
  refine tQ <| tG <| sm 2 rfl <| nL ?_
  refine tC rfl (fun hc10=>?_) fun hc10=>?_
  ·refine tSk ?_
   refine tC rfl (fun hc10=>?_) fun hc10=>?_
   ·refine tQ <| tG <| sm 2 rfl <| nL <| tRt <| rOk rfl ?_ nPo
    first | (simp_all [z09];done) | (simp_all [z09];split<;>first | omega | (simp;done))
   refine tSk <| tQ <| tG <| sm 2 rfl <| nL <| tRt <| rOk rfl ?_ nPo
   first | (simp_all [z09];done) | (simp_all [z09];split<;>first | omega | (simp;done))
  refine tG <| sm 2 rfl <| nL ?_
  refine tC rfl (fun hc10=>?_) fun hc10=>?_
  ·refine tQ <| tG <| sm 2 rfl <| nL <| tRt <| rOk rfl ?_ nPo
   first | (simp_all [z09];done) | (simp_all [z09];split<;>first | omega | (simp;done))
  refine tSk <| tQ <| tG <| sm 2 rfl <| nL <| tRt <| rOk rfl ?_ nPo
  first | (simp_all [z09];done) | (simp_all [z09];split<;>first | omega | (simp;done))
theorem y2r (x:Nd) (ih:∀ q∈x.kids,SC Tryz.prog 69 [.pv (z0m q)] [] (fun _=>False) (iBool (z0r q)) []):SC Tryz.prog 95 [.pv (ndv x)] [] (fun _=>False) (iBool (z20 x)) []:=by
  refine SC.of Tryz.func95 rfl (lb rfl) fun F ρ w=>?_
  refine tQ <| tG <| cE rfl (z3y rfl rfl) <| sm 1 rfl <| nL <| tQ <| tG <| sm 4 rfl ?_
  refine wS 6 rfl (fun hb6=>?_) fun hb6=>?_
  ·refine sm 4 rfl <| nUu rfl rfl rfl rfl rfl rfl <| nUu rfl rfl rfl rfl rfl rfl <| nUu rfl rfl rfl rfl rfl rfl <| sm 3 rfl <| nL <| tRt <| rOk rfl ?_ nPo
   rw [z3h,z5q]
   simp_all
  refine sm 4 rfl ?_
  refine wS 10 rfl (fun hb10=>?_) fun hb10=>?_
  ·refine sm 2 rfl <| WL.yes rfl rfl rfl rfl rfl rfl (z3s (y80 69 [] [] rfl ent69 z0r x.kids (fun q hq=>(ih q hq).anyR)) ent96 rfl rfl (sSm rfl (Subs.cons (fun _ _ _ _ h=>y0u h) Subs.nil)) rfl) <| sm 3 rfl <| nL <| tRt <| rOk rfl ?_ nPo
   rw [z3h,z5q]
   simp_all
  refine sm 6 rfl <| nL <| tRt <| rOk rfl ?_ nPo
  rw [z3h,z5q]
  simp_all
theorem zs1 (N:Nat):∀ (l:List Nd),SizeOf.sizeOf l<N->SC Tryz.prog 69 [.pv (z0m l)] [] (fun _=>False) (iBool (z0r l)) []:=by
  induction N with
  | zero=>intro l hN;exact absurd hN (Nat.not_lt_zero _)
  | succ N ih =>
    intro l hN
    refine SC.of Tryz.func69 rfl (lb rfl) fun F ρ w=>?_
    refine tQ <| tG <| sm 1 rfl <| nL <| tQ <| tG <| sm 1 rfl <| cE rfl (z3s (y4o 95 [] [] rfl ent95 z20 l (fun x hm=>(y2r x (fun q hq=>ih q (Nat.lt_of_lt_of_le (z5k hm rfl hq) (Nat.le_of_lt_succ hN)))).anyR)) ent94 rfl rfl (sSm rfl (Subs.cons (fun _ _ _ _ h=>y0u h) Subs.nil)) rfl) <| sm 1 rfl <| nL <| tRt <| rOk rfl ?_ nPo
    rw [zk0]
theorem zs0 (l:List Nd):SC Tryz.prog 69 [.pv (z0m l)] [] (fun _=>False) (iBool (z0r l)) []:=zs1 _ l (Nat.lt_succ_self _)
theorem z6e (x:Nd):SC Tryz.prog 42 [.pv (ndv x)] [] (fun _=>False) (iBool (z01 x)) []:=by
  refine SC.of Tryz.func42 rfl (lb rfl) fun F ρ w=>?_
  refine tQ <| tG <| cE rfl (z3y rfl rfl) <| sm 1 rfl <| nL <| tQ <| tBk <| tQ <| tG <| sm 4 rfl ?_
  refine wS 7 rfl (fun hb7=>?_) fun hb7=>?_
  ·refine sm 2 rfl <| yV rfl rfl (oSm Tryz.underlying40 rfl) <| sm 3 rfl <| nL ?_
   refine tC rfl (fun hc3=>?_) fun hc3=>?_
   ·have hl:x.kids.length=2:=by first | (simp_all;done) | (simp_all;omega)
    have h10:x.kind=10:=by simp_all
    have hi0:(x.kids.map eKid)[0]? = some [z0m (kid0 x.kids)]:=by rw [List.getElem?_map];simp [kid0,eKid,hl]
    have hi1:(x.kids.map eKid)[1]? = some [z0m (kid1 x.kids)]:=by rw [List.getElem?_map];simp [kid1,eKid,hl]
    refine tQ <| tG <| sm 2 rfl <| cV rfl (iSq rfl rfl rfl Tryz.underlying40 hi0 tS43 rfl (by rfl)) <| sm 1 rfl <| cE rfl (ocq (zs2 _) ent68 rfl rfl) <| sm 2 rfl ?_
    refine wS 19 rfl (fun hb19=>?_) fun hb19=>?_
    ·refine sm 2 rfl <| yV rfl rfl (iSq rfl rfl rfl Tryz.underlying40 hi1 tS43 rfl (by rfl)) <| sm 1 rfl <| WL.yes rfl rfl rfl rfl rfl rfl (z3s (zs2 _) ent68 rfl rfl (sRf _ _) rfl) <| sm 3 rfl <| nL <| tRt <| rOk rfl ?_ nPo
     simp_all [z01,z3l]
    refine sm 8 rfl <| nL <| tRt <| rOk rfl ?_ nPo
    simp_all [z01,z3l]
   refine tQ <| tG <| sm 4 rfl ?_
   refine wS 31 rfl (fun hb31=>?_) fun hb31=>?_
   ·refine sm 2 rfl <| yV rfl rfl (oSm Tryz.underlying40 rfl) <| sm 3 rfl <| nL ?_
    refine tC rfl (fun hc27=>?_) fun hc27=>?_
    ·have hl:x.kids.length=1:=by first | (simp_all;done) | (simp_all;omega)
     have h11:x.kind=11:=by simp_all
     have hi0:(x.kids.map eKid)[0]? = some [z0m (kid0 x.kids)]:=by rw [List.getElem?_map];simp [kid0,eKid,hl]
     refine tQ <| tG <| sm 2 rfl <| cV rfl (iSq rfl rfl rfl Tryz.underlying40 hi0 tS43 rfl (by rfl)) <| sm 1 rfl <| cE rfl (ocq (zs0 _) ent69 rfl rfl) <| sm 2 rfl <| nL <| tRt <| rOk rfl ?_ nPo
     simp_all [z01,z3l]
    refine tSk <| tQ <| tG <| cV rfl (lEA rfl rfl uT42 rfl tS42 (lb rfl)) <| cE rfl (ocq (z8x x) y9t rfl rfl) <| sm 1 rfl <| nL <| tRt <| rOk rfl ?_ nPo
    simp_all [z01,z3l]
   refine sm 6 rfl <| nL <| Tr.condF rfl <| tSk <| tQ <| tG <| cV rfl (lEA rfl rfl uT42 rfl tS42 (lb rfl)) <| cE rfl (ocq (z8x x) y9t rfl rfl) <| sm 1 rfl <| nL <| tRt <| rOk rfl ?_ nPo
   simp_all [z01,z3l]
  refine sm 6 rfl <| nL <| Tr.condF rfl <| tQ <| tG <| sm 4 rfl ?_
  refine wS 31 rfl (fun hb31=>?_) fun hb31=>?_
  ·refine sm 2 rfl <| yV rfl rfl (oSm Tryz.underlying40 rfl) <| sm 3 rfl <| nL ?_
   refine tC rfl (fun hc27=>?_) fun hc27=>?_
   ·have hl:x.kids.length=1:=by first | (simp_all;done) | (simp_all;omega)
    have h11:x.kind=11:=by simp_all
    have hi0:(x.kids.map eKid)[0]? = some [z0m (kid0 x.kids)]:=by rw [List.getElem?_map];simp [kid0,eKid,hl]
    refine tQ <| tG <| sm 2 rfl <| cV rfl (iSq rfl rfl rfl Tryz.underlying40 hi0 tS43 rfl (by rfl)) <| sm 1 rfl <| cE rfl (ocq (zs0 _) ent69 rfl rfl) <| sm 2 rfl <| nL <| tRt <| rOk rfl ?_ nPo
    simp_all [z01,z3l]
   refine tSk <| tQ <| tG <| cV rfl (lEA rfl rfl uT42 rfl tS42 (lb rfl)) <| cE rfl (ocq (z8x x) y9t rfl rfl) <| sm 1 rfl <| nL <| tRt <| rOk rfl ?_ nPo
   simp_all [z01,z3l]
  refine sm 6 rfl <| nL <| Tr.condF rfl <| tSk <| tQ <| tG <| cV rfl (lEA rfl rfl uT42 rfl tS42 (lb rfl)) <| cE rfl (ocq (z8x x) y9t rfl rfl) <| sm 1 rfl <| nL <| tRt <| rOk rfl ?_ nPo
  simp_all [z01,z3l]
theorem y4v (x:Fl) (s:ByteArray):SC Tryz.prog 88 [.pv (.agg x.enc),.pv (.ept [vStr s] 0)] [] (fun _=>False) (iBool (x.name.toList==s.toList)) []:=by
  refine SC.of Tryz.func88 rfl (lb rfl) fun F ρ w=>?_
  refine tQ <| tG <| cE rfl (z3y rfl rfl) <| sm 1 rfl <| nL <| tQ <| tG <| sm 3 rfl <| cV rfl (bSt rfl rfl rfl rfl) <| sm 1 rfl <| nL <| tRt <| rOk rfl ?_ nPo
  rfl
theorem z9h (u:Un) (s:ByteArray):SC Tryz.prog 61 [.pv u.enc,iStr s] [] (fun _=>False) (iInt (z04 s u.flows 0)) []:=by
  refine SC.of Tryz.func61 rfl (lb rfl) fun F ρ w=>?_
  refine tQ <| tG <| cE rfl (z3y rfl rfl) <| cE rfl (y47 rfl rfl rfl) <| sm 1 rfl <| nL <| tQ <| tG <| sm 2 rfl <| cV rfl (z67 rfl rfl rfl) <| cE rfl (ocq (y4p 88 [.pv (.ept [vStr s] 0)] [] rfl ent88 (fun f:Fl=>f.name.toList==s.toList) u.flows (fun x hm=>(y4v x s).anyR)) ent87 rfl rfl) <| sm 1 rfl ?_
  refine nL <| tRt <| rOk rfl ?_ nPo
  rw [zv9]
theorem yg2 (x:Ar) (s:ByteArray):SC Tryz.prog 131 [.pv (.agg x.enc),.pv (.ept [vStr s] 0)] [] (fun _=>False) (iBool (x.name.toList==s.toList)) []:=by
  refine SC.of Tryz.func131 rfl (lb rfl) fun F ρ w=>?_
  refine tQ <| tG <| cE rfl (z3y rfl rfl) <| sm 1 rfl <| nL <| tQ <| tG <| sm 3 rfl <| cV rfl (bSt rfl rfl rfl rfl) <| sm 1 rfl <| nL <| tRt <| rOk rfl ?_ nPo
  rfl
theorem y6k (u:Un) (s:ByteArray):SC Tryz.prog 123 [.pv u.enc,iStr s] [] (fun _=>False) (iBool (decide (z0e s u.arrays 0 ≥ 0))) []:=by
  refine SC.of Tryz.func123 rfl (lb rfl) fun F ρ w=>?_
  refine tQ <| tG <| cE rfl (z3y rfl rfl) <| cE rfl (y47 rfl rfl rfl) <| sm 1 rfl <| nL <| tQ <| tG <| sm 2 rfl <| cV rfl (z67 rfl rfl rfl) <| cE rfl (ocq (y7y 131 [.pv (.ept [vStr s] 0)] [] rfl ent131 (fun f:Ar=>f.name.toList==s.toList) u.arrays (fun x hm=>(yg2 x s).anyR)) ent130 rfl rfl) <| sm 1 rfl ?_
  refine nL <| tRt <| rOk rfl ?_ nPo
  rw [zq9 _ _ _ (Int.le_refl 0)]
theorem y0o (u:Un) (f:Fl) (st:List Int) (v t:Int):SC Tryz.prog 124 [.ptr 3 0,iInt v,iInt t] (ckS u f 3 st) (fun _=>True) (iBool (z4y f.types v t)) (ckS u f 3 st):=by
  refine SC.of Tryz.func124 rfl (lb rfl) fun F ρ w=>?_
  refine tQ <| tG <| sm 1 rfl <| nL <| tQ <| tG <| sm 3 rfl ?_
  refine wS 9 rfl (fun hb9=>?_) fun hb9=>?_
  ·refine sm 2 rfl <| yV rfl rfl (nCk rfl rfl rfl) <| sm 3 rfl <| yV rfl rfl (oSm uT35 rfl) <| sm 3 rfl ?_
   refine wS 19 rfl (fun hb19=>?_) fun hb19=>?_
   ·refine sm 3 rfl ?_
    refine wS 22 rfl (fun hb22=>?_) fun hb22=>?_
    ·refine sm 13 rfl <| nL <| tRt <| rOk rfl ?_ (fun _ _ h=>h)
     refine congrArg (fun b=>iBool b) ?_
     try clear hvx
     simp_all [z4y]
    have hv0:v.toNat<f.types.length:=by simp at hb9 hb19;omega
    have hvx:v=((v.toNat:Nat):Int):=by simp at hb9;omega
    have hty:(f.types.map eInt)[v.toNat]? = some [vInt (f.types.getD v.toNat 0)]:=by rw [List.getElem?_map];simp [eInt,List.getD,hv0]
    refine sm 1 rfl <| yV rfl rfl (nCk rfl rfl rfl) <| sm 4 rfl <| yV rfl rfl (iSq rfl rfl rfl uT35 hty tS3 rfl oM0) <| sm 6 rfl <| nL <| tRt <| rOk rfl ?_ (fun _ _ h=>h)
    refine congrArg (fun b=>iBool b) ?_
    try clear hvx
    simp_all [z4y]
   refine sm 3 rfl <| nUu rfl rfl rfl rfl rfl rfl <| nUu rfl rfl rfl rfl rfl rfl <| nUu rfl rfl rfl rfl rfl rfl <| nUu rfl rfl rfl rfl rfl rfl <| nUu rfl rfl rfl rfl rfl rfl <| nUu rfl rfl rfl rfl rfl rfl <| nUu rfl rfl rfl rfl rfl rfl <| nUu rfl rfl rfl rfl rfl rfl <| nUu rfl rfl rfl rfl rfl rfl <| nUu rfl rfl rfl rfl rfl rfl <| sm 3 rfl ?_
   refine nL <| tRt <| rOk rfl ?_ (fun _ _ h=>h)
   refine congrArg (fun b=>iBool b) ?_
   try clear hvx
   (simp_all [z4y]<;>omega)
  refine sm 13 rfl <| nUu rfl rfl rfl rfl rfl rfl <| nUu rfl rfl rfl rfl rfl rfl <| nUu rfl rfl rfl rfl rfl rfl <| nUu rfl rfl rfl rfl rfl rfl <| nUu rfl rfl rfl rfl rfl rfl <| nUu rfl rfl rfl rfl rfl rfl <| nUu rfl rfl rfl rfl rfl rfl <| nUu rfl rfl rfl rfl rfl rfl <| nUu rfl rfl rfl rfl rfl rfl <| nUu rfl rfl rfl rfl rfl rfl <| sm 3 rfl ?_
  refine nL <| tRt <| rOk rfl ?_ (fun _ _ h=>h)
  refine congrArg (fun b=>iBool b) ?_
  try clear hvx
  (simp_all [z4y]<;>omega)
theorem yg8 (u:Un) (f:Fl) (st:List Int) (hs:st.length=f.types.length) (v t:Int):SC Tryz.prog 126 [iInt v,iInt t,.ptr 5 0] (ckSp u f 3 5 st) (fun _=>True) (iBool (zi7 f.types st v t).1) (ckSp u f 3 5 st):=by
  refine SC.of Tryz.func126 rfl (lb rfl) fun F ρ w=>?_
  refine tQ <| tG <| sm 1 rfl <| nL <| tQ <| tG <| sm 3 rfl <| cE rfl (ocr (y0o u f st v t) y9o rfl (po2 rfl rfl) rfl (fun k (h:_)=>.inr trivial) rfl rfl) <| sm 1 rfl ?_
  refine wS 10 rfl (fun hb10=>?_) fun hb10=>?_
  ·have hrg:0<=v/\v<f.types.length:=by
     have hvv:z4y f.types v t=true:=by simpa using hb10
     simp only [z4y,Bool.and_eq_true,decide_eq_true_eq] at hvv
     exact ⟨hvv.1.1,hvv.1.2⟩
   have hv0:v.toNat<f.types.length:=by omega
   have hvx:v=((v.toNat:Nat):Int):=by omega
   have hst:(st.map eInt)[v.toNat]? = some [vInt (st.getD v.toNat 0)]:=by rw [List.getElem?_map];simp [eInt,List.getD,hs,hv0]
   have hstl:v.toNat<(st.map eInt).length:=by simpa [hs] using hv0
   refine sm 1 rfl <| yV rfl rfl (nCk rfl rfl rfl) <| sm 3 rfl <| yV rfl rfl (iRw rfl rfl rfl rfl rfl uT35 tS3 (by assumption) oM0) <| yV rfl rfl (lRw rfl rfl rfl rfl (Nat.add_zero _).symm (by assumption) rfl uT3 rfl trivial) <| sm 3 rfl <| nL <| tRt <| rOk rfl ?_ (z2p (And.intro rfl (And.intro rfl (And.intro rfl (trivial)))))
   refine congrArg (fun b=>iBool b) ?_
   try clear hvx
   simp_all [zi7]
  refine sm 10 rfl <| nL <| tRt <| rOk rfl ?_ (z2p (And.intro rfl (And.intro rfl (And.intro rfl (trivial)))))
  refine congrArg (fun b=>iBool b) ?_
  try clear hvx
  simp_all [zi7]
theorem z2b (u:Un) (f:Fl) (st:List Int) (hs:st.length=f.types.length) (l want:List Int):SC Tryz.prog 119 [.ptr 3 0,.pv (ints l),.pv (ints want)] (ckS u f 3 st) (fun _=>True) (iBool (z0w f.types st l want)) (ckS u f 3 st):=by
  refine SC.of Tryz.func119 rfl (lb rfl) fun F ρ w=>?_
  refine tQ <| tG <| cE rfl (zh5 (k:=5) rfl rfl ⟨_,rfl⟩ rfl rfl rfl rfl rfl) <| sm 1 rfl <| nL <| tQ <| tG <| sm 2 rfl <| cV rfl (z67 rfl rfl rfl) <| cE rfl (ocr (sc_eqf 126 [.ptr 5 0] (List Int) (fun s=>ckSp u f 3 5 s) [5,3,4] (fun _=>rfl) (fun _=>rfl) ent126 (zi7 f.types) (fun _=>True) (fun s=>s.length=f.types.length) (fun s x y h=>h) (fun s x y h=>yg8 u f s h x y) st hs l want) ent125 rfl (po3 rfl rfl rfl) rfl (fun k (h:_)=>.inr trivial) rfl rfl) <| sm 1 rfl <| nL ?_
  refine tRt ?_
  have h2:=y8b f.types st l want
  rw [h2]
  exact rOk rfl rfl (po2 rfl rfl)
theorem yg7 (u:Un) (f:Fl) (st:List Int) (hs:st.length=f.types.length) (v t:Int):SC Tryz.prog 127 [iInt v,iInt t,.ptr 5 0] (ckSp u f 3 5 st) (fun k=>k=3∨k=5) (iBool (z3k f.types st v t).1) (ckSp u f 3 5 (z3k f.types st v t).2):=by
  refine SC.of Tryz.func127 rfl (lb rfl) fun F ρ w=>?_
  refine tQ <| tG <| sm 1 rfl <| nL <| tQ <| tQ <| tG <| sm 3 rfl <| cE rfl (ocr (y0o u f st v t) y9o rfl (po2 rfl rfl) rfl (fun k (h:_)=>.inr trivial) rfl rfl) <| sm 2 rfl ?_
  refine wS 11 rfl (fun hb11=>?_) fun hb11=>?_
  ·refine sm 9 rfl <| nL <| Tr.condT rfl <| tQ <| tG <| sm 1 rfl <| nL <| tRt ?_
   have h2:z3k f.types st v t=(false,st):=by
     try clear hvx
     simp_all [z3k]
   rw [h2]
   exact rOk rfl rfl (po3 rfl rfl rfl)
  have hrg:0<=v/\v<f.types.length:=by
    have hvv:z4y f.types v t=true:=by simpa using hb11
    simp only [z4y,Bool.and_eq_true,decide_eq_true_eq] at hvv
    exact ⟨hvv.1.1,hvv.1.2⟩
  have hv0:v.toNat<f.types.length:=by omega
  have hvx:v=((v.toNat:Nat):Int):=by omega
  have hst:(st.map eInt)[v.toNat]? = some [vInt (st.getD v.toNat 0)]:=by rw [List.getElem?_map];simp [eInt,List.getD,hs,hv0]
  have hstl:v.toNat<(st.map eInt).length:=by simpa [hs] using hv0
  refine sm 1 rfl <| yV rfl rfl (nCk rfl rfl rfl) <| sm 3 rfl <| yV rfl rfl (iRw rfl rfl rfl rfl rfl uT35 tS3 (by assumption) oM0) <| yV rfl rfl (lRw rfl rfl rfl rfl (Nat.add_zero _).symm (by assumption) rfl uT3 rfl trivial) <| sm 2 rfl <| nL ?_
  refine tC rfl (fun hc20=>?_) fun hc20=>?_
  ·refine tQ <| tG <| sm 1 rfl <| nL <| tRt ?_
   have h2:z3k f.types st v t=(false,st):=by
     try clear hvx
     simp_all [z3k]
   rw [h2]
   exact rOk rfl rfl (po3 rfl rfl rfl)
  refine tSk <| tQ <| tG <| sm 1 rfl <| cV rfl (nCk rfl rfl rfl) <| sm 3 rfl <| cV rfl (iRw rfl rfl rfl rfl rfl uT35 tS3 (by assumption) oM0) <| c0 (z59 rfl rfl rfl rfl rfl (Nat.add_zero _).symm (by assumption) sI0 tS3 rfl sI0) <| nL <| tQ <| tG <| sm 1 rfl ?_
  refine nL <| tRt ?_
  have h2:z3k f.types st v t=(true,st.set v.toNat 1):=by
    try clear hvx
    simp_all [z3k]
  rw [h2]
  exact rOk rfl rfl (z2p (And.intro rfl (And.intro (set3 rfl) (And.intro (set4 rfl) trivial))))
theorem z3i (u:Un) (f:Fl) (st:List Int) (hs:st.length=f.types.length) (l want:List Int):SC Tryz.prog 121 [.ptr 3 0,.pv (ints l),.pv (ints want)] (ckS u f 3 st) (fun k=>k=3) (iBool (z1h f.types st l want).1) (ckS u f 3 (z1h f.types st l want).2):=by
  refine SC.of Tryz.func121 rfl (lb rfl) fun F ρ w=>?_
  refine tQ <| tG <| cE rfl (zh5 (k:=5) rfl rfl ⟨_,rfl⟩ rfl rfl rfl rfl rfl) <| sm 1 rfl <| nL <| tQ <| tG <| sm 2 rfl <| cV rfl (z67 rfl rfl rfl) <| cE rfl (ocr (sc_eqf 127 [.ptr 5 0] (List Int) (fun s=>ckSp u f 3 5 s) [5,3,4] (fun _=>rfl) (fun _=>rfl) ent127 (z3k f.types) (fun k=>k=3∨k=5) (fun s=>s.length=f.types.length) (fun s x y h=>(z7t f.types s x y).trans h) (fun s x y h=>yg7 u f s h x y) st hs l want) ent125 rfl (po3 rfl rfl rfl) rfl (fun k (h:_)=>by (subst h;first | exact .inl rfl | exact .inr rfl | exact .inr dC0)) rfl rfl) <| sm 1 rfl <| nL ?_
  refine tRt <| rOk rfl ?_ (z2p (And.intro rfl (And.intro rfl (trivial))))
  rfl
theorem y0m (u:Un) (f:Fl) (st:List Int) (hs:st.length=f.types.length) (l:List Int) (hb:l.length<=1073741824):SC Tryz.prog 120 [.ptr 3 0,.pv (ints l)] (ckS u f 3 st) (fun k=>k=3) (iBool (z1h f.types st l (List.replicate l.length 0)).1) (ckS u f 3 (z1h f.types st l (List.replicate l.length 0)).2):=by
  refine SC.of Tryz.func120 rfl (lb rfl) fun F ρ w=>?_
  refine tQ <| tG <| sm 1 rfl <| nL <| tQ <| tG <| sm 3 rfl <| cV rfl (oSm uT35 rfl) <| cE rfl (z6p (k:=109) (s:=⟨3,1⟩) rfl rfl rfl uT35 tZ3 tC3 rfl dC0 oM0 oM0 rfl rfl rfl rfl) <| cE rfl (y4a (fun k=>k=109) (z3i u f st hs l (List.replicate l.length 0)) y9n rfl rfl (sRf _ _) (And.intro LendOf.same (And.intro LendOf.same (And.intro (LendOf.row rfl rfl (by (simp;done)) (by (simp only [List.map_replicate];rfl))) (trivial)))) (fun k h=>by subst h;rfl) (po2 rfl rfl) rfl (fun k (h:_)=>.inr h) ⟨_,rfl⟩ (ckS_lend (z32 ..))) <| sm 1 rfl <| nL ?_
  refine tRt <| rOk rfl ?_ (z2p (And.intro rfl (And.intro rfl (trivial))))
  rfl
theorem y2q (u:Un) (f:Fl) (st:List Int) (hs:st.length=f.types.length) (l:List Int) (hin:∀ v∈l,0<=v/\v<f.types.length):SC Tryz.prog 91 [.ptr 3 0,.pv (ints l)] (ckS u f 3 st) (fun k=>k=3) (.tup []) (ckS u f 3 (z3b st l)):=by
  refine SC.of Tryz.func91 rfl (lb rfl) fun F ρ w=>?_
  refine Tr.lenOf (t:=1) rfl (fun hl=>?_)
  simp only [List.length_map] at hl
  refine tQ <| tG <| sm 1 rfl <| cV rfl (oSm uT35 rfl) <| sm 1 rfl <| nL <| tBk <| Tr.sub (Sub.of (fr':=[(8,iInt 0),(7,iInt l.length),(6,.pv (ints l)),(0,.ptr 3 0)]) ⟨rfl,rfl,rfl,rfl,trivial⟩) ?_
  refine Tr.loop (fun fr σ m=>∃ (k:Nat) (s:List Int),(k<=l.length)/\(z3b st l=z3b s (l.drop k))/\(s.length=f.types.length)/\fr=[(8,iInt k),(7,iInt l.length),(6,.pv (ints l)),(0,.ptr 3 0)] /\ σ = look (up (ckS u f 3 s))/\m=l.length - k) (n:=l.length - 0) ?_ ?_
  ·exact ⟨0,st,Nat.zero_le _,rfl,hs,rfl,rfl,rfl⟩
  rintro fr σ m ⟨k,s,hI0,hI1,hI2,rfl,rfl,rfl⟩
  refine tQ <| tG <| sm 1 rfl <| nL <| tQ ?_
  refine tC rfl (fun hc9=>?_) fun hc9=>?_
  ·have hlt:k<l.length:=by simpa using hc9
   have hd:=List.drop_eq_getElem_cons hlt
   have hm:=List.getElem_mem hlt
   have hi:=z06 (f:=eInt) (List.getElem?_eq_getElem hlt)
   generalize l[k]=x at hd hm hi
   obtain ⟨hx0,hx1⟩:=hin x hm
   have hv0:x.toNat<f.types.length:=by omega
   have hvx:x=((x.toNat:Nat):Int):=by omega
   have hst:(s.map eInt)[x.toNat]? = some [vInt (s.getD x.toNat 0)]:=by rw [List.getElem?_map];simp [eInt,List.getD,hI2,hv0]
   have hstl:x.toNat<(s.map eInt).length:=by simpa [hI2] using hv0
   refine tSk <| tQ <| tBk <| tQ <| tG <| cV rfl (iSq rfl rfl rfl uT35 hi tS3 rfl (by rfl)) <| sm 2 rfl <| nL <| tG <| sm 1 rfl <| cV rfl (nCk rfl rfl rfl) <| sm 3 rfl ?_
   refine cV rfl (iRw rfl rfl rfl rfl rfl uT35 tS3 (by assumption) oM0) <| c0 (z59 rfl rfl rfl rfl rfl (Nat.add_zero _).symm (by assumption) sI0 tS3 rfl sI0) <| nL <| tG <| cV rfl (oB rfl rfl (z03 rfl oM0)) <| sm 1 rfl <| nL ?_
   refine ⟨_,_,?_,Sub.of (fr':=[(8,iInt (k+1)),(7,iInt l.length),(6,.pv (ints l)),(0,.ptr 3 0)]) ⟨rfl,rfl,rfl,rfl,trivial⟩,(k+1),(s.set x.toNat 2),?_,?_,?_,rfl,(funext y9c),rfl⟩
   ·omega
   ·omega
   ·rw [hI1,hd];rfl
   simpa using hI2
  refine tEx ?_
  have hge:l.length<=k:=by simpa using hc9
  have h2:z3b st l=s:=by rw [hI1,List.drop_eq_nil_of_le hge];rfl
  rw [h2]
  exact end_ok rfl rfl (fun _ _ h=>h)
theorem tZ145:((Tryz.prog.info? 145).bind (·.zero))=some (.agg #[.string ⟨#[]⟩,.int .i64 0,.string ⟨#[]⟩,.int .i64 0,.string ⟨#[]⟩,.int .i64 0,.string ⟨#[]⟩,.int .i64 0,.string ⟨#[]⟩,.int .i64 0,.string ⟨#[]⟩,.int .i64 0,.string ⟨#[]⟩,.int .i64 0,.string ⟨#[]⟩,.int .i64 0,.string ⟨#[]⟩,.int .i64 0,.string ⟨#[]⟩,.int .i64 0,.string ⟨#[]⟩,.int .i64 0,.string ⟨#[]⟩,.int .i64 0,.string ⟨#[]⟩,.int .i64 0,.string ⟨#[]⟩,.int .i64 0,.string ⟨#[]⟩,.int .i64 0,.string ⟨#[]⟩,.int .i64 0,.string ⟨#[]⟩,.int .i64 0,.string ⟨#[]⟩,.int .i64 0,.string ⟨#[]⟩,.int .i64 0,.string ⟨#[]⟩,.int .i64 0,.string ⟨#[]⟩,.int .i64 0,.string ⟨#[]⟩,.int .i64 0,.string ⟨#[]⟩,.int .i64 0,.string ⟨#[]⟩,.int .i64 0,.string ⟨#[]⟩,.int .i64 0,.string ⟨#[]⟩,.int .i64 0,.string ⟨#[]⟩,.int .i64 0,.string ⟨#[]⟩,.int .i64 0,.string ⟨#[]⟩,.int .i64 0]):=by kernel_rfl
theorem tS145:(Tryz.prog.info? 145).map (·.size)=some 58:=by kernel_rfl
theorem sc_rowOf (op:Int):SC Tryz.prog 132 [iInt op] [] (fun _=>False) (.pv (.agg [vStr (wSign op),vInt (z9z op)])) []:=by
  refine SC.ofC Tryz.func132 rfl (lb rfl) rfl fun F ρ w=>?_
  refine tQ ?_
  refine tG ?_
  refine cE rfl (aLc (k:=102) rfl z4i rfl rfl rfl rfl) ?_
  refine nL ?_
  refine tQ ?_
  refine tG ?_
  refine cV rfl (bPu rfl rfl z4i z4n rfl (fbk rfl) rfl) ?_
  refine cV rfl (bPu rfl rfl z4i z4n rfl (fbk rfl) rfl) ?_
  refine cV rfl (bPu rfl rfl z4i z4n rfl (fbk rfl) rfl) ?_
  refine cV rfl (bPu rfl rfl z4i z4n rfl (fbk rfl) rfl) ?_
  refine cV rfl (bPu rfl rfl z4i z4n rfl (fbk rfl) rfl) ?_
  refine cV rfl (bPu rfl rfl z4i z4n rfl (fbk rfl) rfl) ?_
  refine cV rfl (bPu rfl rfl z4i z4n rfl (fbk rfl) rfl) ?_
  refine cV rfl (bPu rfl rfl z4i z4n rfl (fbk rfl) rfl) ?_
  refine cV rfl (bPu rfl rfl z4i z4n rfl (fbk rfl) rfl) ?_
  refine cV rfl (bPu rfl rfl z4i z4n rfl (fbk rfl) rfl) ?_
  refine cV rfl (bPu rfl rfl z4i z4n rfl (fbk rfl) rfl) ?_
  refine cV rfl (bPu rfl rfl z4i z4n rfl (fbk rfl) rfl) ?_
  refine cV rfl (bPu rfl rfl z4i z4n rfl (fbk rfl) rfl) ?_
  refine cV rfl (bPu rfl rfl z4i z4n rfl (fbk rfl) rfl) ?_
  refine cV rfl (bPu rfl rfl z4i z4n rfl (fbk rfl) rfl) ?_
  refine cV rfl (bPu rfl rfl z4i z4n rfl (fbk rfl) rfl) ?_
  refine cV rfl (bPu rfl rfl z4i z4n rfl (fbk rfl) rfl) ?_
  refine cV rfl (bPu rfl rfl z4i z4n rfl (fbk rfl) rfl) ?_
  refine cV rfl (bPu rfl rfl z4i z4n rfl (fbk rfl) rfl) ?_
  refine cV rfl (bPu rfl rfl z4i z4n rfl (fbk rfl) rfl) ?_
  refine cV rfl (bPu rfl rfl z4i z4n rfl (fbk rfl) rfl) ?_
  refine cV rfl (bPu rfl rfl z4i z4n rfl (fbk rfl) rfl) ?_
  refine cV rfl (bPu rfl rfl z4i z4n rfl (fbk rfl) rfl) ?_
  refine cV rfl (bPu rfl rfl z4i z4n rfl (fbk rfl) rfl) ?_
  refine cV rfl (bPu rfl rfl z4i z4n rfl (fbk rfl) rfl) ?_
  refine cV rfl (bPu rfl rfl z4i z4n rfl (fbk rfl) rfl) ?_
  refine cV rfl (bPu rfl rfl z4i z4n rfl (fbk rfl) rfl) ?_
  refine cV rfl (bPu rfl rfl z4i z4n rfl (fbk rfl) rfl) ?_
  refine cV rfl (zj6 rfl rfl tZ145 Tryz.underlying145 y0v rfl (fbk rfl)) ?_
  refine cE rfl (aLc (k:=103) rfl tZ145 rfl rfl rfl rfl) ?_
  refine c0 (sBA rfl rfl rfl rfl rfl ((fun h=>h)) tS145 (flk rfl) (lb rfl)) ?_
  refine nL ?_
  refine tQ ?_
  refine tQ ?_
  refine tG ?_
  refine sm 3 rfl ?_
  refine wS 35 rfl (fun hb35=>?_) fun hb35=>?_
  ·refine sm 3 rfl ?_
   refine nL ?_
   refine Tr.condT rfl ?_
   refine tQ ?_
   refine tG ?_
   refine cV rfl (bPu rfl rfl z4i z4n rfl (fbk rfl) rfl) ?_
   refine c0 (sBA rfl rfl rfl rfl rfl ((fun h=>h)) y0v (flk rfl) (lb rfl)) ?_
   refine nL ?_
   refine tRt ?_
   have hop:op<0∨op ≥ 29:=by
     simp_all
   refine rCk (.inl rfl) (fun _ _ ho=>lBP ho rfl rfl Tryz.underlying142 rfl y0v (lb rfl) rfl trivial) ?_ nPo
   rcases hop with h | h<;>simp [wSign,z9z,h]<;>rfl
  refine sm 3 rfl ?_
  refine nL ?_
  refine tC rfl (fun hc38=>?_) fun hc38=>?_
  ·refine tQ ?_
   refine tG ?_
   refine cV rfl (bPu rfl rfl z4i z4n rfl (fbk rfl) rfl) ?_
   refine c0 (sBA rfl rfl rfl rfl rfl ((fun h=>h)) y0v (flk rfl) (lb rfl)) ?_
   refine nL ?_
   refine tRt ?_
   have hop:op<0∨op ≥ 29:=by
     simp_all
   refine rCk (.inl rfl) (fun _ _ ho=>lBP ho rfl rfl Tryz.underlying142 rfl y0v (lb rfl) rfl trivial) ?_ nPo
   rcases hop with h | h<;>simp [wSign,z9z,h]<;>rfl
  refine tSk ?_
  refine tQ ?_
  have hop:0<=op/\op<29:=by
    simp_all
  rcases y98 hop.1 hop.2 with rfl | rfl | rfl | rfl | rfl | rfl | rfl | rfl | rfl | rfl | rfl | rfl | rfl | rfl | rfl | rfl | rfl | rfl | rfl | rfl | rfl | rfl | rfl | rfl | rfl | rfl | rfl | rfl | rfl
  all_goals
    refine tG ?_
    refine sm 1 rfl ?_
    refine cV rfl (zj8 rfl rfl rfl rfl Tryz.underlying145 y0v (by rfl) dC0) ?_
    refine cV rfl (lBP rfl rfl rfl Tryz.underlying142 rfl y0v (lb rfl) rfl trivial) ?_
    refine c0 (sBA rfl rfl rfl rfl rfl ((fun h=>h)) y0v (flk rfl) (lb rfl)) ?_
    refine nL ?_
    refine tRt <| rCk (.inl rfl) (fun _ _ ho=>lBP ho rfl rfl Tryz.underlying142 rfl y0v (lb rfl) rfl trivial) ?_ nPo
    rfl
theorem yh5 (op:Int):SC Tryz.prog 129 [iInt op] [] (fun _=>False) (iInt (z9z op)) []:=by
  refine SC.of Tryz.func129 rfl (lb rfl) fun F ρ w=>?_
  refine tQ ?_
  refine tG ?_
  refine sm 1 rfl ?_
  refine nL ?_
  refine tQ ?_
  refine tG ?_
  refine sm 1 rfl ?_
  refine cE rfl (ocq (sc_rowOf op) ent132 rfl rfl) ?_
  refine cV rfl (ze3 rfl rfl Tryz.underlying142 rfl uT3 rfl rfl) ?_
  refine sm 1 rfl ?_
  refine nL ?_
  refine tRt <| rOk rfl ?_ nPo
  rfl
set_option maxRecDepth 20000
theorem ky {d:TypeDesc} {es:List (Value × PV)} (h:(es.all fun e=>z2d d e.1)=true):∀ e∈es,z2d d e.1=true:=List.all_eq_true.1 h
set_option maxHeartbeats 2000000
attribute [local simp] z12 r8op y7q zw9 r8kn Nd.kind Nd.op Nd.n Nd.name Nd.kids Nd.params z62 in
theorem yg0 (x:Nd):SC Tryz.prog 106 [.pv (ndv x)] [] (fun _=>False) (iBool (z12 x)) []:=by
  refine SC.anyR (SC.vc tb {} [] Tryz.func106 rfl rfl ?_)
  obtain ⟨kind,op,n,name,args,outs,params,kids⟩:=x
  rcases (show kind=3∨kind=4∨kind=1∨kind=2∨kind=5∨kind=6∨kind=7∨kind=11∨kind=10∨(kind≠1/\kind≠2/\kind≠3/\kind≠4/\kind≠5/\kind≠6/\kind≠7/\kind≠11/\kind≠10) by omega) with rfl | rfl | rfl | rfl | rfl | rfl | rfl | rfl | rfl | h
  · exact ⟨rfl,ky rfl,rfl,ky rfl,rfl,ky rfl,rfl,z00 (fun h3=>z00 (fun h2=>z00 (fun h1=>⟨sE (congrArg iBool (by simp_all)),trivial⟩) fun h1=>⟨sE (congrArg iBool (by simp_all)),trivial⟩) fun h2=>⟨sE (congrArg iBool (by simp_all)),trivial⟩) fun h3=>⟨sE (congrArg iBool (by simp_all)),trivial⟩⟩
  · exact ⟨rfl,ky rfl,rfl,ky rfl,rfl,ky rfl,rfl,z00 (fun h3=>z00 (fun h2=>z00 (fun h1=>⟨sE (congrArg iBool (by simp_all)),trivial⟩) fun h1=>⟨sE (congrArg iBool (by simp_all)),trivial⟩) fun h2=>⟨sE (congrArg iBool (by simp_all)),trivial⟩) fun h3=>⟨sE (congrArg iBool (by simp_all)),trivial⟩⟩
  · exact ⟨rfl,ky rfl,rfl,ky rfl,rfl,ky rfl,rfl,z00 (fun h3=>z00 (fun h2=>z00 (fun h1=>⟨sE (congrArg iBool (by simp_all)),trivial⟩) fun h1=>⟨sE (congrArg iBool (by simp_all)),trivial⟩) fun h2=>⟨sE (congrArg iBool (by simp_all)),trivial⟩) fun h3=>⟨sE (congrArg iBool (by simp_all)),trivial⟩⟩
  · exact ⟨rfl,ky rfl,rfl,ky rfl,rfl,ky rfl,rfl,z00 (fun h3=>z00 (fun h2=>z00 (fun h1=>⟨sE (congrArg iBool (by simp_all)),trivial⟩) fun h1=>⟨sE (congrArg iBool (by simp_all)),trivial⟩) fun h2=>⟨sE (congrArg iBool (by simp_all)),trivial⟩) fun h3=>⟨sE (congrArg iBool (by simp_all)),trivial⟩⟩
  · exact ⟨rfl,ky rfl,rfl,ky rfl,rfl,ky rfl,rfl,z00 (fun h4=>z00 (fun h3=>z00 (fun h2=>z00 (fun h1=>⟨sE (congrArg iBool (by simp_all)),trivial⟩) fun h1=>⟨sE (congrArg iBool (by simp_all)),trivial⟩) fun h2=>⟨sE (congrArg iBool (by simp_all)),trivial⟩) fun h3=>⟨sE (congrArg iBool (by simp_all)),trivial⟩) fun h4=>⟨sE (congrArg iBool (by simp_all)),trivial⟩⟩
  · exact ⟨rfl,ky rfl,rfl,ky rfl,rfl,ky rfl,rfl,z00 (fun h4=>z00 (fun h3=>z00 (fun h2=>z00 (fun h1=>⟨sE (congrArg iBool (by simp_all)),trivial⟩) fun h1=>⟨sE (congrArg iBool (by simp_all)),trivial⟩) fun h2=>⟨sE (congrArg iBool (by simp_all)),trivial⟩) fun h3=>⟨sE (congrArg iBool (by simp_all)),trivial⟩) fun h4=>⟨sE (congrArg iBool (by simp_all)),trivial⟩⟩
  · exact ⟨rfl,ky rfl,rfl,ky rfl,rfl,ky rfl,rfl,z00 (fun h4=>z00 (fun h3=>z00 (fun h2=>z00 (fun h1=>⟨sE (congrArg iBool (by simp_all)),trivial⟩) fun h1=>⟨sE (congrArg iBool (by simp_all)),trivial⟩) fun h2=>⟨sE (congrArg iBool (by simp_all)),trivial⟩) fun h3=>⟨sE (congrArg iBool (by simp_all)),trivial⟩) fun h4=>⟨sE (congrArg iBool (by simp_all)),trivial⟩⟩
  · exact ⟨rfl,ky rfl,rfl,ky rfl,rfl,ky rfl,rfl,z00 (fun h3=>z00 (fun h2=>z00 (fun h1=>⟨sE (congrArg iBool (by simp_all)),trivial⟩) fun h1=>⟨sE (congrArg iBool (by simp_all)),trivial⟩) fun h2=>⟨sE (congrArg iBool (by simp_all)),trivial⟩) fun h3=>⟨sE (congrArg iBool (by simp_all)),trivial⟩⟩
  · exact ⟨rfl,ky rfl,rfl,ky rfl,rfl,ky rfl,rfl,z00 (fun h4=>z00 (fun h3=>z00 (fun h2=>z00 (fun h1=>⟨sE (congrArg iBool (by simp_all)),trivial⟩) fun h1=>⟨sE (congrArg iBool (by simp_all)),trivial⟩) fun h2=>⟨sE (congrArg iBool (by simp_all)),trivial⟩) fun h3=>⟨sE (congrArg iBool (by simp_all)),trivial⟩) fun h4=>⟨sE (congrArg iBool (by simp_all)),trivial⟩⟩
  · obtain ⟨k1,k2,k3,k4,k5,k6,k7,k8,k9⟩:=h
    have no:∀ {i:Int},kind≠i->(kind==i)=true->False:=fun h e=>h (eq_of_beq e)
    exact ⟨rfl,ky rfl,rfl,ky rfl,VAsk.mk (p:=vInt 0) (b:=false) rfl (ky rfl) (by simp [Nd.kind,k8,k9,mput,keyB,z4m]<;>rfl) (z00 (fun h=>(no k3 h).elim) fun _=>z00 (fun h=>(no k4 h).elim) fun _=>z00 (fun h=>(no k1 h).elim) fun _=>z00 (fun h=>(no k2 h).elim) fun _=>z00 (fun h=>(no k5 h).elim) fun _=>z00 (fun h=>(no k6 h).elim) fun _=>z00 (fun h=>(no k7 h).elim) fun _=>z00 (fun h=>(no k8 h).elim) fun _=>z00 (fun h4=>z00 (fun h3=>z00 (fun h2=>z00 (fun h1=>⟨sE (congrArg iBool (by simp_all)),trivial⟩) fun h1=>⟨sE (congrArg iBool (by simp_all)),trivial⟩) fun h2=>⟨sE (congrArg iBool (by simp_all)),trivial⟩) fun h3=>⟨sE (congrArg iBool (by simp_all)),trivial⟩) fun h4=>⟨sE (congrArg iBool (by simp_all)),trivial⟩)⟩
theorem zi4 (u:Un) (f:Fl) (st:List Int) (hs:st.length=f.types.length) (l:List Int) (hb:l.length<=1073741824):SC Tryz.prog 118 [.ptr 3 0,.pv (ints l)] (ckS u f 3 st) (fun k=>k<100) (.pv (ints (r8of f.types l))) (ckS u f 3 st):=by
  refine SC.of Tryz.func118 rfl (lb rfl) fun F ρ w=>?_
  refine Tr.lenOf (t:=1) rfl (fun hl=>?_)
  simp only [List.length_map] at hl
  rw [ye1]
  refine tQ <| tG <| sm 1 rfl <| nL <| tQ <| tQ <| Tr.grow (t:=4) (k:=104) ⟨3,1⟩ rfl rfl rfl rfl rfl <| tG <| sm 1 rfl <| cV rfl (oSm uT35 rfl) <| sm 1 rfl <| nL ?_
  refine tBk <| Tr.sub (Sub.of (fr':=[(9,iInt 0),(8,iInt l.length),(7,.pv (ints l)),(4,.sl 104 0),(0,.ptr 3 0)]) ⟨rfl,rfl,rfl,rfl,rfl,trivial⟩) ?_
  refine Tr.loop (fun fr σ m=>∃ (k:Nat) (acc:List Int),(k<=l.length)/\(acc.length=k)/\(z6s f.types [] l=z6s f.types acc (l.drop k))/\fr=[(9,iInt k),(8,iInt l.length),(7,.pv (ints l)),(4,.sl 104 k),(0,.ptr 3 0)] /\ σ = look ((104,some (.row ⟨3,1⟩ (acc.map eInt)))::up (ckS u f 3 st))/\m=l.length - k) (n:=l.length - 0) ?_ ?_
  ·exact ⟨0,[],Nat.zero_le _,rfl,rfl,rfl,rfl,rfl⟩
  rintro fr σ m ⟨k,acc,hI0,hI1,hI2,rfl,rfl,rfl⟩
  refine tQ <| tG <| sm 1 rfl <| nL <| tQ ?_
  refine tC rfl (fun hc10=>?_) fun hc10=>?_
  ·have hlt:k<l.length:=by simpa using hc10
   have hd:=List.drop_eq_getElem_cons hlt
   have hm:=List.getElem_mem hlt
   have hi:=z06 (f:=eInt) (List.getElem?_eq_getElem hlt)
   generalize l[k]=x at hd hm hi
   refine tSk <| tQ <| tBk <| tQ <| tG <| cV rfl (iSq rfl rfl rfl uT35 hi tS3 rfl (by rfl)) <| sm 2 rfl <| nL <| tQ <| tQ <| tG <| sm 2 rfl ?_
   refine cE rfl (ocr (y0o u f st x 0) y9o rfl (po2 rfl rfl) rfl (fun k (h:_)=>.inr trivial) rfl rfl) <| sm 1 rfl <| nL ?_
   refine tC rfl (fun hc16=>?_) fun hc16=>?_
   ·refine tQ <| tG <| sm 1 rfl <| nL <| tRt ?_
    have hin:z6k f.types x=false:=by
      cases hr:z6k f.types x with
      | false=>rfl
      | true=>simp [z6k] at hr;simp [z4y] at hc16;omega
    rw [hI2,hd]
    simp only [z6s,hin]
    exact ⟨⟨_,rfl,fun _ _ _ _ h=>y52 h⟩,(po2 rfl rfl)⟩
   have hin:z6k f.types x=true:=by simp [z4y] at hc16;simp [z6k];omega
   have hv0:x.toNat<f.types.length:=by simp [z6k] at hin;omega
   have hvx:x=((x.toNat:Nat):Int):=by simp [z6k] at hin;omega
   have hty:(f.types.map eInt)[x.toNat]? = some [vInt (f.types.getD x.toNat 0)]:=by rw [List.getElem?_map];simp [eInt,List.getD,hv0]
   refine tSk <| tG <| sm 2 rfl <| cV rfl (nCk rfl rfl rfl) <| sm 4 rfl <| cV rfl (iSq rfl rfl rfl uT35 hty tS3 rfl oM0) <| sm 1 rfl <| cE rfl (bSl rfl rfl uT35 tZ3 tS3 rfl rfl rfl rfl (fbk rfl) rfl) ?_
   refine cE rfl (aPp rfl rfl rfl rfl (by (simp;omega)) sI0 uT35 tB3 dC0 (by (simp [z0c];done)) (by (simp [z0c,PV.one];rfl)) (by simp [maxLen,z0c];omega) (by simp [z0c];omega)) ?_
   refine sm 1 rfl <| nL <| tG <| cV rfl (oB rfl rfl (z03 rfl oM0)) <| sm 1 rfl <| nL ?_
   refine ⟨_,_,?_,Sub.of (fr':=[(9,iInt (k+1)),(8,iInt l.length),(7,.pv (ints l)),(4,.sl 104 (k+1)),(0,.ptr 3 0)]) ⟨rfl,rfl,rfl,rfl,rfl,trivial⟩,(k+1),(acc++[f.types.getD x.toNat 0]),?_,?_,?_,rfl,zu0,rfl⟩
   ·omega
   ·omega
   ·simp [hI1]
   rw [hI2,hd]
   simp [z6s,hin]
  refine tEx <| tQ ?_
  refine Tr.freeze (t:=4) (k:=104) rfl rfl (by simpa using hI1) ?_
  refine tG <| sm 2 rfl <| nL <| tRt <| rOk rfl ?_ (po2 rfl rfl)
  have hge:l.length<=k:=by simpa using hc10
  rw [hI2,List.drop_eq_nil_of_le hge]
  rfl
theorem y6l (u:Un) (f:Fl) (st:List Int) (hs:st.length=f.types.length) (x:Nd):SC Tryz.prog 122 [.ptr 3 0,.pv (ndv x)] (ckS u f 3 st) (fun k=>k=3) (iBool (z3u f st x).1) (ckS u f 3 (z3u f st x).2):=by
  refine SC.of Tryz.func122 rfl (lb rfl) fun F ρ w=>?_
  refine tQ <| tG <| cE rfl (z3y rfl rfl) <| sm 1 rfl <| nL <| tQ <| tG <| sm 2 rfl <| cE rfl (ocq (y2s _) ent128 rfl rfl) <| sm 1 rfl <| cV rfl (z51 rfl rfl rfl) <| cV rfl (z51 rfl rfl rfl) ?_
  refine sm 2 rfl <| nL <| tQ <| tQ <| tG <| sm 3 rfl <| nL ?_
  refine tC rfl (fun hc16=>?_) fun hc16=>?_
  ·refine tQ <| tG <| sm 4 rfl ?_
   refine wS 20 rfl (fun hb20=>?_) fun hb20=>?_
   ·refine sm 5 rfl ?_
    refine wS 25 rfl (fun hb25=>?_) fun hb25=>?_
    ·refine sm 4 rfl <| WL.yes rfl rfl rfl rfl rfl rfl (bSl rfl rfl uT35 tZ3 tS3 rfl rfl rfl rfl (fbk rfl) rfl) <| WL.yes rfl rfl rfl rfl rfl rfl (cRr (z2b u f st hs x.args [(z09 x.op).1]) zv1 rfl rfl (sRf _ _) (po2 rfl rfl) (by rfl) (fun k (h:_)=>.inr trivial) rfl (by rfl)) <| sm 2 rfl ?_
     refine wS 33 rfl (fun hb33=>?_) fun hb33=>?_
     ·refine sm 4 rfl <| WL.yes rfl rfl rfl rfl rfl rfl (bSl rfl rfl uT35 tZ3 tS3 rfl rfl rfl rfl (fbk rfl) rfl) <| WL.yes rfl rfl rfl rfl rfl rfl (cRr (z3i u f st hs x.outs [(z09 x.op).2]) y9n rfl rfl (sRf _ _) (po2 rfl rfl) (by rfl) (fun k (h:_)=>.inr h) rfl (by rfl)) <| sm 2 rfl <| nL <| tRt ?_
      (have h2:(z3u f st x).2=(z1h f.types st x.outs [(z09 x.op).2]).2:=(by simp_all [z3u,z2a,andP];done)
       rw [h2]
       refine rOk rfl ?_ (po2 rfl rfl)
       clear h2
       skip
       simp_all [z3u,z2a,andP]
       done)
     refine sm 8 rfl <| nL <| tRt ?_
     (have h2:(z3u f st x).2=st:=(by simp_all [z3u,z2a,andP];done)
      rw [h2]
      refine rOk rfl ?_ (po2 rfl rfl)
      clear h2
      skip
      simp_all [z3u,z2a,andP]
      done)
    refine sm 16 rfl <| nL <| tRt ?_
    (have h2:z3u f st x=(false,st):=(by (first | (simp_all [z3u,z2a,andP];done) | (simp_all [z3u,z2a,andP]<;>omega)))
     rw [h2]
     exact rOk rfl rfl (po2 rfl rfl))
   refine sm 21 rfl <| nL <| tRt ?_
   (have h2:z3u f st x=(false,st):=(by (first | (simp_all [z3u,z2a,andP];done) | (simp_all [z3u,z2a,andP]<;>omega)))
    rw [h2]
    exact rOk rfl rfl (po2 rfl rfl))
  refine tSk <| tQ <| tG <| sm 2 rfl <| cE rfl (ocq (yh5 _) ent129 rfl rfl) <| sm 2 rfl ?_
  refine wS 45 rfl (fun hb45=>?_) fun hb45=>?_
  ·refine sm 5 rfl ?_
   refine wS 50 rfl (fun hb50=>?_) fun hb50=>?_
   ·refine sm 5 rfl <| WL.yes rfl rfl rfl rfl rfl rfl (bSl rfl rfl uT35 tZ3 tS3 rfl rfl rfl rfl (fbk rfl) rfl) <| WL.yes rfl rfl rfl rfl rfl rfl (cRr (z2b u f st hs x.args [(z09 x.op).1,(z09 x.op).1]) zv1 rfl rfl (sRf _ _) (po2 rfl rfl) (by rfl) (fun k (h:_)=>.inr trivial) rfl (by rfl)) <| sm 2 rfl <| nL <| tQ <| tDr zd9 (fun k=>k∈([3]:List Nat)) <| wR 4 [0,1,2,3,4,5,6,7,8,9,10,11,12,13,14,15,16,17,18,19,20,21,22,23,24,25,26,27,28,29,30] kR0 h30 <| smR 2 rfl ?_
    refine WR.split (t:=60) rfl (fun hb60=>?_) (fun hb60=>?_)
    ·obtain ⟨a,b,hab,ha0,hal,hb0,hbl⟩:=y8c (by simpa using hb60)
     have hi0:(x.args.map eInt)[0]? = some [vInt a]:=by rw [hab];rfl
     have hi1:(x.args.map eInt)[1]? = some [vInt b]:=by rw [hab];rfl
     have hta:(f.types.map eInt)[a.toNat]? = some [vInt (f.types.getD a.toNat 0)]:=by rw [List.getElem?_map];simp [eInt,List.getD,hal]
     have htb:(f.types.map eInt)[b.toNat]? = some [vInt (f.types.getD b.toNat 0)]:=by rw [List.getElem?_map];simp [eInt,List.getD,hbl]
     refine smR 1 rfl <| ryV rfl rfl rfl (nCk rfl rfl rfl) <| smR 2 rfl <| ryV rfl rfl rfl (oLb uT35 rfl rfl rfl dC0) <| smR 2 rfl <| ryV rfl rfl rfl (iSq rfl rfl rfl uT35 hi0 tS3 rfl (by rfl)) <| smR 1 rfl <| ryV rfl rfl rfl (iSq rfl rfl rfl uT35 hta tS3 rfl oM0) <| smR 2 rfl <| ryV rfl rfl rfl (nCk rfl rfl rfl) <| smR 2 rfl <| ryV rfl rfl rfl (oLb uT35 rfl rfl rfl dC0) ?_
     refine smR 2 rfl <| ryV rfl rfl rfl (iSq rfl rfl rfl uT35 hi1 tS3 rfl (by rfl)) <| smR 1 rfl <| ryV rfl rfl rfl (iSq rfl rfl rfl uT35 htb tS3 rfl oM0) <| smR 4 rfl ?_
     refine WR.split (t:=85) rfl (fun hb85=>?_) (fun hb85=>?_)
     ·refine smR 4 rfl <| nR <| wO 31 kR0 <| wY rfl rfl rfl (fun k (h:_)=>by (simp at h ⊢;omega)) nw (fun _ _=>bSl rfl rfl uT35 tZ3 tS3 rfl rfl rfl rfl (fbk rfl) rfl) <| wO 32 kR0 <| wY rfl rfl rfl (fun k (h:_)=>by (simp at h ⊢;omega)) (nAp rfl) (fun _ _=>ocr (z3i u f st hs x.outs [(z09 x.op).2]) y9n rfl (po2 rfl rfl) rfl (fun k (h:_)=>by (simp only [List.mem_cons,List.not_mem_nil,or_false] at h;rcases h with rfl<;>first | exact .inl rfl | exact .inr rfl | exact .inr dC0)) rfl rfl) <| wR 0 [33,34] kR0 h30 <| smR 2 rfl <| nR <| wDn kR0 <| tRt ?_
      (have h2:(z3u f st x).2=(z1h f.types st x.outs [(z09 x.op).2]).2:=(by (try (clear ha0 hb0));simp_all [z3u,andP];done)
       rw [h2]
       refine rOk rfl ?_ (po2 rfl rfl)
       clear h2
       try (clear ha0 hb0)
       simp_all [z3u,andP]
       done)
     refine smR 4 rfl <| nR <| wN 31 kR0 h30 rfl rfl rfl <| wN 32 kR0 h30 rfl rfl rfl <| wR 0 [33,34] kR0 h30 <| smR 2 rfl <| nR <| wDn kR0 <| tRt ?_
     (have h2:(z3u f st x).2=st:=(by (try (clear ha0 hb0));simp_all [z3u,andP];done)
      rw [h2]
      refine rOk rfl ?_ (po2 rfl rfl)
      clear h2
      try (clear ha0 hb0)
      simp_all [z3u,andP]
      done)
    refine smR 29 rfl <| nR <| wN 31 kR0 h30 rfl rfl rfl <| wN 32 kR0 h30 rfl rfl rfl <| wR 0 [33,34] kR0 h30 <| smR 2 rfl <| nR <| wDn kR0 <| tRt ?_
    (have h2:(z3u f st x).2=st:=(by (try (clear ha0 hb0));simp_all [z3u,andP];done)
     rw [h2]
     refine rOk rfl ?_ (po2 rfl rfl)
     clear h2
     try (clear ha0 hb0)
     simp_all [z3u,andP]
     done)
   refine sm 9 rfl <| nL <| tQ <| tDr zd9 (fun k=>k∈([3]:List Nat)) <| wR 4 [0,1,2,3,4,5,6,7,8,9,10,11,12,13,14,15,16,17,18,19,20,21,22,23,24,25,26,27,28,29,30] kR0 h30 <| smR 31 rfl <| nR <| wN 31 kR0 h30 rfl rfl rfl <| wN 32 kR0 h30 rfl rfl rfl <| wR 0 [33,34] kR0 h30 <| smR 2 rfl <| nR ?_
   refine wDn kR0 <| tRt ?_
   (have h2:z3u f st x=(false,st):=(by (try (clear ha0 hb0));(first | (simp_all [z3u,andP];done) | (simp_all [z3u,andP]<;>omega)))
    rw [h2]
    exact rOk rfl rfl (po2 rfl rfl))
  refine sm 14 rfl <| nL <| tQ <| tDr zd9 (fun k=>k∈([3]:List Nat)) <| wR 4 [0,1,2,3,4,5,6,7,8,9,10,11,12,13,14,15,16,17,18,19,20,21,22,23,24,25,26,27,28,29,30] kR0 h30 <| smR 31 rfl <| nR <| wN 31 kR0 h30 rfl rfl rfl <| wN 32 kR0 h30 rfl rfl rfl <| wR 0 [33,34] kR0 h30 <| smR 2 rfl <| nR ?_
  refine wDn kR0 <| tRt ?_
  (have h2:z3u f st x=(false,st):=(by (try (clear ha0 hb0));(first | (simp_all [z3u,andP];done) | (simp_all [z3u,andP]<;>omega)))
   rw [h2]
   exact rOk rfl rfl (po2 rfl rfl))
theorem sc_shEnd (u:Un) (f:Fl) (st:List Int) (hs:st.length=f.types.length) (x:Nd) (wh:Wh):SC Tryz.prog 109 [.ptr 3 0,.pv (ndv x),.pv (whv wh)] (ckS u f 3 st) (fun k=>k=3) (iBool (z86 f st x wh)) (ckS u f 3 st):=by
  refine SC.of Tryz.func109 rfl (lb rfl) fun F ρ w=>?_
  refine tQ <| tG <| cE rfl (z3y rfl rfl) <| cE rfl (z3y rfl rfl) <| sm 1 rfl <| nL <| tQ <| tG <| sm 2 rfl <| cV rfl (oSm uT35 rfl) <| sm 2 rfl <| nL ?_
  refine tQ <| tQ <| tG <| sm 2 rfl <| nL <| tBk <| tQ <| tG <| sm 2 rfl <| nL ?_
  refine tC rfl (fun hc14=>?_) fun hc14=>?_
  ·refine tQ <| tG <| sm 2 rfl ?_
   refine wS 17 rfl (fun hb17=>?_) fun hb17=>?_
   ·refine sm 4 rfl ?_
    refine wS 21 rfl (fun hb21=>?_) fun hb21=>?_
    ·refine sm 5 rfl <| WL.yes rfl rfl rfl rfl rfl rfl (cRr (z2b u f st hs x.args wh.Yield) zv1 rfl rfl (sRf _ _) (po2 rfl rfl) (by rfl) (fun k (h:_)=>.inr trivial) rfl (by rfl)) <| sm 2 rfl <| nL <| tRt <| rOk rfl ?_ (z2p (And.intro rfl (And.intro rfl (trivial))))
     refine congrArg (fun b=>iBool b) ?_
     simp_all [z86]
    refine sm 8 rfl <| nL <| tRt <| rOk rfl ?_ (z2p (And.intro rfl (And.intro rfl (trivial))))
    refine congrArg (fun b=>iBool b) ?_
    simp_all [z86]
   refine sm 12 rfl <| nL <| tRt <| rOk rfl ?_ (z2p (And.intro rfl (And.intro rfl (trivial))))
   refine congrArg (fun b=>iBool b) ?_
   simp_all [z86]
  refine tQ <| tG <| sm 2 rfl <| nL ?_
  refine tC rfl (fun hc29=>?_) fun hc29=>?_
  ·refine tQ <| tG <| sm 2 rfl ?_
   refine wS 32 rfl (fun hb32=>?_) fun hb32=>?_
   ·refine sm 4 rfl ?_
    refine wS 36 rfl (fun hb36=>?_) fun hb36=>?_
    ·refine sm 5 rfl <| WL.yes rfl rfl rfl rfl rfl rfl (cRr (z2b u f st hs x.args wh.Next) zv1 rfl rfl (sRf _ _) (po2 rfl rfl) (by rfl) (fun k (h:_)=>.inr trivial) rfl (by rfl)) <| sm 2 rfl <| nL <| tRt <| rOk rfl ?_ (z2p (And.intro rfl (And.intro rfl (trivial))))
     refine congrArg (fun b=>iBool b) ?_
     simp_all [z86]
    refine sm 8 rfl <| nL <| tRt <| rOk rfl ?_ (z2p (And.intro rfl (And.intro rfl (trivial))))
    refine congrArg (fun b=>iBool b) ?_
    simp_all [z86]
   refine sm 12 rfl <| nL <| tRt <| rOk rfl ?_ (z2p (And.intro rfl (And.intro rfl (trivial))))
   refine congrArg (fun b=>iBool b) ?_
   simp_all [z86]
  refine tQ <| tG <| sm 2 rfl <| nL ?_
  refine tC rfl (fun hc44=>?_) fun hc44=>?_
  ·refine tQ <| tG <| sm 2 rfl ?_
   refine wS 47 rfl (fun hb47=>?_) fun hb47=>?_
   ·refine sm 4 rfl ?_
    refine wS 51 rfl (fun hb51=>?_) fun hb51=>?_
    ·refine sm 5 rfl <| WL.yes rfl rfl rfl rfl rfl rfl (cRr (z2b u f st hs x.args wh.Left) zv1 rfl rfl (sRf _ _) (po2 rfl rfl) (by rfl) (fun k (h:_)=>.inr trivial) rfl (by rfl)) <| sm 2 rfl <| nL <| tRt <| rOk rfl ?_ (z2p (And.intro rfl (And.intro rfl (trivial))))
     refine congrArg (fun b=>iBool b) ?_
     simp_all [z86]
    refine sm 8 rfl <| nL <| tRt <| rOk rfl ?_ (z2p (And.intro rfl (And.intro rfl (trivial))))
    refine congrArg (fun b=>iBool b) ?_
    simp_all [z86]
   refine sm 12 rfl <| nL <| tRt <| rOk rfl ?_ (z2p (And.intro rfl (And.intro rfl (trivial))))
   refine congrArg (fun b=>iBool b) ?_
   simp_all [z86]
  refine tSk <| tQ <| tDr zd9 (fun k=>k∈([3,4]:List Nat)) <| wR 4 [0,1,2,3,4,5,6,7,8,9] kR0 h30 <| smR 2 rfl ?_
  refine WR.split (t:=60) rfl (fun hb60=>?_) (fun hb60=>?_)
  ·refine smR 4 rfl <| ryV rfl rfl rfl (nCk rfl rfl rfl) <| smR 2 rfl <| ryV rfl rfl rfl (oLb uT3 rfl rfl rfl dC0) <| nR <| wO 10 kR0 <| wY rfl rfl rfl (fun k (h:_)=>by (simp at h ⊢;omega)) nw (fun _ _=>bSl rfl rfl uT35 tZ3 tS3 rfl rfl rfl rfl (fbk rfl) rfl) <| wO 11 kR0 <| wY rfl rfl rfl (fun k (h:_)=>by (simp at h ⊢;omega)) (nAp rfl) (fun _ _=>ocr (z2b u f st hs x.args [f.ty]) zv1 rfl (po2 rfl rfl) rfl (fun k (h:_)=>.inr trivial) rfl rfl) <| wR 0 [12,13] kR0 h30 <| smR 2 rfl <| nR ?_
   refine wDn kR0 <| tRt <| rOk rfl ?_ (z2p (And.intro rfl (And.intro rfl (trivial))))
   refine congrArg (fun b=>iBool b) ?_
   simp_all [z86]
  refine smR 8 rfl <| nR <| wN 10 kR0 h30 rfl rfl rfl <| wN 11 kR0 h30 rfl rfl rfl <| wR 0 [12,13] kR0 h30 <| smR 2 rfl <| nR <| wDn kR0 <| tRt <| rOk rfl ?_ (z2p (And.intro rfl (And.intro rfl (trivial))))
  refine congrArg (fun b=>iBool b) ?_
  simp_all [z86]
set_option maxRecDepth 20000
theorem y4w (u:Un) (f:Fl) (st:List Int) (hs:st.length=f.types.length) (hg:∀ g∈u.flows,0<=g.params/\g.params<=g.types.length) (x:Nd):SC Tryz.prog 110 [.ptr 3 0,.pv (ndv x)] (ckS u f 3 st) (fun k=>k=3) (iBool (z24 u f st x).1) (ckS u f 3 (z24 u f st x).2):=by
  refine SC.sameR (SC.vc tb {} [3] Tryz.func110 rfl rfl ?_) fun k _ h=>List.mem_singleton.2 h
  obtain ⟨kind,op,n,name,args,outs,params,kids⟩:=x
  rcases (show kind=1∨kind=2∨kind=3∨kind=4∨kind=5∨kind=6∨kind=8∨kind=9∨kind=7∨(kind≠1/\kind≠2/\kind≠3/\kind≠4/\kind≠5/\kind≠6/\kind≠8/\kind≠9/\kind≠7) by omega) with rfl | rfl | rfl | rfl | rfl | rfl | rfl | rfl | rfl | h
  · have e:z24 u f st (.mk 1 op n name args outs params kids)=andP (z0w f.types st args []) st (z1h f.types st outs [1]):=rfl
    rw [e]
    have h1:=z2b u f st hs args []
    generalize z0w f.types st args []=b at h1 ⊢
    cases b
    · exact ⟨[],h1,SubA.same (SubA.same (SubA.cons sN SubA.nil)),⟨rfl,trivial,rfl,trivial⟩,rfl,sI,rfl,rfl,trivial⟩
    · exact ⟨[],h1,SubA.same (SubA.same (SubA.cons sN SubA.nil)),⟨rfl,trivial,rfl,trivial⟩,rfl,[],z3i u f st hs outs [1],sR,⟨rfl,rfl,rfl,trivial⟩,rfl,sI,rfl,rfl,trivial⟩
  · have e:z24 u f st (.mk 2 op n name args outs params kids)=andP ((n==0||n==1)&&z0w f.types st args []) st (z1h f.types st outs [2]):=rfl
    rw [e]
    have h1:=z2b u f st hs args []
    generalize z0w f.types st args []=b at h1 ⊢
    rcases (show n=0∨n=1∨((n==0)=false/\(n==1)=false) by simp;omega) with rfl | rfl | ⟨h2,h3⟩
    · cases b
      · exact ⟨[],h1,SubA.same (SubA.same (SubA.cons sN SubA.nil)),⟨rfl,trivial,rfl,trivial⟩,rfl,sI,rfl,rfl,trivial⟩
      · exact ⟨[],h1,SubA.same (SubA.same (SubA.cons sN SubA.nil)),⟨rfl,trivial,rfl,trivial⟩,rfl,[],z3i u f st hs outs [2],sR,⟨rfl,rfl,rfl,trivial⟩,rfl,sI,rfl,rfl,trivial⟩
    · cases b
      · exact ⟨[],h1,SubA.same (SubA.same (SubA.cons sN SubA.nil)),⟨rfl,trivial,rfl,trivial⟩,rfl,sI,rfl,rfl,trivial⟩
      · exact ⟨[],h1,SubA.same (SubA.same (SubA.cons sN SubA.nil)),⟨rfl,trivial,rfl,trivial⟩,rfl,[],z3i u f st hs outs [2],sR,⟨rfl,rfl,rfl,trivial⟩,rfl,sI,rfl,rfl,trivial⟩
    · rw [show ((n==0||n==1)&&b)=false by rw [h2,h3];rfl]
      refine z00 (fun h=>absurd (h.symm.trans h2) dC0) fun _=>z00 (fun h=>absurd (h.symm.trans h3) dC0) fun _=>?_
      exact ⟨sI,rfl,rfl,trivial⟩
  · exact ⟨[],y6l u f st hs (.mk 3 op n name args outs params kids),sR,⟨rfl,rfl,rfl,trivial⟩,rfl,sI,rfl,rfl,trivial⟩
  · exact ⟨[],y6l u f st hs (.mk 4 op n name args outs params kids),sR,⟨rfl,rfl,rfl,trivial⟩,rfl,sI,rfl,rfl,trivial⟩
  · have e:z24 u f st (.mk 5 op n name args outs params kids)=andP (decide (z0e name u.arrays 0 ≥ 0)&&z0w f.types st args [1]) st (z1h f.types st outs [1]):=rfl
    rw [e]
    have h0:=y6k u name
    have h1:=z2b u f st hs args [1]
    generalize z0w f.types st args [1]=b at h1 ⊢
    generalize decide (z0e name u.arrays 0 ≥ 0)=c at h0 ⊢
    cases c
    · exact ⟨[],h0,sR,trivial,rfl,sI,rfl,rfl,trivial⟩
    · cases b
      · exact ⟨[],h0,sR,trivial,rfl,[],h1,sR,⟨rfl,trivial,rfl,trivial⟩,rfl,sI,rfl,rfl,trivial⟩
      · exact ⟨[],h0,sR,trivial,rfl,[],h1,sR,⟨rfl,trivial,rfl,trivial⟩,rfl,[],z3i u f st hs outs [1],sR,⟨rfl,rfl,rfl,trivial⟩,rfl,sI,rfl,rfl,trivial⟩
  · have e:z24 u f st (.mk 6 op n name args outs params kids)=andP (decide (z0e name u.arrays 0 ≥ 0)&&z0w f.types st args [1,1]) st (z1h f.types st outs []):=rfl
    rw [e]
    have h0:=y6k u name
    have h1:=z2b u f st hs args [1,1]
    generalize z0w f.types st args [1,1]=b at h1 ⊢
    generalize decide (z0e name u.arrays 0 ≥ 0)=c at h0 ⊢
    cases c
    · exact ⟨[],h0,sR,trivial,rfl,sI,rfl,rfl,trivial⟩
    · cases b
      · exact ⟨[],h0,sR,trivial,rfl,[],h1,sR,⟨rfl,trivial,rfl,trivial⟩,rfl,sI,rfl,rfl,trivial⟩
      · exact ⟨[],h0,sR,trivial,rfl,[],h1,sR,⟨rfl,trivial,rfl,trivial⟩,rfl,[],z3i u f st hs outs [],SubA.same (SubA.same (SubA.cons sN SubA.nil)),⟨rfl,rfl,rfl,trivial⟩,rfl,sI,rfl,rfl,trivial⟩
  · have e:z24 u f st (.mk 8 op n name args outs params kids)=andP (z0w f.types st args []) st (z1h f.types st outs [1]):=rfl
    rw [e]
    have h1:=z2b u f st hs args []
    generalize z0w f.types st args []=b at h1 ⊢
    cases b
    · exact ⟨[],h1,SubA.same (SubA.same (SubA.cons sN SubA.nil)),⟨rfl,trivial,rfl,trivial⟩,rfl,sI,rfl,rfl,trivial⟩
    · exact ⟨[],h1,SubA.same (SubA.same (SubA.cons sN SubA.nil)),⟨rfl,trivial,rfl,trivial⟩,rfl,[],z3i u f st hs outs [1],sR,⟨rfl,rfl,rfl,trivial⟩,rfl,sI,rfl,rfl,trivial⟩
  · have e:z24 u f st (.mk 9 op n name args outs params kids)=andP (z0w f.types st args [1]) st (z1h f.types st outs []):=rfl
    rw [e]
    have h1:=z2b u f st hs args [1]
    generalize z0w f.types st args [1]=b at h1 ⊢
    cases b
    · exact ⟨[],h1,sR,⟨rfl,trivial,rfl,trivial⟩,rfl,sI,rfl,rfl,trivial⟩
    · exact ⟨[],h1,sR,⟨rfl,trivial,rfl,trivial⟩,rfl,[],z3i u f st hs outs [],SubA.same (SubA.same (SubA.cons sN SubA.nil)),⟨rfl,rfl,rfl,trivial⟩,rfl,sI,rfl,rfl,trivial⟩
  · have e:z24 u f st (.mk 7 op n name args outs params kids)=zk4 u f st (.mk 7 op n name args outs params kids):=rfl
    rw [e]
    refine ⟨[],z9h u name,sR,trivial,rfl,z00 (fun hc=>?_) fun hc=>?_⟩
    · rw [show zk4 u f st (.mk 7 op n name args outs params kids)=(false,st) from if_pos (of_decide_eq_true hc)]
      exact ⟨sI,rfl,rfl,trivial⟩
    · have hl:¬ z04 name u.flows 0<0:=of_decide_eq_false hc
      have hk0:z04 name u.flows 0 ≥ 0:=by omega
      obtain ⟨g,hgk,_⟩:=z9e hk0
      obtain ⟨hgp0,hgpl⟩:=hg g (List.mem_of_getElem? hgk)
      have e2:zk4 u f st (.mk 7 op n name args outs params kids)=andP (z0w f.types st args (g.types.take g.params.toNat)) st (z1h f.types st outs [g.ty]):=by
        show (if z04 name u.flows 0<0 then _ else match u.flows[(z04 name u.flows 0).toNat]? with | some g=>_ | none=>_)=_
        rw [if_neg hl,hgk]
        rfl
      rw [e2]
      have h1:=z2b u f st hs args (g.types.take g.params.toNat)
      generalize z0w f.types st args (g.types.take g.params.toNat)=b at h1 ⊢
      have hi:=z06 (f:=Fl.enc) hgk
      have hkn:(((z04 name u.flows 0).toNat:Nat):Int)=z04 name u.flows 0:=by omega
      have hpn:((g.params.toNat:Nat):Int)=g.params:=by omega
      have hle:0<=g.params.toNat:=Nat.zero_le _
      have hge:g.params.toNat<=(g.types.map eInt).length:=by simp;omega
      cases b
      · exact ⟨hi,hkn.symm,_,hpn.symm,hle,hge,z5j,[],h1,SubA.same (SubA.same (SubA.cons (sP (by simp only [ints,List.map_take];exact PSub.refl _)) SubA.nil)),⟨rfl,trivial,rfl,trivial⟩,rfl,sI,rfl,rfl,trivial⟩
      · exact ⟨hi,hkn.symm,_,hpn.symm,hle,hge,z5j,[],h1,SubA.same (SubA.same (SubA.cons (sP (by simp only [ints,List.map_take];exact PSub.refl _)) SubA.nil)),⟨rfl,trivial,rfl,trivial⟩,rfl,[],z3i u f st hs outs [g.ty],sR,⟨rfl,rfl,rfl,trivial⟩,rfl,sI,rfl,rfl,trivial⟩
  · obtain ⟨h1,h2,h3,h4,h5,h6,h8,h9,h7⟩:=h
    rw [show z24 u f st (.mk kind op n name args outs params kids)=(false,st) by unfold z24;simp [Nd.kind,h1,h2,h3,h4,h5,h6,h7,h8,h9]]
    have no:∀ {i:Int},kind≠i->(kind==i)=true->False:=fun h e=>h (eq_of_beq e)
    exact z00 (fun h=>(no h1 h).elim) fun _=>z00 (fun h=>(no h2 h).elim) fun _=>z00 (fun h=>(no h3 h).elim) fun _=>z00 (fun h=>(no h4 h).elim) fun _=>z00 (fun h=>(no h5 h).elim) fun _=>z00 (fun h=>(no h6 h).elim) fun _=>z00 (fun h=>(no h8 h).elim) fun _=>z00 (fun h=>(no h9 h).elim) fun _=>z00 (fun h=>(no h7 h).elim) fun _=>⟨sI,rfl,rfl,trivial⟩
set_option maxRecDepth 20000
set_option maxHeartbeats 2000000
theorem zm5 (f:Fl) {x:Nd} (st:List Int) {c:Bool} (h:((x.outs.length:Int)==0 || !z01 x)=c):z4b f x st=andP c st (z1h f.types st x.outs (List.replicate x.outs.length 0)):=by rw [z4b,h]
theorem y4u (u:Un) (f:Fl) (st:List Int) (hs:st.length=f.types.length) (x:Nd) (ka kb:List Nd) (hkids:x.kids=[ka,kb]) (wh:Wh) (deep:Int) (hbo:x.outs.length<=1073741824) (ih:∀ q∈x.kids,∀ (w:Wh) (st:List Int),st.length=f.types.length->SC Tryz.prog 64 [.ptr 3 0,.pv (z0m q),.pv (whv w),iInt deep] (ckS u f 3 st) (fun k=>k=3) (iBool (z1g u f deep w st q).1) (ckS u f 3 (z1g u f deep w st q).2)):SC Tryz.prog 107 [.ptr 3 0,.pv (ndv x),.pv (whv wh),iInt deep] (ckS u f 3 st) (fun k=>k=3) (iBool (if z0w f.types st x.args [2] then andQ (z1g u f deep ⟨true,wh.Loop,r8of f.types x.outs,wh.Next,wh.Left⟩ st ka) (fun s1=>andQ (z1g u f deep ⟨true,wh.Loop,r8of f.types x.outs,wh.Next,wh.Left⟩ s1 kb) fun s2=>z4b f x s2) else (false,st)).1) (ckS u f 3 (if z0w f.types st x.args [2] then andQ (z1g u f deep ⟨true,wh.Loop,r8of f.types x.outs,wh.Next,wh.Left⟩ st ka) (fun s1=>andQ (z1g u f deep ⟨true,wh.Loop,r8of f.types x.outs,wh.Next,wh.Left⟩ s1 kb) fun s2=>z4b f x s2) else (false,st)).2):=by
  refine SC.sameR (SC.vc tb {} [3] Tryz.func107 rfl rfl ?_) fun k _ h=>List.mem_singleton.2 h
  have hi0:(x.kids.map eKid)[0]? = some [z0m ka]:=by rw [hkids];rfl
  have hi1:(x.kids.map eKid)[1]? = some [z0m kb]:=by rw [hkids];rfl
  have hm0:ka∈x.kids:=by rw [hkids];exact .head _
  have hm1:kb∈x.kids:=by rw [hkids];exact .tail _ (.head _)
  have hT:=zi4 u f st hs x.outs hbo
  have h1:=z2b u f st hs x.args [2]
  have h2:=ih ka hm0 ⟨true,wh.Loop,r8of f.types x.outs,wh.Next,wh.Left⟩ st hs
  have l2:=(z7r u f deep ⟨true,wh.Loop,r8of f.types x.outs,wh.Next,wh.Left⟩ st ka).trans hs
  have hC:=z6e x
  generalize z0w f.types st x.args [2]=b1 at h1 ⊢
  generalize z1g u f deep ⟨true,wh.Loop,r8of f.types x.outs,wh.Next,wh.Left⟩ st ka=R2 at h2 l2 ⊢
  obtain ⟨b2,st2⟩:=R2
  have h3:=ih kb hm1 ⟨true,wh.Loop,r8of f.types x.outs,wh.Next,wh.Left⟩ st2 l2
  have l3:=(z7r u f deep ⟨true,wh.Loop,r8of f.types x.outs,wh.Next,wh.Left⟩ st2 kb).trans l2
  cases b1
  · exact ⟨[],hT,sR,⟨rfl,by decide,rfl,trivial⟩,rfl,[],h1,sR,⟨rfl,trivial,rfl,trivial⟩,rfl,sI,rfl,rfl,trivial⟩
  cases b2
  · exact ⟨[],hT,sR,⟨rfl,by decide,rfl,trivial⟩,rfl,[],h1,sR,⟨rfl,trivial,rfl,trivial⟩,rfl,hi0,rfl,[],h2,sR,⟨rfl,rfl,rfl,trivial⟩,rfl,sI,rfl,rfl,trivial⟩
  rw [show andQ (true,st2) (fun s1=>andQ (z1g u f deep ⟨true,wh.Loop,r8of f.types x.outs,wh.Next,wh.Left⟩ s1 kb) fun s2=>z4b f x s2)=andQ (z1g u f deep ⟨true,wh.Loop,r8of f.types x.outs,wh.Next,wh.Left⟩ st2 kb) (fun s2=>z4b f x s2) from rfl]
  generalize z1g u f deep ⟨true,wh.Loop,r8of f.types x.outs,wh.Next,wh.Left⟩ st2 kb=R3 at h3 l3 ⊢
  obtain ⟨b3,st3⟩:=R3
  cases b3
  · exact ⟨[],hT,sR,⟨rfl,by decide,rfl,trivial⟩,rfl,[],h1,sR,⟨rfl,trivial,rfl,trivial⟩,rfl,hi0,rfl,[],h2,sR,⟨rfl,rfl,rfl,trivial⟩,rfl,hi1,rfl,[],h3,sR,⟨rfl,rfl,rfl,trivial⟩,rfl,sI,rfl,rfl,trivial⟩
  rw [show andQ (true,st3) (fun s2=>z4b f x s2)=z4b f x st3 from rfl]
  have hA:=y0m u f st3 l3 x.outs hbo
  refine ⟨[],hT,sR,⟨rfl,by decide,rfl,trivial⟩,rfl,[],h1,sR,⟨rfl,trivial,rfl,trivial⟩,rfl,hi0,rfl,[],h2,sR,⟨rfl,rfl,rfl,trivial⟩,rfl,hi1,rfl,[],h3,sR,⟨rfl,rfl,rfl,trivial⟩,rfl,z00 (fun h=>?_) fun h=>?_⟩
  · rw [zm5 f st3 (c:=true) (by rw [List.length_map] at h;rw [h,Bool.true_or])]
    exact ⟨[],hA,sR,⟨rfl,rfl,rfl,trivial⟩,rfl,sI,rfl,rfl,trivial⟩
  · rw [List.length_map] at h
    have hq:((x.outs.length:Int)==0 || !z01 x) = !z01 x:=by rw [h,Bool.false_or]
    rw [zm5 f st3 hq]
    generalize z01 x=c at hC ⊢
    cases c
    · exact ⟨[],hC,sR,trivial,rfl,[],hA,sR,⟨rfl,rfl,rfl,trivial⟩,rfl,sI,rfl,rfl,trivial⟩
    · exact ⟨[],hC,sR,trivial,rfl,sI,rfl,rfl,trivial⟩
theorem yg5 (u:Un) (f:Fl) (st:List Int) (hs:st.length=f.types.length) (x:Nd) (ka:List Nd) (hkids:x.kids=[ka]) (deep:Int) (hbo:x.outs.length<=1073741824) (hbp:x.params.length<=1073741824) (ih:∀ q∈x.kids,∀ (w:Wh) (st:List Int),st.length=f.types.length->SC Tryz.prog 64 [.ptr 3 0,.pv (z0m q),.pv (whv w),iInt deep] (ckS u f 3 st) (fun k=>k=3) (iBool (z1g u f deep w st q).1) (ckS u f 3 (z1g u f deep w st q).2)):SC Tryz.prog 108 [.ptr 3 0,.pv (ndv x),iInt deep] (ckS u f 3 st) (fun k=>k=3) (iBool (if z0w f.types st x.args (r8of f.types x.params) then andQ (z1h f.types st x.params (List.replicate x.params.length 0)) (fun s1=>andQ (z1g u f deep ⟨false,true,[],r8of f.types x.params,r8of f.types x.outs⟩ s1 ka) fun s2=>z4b f x (z3b s2 x.params)) else (false,st)).1) (ckS u f 3 (if z0w f.types st x.args (r8of f.types x.params) then andQ (z1h f.types st x.params (List.replicate x.params.length 0)) (fun s1=>andQ (z1g u f deep ⟨false,true,[],r8of f.types x.params,r8of f.types x.outs⟩ s1 ka) fun s2=>z4b f x (z3b s2 x.params)) else (false,st)).2):=by
  refine SC.sameR (SC.vc tb {} [3] Tryz.func108 rfl rfl ?_) fun k _ h=>List.mem_singleton.2 h
  have hi0:(x.kids.map eKid)[0]? = some [z0m ka]:=by rw [hkids];rfl
  have hm0:ka∈x.kids:=by rw [hkids];exact .head _
  have hT:=zi4 u f st hs x.params hbp
  have hT2:=zi4 u f st hs x.outs hbo
  have h1:=z2b u f st hs x.args (r8of f.types x.params)
  have hA1:=y0m u f st hs x.params hbp
  have l1:=(z32 f.types st x.params (List.replicate x.params.length 0)).trans hs
  have hC:=z6e x
  generalize z0w f.types st x.args (r8of f.types x.params)=b1 at h1 ⊢
  cases b1
  · exact ⟨[],hT,sR,⟨rfl,by decide,rfl,trivial⟩,rfl,[],hT2,sR,⟨rfl,by decide,rfl,trivial⟩,rfl,[],h1,sR,⟨rfl,trivial,rfl,trivial⟩,rfl,sI,rfl,rfl,trivial⟩
  have hpin:(z1h f.types st x.params (List.replicate x.params.length 0)).1=true->∀ v∈x.params,0<=v/\v<f.types.length:=fun h=>zs5 h
  generalize z1h f.types st x.params (List.replicate x.params.length 0)=R2 at hA1 l1 hpin ⊢
  obtain ⟨b2,st1⟩:=R2
  cases b2
  · exact ⟨[],hT,sR,⟨rfl,by decide,rfl,trivial⟩,rfl,[],hT2,sR,⟨rfl,by decide,rfl,trivial⟩,rfl,[],h1,sR,⟨rfl,trivial,rfl,trivial⟩,rfl,[],hA1,sR,⟨rfl,rfl,rfl,trivial⟩,rfl,sI,rfl,rfl,trivial⟩
  have hpin:=hpin rfl
  have h2:=ih ka hm0 ⟨false,true,[],r8of f.types x.params,r8of f.types x.outs⟩ st1 l1
  have l2:=(z7r u f deep ⟨false,true,[],r8of f.types x.params,r8of f.types x.outs⟩ st1 ka).trans l1
  rw [show andQ (true,st1) (fun s1=>andQ (z1g u f deep ⟨false,true,[],r8of f.types x.params,r8of f.types x.outs⟩ s1 ka) fun s2=>z4b f x (z3b s2 x.params))=andQ (z1g u f deep ⟨false,true,[],r8of f.types x.params,r8of f.types x.outs⟩ st1 ka) (fun s2=>z4b f x (z3b s2 x.params)) from rfl]
  generalize z1g u f deep ⟨false,true,[],r8of f.types x.params,r8of f.types x.outs⟩ st1 ka=R3 at h2 l2 ⊢
  obtain ⟨b3,st2⟩:=R3
  cases b3
  · exact ⟨[],hT,sR,⟨rfl,by decide,rfl,trivial⟩,rfl,[],hT2,sR,⟨rfl,by decide,rfl,trivial⟩,rfl,[],h1,sR,⟨rfl,trivial,rfl,trivial⟩,rfl,[],hA1,sR,⟨rfl,rfl,rfl,trivial⟩,rfl,hi0,rfl,[],h2,SubA.same (SubA.same (SubA.cons (sP (z15 _)) sR)),⟨rfl,rfl,rfl,trivial⟩,rfl,sI,rfl,rfl,trivial⟩
  have hH:=y2q u f st2 l2 x.params hpin
  have l3:=(z4x x.params st2).trans l2
  rw [show andQ (true,st2) (fun s2=>z4b f x (z3b s2 x.params))=z4b f x (z3b st2 x.params) from rfl]
  generalize z3b st2 x.params=st3 at hH l3 ⊢
  have hA:=y0m u f st3 l3 x.outs hbo
  refine ⟨[],hT,sR,⟨rfl,by decide,rfl,trivial⟩,rfl,[],hT2,sR,⟨rfl,by decide,rfl,trivial⟩,rfl,[],h1,sR,⟨rfl,trivial,rfl,trivial⟩,rfl,[],hA1,sR,⟨rfl,rfl,rfl,trivial⟩,rfl,hi0,rfl,[],h2,SubA.same (SubA.same (SubA.cons (sP (z15 _)) sR)),⟨rfl,rfl,rfl,trivial⟩,rfl,[],hH,sR,⟨rfl,rfl,rfl,trivial⟩,rfl,z00 (fun h=>?_) fun h=>?_⟩
  · rw [zm5 f st3 (c:=true) (by rw [List.length_map] at h;rw [h,Bool.true_or])]
    exact ⟨[],hA,sR,⟨rfl,rfl,rfl,trivial⟩,rfl,sI,rfl,rfl,trivial⟩
  · rw [List.length_map] at h
    have hq:((x.outs.length:Int)==0 || !z01 x) = !z01 x:=by rw [h,Bool.false_or]
    rw [zm5 f st3 hq]
    generalize z01 x=c at hC ⊢
    cases c
    · exact ⟨[],hC,sR,trivial,rfl,[],hA,sR,⟨rfl,rfl,rfl,trivial⟩,rfl,sI,rfl,rfl,trivial⟩
    · exact ⟨[],hC,sR,trivial,rfl,sI,rfl,rfl,trivial⟩
theorem yg6 (u:Un) (f:Fl) (hg:∀ g∈u.flows,0<=g.params/\g.params<=g.types.length) (x:Nd) (deep:Int) (hd:0<=deep/\deep<=100) (wh:Wh) (st:List Int) (hs:st.length=f.types.length) (hbo:x.outs.length<=1073741824) (hbp:x.params.length<=1073741824) (ih:∀ q∈x.kids,∀ (w:Wh) (st:List Int),st.length=f.types.length->SC Tryz.prog 64 [.ptr 3 0,.pv (z0m q),.pv (whv w),iInt (deep+1)] (ckS u f 3 st) (fun k=>k=3) (iBool (z1g u f (deep+1) w st q).1) (ckS u f 3 (z1g u f (deep+1) w st q).2)):SC Tryz.prog 90 [.ptr 3 0,.pv (ndv x),.pv (whv wh),iInt deep] (ckS u f 3 st) (fun k=>k=3) (iBool (z3j u f deep wh st x).1) (ckS u f 3 (z3j u f deep wh st x).2):=by
  refine SC.of Tryz.func90 rfl (lb rfl) fun F ρ w=>?_
  refine tQ <| tG <| cE rfl (z3y rfl rfl) <| cE rfl (z3y rfl rfl) <| sm 1 rfl <| nL <| tQ <| tBk <| tQ <| tG <| cV rfl (lEA rfl rfl uT42 rfl tS42 (lb rfl)) <| cE rfl (ocq (yg0 _) ent106 rfl rfl) ?_
  refine sm 2 rfl <| nL ?_
  refine tC rfl (fun hc9=>?_) fun hc9=>?_
  ·refine tQ <| tG <| sm 1 rfl <| nL <| tRt ?_
   have hbare:z12 x=false:=by simpa using hc9
   rw [zc0 _ _ _ _ _ hbare]
   exact rOk rfl rfl (po2 rfl rfl)
  have hbare:z12 x=true:=by simpa using hc9
  refine tQ <| tG <| sm 4 rfl <| nL ?_
  refine tC rfl (fun hc13=>?_) fun hc13=>?_
  ·have hk10:x.kind=10:=by simpa using hc13
   obtain ⟨ka,kb,hkids⟩:=z2k hbare hk10
   refine tQ <| tG <| sm 1 rfl <| cV rfl (lEA rfl rfl uT42 rfl tS42 (lb rfl)) <| cV rfl (lEA rfl rfl Tryz.underlying103 rfl tS103 (lb rfl)) <| sm 1 rfl <| cV rfl (oB rfl rfl (z03 rfl oM0)) <| cE rfl (ocr (y4u u f st hs x ka kb hkids wh (deep+1) hbo ih) ent107 rfl (po2 rfl rfl) rfl (fun k (h:_)=>.inr h) rfl rfl) <| sm 1 rfl <| nL <| tRt ?_
   rw [zs4 _ _ _ _ _ hbare hk10 hkids]
   exact rOk rfl rfl (po2 rfl rfl)
  refine tQ <| tG <| sm 4 rfl <| nL ?_
  refine tC rfl (fun hc23=>?_) fun hc23=>?_
  ·have hk11:x.kind=11:=by simpa using hc23
   obtain ⟨ka,hkids⟩:=z1m hbare hk11
   refine tQ <| tG <| sm 1 rfl <| cV rfl (lEA rfl rfl uT42 rfl tS42 (lb rfl)) <| sm 1 rfl <| cV rfl (oB rfl rfl (z03 rfl oM0)) <| cE rfl (ocr (yg5 u f st hs x ka hkids (deep+1) hbo hbp ih) ent108 rfl (po2 rfl rfl) rfl (fun k (h:_)=>.inr h) rfl rfl) <| sm 1 rfl <| nL <| tRt ?_
   rw [zc1 _ _ _ _ _ hbare hk11 hkids]
   exact rOk rfl rfl (po2 rfl rfl)
  refine tQ <| tG <| cV rfl (lEA rfl rfl uT42 rfl tS42 (lb rfl)) <| cE rfl (ocq (z8x _) y9t rfl rfl) <| sm 1 rfl <| nL ?_
  refine tC rfl (fun hc32=>?_) fun hc32=>?_
  ·refine tQ <| tG <| sm 1 rfl <| cV rfl (lEA rfl rfl uT42 rfl tS42 (lb rfl)) <| cV rfl (lEA rfl rfl Tryz.underlying103 rfl tS103 (lb rfl)) <| cE rfl (ocr (sc_shEnd u f st hs x wh) ent109 rfl (po2 rfl rfl) rfl (fun k (h:_)=>.inr h) rfl rfl) <| sm 1 rfl <| nL <| tRt ?_
   rw [zi6 _ _ _ _ _ hbare hc13 hc23 hc32]
   exact rOk rfl rfl (po2 rfl rfl)
  refine tSk <| tQ <| tG <| sm 1 rfl <| cV rfl (lEA rfl rfl uT42 rfl tS42 (lb rfl)) <| cE rfl (ocr (y4w u f st hs hg x) ent110 rfl (po2 rfl rfl) rfl (fun k (h:_)=>.inr h) rfl rfl) <| sm 1 rfl <| nL <| tRt ?_
  rw [z7s _ _ _ _ _ hbare hc13 hc23 hc32]
  exact rOk rfl rfl (po2 rfl rfl)
theorem y0n (N:Nat):∀ (u:Un) (f:Fl) (hg:∀ g∈u.flows,0<=g.params/\g.params<=g.types.length) (l:List Nd) (deep:Int) (hd:0<=deep/\deep<=101) (wh:Wh) (st:List Int) (hs:st.length=f.types.length) (hb:lsW l<=1073741824),SizeOf.sizeOf l<N->SC Tryz.prog 64 [.ptr 3 0,.pv (z0m l),.pv (whv wh),iInt deep] (ckS u f 3 st) (fun k=>k=3) (iBool (z1g u f deep wh st l).1) (ckS u f 3 (z1g u f deep wh st l).2):=by
  induction N with
  | zero=>intro u f hg l deep hd wh st hs hb hN;exact absurd hN (Nat.not_lt_zero _)
  | succ N ih =>
    intro u f hg l deep hd wh st hs hb hN
    refine SC.of Tryz.func64 rfl (lb rfl) fun F ρ w=>?_
    refine Tr.lenOf (t:=1) rfl (fun hl=>?_)
    simp only [List.length_map] at hl
    refine tQ <| tG <| cE rfl (z3y rfl rfl) <| sm 1 rfl <| nL <| tQ <| tQ <| tG <| sm 1 rfl <| cV rfl (oSm uT43 rfl) <| sm 1 rfl <| nL ?_
    refine tBk <| Tr.sub (Sub.of (fr':=[(15,iInt 0),(14,iInt l.length),(13,.pv (z0m l)),(6,.pv (.ept [vBool wh.If,vBool wh.Loop,ints wh.Yield,ints wh.Next,ints wh.Left] 0)),(0,.ptr 3 0),(1,.pv (z0m l)),(3,iInt deep)]) ⟨rfl,rfl,rfl,rfl,rfl,rfl,rfl,trivial⟩) ?_
    refine Tr.loop (fun fr σ m=>∃ (k:Nat) (s:List Int),(k<=l.length)/\(shGo u f deep wh st l=shGo u f deep wh s (l.drop k))/\(s.length=f.types.length)/\fr=[(15,iInt k),(14,iInt l.length),(13,.pv (z0m l)),(6,.pv (.ept [vBool wh.If,vBool wh.Loop,ints wh.Yield,ints wh.Next,ints wh.Left] 0)),(0,.ptr 3 0),(1,.pv (z0m l)),(3,iInt deep)] /\ σ = look (up (ckS u f 3 s))/\m=l.length - k) (n:=l.length - 0) ?_ ?_
    ·exact ⟨0,st,Nat.zero_le _,rfl,hs,rfl,rfl,rfl⟩
    rintro fr σ m ⟨k,s,hI0,hI1,hI2,rfl,rfl,rfl⟩
    refine tQ <| tG <| sm 1 rfl <| nL <| tQ ?_
    refine tC rfl (fun hc16=>?_) fun hc16=>?_
    ·have hlt:k<l.length:=by simpa using hc16
     have hd2:=List.drop_eq_getElem_cons hlt
     have hm:=List.getElem_mem hlt
     have hi:=z08 (List.getElem?_eq_getElem hlt)
     generalize l[k]=x at hd2 hm hi
     have hWx:=z9t x
     have hWl:=yc5 hm
     have hxo:x.outs.length<=1073741824:=by omega
     have hxp:x.params.length<=1073741824:=by omega
     refine tSk <| tQ <| tBk <| tQ <| tG <| sm 1 rfl <| cV rfl (iSq rfl rfl rfl uT43 hi tS42 rfl (by rfl)) <| cV rfl (lEA rfl rfl uT42 rfl tS42 (lb rfl)) <| cE rfl (aLc (k:=110) rfl tZ42 rfl rfl rfl rfl) <| sm 1 rfl <| c0 (sBA rfl rfl rfl rfl rfl sI0 tS42 (flk rfl) (lb rfl)) <| nL ?_
     refine tQ <| Tr.freezeBox (t:=10) (k:=110) rfl rfl rfl ?_
     refine Tr.heap (σ':=look (up (ckS u f 3 s))) (fun k=>by
       simp only [look]
       by_cases h:110=k
       · subst h;rfl
       · simp [z25 h]) ?_
     refine tG <| sm 3 rfl ?_
     refine wS 22 rfl (fun hb22=>?_) fun hb22=>?_
     ·refine sm 17 rfl <| nL <| Tr.condT rfl <| tQ <| tG <| sm 1 rfl <| nL <| tRt ?_
      (have h2:z1g u f deep wh st l=(false,s):=by
         unfold z1g
         rw [hI1,hd2]
         unfold shGo
         rw [if_pos (by simpa using hb22)]
         simp [andQ]
       rw [h2]
       exact rOk rfl rfl (po2 rfl rfl))
     refine sm 1 rfl <| yV rfl rfl (lEA rfl rfl uT42 rfl tS42 (lb rfl)) <| yV rfl rfl (lEA rfl rfl Tryz.underlying103 rfl tS103 (lb rfl)) <| sm 1 rfl <| WL.yes rfl rfl rfl rfl rfl rfl (cRr (yg6 u f hg x deep ⟨hd.1,by simp at hb22;omega⟩ wh s hI2 hxo hxp (fun q hq w st hst=>ih u f hg q (deep+1) ⟨by omega,by simp at hb22;omega⟩ w st hst (by have:=za6 hq;omega) (Nat.lt_of_lt_of_le (z5k hm rfl hq) (Nat.le_of_lt_succ hN)))) ent90 rfl rfl (sRf _ _) (po2 rfl rfl) (by rfl) (fun k (h:_)=>.inr h) rfl (by rfl)) <| sm 3 rfl ?_
     refine wS 30 rfl (fun hb30=>?_) fun hb30=>?_
     ·refine sm 9 rfl <| nL <| Tr.condT rfl <| tQ <| tG <| sm 1 rfl <| nL <| tRt ?_
      (have h2:z1g u f deep wh st l=(false,(z3j u f deep wh s x).2):=by
         unfold z1g
         rw [hI1,hd2]
         unfold shGo
         rw [if_neg (by simpa using hb22)]
         have hn1:(z3j u f deep wh s x).1=false:=by simpa using hb30
         simp [andQ,hn1]
       rw [h2]
       exact rOk rfl rfl (po2 rfl rfl))
     refine yV rfl rfl (lEA rfl rfl uT42 rfl tS42 (lb rfl)) <| WL.yes rfl rfl rfl rfl rfl rfl (z3s (z6e x) ent42 rfl rfl (sRf _ _) rfl) <| sm 2 rfl <| yV rfl rfl (oSm uT43 rfl) <| yV rfl rfl (oB rfl rfl (z2f rfl oM0)) <| sm 1 rfl <| yV rfl rfl (zb1 rfl rfl rfl Tryz.underlying4) <| sm 1 rfl <| nL ?_
     refine tC rfl (fun hc39=>?_) fun hc39=>?_
     ·refine tQ <| tG <| sm 1 rfl <| nL <| tRt ?_
      (have h2:z1g u f deep wh st l=(false,(z3j u f deep wh s x).2):=by
         unfold z1g
         rw [hI1,hd2]
         unfold shGo
         rw [if_neg (by simpa using hb22)]
         have hn1:(z3j u f deep wh s x).1=true:=by simpa using hb30
         have hcl:(z01 x != (l.drop (k+1)).isEmpty)=true:=by rw [z6l hlt];simpa using hc39
         simp [andQ,hn1,hcl]
       rw [h2]
       exact rOk rfl rfl (po2 rfl rfl))
     refine tSk <| tG <| cV rfl (oB rfl rfl (z03 rfl oM0)) <| sm 1 rfl <| nL ?_
     refine ⟨_,_,?_,Sub.of (fr':=[(15,iInt (k+1)),(14,iInt l.length),(13,.pv (z0m l)),(6,.pv (.ept [vBool wh.If,vBool wh.Loop,ints wh.Yield,ints wh.Next,ints wh.Left] 0)),(0,.ptr 3 0),(1,.pv (z0m l)),(3,iInt deep)]) ⟨rfl,rfl,rfl,rfl,rfl,rfl,rfl,trivial⟩,(k+1),(z3j u f deep wh s x).2,?_,?_,?_,rfl,(z23 rfl),rfl⟩
     ·omega
     ·omega
     ·rw [hI1,hd2]
      have hn1:(z3j u f deep wh s x).1=true:=by simpa using hb30
      have hcl:(z01 x != (l.drop (k+1)).isEmpty)=false:=by rw [z6l hlt];simpa using hc39
      have hdp:¬ deep > 100:=by simpa using hb22
      conv=>lhs;unfold shGo
      simp only [if_neg hdp,andQ,hn1,hcl,if_true]
      rfl
     exact (ze9 ..).trans hI2
    refine tEx <| tQ <| tQ ?_
    have hgo2:shGo u f deep wh st l=(true,s):=by rw [hI1,List.drop_eq_nil_of_le (by simpa using hc16)];simp [shGo]
    have hgo:(shGo u f deep wh st l).1=true:=by rw [hgo2]
    have hs0:=hI2
    generalize s=s0 at hgo2 hs0 ⊢
    refine tG <| sm 1 rfl <| cV rfl (oSm uT43 rfl) <| sm 1 rfl <| nL <| tBk <| Tr.sub (Sub.of (fr':=[(43,iInt 0),(42,iInt l.length),(41,.pv (z0m l)),(0,.ptr 3 0),(1,.pv (z0m l))]) ⟨rfl,rfl,rfl,rfl,rfl,trivial⟩) ?_
    refine Tr.loop (fun fr σ m=>∃ (k:Nat) (s:List Int),(k<=l.length)/\(z6g s0 l=z6g s (l.drop k))/\(s.length=f.types.length)/\fr=[(43,iInt k),(42,iInt l.length),(41,.pv (z0m l)),(0,.ptr 3 0),(1,.pv (z0m l))] /\ σ = look (up (ckS u f 3 s))/\m=l.length - k) (n:=l.length - 0) ?_ ?_
    ·exact ⟨0,s0,Nat.zero_le _,rfl,hs0,rfl,rfl,rfl⟩
    rintro fr σ m ⟨k,s,hJ0,hJ1,hJ2,rfl,rfl,rfl⟩
    refine tQ <| tG <| sm 1 rfl <| nL <| tQ ?_
    refine tC rfl (fun hc44=>?_) fun hc44=>?_
    ·have hlt:k<l.length:=by simpa using hc44
     have hd2:=List.drop_eq_getElem_cons hlt
     have hm:=List.getElem_mem hlt
     have hi:=z08 (List.getElem?_eq_getElem hlt)
     generalize l[k]=x at hd2 hm hi
     refine tSk <| tQ <| tBk <| tQ <| tG <| cV rfl (iSq rfl rfl rfl uT43 hi tS42 rfl (by rfl)) <| cV rfl (lEA rfl rfl uT42 rfl tS42 (lb rfl)) <| cE rfl (aLc (k:=112) rfl tZ42 rfl rfl rfl rfl) <| c0 (sBA rfl rfl rfl rfl rfl sI0 tS42 (flk rfl) (lb rfl)) <| nL <| Tr.freezeBox (t:=12) (k:=112) rfl rfl rfl ?_
     refine Tr.heap (σ':=look (up (ckS u f 3 s))) (fun k=>by
       simp only [look]
       by_cases h:112=k
       · subst h;rfl
       · simp [z25 h]) ?_
     refine tG <| sm 3 rfl <| cE rfl (ocr (y2q u f s hJ2 x.outs (y2x hgo x hm)) ent91 rfl (po2 rfl rfl) rfl (fun k (h:_)=>.inr h) rfl rfl) <| nL <| tG <| cV rfl (oB rfl rfl (z03 rfl oM0)) <| sm 1 rfl <| nL ?_
     refine ⟨_,_,?_,Sub.of (fr':=[(43,iInt (k+1)),(42,iInt l.length),(41,.pv (z0m l)),(0,.ptr 3 0),(1,.pv (z0m l))]) ⟨rfl,rfl,rfl,rfl,rfl,trivial⟩,(k+1),(z3b s x.outs),?_,?_,?_,rfl,(z23 rfl),rfl⟩
     ·omega
     ·omega
     ·rw [hJ1,hd2];rfl
     exact (z4x ..).trans hJ2
    refine tEx <| tQ <| tG <| sm 1 rfl <| cV rfl (oSm uT43 rfl) <| sm 2 rfl <| nL <| tRt ?_
    have hge:l.length<=k:=by simpa using hc44
    have h2:z1g u f deep wh st l=(decide ((l.length:Int) > 0),s):=by
      unfold z1g
      rw [hgo2]
      simp only [andQ,if_true,y2w,hJ1,List.drop_eq_nil_of_le hge]
      rfl
    rw [h2]
    exact rOk rfl rfl (po2 rfl rfl)
theorem yg4 (u:Un) (f:Fl) (hg:∀ g∈u.flows,0<=g.params/\g.params<=g.types.length) (l:List Nd) (deep:Int) (hd:0<=deep/\deep<=101) (wh:Wh) (st:List Int) (hs:st.length=f.types.length) (hb:lsW l<=1073741824):SC Tryz.prog 64 [.ptr 3 0,.pv (z0m l),.pv (whv wh),iInt deep] (ckS u f 3 st) (fun k=>k=3) (iBool (z1g u f deep wh st l).1) (ckS u f 3 (z1g u f deep wh st l).2):=y0n _ u f hg l deep hd wh st hs hb (Nat.lt_succ_self _)
theorem yg1 (u:Un) (f:Fl) (hg:∀ g∈u.flows,0<=g.params/\g.params<=g.types.length) (hp:0<=f.params/\f.params<=f.types.length) (hb:lsW f.body<=536870912):SC Tryz.prog 38 [.pv u.enc,.pv (.agg f.enc)] [] (fun _=>False) (iBool (z9w u f)) []:=by
  refine SC.of Tryz.func38 rfl (lb rfl) fun F ρ w=>?_
  refine tQ <| tG <| cE rfl (z3y rfl rfl) <| cE rfl (z3y rfl rfl) <| sm 1 rfl <| nL <| tQ <| tQ <| tG <| sm 4 rfl ?_
  refine wS 10 rfl (fun hb10=>?_) fun hb10=>?_
  ·refine sm 10 rfl <| nL <| Tr.condT rfl <| tQ <| tG <| sm 1 rfl <| nL <| tRt <| rOk rfl ?_ nPo
   have hno:(decide (f.params > 8)||decide ((f.types.length:Int) > 20000)||f.types.any (fun t=>!isTy t))=true:=by
     simp_all
   simp only [z9w,hno,Bool.not_true,Bool.false_and]
  refine sm 2 rfl <| yV rfl rfl (oSm uT35 rfl) <| sm 3 rfl ?_
  refine wS 16 rfl (fun hb16=>?_) fun hb16=>?_
  ·refine sm 4 rfl <| nL <| Tr.condT rfl <| tQ <| tG <| sm 1 rfl <| nL <| tRt <| rOk rfl ?_ nPo
   have hno:(decide (f.params > 8)||decide ((f.types.length:Int) > 20000)||f.types.any (fun t=>!isTy t))=true:=by
     simp_all
   simp only [z9w,hno,Bool.not_true,Bool.false_and]
  refine sm 2 rfl <| WL.yes rfl rfl rfl rfl rfl rfl (z3s (y7z 63 [] [] rfl ent63 (fun t=>!isTy t) f.types (fun x hm=>(sc_flow1 x).anyR)) ent62 rfl rfl (sSm rfl (Subs.cons (fun _ _ _ _ h=>y0u h) Subs.nil)) rfl) <| sm 1 rfl <| nL ?_
  refine tC rfl (fun hc20=>?_) fun hc20=>?_
  ·refine tQ <| tG <| sm 1 rfl <| nL <| tRt <| rOk rfl ?_ nPo
   have hno:(decide (f.params > 8)||decide ((f.types.length:Int) > 20000)||f.types.any (fun t=>!isTy t))=true:=by
     simp_all
   simp only [z9w,hno,Bool.not_true,Bool.false_and]
  ·have hpar:f.params<=8/\f.types.length<=20000:=by
     (simp_all<;>omega)
   have hpt:f.params.toNat<=f.types.length:=by omega
   have hpi:f.params=(f.params.toNat:Int):=by omega
   have hno:(decide (f.params > 8)||decide ((f.types.length:Int) > 20000)||f.types.any (fun t=>!isTy t))=false:=by
     clear hpi
     simp_all
   refine tSk <| tQ <| tDr zd9 (fun k=>k<3) <| wR 4 [0,1,2,3,4] kR0 h30 <| rV rfl rfl (lEA rfl rfl Tryz.underlying25 rfl tS25 (lb rfl)) <| rV rfl rfl (lEA rfl rfl Tryz.underlying51 rfl tS51 (lb rfl)) <| smR 2 rfl <| rV rfl rfl (oSm uT35 rfl) <| nR <| wO 5 kR0 <| wI rfl rfl nf (y06 rfl) (fun _ _=>z6p (k:=4) (s:=⟨3,1⟩) rfl rfl rfl uT35 tZ3 tC3 rfl dC0 oM0 oM0 rfl rfl rfl rfl) <| wR 2 [6] kR0 h30 ?_
   refine rV rfl rfl (by exact zm0 rfl rfl tZ100 tP100 rfl (zo2 (by (simp [y5o,firm1,look,PV.one];exact ⟨_,_,⟨rfl,rfl⟩,by simp⟩)))) <| nR <| wO 7 kR0 <| wI rfl rfl nf (y06 rfl) (fun _ _=>zp9 (k:=3) rfl rfl rfl rfl rfl rfl rfl) <| wR 0 [8] kR0 h30 <| smR 1 rfl <| nR <| wDn kR0 <| tQ <| tQ <| tG <| sm 3 rfl ?_
   refine nL <| tBk <| Tr.sub (Sub.of (fr':=[(31,iInt 0),(30,iInt f.params),(5,.ptr 3 0),(2,.pv (.ept [arrs u.arrays,flws u.flows] 0)),(3,.pv (.ept [vStr f.name,vInt f.ty,vInt f.params,ints f.types,z0m f.body] 0))]) ⟨rfl,rfl,rfl,rfl,rfl,trivial⟩) ?_
   refine Tr.heap (σ':=look (up (ckS u f 3 (z8y 0 f.types.length)))) (fun k=>by
  rw [show (z8y 0 f.types.length)=List.replicate f.types.length 0 by simp [z8y]]
  simp only [ckS,up,List.map_cons,List.map_nil,look,List.length_map,List.length_replicate,List.map_replicate]
  by_cases h3:3=k
  · subst h3;rfl
  · by_cases h4:4=k
    · subst h4;rfl
    · simp [z25 h3,z25 h4]) ?_
   refine Tr.loop (fun fr σ m=>∃ (k:Nat),(k<=f.params.toNat)/\fr=[(31,iInt k),(30,iInt f.params),(5,.ptr 3 0),(2,.pv (.ept [arrs u.arrays,flws u.flows] 0)),(3,.pv (.ept [vStr f.name,vInt f.ty,vInt f.params,ints f.types,z0m f.body] 0))] /\ σ = look (up (ckS u f 3 (z8y k f.types.length)))/\m=f.params.toNat - k) (n:=f.params.toNat - 0) ?_ ?_
   ·exact ⟨0,Nat.zero_le _,rfl,rfl,rfl⟩
   rintro fr σ m ⟨k,hI0,rfl,rfl,rfl⟩
   refine tQ <| tG <| sm 1 rfl <| nL <| tQ ?_
   refine tC rfl (fun hc32=>?_) fun hc32=>?_
   ·have hkp:k<f.params.toNat:=by simp at hc32;omega
    have hkt:k<f.types.length:=by omega
    have hst:((z8y k f.types.length).map eInt)[k]? = some [vInt 0]:=by
      rw [List.getElem?_map]
      simp only [z8y]
      rw [List.getElem?_append_right sI0]
      simp [List.getElem?_replicate,eInt]
      omega
    have hstl:k<((z8y k f.types.length).map eInt).length:=by rw [List.length_map,z8z oM0];exact hkt
    refine tSk <| tQ <| tBk <| tQ <| tG <| sm 2 rfl <| nL <| tG <| sm 1 rfl <| cV rfl (nCk rfl rfl rfl) <| sm 3 rfl <| cV rfl (iRw rfl rfl rfl rfl rfl uT35 tS3 (by assumption) (by rfl)) ?_
    refine c0 (z59 rfl rfl rfl rfl rfl (Nat.add_zero _).symm (by assumption) sI0 tS3 rfl ((fun h=>h))) <| nL <| tG <| cV rfl (oB rfl rfl (z03 rfl oM0)) <| sm 1 rfl <| nL ?_
    refine ⟨_,_,?_,Sub.of (fr':=[(31,iInt (k+1)),(30,iInt f.params),(5,.ptr 3 0),(2,.pv (.ept [arrs u.arrays,flws u.flows] 0)),(3,.pv (.ept [vStr f.name,vInt f.ty,vInt f.params,ints f.types,z0m f.body] 0))]) ⟨rfl,rfl,rfl,rfl,rfl,trivial⟩,(k+1),?_,rfl,(by rw [<- yh6 hkt];exact funext y9c),rfl⟩
    all_goals omega
   refine tEx <| tQ ?_
   have hkp:k=f.params.toNat:=by simp at hc32;omega
   subst hkp
   refine tG <| sm 3 rfl <| cV rfl (bPu rfl rfl tZ103 tP103 rfl (fbk rfl) rfl) <| cE rfl (cRr (yg4 u f hg f.body 1 ⟨by omega,by omega⟩ z1d (z8y f.params.toNat f.types.length) (z8z hpt) oM0) ent64 rfl rfl (sSm rfl (sSm rfl (Subs.cons (fun _ _ _ _ h=>z90 (q:=whv z1d) (PSub.agg (ps:=[vBool false,vBool false,.val (.slice none 0 0),.val (.slice none 0 0),.val (.slice none 0 0)]) (And.intro (PSub.refl _) (And.intro (PSub.refl _) (And.intro PSub.nil (And.intro PSub.nil (And.intro PSub.nil trivial)))))) h) (sSm rfl Subs.nil)))) (po2 rfl rfl) (by rfl) (fun k (h:_)=>(show False from h).elim) rfl (by rfl)) <| sm 1 rfl <| nL <| tRt <| rOk rfl ?_ nPo
   simp only [z9w,hno,Bool.not_false,Bool.true_and]
set_option maxRecDepth 20000
set_option maxHeartbeats 2000000
theorem zs3 (n:Int):SC Tryz.prog 84 [.pv (.val (.int .i32 n))] [] (fun _=>False) (iBool (z6n n)) []:=by
  refine SC.anyR (SC.vc tb {} [] Tryz.func84 rfl rfl ?_)
  unfold z6n
  refine z00 (fun h1=>z00 (fun h2=>⟨sE (by rw [h1,h2];rfl),trivial⟩) fun h2=>?_) fun h1=>?_
  · refine z00 (fun h3=>z00 (fun h4=>⟨sE (by rw [h1,h2,h3,h4];rfl),trivial⟩) fun h4=>⟨sE (by rw [h1,h2,h3,h4];rfl),trivial⟩) fun h3=>⟨sE (by rw [h1,h2,h3];rfl),trivial⟩
  · refine z00 (fun h3=>z00 (fun h4=>⟨sE (by rw [h1,h3,h4];rfl),trivial⟩) fun h4=>⟨sE (by rw [h1,h3,h4];rfl),trivial⟩) fun h3=>⟨sE (by rw [h1,h3];rfl),trivial⟩
theorem y88 (n:Int):SC Tryz.prog 105 [.pv (.val (.int .i32 n))] [] (fun _=>False) (iBool (za5 n)) []:=by
  refine SC.anyR (SC.vc tb {} [] Tryz.func105 rfl rfl ?_)
  unfold za5
  exact z00 (fun h1=>⟨sE (by rw [h1];rfl),trivial⟩) fun h1=>⟨sE (by rw [h1];rfl),trivial⟩
theorem yh0 (s:ByteArray):SC Tryz.prog 86 [iStr s] [] (fun _=>False) (iBool (z1e s)) []:=by
  refine SC.anyR (SC.vc tb {} [] Tryz.func86 rfl rfl ?_)
  have N:∀ {b:Bool} {P:Prop},b=true->b=false->P:=fun h g=>by rw [h] at g;cases g
  have T:∀ {b:Bool},b=true->SubI (iBool true) (iBool b):=fun h=>sE (by rw [h])
  exact z00 (fun h=>z00 (fun _=>⟨T (by unfold z1e;rw [h];simp only [Bool.or_true,Bool.true_or]),trivial⟩) fun g=>N h g) fun h1=>z00 (fun h=>z00 (fun _=>⟨T (by unfold z1e;rw [h];simp only [Bool.or_true,Bool.true_or]),trivial⟩) fun g=>N h g) fun h2=>z00 (fun h=>z00 (fun _=>⟨T (by unfold z1e;rw [h];simp only [Bool.or_true,Bool.true_or]),trivial⟩) fun g=>N h g) fun h3=>z00 (fun h=>z00 (fun _=>⟨T (by unfold z1e;rw [h];simp only [Bool.or_true,Bool.true_or]),trivial⟩) fun g=>N h g) fun h4=>z00 (fun h=>z00 (fun _=>⟨T (by unfold z1e;rw [h];simp only [Bool.or_true,Bool.true_or]),trivial⟩) fun g=>N h g) fun h5=>z00 (fun h=>z00 (fun _=>⟨T (by unfold z1e;rw [h];simp only [Bool.or_true,Bool.true_or]),trivial⟩) fun g=>N h g) fun h6=>z00 (fun h=>z00 (fun _=>⟨T (by unfold z1e;rw [h];simp only [Bool.or_true,Bool.true_or]),trivial⟩) fun g=>N h g) fun h7=>z00 (fun h=>z00 (fun _=>⟨T (by unfold z1e;rw [h];simp only [Bool.or_true,Bool.true_or]),trivial⟩) fun g=>N h g) fun h8=>z00 (fun h=>z00 (fun _=>⟨T (by unfold z1e;rw [h];simp only [Bool.or_true,Bool.true_or]),trivial⟩) fun g=>N h g) fun h9=>z00 (fun h=>z00 (fun _=>⟨T (by unfold z1e;rw [h];simp only [Bool.or_true,Bool.true_or]),trivial⟩) fun g=>N h g) fun h10=>z00 (fun h=>z00 (fun _=>⟨T (by unfold z1e;rw [h];simp only [Bool.or_true,Bool.true_or]),trivial⟩) fun g=>N h g) fun h11=>z00 (fun h=>z00 (fun _=>⟨T (by unfold z1e;rw [h];simp only [Bool.or_true,Bool.true_or]),trivial⟩) fun g=>N h g) fun h12=>z00 (fun h=>z00 (fun _=>⟨T (by unfold z1e;rw [h];simp only [Bool.or_true,Bool.true_or]),trivial⟩) fun g=>N h g) fun h13=>z00 (fun h=>z00 (fun _=>⟨T (by unfold z1e;rw [h];simp only [Bool.or_true,Bool.true_or]),trivial⟩) fun g=>N h g) fun h14=>z00 (fun h=>z00 (fun _=>⟨T (by unfold z1e;rw [h];simp only [Bool.or_true,Bool.true_or]),trivial⟩) fun g=>N h g) fun h15=>z00 (fun h=>z00 (fun _=>⟨T (by unfold z1e;rw [h];simp only [Bool.or_true,Bool.true_or]),trivial⟩) fun g=>N h g) fun h16=>z00 (fun h=>z00 (fun _=>⟨T (by unfold z1e;rw [h];simp only [Bool.or_true,Bool.true_or]),trivial⟩) fun g=>N h g) fun h17=>z00 (fun h=>⟨T (by unfold z1e;rw [h];simp only [Bool.or_true,Bool.true_or]),trivial⟩) fun h18=>⟨sE (by unfold z1e;rw [h1,h2,h3,h4,h5,h6,h7,h8,h9,h10,h11,h12,h13,h14,h15,h16,h17,h18];rfl),trivial⟩
theorem sc_tkRun (s:ByteArray):SC Tryz.prog 85 [iStr s] [] (fun _=>False) (iStr (y7u s)) []:=by
  refine SC.of Tryz.func85 rfl (lb rfl) fun F ρ w=>?_
  refine tQ <| tG <| sm 1 rfl <| nL <| tQ ?_
  refine Tr.strRange rfl rfl rfl rfl rfl rfl rfl rfl Tryz.underlying9 rfl rfl rfl rfl rfl rfl rfl rfl rfl rfl rfl (fun _ h=>h) (fun k fr=>(k<=s.toList.length/\(s.toList.take k).all isLD=true)/\fr=[(0,iStr s)]) ⟨[(0,iStr s)],Sub.of ⟨rfl,trivial⟩,⟨Nat.zero_le _,rfl⟩,rfl⟩ ?_ ?_
  ·rintro b0 k _ hk ⟨hI,rfl⟩
   refine tQ <| tG <| sm 2 rfl <| nL <| tRt <| rOk rfl ?_ nPo
   have hall:s.toList.all isLD=true:=by
     have:=hI.2
     rwa [List.take_of_length_le (by rw [z9r];exact hk)] at this
   simp [y7u,hall]
  rintro ρ2 w2 b0 k _ hk ⟨hI,rfl⟩
  have hlt:k<s.toList.length:=by rw [z9r];exact hk
  refine tBk <| tQ <| tG <| cV rfl (z51 rfl rfl rfl) <| cV rfl (z51 rfl rfl rfl) <| sm 2 rfl <| nL <| tQ <| tG <| sm 1 rfl <| cE rfl (ocq (zs3 _) ent84 rfl rfl) <| sm 2 rfl ?_
  refine wS 14 rfl (fun hb14=>?_) fun hb14=>?_
  ·refine sm 1 rfl <| WL.yes rfl rfl rfl rfl rfl rfl (z3s (y88 _) ent105 rfl rfl (sRf _ _) rfl) <| sm 2 rfl <| nL ?_
   refine tC rfl (fun hc18=>?_) fun hc18=>?_
   ·refine tQ <| tG <| sm 2 rfl <| cV rfl (zj9 rfl rfl Tryz.underlying9 (.inl ⟨rfl,rfl⟩) (.inr ⟨_,_,rfl,rfl⟩) oM0 (Nat.le_of_lt (by assumption))) <| sm 1 rfl <| nL <| tRt <| rOk rfl ?_ nPo
    have hld:zt8 (Utf8.decode s k).1=false:=by
      simp only [zt8]
      simp_all
    rw [runOf_at hI.2 (List.getElem?_eq_getElem hlt) ((zn9 hlt).2 hld)]
   refine tSk ?_
   refine ⟨rfl,[(0,iStr s)],Sub.of ⟨rfl,rfl,trivial⟩,?_,rfl⟩
   have hld:zt8 (Utf8.decode s k).1=true:=by
     simp only [zt8]
     simp_all
   obtain ⟨hw1,hb1⟩:=(zn9 hlt).1 hld
   rw [hw1]
   exact ⟨by omega,by rw [List.take_succ_eq_append_getElem hlt,List.all_append,hI.2];simp [hb1]⟩
  refine sm 4 rfl <| nL <| Tr.condF rfl <| tSk ?_
  refine ⟨rfl,[(0,iStr s)],Sub.of ⟨rfl,rfl,trivial⟩,?_,rfl⟩
  have hld:zt8 (Utf8.decode s k).1=true:=by
    simp only [zt8]
    simp_all
  obtain ⟨hw1,hb1⟩:=(zn9 hlt).1 hld
  rw [hw1]
  exact ⟨by omega,by rw [List.take_succ_eq_append_getElem hlt,List.all_append,hI.2];simp [hb1]⟩
theorem y2t (s:ByteArray):SC Tryz.prog 59 [iStr s] [] (fun _=>False) (iBool (z3a s)) []:=by
  refine SC.of Tryz.func59 rfl (lb rfl) fun F ρ w=>?_
  refine tQ <| tG <| sm 1 rfl <| nL <| tQ <| tG <| sm 1 rfl <| cV rfl (bSt rfl rfl rfl rfl) <| sm 1 rfl ?_
  refine wS 5 rfl (fun hb5=>?_) fun hb5=>?_
  ·have hne:s.toList≠[]:=by simpa using hb5
   obtain ⟨b0,r0,hs0⟩:=List.exists_cons_of_ne_nil hne
   have hi0:s[0]? = some b0:=by rw [y5j (i:=0) (by rw [hs0];simp)];simp [hs0]
   have hw0:IntKind.i32.wrap (b0.toNat:Int)=b0.toNat:=by
     have:b0.toNat<256:=b0.toNat_lt
     simp [IntKind.wrap,IntKind.bits,IntKind.signed]
     omega
   have hre:=runOf_eq s
   refine sm 1 rfl <| yV rfl rfl (z58 rfl rfl rfl Tryz.underlying9 (by assumption) (by rfl)) <| yV rfl rfl (zb0 rfl rfl ⟨_,Tryz.underlying5⟩ Tryz.underlying21) <| WL.yes rfl rfl rfl rfl rfl rfl (z3s (zs3 _) ent84 rfl rfl (sRf _ _) rfl) <| sm 2 rfl ?_
   refine wS 11 rfl (fun hb11=>?_) fun hb11=>?_
   ·refine sm 1 rfl <| WL.yes rfl rfl rfl rfl rfl rfl (z3s (sc_tkRun s) ent85 rfl rfl (sRf _ _) rfl) <| sm 1 rfl <| yV rfl rfl (bSt rfl rfl rfl rfl) <| sm 2 rfl ?_
    refine wS 17 rfl (fun hb17=>?_) fun hb17=>?_
    ·refine sm 1 rfl <| yV rfl rfl (z9c rfl rfl Tryz.underlying9) <| sm 3 rfl ?_
     refine wS 22 rfl (fun hb22=>?_) fun hb22=>?_
     ·refine sm 1 rfl <| WL.yes rfl rfl rfl rfl rfl rfl (z3s (yh0 s) ent86 rfl rfl (sRf _ _) rfl) <| sm 3 rfl <| nL <| tRt <| rOk rfl ?_ nPo
      refine congrArg (fun b=>iBool b) ?_
      simp_all [z3a]
     refine sm 5 rfl <| nL <| tRt <| rOk rfl ?_ nPo
     refine congrArg (fun b=>iBool b) ?_
     (simp_all [z3a]<;>omega)
    refine sm 10 rfl <| nL <| tRt <| rOk rfl ?_ nPo
    refine congrArg (fun b=>iBool b) ?_
    simp_all [z3a]
   refine sm 16 rfl <| nL <| tRt <| rOk rfl ?_ nPo
   refine congrArg (fun b=>iBool b) ?_
   simp_all [z3a]
  refine sm 22 rfl <| nL <| tRt <| rOk rfl ?_ nPo
  refine congrArg (fun b=>iBool b) ?_
  simp_all [z3a]
set_option maxRecDepth 20000
set_option maxHeartbeats 2000000
theorem yg3 (u:Un) (hW:z0p u<=536870912):SC Tryz.prog 37 [.pv u.enc] [] (fun _=>False) (iBool (z6u u)) []:=by
  refine SC.anyR (SC.vc tb {} [] Tryz.func37 rfl rfl ?_)
  have hw1:u.arrays.length<=z0p u:=by unfold z0p;omega
  have hw2:u.flows.length<=z0p u:=by unfold z0p;omega
  refine ⟨Nat × List (Value × PV),fun (k,_)=>[(13,iInt k)],fun (_,es)=>[(109,.map es)],fun (k,_)=>u.arrays.length - k,fun (k,es)=>k<=u.arrays.length/\u.arrays.all zk7=(u.arrays.drop k).all zk7/\zn6 [] u.arrays=zn6 es (u.arrays.drop k)/\Cnt es,[],(0,[]),⟨Nat.zero_le _,rfl,rfl,Cnt.nil⟩,⟨rfl,trivial⟩,⟨rfl,trivial⟩,?_⟩
  rintro ⟨k,es⟩ ⟨hk,hA,hC,hes⟩
  refine z00 (fun hc=>?_) fun hc=>?_
  · have hlt:=z41 (f:=Ar.enc) rfl hc
    obtain ⟨a,ha,_,hd,_⟩:=z2s hlt
    rw [hd] at hA hC
    rw [List.all_cons] at hA
    obtain ⟨n,hn⟩:=hes.find (.string a.name)
    have bad:zk7 a=false->SubI (iBool false) (iBool (z6u u)):=fun h=>sE (by unfold z6u;rw [hA,h];rfl)
    have hNm:=y2t a.name
    cases hN:z3a a.name with
    | false =>
      rw [hN] at hNm
      exact ⟨z06 (f:=Ar.enc) ha,rfl,VAsk.mk (p:=vInt n) (b:=(z4m (.string a.name) es).isSome) rfl hes.1 (Prod.ext hn rfl) ⟨rfl,rfl,hes.1,[],hNm,sR,trivial,rfl,bad (by unfold zk7;rw [hN];rfl),trivial⟩⟩
    | true =>
      rw [hN] at hNm
      refine ⟨z06 (f:=Ar.enc) ha,rfl,VAsk.mk (p:=vInt n) (b:=(z4m (.string a.name) es).isSome) rfl hes.1 (Prod.ext hn rfl) ⟨rfl,rfl,hes.1,[],hNm,sR,trivial,rfl,z00 (fun h1=>⟨bad (by unfold zk7;rw [hN,show decide (a.size<1)=true from h1];rfl),trivial⟩) fun h1=>z00 (fun h2=>⟨bad (by unfold zk7;rw [hN,show decide (a.size<1)=false from h1,show decide (a.size > 1000)=true from h2];rfl),trivial⟩) fun h2=>?_⟩⟩
      have good:zk7 a=true:=by unfold zk7;rw [hN,show decide (a.size<1)=false from h1,show decide (a.size > 1000)=false from h2];rfl
      exact ⟨z03 rfl oM0,(k+1,bump a.name es),z0g hlt,⟨hlt,by rw [hA,good];rfl,hC,hes.bump _⟩,⟨rfl,trivial⟩,⟨mpq (zy3 hn).symm,trivial⟩,rfl,rfl,rfl,rfl⟩
  · have hge:=z47 (f:=Ar.enc) rfl hc
    rw [List.drop_eq_nil_of_le hge] at hA hC
    refine ⟨Nat × List (Value × PV),fun (k,_)=>[(40,iInt k)],fun (_,es)=>[(109,.map es)],fun (k,_)=>u.flows.length - k,fun (k,es)=>k<=u.flows.length/\u.flows.all ze7=(u.flows.drop k).all ze7/\zu8 (zn6 [] u.arrays) u.flows=zu8 es (u.flows.drop k)/\Cnt es,[],(0,es),⟨Nat.zero_le _,rfl,by rw [hC];rfl,hes⟩,⟨rfl,trivial⟩,⟨rfl,trivial⟩,?_⟩
    rintro ⟨k,es⟩ ⟨hk,hF,hC,hes⟩
    refine z00 (fun hc=>?_) fun hc=>?_
    · have hlt:=z41 (f:=Fl.enc) rfl hc
      obtain ⟨f,hf,_,hd,hm⟩:=z2s hlt
      rw [hd] at hF hC
      rw [List.all_cons] at hF
      obtain ⟨n,hn⟩:=hes.find (.string f.name)
      have bad:ze7 f=false->SubI (iBool false) (iBool (z6u u)):=fun h=>sE (by unfold z6u;rw [hA,hF,h];rfl)
      have hNm:=y2t f.name
      cases hN:z3a f.name with
      | false =>
        rw [hN] at hNm
        exact ⟨z06 (f:=Fl.enc) hf,rfl,VAsk.mk (p:=vInt n) (b:=(z4m (.string f.name) es).isSome) rfl hes.1 (Prod.ext hn rfl) ⟨rfl,rfl,hes.1,[],hNm,sR,trivial,rfl,bad (by unfold ze7;rw [hN];rfl),trivial⟩⟩
      | true =>
        rw [hN] at hNm
        have hT:=yf3 f.ty
        cases hty:isTy f.ty with
        | false =>
          rw [hty] at hT
          exact ⟨z06 (f:=Fl.enc) hf,rfl,VAsk.mk (p:=vInt n) (b:=(z4m (.string f.name) es).isSome) rfl hes.1 (Prod.ext hn rfl) ⟨rfl,rfl,hes.1,[],hNm,sR,trivial,rfl,[],hT,sR,trivial,rfl,bad (by unfold ze7;rw [hN,hty];rfl),trivial⟩⟩
        | true =>
          rw [hty] at hT
          refine ⟨z06 (f:=Fl.enc) hf,rfl,VAsk.mk (p:=vInt n) (b:=(z4m (.string f.name) es).isSome) rfl hes.1 (Prod.ext hn rfl) ⟨rfl,rfl,hes.1,[],hNm,sR,trivial,rfl,[],hT,sR,trivial,rfl,z00 (fun h1=>⟨bad (by unfold ze7;rw [hN,hty,show decide (f.params<0)=true from h1];rfl),trivial⟩) fun h1=>z00 (fun h2=>⟨bad (by unfold ze7;rw [hN,hty,show decide (f.params<0)=false from h1,show decide (f.params > f.types.length)=true by simpa using h2];rfl),trivial⟩) fun h2=>?_⟩⟩
          have good:ze7 f=true:=by unfold ze7;rw [hN,hty,show decide (f.params<0)=false from h1,show decide (f.params > f.types.length)=false by simpa using h2];rfl
          exact ⟨z03 rfl oM0,(k+1,bump f.name es),z0g hlt,⟨hlt,by rw [hF,good];rfl,hC,hes.bump _⟩,⟨rfl,trivial⟩,⟨mpq (zy3 hn).symm,trivial⟩,rfl,rfl,rfl,rfl⟩
    · have hge:=z47 (f:=Fl.enc) rfl hc
      rw [List.drop_eq_nil_of_le hge] at hF hC
      have hG:z6u u=((es.length:Int)==u.arrays.length+u.flows.length&&z6r u):=by unfold z6u;rw [hA,hF,hC];rfl
      rw [hG]
      have N:∀ {P:Prop} {b:Bool},b=true->b=false->P:=fun h g=>by rw [h] at g;cases g
      cases hb:((es.length:Int)==u.arrays.length+u.flows.length) with
      | false=>exact ⟨[],z9h u z0b,sR,trivial,rfl,z03 rfl (by simp;omega),z00 (fun h=>N (show ((es.length:Int)==u.arrays.length+u.flows.length)=true by simpa using h) hb) fun _=>⟨sI,trivial⟩⟩
      | true =>
        cases hp:decide (z04 z0b u.flows 0 ≥ 0) with
        | false=>exact ⟨[],z9h u z0b,sR,trivial,rfl,z03 rfl (by simp;omega),z00 (fun _=>z00 (fun h=>N h hp) fun _=>⟨sE (by unfold z6r;rw [hp];rfl),trivial⟩) fun h=>N hb (by simpa using h)⟩
        | true =>
          have h0:z04 z0b u.flows 0 ≥ 0:=by simpa using hp
          obtain ⟨g,hg,_⟩:=z9e h0
          have hD:u.flows.getD (z04 z0b u.flows 0).toNat y1m=g:=by rw [List.getD_eq_getElem?_getD,hg];rfl
          have hi:=z06 (f:=Fl.enc) hg
          refine ⟨[],z9h u z0b,sR,trivial,rfl,z03 rfl (by simp;omega),z00 (fun _=>z00 (fun _=>⟨hi,by omega,z00 (fun h1=>⟨hi,by omega,sE ?_,trivial⟩) fun h1=>⟨sE ?_,trivial⟩⟩) fun h=>N hp h) fun h=>N hb (by simpa using h)⟩
          · unfold z6r;rw [hp,hD,show (g.ty==1)=true from h1];rfl
          · unfold z6r;rw [hp,hD,show (g.ty==1)=false from h1];rfl
theorem y87 (u:Un) (hW:z0p u<=536870912):SC Tryz.prog 22 [.pv u.enc] [] (fun _=>False) (.tup [iInt (z53 u).1,iInt (z53 u).2]) []:=by
  refine SC.of Tryz.func22 rfl (lb rfl) fun F ρ w=>?_
  refine tQ <| tG <| cE rfl (z3y rfl rfl) <| sm 2 rfl <| nL <| tQ <| tQ <| tG <| cV rfl (lEA rfl rfl Tryz.underlying25 rfl tS25 (lb rfl)) <| cE rfl (ocq (yg3 u hW) ent37 rfl rfl) <| sm 1 rfl <| nL ?_
  refine tC rfl (fun hc8=>?_) fun hc8=>?_
  ·refine tQ <| tG <| sm 2 rfl <| nL <| tRt <| rOk rfl ?_ nPo
   have hg:z6u u=false:=by simpa using hc8
   simp [z53,hg]
  have hg:z6u u=true:=by simpa using hc8
  refine tSk <| tQ <| tQ <| tG <| sm 2 rfl ?_
  refine WL.lenOf (t:=10) rfl (fun hl1=>?_)
  simp only [List.length_map] at hl1
  refine cV rfl (oSm uT23 rfl) <| sm 1 rfl <| nL <| tBk <| Tr.sub (Sub.of (fr':=[(12,iInt 0),(11,iInt u.flows.length),(10,.pv (flws u.flows)),(1,.pv (.ept [arrs u.arrays,flws u.flows] 0))]) ⟨rfl,rfl,rfl,rfl,trivial⟩) ?_
  refine Tr.loop (fun fr σ m=>∃ (k:Nat),(k<=u.flows.length)/\(z7u u u.flows 0=z7u u (u.flows.drop k) k)/\fr=[(12,iInt k),(11,iInt u.flows.length),(10,.pv (flws u.flows)),(1,.pv (.ept [arrs u.arrays,flws u.flows] 0))] /\ σ = look []/\m=u.flows.length - k) (n:=u.flows.length - 0) ?_ ?_
  ·exact ⟨0,Nat.zero_le _,rfl,rfl,rfl,rfl⟩
  rintro fr σ m ⟨k,hI0,hI1,rfl,rfl,rfl⟩
  refine tQ <| tG <| sm 1 rfl <| nL <| tQ ?_
  refine tC rfl (fun hc13=>?_) fun hc13=>?_
  ·have hlt:k<u.flows.length:=by simpa using hc13
   have hd:=List.drop_eq_getElem_cons hlt
   have hm:=List.getElem_mem hlt
   have hi:=z06 (f:=Fl.enc) (List.getElem?_eq_getElem hlt)
   generalize u.flows[k]=x at hd hm hi
   refine tSk <| tQ <| tBk <| tQ <| tG <| sm 1 rfl <| cV rfl (iSq rfl rfl rfl uT23 hi tS51 rfl (by rfl)) <| cV rfl (lEA rfl rfl Tryz.underlying51 rfl tS51 (lb rfl)) <| cE rfl (aLc (k:=105) rfl tZ51 rfl rfl rfl rfl) <| sm 1 rfl <| c0 (sBA rfl rfl rfl rfl rfl ((fun h=>h)) tS51 (flk rfl) (lb rfl)) <| nL ?_
   refine tQ <| Tr.freezeBox (t:=5) (k:=105) rfl rfl rfl <| Tr.heap (σ':=look []) (fun k=>by simp only [look];cases Nat.beq 105 k<;>rfl) <| tG <| cV rfl (lEA rfl rfl Tryz.underlying25 rfl tS25 (lb rfl)) <| cV rfl (lEA rfl rfl Tryz.underlying51 rfl tS51 (lb rfl)) <| cE rfl (ocq (yg1 u x (ze8 hg) (ze8 hg x hm) (zo5 hW hm)) ent38 rfl rfl) <| sm 1 rfl <| nL ?_
   refine tC rfl (fun hc20=>?_) fun hc20=>?_
   ·refine tQ <| tG <| sm 3 rfl <| nL <| tRt <| rOk rfl ?_ nPo
    have hx:z9w u x=false:=by simpa using hc20
    simp only [z53,hg,if_true,hI1,hd,z7u,hx,Bool.false_eq_true,if_false]
   refine tSk <| tG <| cV rfl (oB rfl rfl (z03 rfl oM0)) <| sm 1 rfl <| nL ?_
   refine ⟨_,_,?_,Sub.of (fr':=[(12,iInt (k+1)),(11,iInt u.flows.length),(10,.pv (flws u.flows)),(1,.pv (.ept [arrs u.arrays,flws u.flows] 0))]) ⟨rfl,rfl,rfl,rfl,trivial⟩,(k+1),?_,?_,rfl,rfl,rfl⟩
   ·omega
   ·omega
   rw [hI1,hd]
   have hx:z9w u x=true:=by simpa using hc20
   simp only [z7u,hx,if_true]
   rfl
  refine tEx <| tQ <| tG <| sm 2 rfl <| nL <| tRt <| rOk rfl ?_ nPo
  have hge:u.flows.length<=k:=by simpa using hc13
  simp only [z53,hg,if_true,hI1,List.drop_eq_nil_of_le hge,z7u]
end Go.Proofs.YtekdhljpmflboaaGreat
