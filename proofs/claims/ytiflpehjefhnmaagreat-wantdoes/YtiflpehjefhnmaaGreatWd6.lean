/- PART 6 of 7 of a proof: see the last part. -/
import Derived.Test.YtiflpehjefhnmaaGreatWd5
set_option maxRecDepth 8000
set_option maxHeartbeats 2000000
set_option linter.unusedSimpArgs false
set_option linter.unusedVariables false
set_option linter.unusedSectionVars false
namespace Go.Proofs.YtiflpehjefhnmaaGreat
open Go
theorem zm0 (x:Nd):SC Tryz.prog 63 [.pv (ndv x)] [] (fun _=>False) (iBool (z0v x)) []:=by
  refine SC.of Tryz.func63 rfl (lb rfl) fun F ρ w=>?_
  refine tQ <| tG <| cE rfl (z2n rfl rfl) <| sm 1 rfl <| nL <| tQ <| tQ <| tG <| sm 2 rfl <| nL <| tBk <| tQ ?_
  refine tQ <| tG <| sm 2 rfl <| nL ?_
  refine tC rfl (fun hc5=>?_) fun hc5=>?_
  ·refine tSk ?_
   refine tC rfl (fun hc5=>?_) fun hc5=>?_
   ·refine tQ <| tG <| sm 1 rfl <| nL <| tRt <| rOk rfl ?_ nPo
    simp_all [z0v]
   refine tQ <| tG <| sm 2 rfl <| nL ?_
   refine tC rfl (fun hc9=>?_) fun hc9=>?_
   ·refine tQ <| tG <| sm 4 rfl ?_
    refine wS 14 rfl (fun hb14=>?_) fun hb14=>?_
    ·refine sm 5 rfl <| nL <| tRt <| rOk rfl ?_ nPo
     simp_all [z0v]
    refine sm 5 rfl <| nL <| tRt <| rOk rfl ?_ nPo
    simp_all [z0v]
   refine tSk <| tQ <| tG <| sm 1 rfl <| nL <| tRt <| rOk rfl ?_ nPo
   simp_all [z0v]
  refine tQ <| tG <| sm 2 rfl <| nL ?_
  refine tC rfl (fun hc5=>?_) fun hc5=>?_
  ·refine tSk ?_
   refine tC rfl (fun hc5=>?_) fun hc5=>?_
   ·refine tQ <| tG <| sm 1 rfl <| nL <| tRt <| rOk rfl ?_ nPo
    simp_all [z0v]
   refine tQ <| tG <| sm 2 rfl <| nL ?_
   refine tC rfl (fun hc9=>?_) fun hc9=>?_
   ·refine tQ <| tG <| sm 4 rfl ?_
    refine wS 14 rfl (fun hb14=>?_) fun hb14=>?_
    ·refine sm 5 rfl <| nL <| tRt <| rOk rfl ?_ nPo
     simp_all [z0v]
    refine sm 5 rfl <| nL <| tRt <| rOk rfl ?_ nPo
    simp_all [z0v]
   refine tSk <| tQ <| tG <| sm 1 rfl <| nL <| tRt <| rOk rfl ?_ nPo
   simp_all [z0v]
  refine tG <| sm 2 rfl <| nL ?_
  refine tC rfl (fun hc5=>?_) fun hc5=>?_
  ·refine tQ <| tG <| sm 1 rfl <| nL <| tRt <| rOk rfl ?_ nPo
   simp_all [z0v]
  refine tQ <| tG <| sm 2 rfl <| nL ?_
  refine tC rfl (fun hc9=>?_) fun hc9=>?_
  ·refine tQ <| tG <| sm 4 rfl ?_
   refine wS 14 rfl (fun hb14=>?_) fun hb14=>?_
   ·refine sm 5 rfl <| nL <| tRt <| rOk rfl ?_ nPo
    simp_all [z0v]
   refine sm 5 rfl <| nL <| tRt <| rOk rfl ?_ nPo
   simp_all [z0v]
  refine tSk <| tQ <| tG <| sm 1 rfl <| nL <| tRt <| rOk rfl ?_ nPo
  simp_all [z0v]
theorem y17 (s:List Int) (x:Int):SC Tryz.prog 64 [.mp 3002,iInt x] (wM s) (fun k=>k=3002) (iBool (s.contains x)) (wM s):=by
  refine SC.of Tryz.func64 rfl (lb rfl) fun F ρ w=>?_
  have hV:=VSet.of s
  have hes:=hV.1
  have hzv:((Tryz.prog.info? 125).bind (·.zero))=some (.agg #[]):=yi5
  refine tQ <| tG <| sm 1 rfl <| nL <| tQ <| tG <| sm 2 rfl <| cV rfl (zi9 (kv:=vKey x) rfl rfl rfl rfl Tryz.underlying76 uT3 rfl hes hzv trivial) <| sm 1 rfl <| cV rfl (z1e rfl rfl rfl) <| WL.sub (Sub.cons2 (fun _ _ _ _ h=>y71 hV h) Sub.rfl') <| cV rfl (z1e rfl rfl rfl) ?_
  refine cE rfl (aLc (k:=105) rfl yi5 rfl rfl rfl rfl) <| c0 (sBA rfl rfl rfl rfl rfl sI0 tS125 (flk rfl) (lb rfl)) <| sm 1 rfl <| nL <| tQ <| tG <| sm 2 rfl <| nL <| tRt <| rOk rfl ?_ (po1 rfl)
  rw [y1l]
theorem y16 (l:List Int) (s:List Int) (g:Bool):SC Tryz.prog 88 [.ptr 3001 0,.pv (ints l)] (wH s g) (fun _=>False) (.tup []) (wH (wAdd s l) (gr s (wAdd s l) g)):=by
  refine SC.of Tryz.func88 rfl (lb rfl) fun F ρ w=>?_
  refine Tr.lenOf (t:=1) rfl (fun hl=>?_)
  simp only [List.length_map] at hl
  have hzv:((Tryz.prog.info? 125).bind (·.zero))=some (.agg #[]):=yi5
  refine tQ <| tG <| sm 1 rfl <| cV rfl (oSm uT35 rfl) <| sm 1 rfl <| nL <| tBk <| Tr.sub (Sub.of (fr':=[(10,iInt 0),(9,iInt l.length),(8,.pv (ints l)),(0,.ptr 3001 0)]) ⟨rfl,rfl,rfl,rfl,trivial⟩) <| Tr.heap (σ':=look (up (wH s (gr s s g)))) (by rw [zq8];exact fun _=>rfl) ?_
  refine Tr.loop (fun fr σ m=>∃ (k:Nat) (st:List Int),(k<=l.length)/\(wAdd s l=wAdd st (l.drop k))/\(Pre s st)/\fr=[(10,iInt k),(9,iInt l.length),(8,.pv (ints l)),(0,.ptr 3001 0)] /\ σ = look (up (wH st (gr s st g)))/\m=l.length - k) (n:=l.length - 0) ?_ ?_
  ·exact ⟨0,s,Nat.zero_le _,rfl,.refl s,rfl,rfl,rfl⟩
  rintro fr σ m ⟨k,st,hI0,hI1,hI2,rfl,rfl,rfl⟩
  refine tQ <| tG <| sm 1 rfl <| nL <| tQ ?_
  refine tC rfl (fun hc11=>?_) fun hc11=>?_
  ·have hlt:k<l.length:=by simpa using hc11
   have hd:=List.drop_eq_getElem_cons hlt
   have hm:=List.getElem_mem hlt
   have hi:=z06 (f:=eInt) (List.getElem?_eq_getElem hlt)
   generalize l[k]=x at hd hm hi
   have hV:=VSet.of st
   have hes:=hV.1
   refine tSk <| tQ <| tBk <| tQ <| tG <| cV rfl (iSq rfl rfl rfl uT35 hi tS3 rfl (by rfl)) <| sm 2 rfl <| nL <| tQ <| tG <| sm 1 rfl <| cV rfl (nCk rfl rfl rfl) ?_
   refine sm 3 rfl <| cV rfl (zi9 (kv:=vKey x) rfl rfl rfl rfl Tryz.underlying76 uT3 rfl hes hzv trivial) <| sm 1 rfl <| cV rfl (z1e rfl rfl rfl) <| WL.sub (Sub.cons2 (fun _ _ _ _ h=>y71 hV h) Sub.rfl') <| cV rfl (z1e rfl rfl rfl) <| cE rfl (aLc (k:=106) rfl yi5 rfl rfl rfl rfl) <| c0 (sBA rfl rfl rfl rfl rfl ((fun h=>h)) tS125 (flk rfl) (lb rfl)) <| sm 1 rfl <| nL <| tQ <| tG ?_
   refine sm 2 rfl <| nL ?_
   refine tC rfl (fun hc24=>?_) fun hc24=>?_
   ·have hc:st.contains x=false:=by
      rw [<- y1l];simpa using hc24
    refine tQ <| tG <| sm 1 rfl <| cV rfl (nCk rfl rfl rfl) <| sm 3 rfl <| cV rfl (bPu rfl rfl yi5 tP125 rfl (fbk rfl) rfl) <| c0 (zl4 rfl rfl rfl rfl rfl ((fun h=>h)) Tryz.underlying76 uT3 rfl (by assumption)) <| nL <| tG <| sm 1 rfl <| cV rfl (nCk rfl rfl rfl) <| sm 1 rfl ?_
    refine c0 (sBx rfl rfl rfl rfl ((fun h=>h)) tS4 (rfl) (lb rfl)) <| nL <| Tr.drop (k:=106) ?_
    refine Tr.heap (σ':=look (up (wH (st++[x]) (gr s (st++[x]) g)))) (by
      rw [gr_put hI2];simp only [wH];rw [<- yl5]
      intro j
      try simp only [look]
      by_cases h106:106=j
      · subst h106;rfl
      · by_cases h3001:3001=j
        · subst h3001;rfl
        · by_cases h3002:3002=j
          · subst h3002;rfl
          · simp [wH,wM,look,up,z0c h106,z0c h3001,z0c h3002]) ?_
    refine tG <| cV rfl (oB rfl rfl (z02 rfl oM0)) <| sm 1 rfl <| nL ?_
    refine ⟨_,_,?_,Sub.of (fr':=[(10,iInt (k+1)),(9,iInt l.length),(8,.pv (ints l)),(0,.ptr 3001 0)]) ⟨rfl,rfl,rfl,rfl,trivial⟩,(k+1),(st++[x]),?_,?_,?_,rfl,rfl,rfl⟩
    ·omega
    ·omega
    ·rw [hI1,hd]
     rw [wAdd_not hc]
    first
    | exact hI2
    | exact hI2.trans ⟨_,rfl⟩
   have hc:st.contains x=true:=by
     rw [<- y1l];simpa using hc24
   refine tSk <| Tr.drop (k:=106) ?_
   refine Tr.heap (σ':=look (up (wH st (gr s st g)))) (by
     skip
     intro j
     try simp only [look]
     by_cases h106:106=j
     · subst h106;rfl
     · by_cases h3001:3001=j
       · subst h3001;rfl
       · by_cases h3002:3002=j
         · subst h3002;rfl
         · simp [wH,wM,look,up,z0c h106,z0c h3001,z0c h3002]) ?_
   refine tG <| cV rfl (oB rfl rfl (z02 rfl oM0)) <| sm 1 rfl <| nL ?_
   refine ⟨_,_,?_,Sub.of (fr':=[(10,iInt (k+1)),(9,iInt l.length),(8,.pv (ints l)),(0,.ptr 3001 0)]) ⟨rfl,rfl,rfl,rfl,trivial⟩,(k+1),st,?_,?_,?_,rfl,rfl,rfl⟩
   ·omega
   ·omega
   ·rw [hI1,hd]
    rw [wAdd_has hc]
   first
   | exact hI2
   | exact hI2.trans ⟨_,rfl⟩
  refine tEx ?_
  have hge:l.length<=k:=by simpa using hc11
  have he:wAdd s l=st:=by rw [hI1,List.drop_eq_nil_of_le hge];rfl
  rw [he]
  exact z87 rfl rfl (po2 rfl rfl)
theorem z9q (l to:List Int) (s:List Int) (g:Bool) (hlt0:to.length<=l.length):SC Tryz.prog 87 [.ptr 3001 0,.pv (ints l),.pv (ints to)] (wH s g) (fun _=>False) (.tup []) (wH (z0y s l to) (gr s (z0y s l to) g)):=by
  refine SC.of Tryz.func87 rfl (lb rfl) fun F ρ w=>?_
  refine Tr.lenOf (t:=2) rfl (fun hl=>?_)
  simp only [List.length_map] at hl
  refine tQ <| tG <| sm 1 rfl <| cV rfl (oSm uT35 rfl) <| sm 1 rfl <| nL <| tBk <| Tr.sub (Sub.of (fr':=[(10,iInt 0),(9,iInt to.length),(8,.pv (ints to)),(0,.ptr 3001 0),(1,.pv (ints l))]) ⟨rfl,rfl,rfl,rfl,rfl,trivial⟩) <| Tr.heap (σ':=look (up (wH s (gr s s g)))) (by rw [zq8];exact fun _=>rfl) ?_
  refine Tr.loop (fun fr σ m=>∃ (k:Nat) (st:List Int),(k<=to.length)/\(z0y s l to=z0y st (l.drop k) (to.drop k))/\(Pre s st)/\fr=[(10,iInt k),(9,iInt to.length),(8,.pv (ints to)),(0,.ptr 3001 0),(1,.pv (ints l))] /\ σ = look (up (wH st (gr s st g)))/\m=to.length - k) (n:=to.length - 0) ?_ ?_
  ·exact ⟨0,s,Nat.zero_le _,rfl,.refl s,rfl,rfl,rfl⟩
  rintro fr σ m ⟨k,st,hI0,hI1,hI2,rfl,rfl,rfl⟩
  refine tQ <| tG <| sm 1 rfl <| nL <| tQ ?_
  refine tC rfl (fun hc11=>?_) fun hc11=>?_
  ·have hlt:k<to.length:=by simpa using hc11
   have hd:=List.drop_eq_getElem_cons hlt
   have hm:=List.getElem_mem hlt
   have hi:=z06 (f:=eInt) (List.getElem?_eq_getElem hlt)
   generalize to[k]=x at hd hm hi
   have hltw:k<l.length:=by omega
   have hdw:=List.drop_eq_getElem_cons hltw
   have hw:=z06 (f:=eInt) (List.getElem?_eq_getElem hltw)
   generalize l[k]=y at hdw hw
   refine tSk <| tQ <| tBk <| tQ <| tG <| sm 1 rfl <| cV rfl (iSq rfl rfl rfl uT35 hi tS3 rfl (by rfl)) <| sm 3 rfl <| nL <| tQ <| tG <| sm 1 rfl ?_
   refine cV rfl (nCk rfl rfl rfl) <| sm 3 rfl <| cE rfl (ocr (y17 st x) ent64 rfl (po1 rfl) rfl nf rfl rfl) <| nL ?_
   refine tC rfl (fun hc20=>?_) fun hc20=>?_
   ·refine tG <| sm 3 rfl <| cV rfl (iSq rfl rfl rfl uT35 hw tS3 rfl (by rfl)) <| sm 1 rfl <| cE rfl (bSl rfl rfl uT35 tZ3 tS3 rfl rfl rfl rfl (fbk rfl) rfl) <| cE rfl (ocr (y16 [y] st (gr s st g)) ent88 rfl (po2 rfl rfl) rfl (fun k (h:_)=>.inr h) rfl rfl) <| nL ?_
    refine Tr.heap (σ':=look (up (wH (wAdd st [y]) (gr s (wAdd st [y]) g)))) (by
      rw [<- zd6 hI2 (z34 [y] st)]
      intro j
      try simp only [look]
      by_cases h3001:3001=j
      · subst h3001;rfl
      · by_cases h3002:3002=j
        · subst h3002;rfl
        · simp [wH,wM,look,up,z0c h3001,z0c h3002]) ?_
    refine tG <| cV rfl (oB rfl rfl (z02 rfl oM0)) <| sm 1 rfl <| nL ?_
    refine ⟨_,_,?_,Sub.of (fr':=[(10,iInt (k+1)),(9,iInt to.length),(8,.pv (ints to)),(0,.ptr 3001 0),(1,.pv (ints l))]) ⟨rfl,rfl,rfl,rfl,rfl,trivial⟩,(k+1),(wAdd st [y]),?_,?_,?_,rfl,rfl,rfl⟩
    ·omega
    ·omega
    ·rw [hI1,hd,hdw]
     (have hc:st.contains x=true:=hc20;simp only [z0y,hc,if_true];done)
    first
    | exact hI2
    | exact hI2.trans (z34 _ _)
   refine tSk ?_
   refine Tr.heap (σ':=look (up (wH st (gr s st g)))) (by
     skip
     intro j
     try simp only [look]
     by_cases h3001:3001=j
     · subst h3001;rfl
     · by_cases h3002:3002=j
       · subst h3002;rfl
       · simp [wH,wM,look,up,z0c h3001,z0c h3002]) ?_
   refine tG <| cV rfl (oB rfl rfl (z02 rfl oM0)) <| sm 1 rfl <| nL ?_
   refine ⟨_,_,?_,Sub.of (fr':=[(10,iInt (k+1)),(9,iInt to.length),(8,.pv (ints to)),(0,.ptr 3001 0),(1,.pv (ints l))]) ⟨rfl,rfl,rfl,rfl,rfl,trivial⟩,(k+1),st,?_,?_,?_,rfl,rfl,rfl⟩
   ·omega
   ·omega
   ·rw [hI1,hd,hdw]
    (have hc:st.contains x=false:=hc20;simp only [z0y,hc,Bool.false_eq_true,if_false];done)
   first
   | exact hI2
   | exact hI2.trans (z34 _ _)
  refine tEx ?_
  have hge:to.length<=k:=by simpa using hc11
  have he:z0y s l to=st:=by rw [hI1,List.drop_eq_nil_of_le hge];cases l.drop k<;>rfl
  rw [he]
  exact z87 rfl rfl (po2 rfl rfl)
theorem z7y (l to:List Int) (s:List Int) (hlt0:to.length<=l.length) (hb:to.length<=1073741824):SC Tryz.prog 62 [.mp 3002,.pv (ints l),.pv (ints to)] (wM s) (fun k=>k=3002) (.pv (ints (z0m s l to))) (wM s):=by
  refine SC.of Tryz.func62 rfl (lb rfl) fun F ρ w=>?_
  refine Tr.lenOf (t:=2) rfl (fun hl=>?_)
  simp only [List.length_map] at hl
  refine tQ <| tG <| sm 1 rfl <| nL <| tQ <| tQ <| Tr.grow (t:=6) (k:=106) ⟨3,1⟩ rfl rfl rfl rfl rfl <| tG <| sm 1 rfl <| cV rfl (oSm uT35 rfl) <| sm 1 rfl <| nL ?_
  refine tBk <| Tr.sub (Sub.of (fr':=[(11,iInt 0),(10,iInt to.length),(9,.pv (ints to)),(6,.sl 106 (([]:List Int).map eInt).length),(0,.mp 3002),(1,.pv (ints l))]) ⟨rfl,rfl,rfl,rfl,rfl,rfl,trivial⟩) ?_
  refine Tr.loop (fun fr σ m=>∃ (k:Nat) (acc:List Int),(k<=to.length)/\(acc++z0m s (l.drop k) (to.drop k)=z0m s l to)/\fr=[(11,iInt k),(10,iInt to.length),(9,.pv (ints to)),(6,.sl 106 (acc.map eInt).length),(0,.mp 3002),(1,.pv (ints l))] /\ σ = look [(106,some (.row ⟨3,1⟩ (acc.map eInt))),(3002,some (.map (vsOf s)))]/\m=to.length - k) (n:=to.length - 0) ?_ ?_
  ·exact ⟨0,([]:List Int),Nat.zero_le _,rfl,rfl,rfl,rfl⟩
  rintro fr σ m ⟨k,acc,hI0,hI1,rfl,rfl,rfl⟩
  refine tQ <| tG <| sm 1 rfl <| nL <| tQ ?_
  refine tC rfl (fun hc12=>?_) fun hc12=>?_
  ·have hlt:k<to.length:=by simpa using hc12
   have hd:=List.drop_eq_getElem_cons hlt
   have hm:=List.getElem_mem hlt
   have hi:=z06 (f:=eInt) (List.getElem?_eq_getElem hlt)
   generalize to[k]=x at hd hm hi
   have hltw:k<l.length:=by omega
   have hdw:=List.drop_eq_getElem_cons hltw
   have hw:=z06 (f:=eInt) (List.getElem?_eq_getElem hltw)
   generalize l[k]=y at hdw hw
   have hal:(acc.map eInt).length=acc.length:=by simp
   have hol:acc.length+(z0m s (l.drop k) (to.drop k)).length<=1073741824:=by
     have h1:=congrArg List.length hI1
     have h2:=zg9 s l to
     simp only [List.length_append] at h1
     omega
   refine tSk <| tQ <| tBk <| tQ <| tG <| sm 1 rfl <| cV rfl (iSq rfl rfl rfl uT35 hi tS3 rfl (by rfl)) <| sm 3 rfl <| nL <| tQ <| tG <| sm 2 rfl ?_
   refine cE rfl (ocr (y17 s x) ent64 rfl (po1 rfl) rfl (fun k (h:_)=>.inr h) rfl rfl) <| nL ?_
   refine tC rfl (fun hc18=>?_) fun hc18=>?_
   ·have hol2:acc.length+1<=1073741824:=by
      have h1:=hol
      rw [hd,hdw] at h1
      have hc:s.contains x=true:=hc18
      simp only [z0m,hc,if_true,List.length_cons] at h1
      omega
    refine tG <| sm 3 rfl <| cV rfl (iSq rfl rfl rfl uT35 hw tS3 rfl (by rfl)) <| sm 1 rfl <| cE rfl (bSl rfl rfl uT35 tZ3 tS3 rfl rfl rfl rfl (fbk rfl) rfl) ?_
    refine cE rfl (aPp rfl rfl rfl rfl (by rfl) sI0 uT35 tB3 dC0 (by (simp [z07];done)) (by (simp [z07,PV.one];rfl)) (by simp [maxLen,z07];omega) (by simp [z07];omega)) ?_
    refine sm 1 rfl <| nL ?_
    refine Tr.heap (σ':=look [(106,some (.row ⟨3,1⟩ ((acc++[y]).map eInt))),(3002,some (.map (vsOf s)))]) (by
      rw [List.map_append]
      intro j
      try simp only [look]
      by_cases h106:106=j
      · subst h106;rfl
      · by_cases h3002:3002=j
        · subst h3002;rfl
        · simp [wH,wM,look,up,z0c h106,z0c h3002]) ?_
    refine tG <| cV rfl (oB rfl rfl (z02 rfl oM0)) <| sm 1 rfl <| nL ?_
    refine ⟨_,_,?_,Sub.of (fr':=[(11,iInt (k+1)),(10,iInt to.length),(9,.pv (ints to)),(6,.sl 106 ((acc++[y]).map eInt).length),(0,.mp 3002),(1,.pv (ints l))]) ⟨rfl,rfl,rfl,(by exact congrArg (fun z=>some (IV.sl _ z)) (by rw [List.map_append];simp [z07])),rfl,rfl,trivial⟩,(k+1),(acc++[y]),?_,?_,rfl,rfl,rfl⟩
    ·omega
    ·omega
    rw [<- hI1,hd,hdw]
    (have hc:s.contains x=true:=hc18;simp only [z0m,hc,if_true,List.append_assoc,List.singleton_append];done)
   refine tSk ?_
   refine Tr.heap (σ':=look [(106,some (.row ⟨3,1⟩ (acc.map eInt))),(3002,some (.map (vsOf s)))]) (by
     skip
     intro j
     try simp only [look]
     by_cases h106:106=j
     · subst h106;rfl
     · by_cases h3002:3002=j
       · subst h3002;rfl
       · simp [wH,wM,look,up,z0c h106,z0c h3002]) ?_
   refine tG <| cV rfl (oB rfl rfl (z02 rfl oM0)) <| sm 1 rfl <| nL ?_
   refine ⟨_,_,?_,Sub.of (fr':=[(11,iInt (k+1)),(10,iInt to.length),(9,.pv (ints to)),(6,.sl 106 (acc.map eInt).length),(0,.mp 3002),(1,.pv (ints l))]) ⟨rfl,rfl,rfl,(by rfl),rfl,rfl,trivial⟩,(k+1),acc,?_,?_,rfl,rfl,rfl⟩
   ·omega
   ·omega
   rw [<- hI1,hd,hdw]
   (have hc:s.contains x=false:=hc18;simp only [z0m,hc,Bool.false_eq_true,if_false];done)
  refine tEx <| tQ <| Tr.freeze (t:=6) (k:=106) rfl rfl sI0 <| tG <| sm 2 rfl <| nL <| tRt <| rOk rfl ?_ (po1 rfl)
  have hge:to.length<=k:=by simpa using hc12
  have he:acc=z0m s l to:=by rw [<- hI1,List.drop_eq_nil_of_le hge];cases l.drop k<;>simp [z0m]
  rw [he]
  rfl
theorem sc_wNode (x:Nd) (h:Hd) (s:List Int) (g:Bool) (hok:wOkN h x=true) (ih:∀ q∈x.kids,∀ (h:Hd) (s:List Int) (g:Bool),wOkL h q=true->SC Tryz.prog 39 [.ptr 3001 0,.pv (z0e q),.pv (hdv h)] (wH s g) (fun _=>False) (.tup []) (wH (z3e h s q) (gr s (z3e h s q) g))):SC Tryz.prog 61 [.ptr 3001 0,.pv (ndv x),.pv (hdv h)] (wH s g) (fun _=>False) (.tup []) (wH (z5h h s x) (gr s (z5h h s x) g)):=by
  refine SC.of Tryz.func61 rfl (lb rfl) fun F ρ w=>?_
  refine tQ <| tG <| cE rfl (z2n rfl rfl) <| cE rfl (zi7 (k:=105) rfl rfl rfl rfl rfl rfl) <| nL <| tQ <| tG <| sm 2 rfl <| nL <| tBk <| tQ <| tG ?_
  refine sm 2 rfl <| nL ?_
  refine tC rfl (fun hc26=>?_) fun hc26=>?_
  ·have hk:(x.kind==12)=true:=hc26
   have hle:h.yield.length<=x.args.length:=by
     rw [z5i] at hok
     simpa [hk] using hok
   have hN:z5h h s x=z0y s x.args h.yield:=by
     rw [z6y]
     simp only [hk,if_true,Bool.false_eq_true,if_false]
   refine tG <| sm 5 rfl <| cE rfl (ocr (z9q x.args h.yield s g hle) ent87 rfl (po2 rfl rfl) rfl (fun k (h:_)=>.inr h) rfl rfl) <| nL ?_
   rw [hN]
   exact z87 rfl rfl (po2 rfl rfl)
  have hk12:(x.kind==12)=false:=hc26
  refine tQ <| tG <| sm 2 rfl <| nL ?_
  refine tC rfl (fun hc34=>?_) fun hc34=>?_
  ·have hk:(x.kind==13)=true:=hc34
   have hle:h.next.length<=x.args.length:=by
     rw [z5i] at hok
     simpa [hk12,hk] using hok
   have hN:z5h h s x=z0y s x.args h.next:=by
     rw [z6y]
     simp only [hk12,hk,if_true,Bool.false_eq_true,if_false]
   refine tG <| sm 5 rfl <| cE rfl (ocr (z9q x.args h.next s g hle) ent87 rfl (po2 rfl rfl) rfl (fun k (h:_)=>.inr h) rfl rfl) <| nL ?_
   rw [hN]
   exact z87 rfl rfl (po2 rfl rfl)
  have hk13:(x.kind==13)=false:=hc34
  refine tQ <| tG <| sm 2 rfl <| nL ?_
  refine tC rfl (fun hc42=>?_) fun hc42=>?_
  ·have hk:(x.kind==14)=true:=hc42
   have hle:h.left.length<=x.args.length:=by
     rw [z5i] at hok
     simpa [hk12,hk13,hk] using hok
   have hN:z5h h s x=z0y s x.args h.left:=by
     rw [z6y]
     simp only [hk12,hk13,hk,if_true,Bool.false_eq_true,if_false]
   refine tG <| sm 5 rfl <| cE rfl (ocr (z9q x.args h.left s g hle) ent87 rfl (po2 rfl rfl) rfl (fun k (h:_)=>.inr h) rfl rfl) <| nL ?_
   rw [hN]
   exact z87 rfl rfl (po2 rfl rfl)
  have hk14:(x.kind==14)=false:=hc42
  refine tQ <| tG <| sm 2 rfl <| nL ?_
  refine tC rfl (fun hc50=>?_) fun hc50=>?_
  ·have hk:(x.kind==10)=true:=hc50
   rw [z5i] at hok
   simp only [hk12,hk13,hk14,hk,if_true,Bool.false_eq_true,if_false,Bool.and_eq_true,beq_iff_eq] at hok
   obtain ⟨a,b,hks⟩:∃ a b,x.kids=[a,b]:=by
     have h1:=hok.1
     match x.kids,h1 with
     | [a,b],_=>exact ⟨a,b,rfl⟩
   have hi0:(x.kids.map eKid)[0]? = some [z0e a]:=by rw [hks];rfl
   have hi1:(x.kids.map eKid)[1]? = some [z0e b]:=by rw [hks];rfl
   have ha:a∈x.kids:=by rw [hks];exact .head _
   have hb:b∈x.kids:=by rw [hks];exact .tail _ (.head _)
   have hoa:=z84 hok.2 ha
   have hob:=z84 hok.2 hb
   have hN:z5h h s x=z3e ⟨x.outs,h.next,h.left⟩ (z3e ⟨x.outs,h.next,h.left⟩ (wAdd s x.args) a) b:=by
     rw [z6y]
     simp only [hk12,hk13,hk14,hk,if_true,Bool.false_eq_true,if_false,hks]
     rfl
   have p1:=z34 x.args s
   have p2:=z2t a ⟨x.outs,h.next,h.left⟩ (wAdd s x.args)
   have p3:=z2t b ⟨x.outs,h.next,h.left⟩ (z3e ⟨x.outs,h.next,h.left⟩ (wAdd s x.args) a)
   refine tQ <| tG <| sm 3 rfl <| cE rfl (ocr (y16 x.args s g) ent88 rfl (po2 rfl rfl) rfl (fun k (h:_)=>.inr h) rfl rfl) <| nL <| tQ <| tG <| sm 3 rfl <| c0 (sBx rfl rfl rfl rfl ((fun h=>h)) tS35 (rfl) (lb rfl)) <| nL <| tQ <| tDr z5q (fun k=>k∈([105]:List Nat)) ?_
   refine wR 1 [0,1,2,3,4,5] kR0 h30 <| smR 3 rfl <| rV rfl rfl (iSq rfl rfl rfl uT41 hi0 tS44 rfl (by rfl)) <| smR 1 rfl <| rV rfl rfl (lBP rfl rfl rfl Tryz.underlying81 rfl tS81 (lb rfl) rfl dC0) <| nR <| wO 6 kR0 <| wI rfl rfl nf (nAp rfl) (fun _ _=>ocr (ih a ha ⟨x.outs,h.next,h.left⟩ (wAdd s x.args) (gr s (wAdd s x.args) g) hoa) ent39 rfl (po2 rfl rfl) rfl (fun k (h:_)=>by (simp only [List.mem_cons,List.not_mem_nil,or_false] at h;rcases h with rfl<;>first | exact .inl rfl | exact .inr rfl | exact .inr dC0)) rfl rfl) <| wDn kR0 <| tDr z5q (fun k=>k∈([105]:List Nat)) <| wR 1 [0,1,2,3,4,5] kR0 h30 <| smR 3 rfl ?_
   refine rV rfl rfl (iSq rfl rfl rfl uT41 hi1 tS44 rfl (by rfl)) <| smR 1 rfl <| rV rfl rfl (lBP rfl rfl rfl Tryz.underlying81 rfl tS81 (lb rfl) rfl dC0) <| nR <| wO 6 kR0 <| wI rfl rfl nf (nAp rfl) (fun _ _=>ocr (ih b hb ⟨x.outs,h.next,h.left⟩ (z3e ⟨x.outs,h.next,h.left⟩ (wAdd s x.args) a) (gr (wAdd s x.args) (z3e ⟨x.outs,h.next,h.left⟩ (wAdd s x.args) a) (gr s (wAdd s x.args) g)) hob) ent39 rfl (po2 rfl rfl) rfl (fun k (h:_)=>by (simp only [List.mem_cons,List.not_mem_nil,or_false] at h;rcases h with rfl<;>first | exact .inl rfl | exact .inr rfl | exact .inr dC0)) rfl rfl) <| wDn kR0 ?_
   rw [hN,<- zd6 (p1.trans p2) p3,<- zd6 p1 p2]
   exact z87 rfl rfl (po2 rfl rfl)
  have hk10:(x.kind==10)=false:=hc50
  refine tQ <| tG <| sm 2 rfl <| nL ?_
  refine tC rfl (fun hc73=>?_) fun hc73=>?_
  ·have hk:(x.kind==11)=true:=hc73
   rw [z5i] at hok
   simp only [hk12,hk13,hk14,hk10,hk,if_true,Bool.false_eq_true,if_false,Bool.and_eq_true,beq_iff_eq,decide_eq_true_eq] at hok
   have hle:=hok.1
   obtain ⟨a,hks⟩:∃ a,x.kids=[a]:=by
     have h1:=hok.2.1
     match x.kids,h1 with
     | [a],_=>exact ⟨a,rfl⟩
   have hi0:(x.kids.map eKid)[0]? = some [z0e a]:=by rw [hks];rfl
   have ha:a∈x.kids:=by rw [hks];exact .head _
   have hoa:=z84 hok.2.2 ha
   have hN:z5h h s x=z3e ⟨[],x.params,x.outs⟩ (z0y s x.args x.params) a:=by
     rw [z6y]
     simp only [hk12,hk13,hk14,hk10,hk,if_true,Bool.false_eq_true,if_false,hks]
     rfl
   have p1:=z2f x.args x.params s
   have p2:=z2t a ⟨[],x.params,x.outs⟩ (z0y s x.args x.params)
   refine tQ <| tG <| sm 5 rfl <| cE rfl (ocr (z9q x.args x.params s g hle) ent87 rfl (po2 rfl rfl) rfl (fun k (h:_)=>.inr h) rfl rfl) <| nL <| tDr z5q (fun k=>k∈([105]:List Nat)) <| wR 1 [0,1,2,3,4,5,6,7,8,9] kR0 h30 <| smR 3 rfl <| rV rfl rfl (iSq rfl rfl rfl uT41 hi0 tS44 rfl (by rfl)) <| smR 5 rfl <| rV rfl rfl (bPu rfl rfl tZ81 tP81 rfl (fbk rfl) rfl) <| nR ?_
   refine wO 10 kR0 <| wI rfl rfl nf (nAp rfl) (fun _ _=>cRr (ih a ha ⟨[],x.params,x.outs⟩ (z0y s x.args x.params) (gr s (z0y s x.args x.params) g) hoa) ent39 rfl rfl (sSm rfl (sSm rfl (Subs.cons (fun _ _ _ _ h=>z4w (p:=.agg [.val (.slice none 0 0),ints x.params,ints x.outs]) (PSub.agg ⟨PSub.nil,PSub.refl _,PSub.refl _,trivial⟩) h) Subs.nil))) (po2 rfl rfl) (by rfl) (fun k (h:_)=>by (simp only [List.mem_cons,List.not_mem_nil,or_false] at h;rcases h with rfl<;>first | exact .inl rfl | exact .inr rfl | exact .inr dC0)) rfl (by rfl)) <| wDn kR0 ?_
   rw [hN,<- zd6 p1 p2]
   exact z87 rfl rfl (po2 rfl rfl)
  have hk11:(x.kind==11)=false:=hc73
  rw [z5i] at hok
  simp only [hk12,hk13,hk14,hk10,hk11,Bool.false_eq_true,if_false] at hok
  have hN:z5h h s x=if !z0v x||s.contains (x.outs.headD 0) then wAdd s x.args else s:=by
    rw [z6y]
    simp only [hk12,hk13,hk14,hk10,hk11,Bool.false_eq_true,if_false]
  refine tQ <| tDr z5q (fun k=>k∈([3001,3002,105]:List Nat)) <| wR 13 [0] kR0 h30 <| rV rfl rfl (lEA rfl rfl uT43 rfl tS43 (lb rfl)) <| nR <| wO 1 kR0 <| wI rfl rfl nf nw (fun _ _=>ocq (zm0 _) ent63 rfl rfl) <| wR 2 [2,3,4,5,6,7,8,9,10,11] kR0 h30 <| smR 2 rfl ?_
  refine WR.split (t:=11) rfl (fun hb11=>?_) (fun hb11=>?_)
  ·refine smR 8 rfl <| nR <| wN 12 kR0 h30 rfl rfl rfl <| wR 0 [13] kR0 h30 <| smR 1 rfl <| nR <| wDn kR0 <| Tr.condT rfl <| tG <| sm 3 rfl <| cE rfl (ocr (y16 x.args s g) ent88 rfl (po2 rfl rfl) rfl (fun k (h:_)=>.inr h) rfl rfl) <| nL ?_
   have hN2:z5h h s x=wAdd s x.args:=by
     rw [hN]
     (have hh:z0v x=false:=by simpa using hb11
      rw [hh];rfl)
   rw [hN2]
   exact z87 rfl rfl (po2 rfl rfl)
  have hhm:z0v x=true:=by simpa using hb11
  obtain ⟨o0,ors,hos⟩:=List.exists_cons_of_ne_nil (show x.outs≠[] from fun e=>by rw [hhm,e] at hok;cases hok)
  have ho0:(x.outs.map eInt)[0]? = some [vInt o0]:=by rw [hos];rfl
  have hoh:x.outs.headD 0=o0:=by rw [hos];rfl
  refine smR 1 rfl <| ryV rfl rfl rfl (nCk rfl rfl rfl) <| smR 1 rfl <| ryV rfl rfl rfl (oLb Tryz.underlying76 rfl rfl rfl dC0) <| smR 2 rfl <| ryV rfl rfl rfl (iSq rfl rfl rfl uT35 ho0 tS3 rfl (by rfl)) <| smR 1 rfl <| nR <| wO 12 kR0 <| wY rfl rfl rfl nf (nAp rfl) (fun _ _=>ocr (y17 s o0) ent64 rfl (po1 rfl) rfl (fun k (h:_)=>by (simp only [List.mem_cons,List.not_mem_nil,or_false] at h;rcases h with rfl | rfl | rfl<;>first | exact .inl rfl | exact .inr rfl | exact .inr dC0)) rfl rfl) <| wR 0 [13] kR0 h30 <| smR 1 rfl ?_
  refine nR <| wDn kR0 ?_
  refine tC rfl (fun hc21=>?_) fun hc21=>?_
  ·refine tG <| sm 3 rfl <| cE rfl (ocr (y16 x.args s g) ent88 rfl (po2 rfl rfl) rfl (fun k (h:_)=>.inr h) rfl rfl) <| nL ?_
   have hN2:z5h h s x=wAdd s x.args:=by
     rw [hN]
     (have hh:s.contains o0=true:=hc21
      rw [hoh,hh,Bool.or_true];rfl)
   rw [hN2]
   exact z87 rfl rfl (po2 rfl rfl)
  refine tSk ?_
  have hh:s.contains o0=false:=hc21
  have hN2:z5h h s x=s:=by
    rw [hN,hhm,hoh,hh];rfl
  rw [hN2,zq8]
  exact z87 rfl rfl (po2 rfl rfl)
theorem y3g (N:Nat):∀ (l:List Nd) (h:Hd) (s:List Int) (g:Bool) (hok:wOkL h l=true),SizeOf.sizeOf l<N->SC Tryz.prog 39 [.ptr 3001 0,.pv (z0e l),.pv (hdv h)] (wH s g) (fun _=>False) (.tup []) (wH (z3e h s l) (gr s (z3e h s l) g)):=by
  induction N with
  | zero=>intro l h s g hok hN;exact absurd hN (Nat.not_lt_zero _)
  | succ N ih =>
    intro l h s g hok hN
    refine SC.of Tryz.func39 rfl (lb rfl) fun F ρ w=>?_
    refine Tr.lenOf (t:=1) rfl (fun hl=>?_)
    simp only [List.length_map] at hl
    refine tQ <| tG <| cE rfl (z2n rfl rfl) <| nL <| tQ <| tG <| sm 1 rfl <| cV rfl (oSm uT44 rfl) <| sm 1 rfl <| nL <| tBk <| Tr.sub (Sub.of (fr':=[(10,iInt 0),(9,iInt l.length),(8,.pv (z0e l)),(5,.pv (.ept [ints h.yield,ints h.next,ints h.left] 0)),(0,.ptr 3001 0)]) ⟨rfl,rfl,rfl,rfl,rfl,trivial⟩) ?_
    refine Tr.heap (σ':=look (up (wH s (gr s s g)))) (by rw [zq8];exact fun _=>rfl) ?_
    refine Tr.loop (fun fr σ m=>∃ (k:Nat) (st:List Int),(k<=l.length)/\(z3e h s l=z3e h st (l.drop k))/\(Pre s st)/\fr=[(10,iInt k),(9,iInt l.length),(8,.pv (z0e l)),(5,.pv (.ept [ints h.yield,ints h.next,ints h.left] 0)),(0,.ptr 3001 0)] /\ σ = look (up (wH st (gr s st g)))/\m=l.length - k) (n:=l.length - 0) ?_ ?_
    ·exact ⟨0,s,Nat.zero_le _,rfl,.refl s,rfl,rfl,rfl⟩
    rintro fr σ m ⟨k,st,hI0,hI1,hI2,rfl,rfl,rfl⟩
    refine tQ <| tG <| sm 1 rfl <| nL <| tQ ?_
    refine tC rfl (fun hc11=>?_) fun hc11=>?_
    ·have hlt:k<l.length:=by simpa using hc11
     have hd:=List.drop_eq_getElem_cons hlt
     have hm:=List.getElem_mem hlt
     have hi:=z0i (List.getElem?_eq_getElem hlt)
     generalize l[k]=x at hd hm hi
     have hxok:=y1o hok hm
     refine tSk <| tQ <| tBk <| tQ <| tG <| cV rfl (iSq rfl rfl rfl uT44 hi tS43 rfl (by rfl)) <| cV rfl (lEA rfl rfl uT43 rfl tS43 (lb rfl)) <| cE rfl (aLc (k:=107) rfl tZ43 rfl rfl rfl rfl) <| c0 (sBA rfl rfl rfl rfl rfl ((fun h=>h)) tS43 (flk rfl) (lb rfl)) <| nL <| Tr.freezeBox (t:=7) (k:=107) rfl rfl rfl ?_
     refine Tr.heap (σ':=look (up (wH st (gr s st g)))) (by
       skip
       intro j
       try simp only [look]
       by_cases h107:107=j
       · subst h107;rfl
       · by_cases h3001:3001=j
         · subst h3001;rfl
         · by_cases h3002:3002=j
           · subst h3002;rfl
           · simp [wH,wM,look,up,z0c h107,z0c h3001,z0c h3002]) ?_
     refine tG <| sm 1 rfl <| cV rfl (lEA rfl rfl uT43 rfl tS43 (lb rfl)) <| cV rfl (lEA rfl rfl Tryz.underlying81 rfl tS81 (lb rfl)) <| cE rfl (ocr (sc_wNode x h st (gr s st g) hxok (fun q hq h s g hq2=>ih q h s g hq2 (Nat.lt_of_lt_of_le (z5l hm rfl hq) (Nat.le_of_lt_succ hN)))) ent61 rfl (po2 rfl rfl) rfl (fun k (h:_)=>.inr h) rfl rfl) <| nL ?_
     refine Tr.heap (σ':=look (up (wH (z5h h st x) (gr s (z5h h st x) g)))) (by
       rw [<- zd6 hI2 (z99 x h st)]
       intro j
       try simp only [look]
       by_cases h3001:3001=j
       · subst h3001;rfl
       · by_cases h3002:3002=j
         · subst h3002;rfl
         · simp [wH,wM,look,up,z0c h3001,z0c h3002]) ?_
     refine tG <| cV rfl (oB rfl rfl (z02 rfl oM0)) <| sm 1 rfl <| nL ?_
     refine ⟨_,_,?_,Sub.of (fr':=[(10,iInt (k+1)),(9,iInt l.length),(8,.pv (z0e l)),(5,.pv (.ept [ints h.yield,ints h.next,ints h.left] 0)),(0,.ptr 3001 0)]) ⟨rfl,rfl,rfl,rfl,rfl,trivial⟩,(k+1),(z5h h st x),?_,?_,?_,rfl,rfl,rfl⟩
     ·omega
     ·omega
     ·rw [hI1,hd];rfl
     exact hI2.trans (z99 _ _ _)
    refine tEx ?_
    have hge:l.length<=k:=by simpa using hc11
    have he:z3e h s l=st:=by rw [hI1,List.drop_eq_nil_of_le hge];rfl
    rw [he]
    exact z87 rfl rfl (po2 rfl rfl)
theorem sc_wList (l:List Nd) (h:Hd) (s:List Int) (g:Bool) (hok:wOkL h l=true):SC Tryz.prog 39 [.ptr 3001 0,.pv (z0e l),.pv (hdv h)] (wH s g) (fun _=>False) (.tup []) (wH (z3e h s l) (gr s (z3e h s l) g)):=y3g _ l h s g hok (Nat.lt_succ_self _)
section
variable {P:Program} {c:Cx} {R1:Nat->Prop} {o:Oper} {fr:Fr} {σ:Heap'} {ops:Array Oper} {Q:Exit->Fr->Heap'->Prop} {fuel:Nat} {listed:Array Bool} {T:List Nat}
def z75 (T:List Nat) (listed:Array Bool):Bool:=T.all fun t=>!listed.getD t true
def zy6 (ops:Array Oper) (T:List Nat) (i:Nat):Bool :=
  !T.contains i&&T.all fun t=>((ops[t]?).map (·.after.any fun e=>Region.binds .any e&&(e.on==i||T.contains e.on))).getD false
theorem y1y {i:Nat} (h:z75 T (listed.setIfInBounds i true)=true):z75 T listed=true:=by
  simp only [z75,List.all_eq_true] at *
  intro t ht
  have h1:=h t ht
  by_cases e:i=t
  ·subst e
   by_cases hlt:i<listed.size
   ·simp [hlt] at h1
   simp [hlt] at h1
  rw [getD_set_ne true e] at h1
  exact h1
theorem zp5 {i:Nat} (hi:i∉T) (h:z75 T listed=true):z75 T (listed.setIfInBounds i true)=true:=by
  simp only [z75,List.all_eq_true] at *
  intro t ht
  have hne:i≠t:=fun e=>by subst e;exact hi ht
  rw [getD_set_ne true hne]
  exact h t ht
def z9a (P:Program) (ops:Array Oper) (Q:Exit->Act->World->Prop) (S:World->Prop) (T:List Nat):Nat->Array Bool->Act->World->Prop
  | 0,listed,a,w=>Region.ready .any ops listed=[]/\Q .normal a w
  | fuel+1,listed,a,w =>
    (Region.ready .any ops listed=[]->Q .normal a w) /\
    ∀ i∈Region.ready .any ops listed,wpOp P ops Q i (fun a' w'=>(z75 T (listed.setIfInBounds i true)=true->S w')/\z9a P ops Q S T fuel (listed.setIfInBounds i true) a' w') a w
variable {Q':Exit->Act->World->Prop} {S S':World->Prop}
theorem za6:∀ (fuel:Nat) (listed:Array Bool) (a:Act) (w:World),z9a P ops Q' S T fuel listed a w->wpAny P .any ops Q' fuel listed a w
  | 0,_,_,_,h=>h
  | fuel+1,_,_,_,h=>⟨h.1,fun i hi=>wpOp_mono (fun a' w' h'=>za6 fuel _ a' w' h'.2) (h.2 i hi)⟩
theorem zh1:∀ (fuel:Nat) (listed:Array Bool) (a:Act) (w:World),z75 T listed=false->wpAny P .any ops Q' fuel listed a w->z9a P ops Q' S T fuel listed a w
  | 0,_,_,_,_,h=>h
  | fuel+1,listed,_,_,hc,h=>⟨h.1,fun i hi=>wpOp_mono (fun a' w' h' =>
      have hc':z75 T (listed.setIfInBounds i true)=false:=Bool.eq_false_iff.2 fun h=>by rw [y1y h] at hc;cases hc
      ⟨fun h=>(by rw [hc'] at h;cases h),zh1 fuel _ a' w' hc' h'⟩) (h.2 i hi)⟩
theorem zw2 (hS:∀ w,S' w->S w):∀ (fuel:Nat) (listed:Array Bool) (a:Act) (w:World),z9a P ops Q' S' T fuel listed a w->z9a P ops Q' S T fuel listed a w
  | 0,_,_,_,h=>h
  | fuel+1,_,_,_,h=>⟨h.1,fun i hi=>wpOp_mono (fun a' w' h'=>⟨fun hc=>hS _ (h'.1 hc),zw2 hS fuel _ a' w' h'.2⟩) (h.2 i hi)⟩
theorem y4l {i:Nat} (hT:zy6 ops T i=true) (hun:listed.getD i true=false) (hc:z75 T listed=true) {j:Nat} (hj:j∈Region.ready .any ops listed):j∉T:=by
  intro hjT
  simp only [zy6,Bool.and_eq_true,List.all_eq_true] at hT
  obtain ⟨_,oj,hoj,hall⟩:=mem_ready.1 hj
  have h1:=hT.2 j hjT
  rw [hoj] at h1
  simp only [Option.map_some,Option.getD_some,Array.any_eq_true'] at h1
  obtain ⟨e,he,h2⟩:=h1
  simp only [Bool.and_eq_true,Bool.or_eq_true,beq_iff_eq,List.contains_eq_mem,decide_eq_true_eq] at h2
  have h3:=hall e he h2.1
  rcases h2.2 with h4 | h4
  ·rw [h4] at h3
   rcases Nat.lt_or_ge i listed.size with h' | h'
   ·simp [h'] at h3 hun;rw [hun] at h3;cases h3
   simp [Array.getElem?_eq_none h'] at h3
  have h5:=List.all_eq_true.1 hc e.on h4
  simp only [Bool.not_eq_true'] at h5
  rcases Nat.lt_or_ge e.on listed.size with h' | h'
  ·simp [h'] at h3 h5;rw [h5] at h3;cases h3
  simp [Array.getElem?_eq_none h'] at h3
theorem y43 {i:Nat} {oi:Oper} {v:Value} (hi:ops[i]? = some oi) (hsel:∀ (j:Nat) (o:Oper) cs b,ops[j]? = some o->o.op ≠ .select cs b)
    (hQ:∀ c a w,Q' (.panic c) (a.put oi.dst v) w->Q' (.panic c) a w) {U:List Nat} (hTU:∀ t∈T,t∈U) (hT:zy6 ops U i=true) :
    ∀ (fuel:Nat) (listed:Array Bool) (a:Act) (w:World),
      (∀ j oj,ops[j]? = some oj->j≠i->listed.getD j true=false->(∀ e∈oj.after,Region.binds .any e=true->e.on≠i)->oi.apart ops oj=true) ->
      i∈Region.ready .any ops listed->YieldsIf P ops S oi v a->S w->z75 U listed=true ->
      z9a P ops Q' S T fuel (listed.setIfInBounds i true) (a.put oi.dst v) w->z9a P ops Q' S T (fuel+1) listed a w:=by
  have hiU:i∉U:=by
    simp only [zy6,Bool.and_eq_true,Bool.not_eq_true',List.contains_eq_mem,decide_eq_false_iff_not] at hT
    exact hT.1
  have hTc:∀ {l:Array Bool},z75 U l=true->z75 T l=true:=fun {l} h=>by
    simp only [z75,List.all_eq_true] at *
    exact fun t ht=>h t (hTU t ht)
  intro fuel
  induction fuel with
  | zero =>
    intro listed a w _ hr hy hS hc H
    refine ⟨fun h=>(by rw [h] at hr;cases hr),fun j hj=>?_⟩
    by_cases hji:j=i
    ·subst hji;exact hy.wpOp hi hS ⟨fun _=>hS,H⟩
    have:=ready_mono hj hji
    rw [H.1] at this
    cases this
  | succ fuel ih =>
    intro listed a w hfree hr hy hS hc H
    refine ⟨fun h=>(by rw [h] at hr;cases hr),fun j hj=>?_⟩
    by_cases hji:j=i
    ·subst hji;exact hy.wpOp hi hS ⟨fun _=>hS,H⟩
    have h1:=H.2 j (ready_mono hj hji)
    have hjU:j∉U:=y4l hT (mem_ready.1 hr).1 hc hj
    have hcj:z75 U (listed.setIfInBounds j true)=true:=zp5 hjU hc
    have hcij:z75 T ((listed.setIfInBounds i true).setIfInBounds j true)=true:=hTc (zp5 hjU (zp5 hiU hc))
    obtain ⟨hjun,oj,hoj,hall⟩:=mem_ready.1 hj
    have hnot:∀ e∈oj.after,Region.binds .any e=true->e.on≠i:=fun e he hb heq=>by
      have h1:=hall e he hb
      have h0:=(mem_ready.1 hr).1
      rw [heq] at h1
      rcases Nat.lt_or_ge i listed.size with h' | h'
      ·simp [h'] at h0 h1;rw [h0] at h1;cases h1
      simp [Array.getElem?_eq_none h'] at h1
    have h2:=wpOp_putIf hoj (hfree j oj hoj hji hjun hnot) (fun cs b=>hsel i oi cs b hi) (fun cs b=>hsel j oj cs b hoj) hQ hy h1
    have hfree':∀ k ok,ops[k]? = some ok->k≠i->(listed.setIfInBounds j true).getD k true=false ->
        (∀ e∈ok.after,Region.binds .any e=true->e.on≠i)->oi.apart ops ok=true:=fun k ok hk hki hun hno=>by
      refine hfree k ok hk hki ?_ hno
      by_cases hjk:j=k
      ·subst hjk;exact hjun
      rw [getD_set_ne true hjk] at hun;exact hun
    refine wpOp_mono (fun a' w' h3=>⟨fun _=>h3.2.1 hcij,ih (listed.setIfInBounds j true) a' w' hfree' (ready_mono hr (Ne.symm hji)) h3.1 (h3.2.1 hcij) hcj ?_⟩) h2
    rw [Array.setIfInBounds_comm _ _ hji]
    exact h3.2.2
theorem y63 {i:Nat} {oi:Oper} {v:Value} {fuel:Nat} {listed:Array Bool} {a:Act} {w:World} (hi:ops[i]? = some oi)
    (hs:Region.noSelect ops=true) (hf:Region.free .any ops listed i=true) (hr:(Region.ready .any ops listed).contains i=true) {U:List Nat} (hTU:T.all (U.contains ·)=true) (hT:zy6 ops U i=true) (hc:z75 U listed=true)
    (hQ:∀ c a w,Q' (.panic c) (a.put oi.dst v) w->Q' (.panic c) a w) (hy:YieldsIf P ops S oi v a) (hS:S w)
    (h:z9a P ops Q' S T fuel (listed.setIfInBounds i true) (a.put oi.dst v) w):z9a P ops Q' S T (fuel+1) listed a w :=
  y43 hi (Region.noSelect_spec hs) hQ (fun t ht=>by simpa using List.all_eq_true.1 hTU t ht) hT fuel listed a w (Region.free_spec hi hf) (by simpa using hr) hy hS hc h
def WC (P:Program) (c:Cx) (R1:Nat->Prop) (T:List Nat) (ops:Array Oper) (Q:Exit->Fr->Heap'->Prop) (fuel:Nat) (listed:Array Bool) (fr:Fr) (σ:Heap'):Prop :=
  ∀ ρ w a (S:World->Prop),All c ρ σ w fr a->(∀ w',SameFor c.F R1 ρ w w'->S w')->z9a P ops (lift c Q) S T fuel listed a w
theorem WC.take {i d:Nat} {x:IV} (U:List Nat) (hTU:T.all (U.contains ·)=true) (hT:zy6 ops U i=true) (hc:z75 U listed=true) (hi:ops[i]? = some o) (hs:Region.noSelect ops=true) (hf:Region.free .any ops listed i=true) (hr:(Region.ready .any ops listed).contains i=true) (hQ:∀ ch fr σ,¬ Q (.panic ch) fr σ)
    (hg:o.guard=none) (hd:o.dst=some d) (hn:Nat.blt d c.n=true) (hok:OkV P c R1 o fr σ x) (h:WC P c R1 T ops Q fuel (listed.setIfInBounds i true) ((d,x)::fr) σ):WC P c R1 T ops Q (fuel+1) listed fr σ:=by
  intro ρ w a S ha hS
  obtain ⟨v,hrun,hv⟩:=hok ρ w a ha
  refine zw2 (S':=SameFor c.F R1 ρ w) hS _ _ _ _ <| y63 hi hs hf hr hTU hT hc (fun ch a w ⟨_,σ,fr,_,hq⟩=>absurd hq (hQ ch fr σ)) (.inl ⟨by simp [Region.wanted,hg],fun w2 h2=>hrun w2 h2⟩) (.refl _ _ _ _) ?_
  refine h ρ w _ _ ?_ fun w' h'=>h'
  have:=ha.put (d:=o.dst) hv (by rw [hd];intro t ht;cases ht;simpa using hn)
  rwa [hd] at this ⊢
def WIC (P:Program) (c:Cx) (R1:Nat->Prop) (T:List Nat) (ops:Array Oper) (Q:Exit->Fr->Heap'->Prop) (fuel:Nat) (listed:Array Bool) (fr:Fr) (σ:Heap') (i:Nat):Prop :=
  ∀ ρ w a (S:World->Prop),All c ρ σ w fr a->(∀ w',SameFor c.F R1 ρ w w'->S w')->wpOp P ops (lift c Q) i (fun a' w'=>(z75 T (listed.setIfInBounds i true)=true->S w')/\z9a P ops (lift c Q) S T fuel (listed.setIfInBounds i true) a' w') a w
theorem WC.all {rs:List Nat} (hr:Region.ready .any ops listed=rs) (hne:rs≠[]) (h:∀ i∈rs,WIC P c R1 T ops Q fuel listed fr σ i):WC P c R1 T ops Q (fuel+1) listed fr σ :=
  fun ρ w a S ha hS=>⟨fun h0=>absurd (hr ▸ h0) hne,hr ▸ fun i hi=>h i hi ρ w a S ha hS⟩
theorem WC.one {i:Nat} (hr:Region.ready .any ops listed=[i]) (h:WIC P c R1 T ops Q fuel listed fr σ i):WC P c R1 T ops Q (fuel+1) listed fr σ :=
  WC.all hr sI0 (by simpa using h)
theorem WIC.op {i:Nat} {x:IV} {σ':Heap'} {fr':Fr} (hi:ops[i]? = some o) (hg:o.guard=none) (hfr:fr'=fr.put o.dst x) (hn:∀ t,o.dst=some t->Nat.blt t c.n=true) (hR:∀ k,c.R k->R1 k) (hnew:∀ k,σ k=none -> σ' k≠none->c.σ k=none)
    (hok:∀ ρ w,Ok P ⟨c.F,R1,ρ,σ,w,c.n⟩ o fr σ x σ') (h:WC P c R1 T ops Q fuel (listed.setIfInBounds i true) fr' σ'):WIC P c R1 T ops Q fuel listed fr σ i:=by
  intro ρ w a S ha hS
  unfold wpOp
  simp only [hi]
  rw [if_pos (by simp [Region.wanted,hg])]
  refine .inl (hok ρ w ρ w a _ _ ⟨ha.rel,ha.fr,.refl _ _ _ _ _,ha.df,ha.sz⟩ fun ρ' w' v ha' hv=>?_)
  have hall:All c ρ' σ' w' fr a:=⟨ha'.rel,ha'.fr,ha.tr.trans ha'.tr hR hnew,ha'.df,ha'.sz⟩
  refine ⟨fun _=>hS w' (SameFor.of ha.rel ha'.tr),h ρ' w' _ S ?_ fun w'' h''=>hS w'' (SameFor.trans ha.rel ha'.tr h'')⟩
  rw [hfr]
  exact hall.put hv fun t ht=>by simpa using hn t ht
theorem WIC.last {i:Nat} {R2:Nat->Prop} {x:IV} {σ':Heap'} {fr':Fr} (hT:z75 T (listed.setIfInBounds i true)=false) (hi:ops[i]? = some o) (hg:o.guard=none) (hfr:fr'=fr.put o.dst x) (hn:∀ t,o.dst=some t->Nat.blt t c.n=true) (hR:∀ k,c.R k->R2 k) (hnew:∀ k,σ k=none -> σ' k≠none->c.σ k=none)
    (hok:∀ ρ w,Ok P ⟨c.F,R2,ρ,σ,w,c.n⟩ o fr σ x σ') (h:WA P c R2 ops Q fuel (listed.setIfInBounds i true) fr' σ'):WIC P c R1 T ops Q fuel listed fr σ i:=by
  intro ρ w a S ha hS
  unfold wpOp
  simp only [hi]
  rw [if_pos (by simp [Region.wanted,hg])]
  refine .inl (hok ρ w ρ w a _ _ ⟨ha.rel,ha.fr,.refl _ _ _ _ _,ha.df,ha.sz⟩ fun ρ' w' v ha' hv=>?_)
  have hall:All c ρ' σ' w' fr a:=⟨ha'.rel,ha'.fr,ha.tr.trans ha'.tr hR hnew,ha'.df,ha'.sz⟩
  refine ⟨fun h=>(by rw [hT] at h;cases h),zh1 fuel _ _ _ hT (wpAny_of_held _ _ _ _ (h ρ' w' _ (SameFor c.F R2 ρ' w') ?_ fun w'' h''=>h''))⟩
  rw [hfr]
  exact hall.put hv fun t ht=>by simpa using hn t ht
theorem Tr.drawnC {id:Nat} (hm:P.follows .mixedOrders=true) (R1:Nat->Prop) (T:List Nat) (h:WC P c R1 T ops Q ops.size (Array.replicate ops.size false) fr σ):Tr P c (.region id ops true) fr σ Q :=
  fun ρ w a ha=>wp_region_any hm (za6 _ _ _ _ (h ρ _ a (SameFor c.F R1 ρ { w with drawn:=w.drawn+1 }) ha.drew fun _ h=>h))
end
theorem y3e (N:Nat):∀ (l:List Nd) (h:Hd) (s:List Int) (hok:wOkL h l=true) (hb:lsW l<=1073741824),SizeOf.sizeOf l<N->SC Tryz.prog 40 [.mp 3002,.pv (z0e l),.pv (hdv h)] (wM s) (fun k=>k=3002) (.pv (z0e (z1m s h l))) (wM s):=by
  induction N with
  | zero=>intro l h s hok hb hN;exact absurd hN (Nat.not_lt_zero _)
  | succ N ih =>
    intro l h s hok hb hN
    refine SC.of Tryz.func40 rfl (lb rfl) fun F ρ w=>?_
    refine Tr.lenOf (t:=1) rfl (fun hl=>?_)
    simp only [List.length_map] at hl
    refine tQ <| tG <| cE rfl (z2n rfl rfl) <| sm 1 rfl <| nL <| tQ <| tQ <| Tr.grow (t:=6) (k:=106) ⟨43,8⟩ rfl rfl rfl rfl rfl <| tG <| sm 1 rfl <| cV rfl (oSm uT44 rfl) <| sm 1 rfl ?_
    refine nL <| tBk <| Tr.sub (Sub.of (fr':=[(13,iInt 0),(12,iInt l.length),(11,.pv (z0e l)),(6,.sl 106 (([]:List Nd).map Nd.enc).length),(5,.pv (.ept [ints h.yield,ints h.next,ints h.left] 0)),(0,.mp 3002)]) ⟨rfl,rfl,rfl,rfl,rfl,rfl,trivial⟩) ?_
    refine Tr.loop (fun fr σ m=>∃ (k:Nat) (out:List Nd),(k<=l.length)/\(out++z1m s h (l.drop k)=z1m s h l)/\fr=[(13,iInt k),(12,iInt l.length),(11,.pv (z0e l)),(6,.sl 106 (out.map Nd.enc).length),(5,.pv (.ept [ints h.yield,ints h.next,ints h.left] 0)),(0,.mp 3002)] /\ σ = look [(106,some (.row ⟨43,8⟩ (out.map Nd.enc))),(3002,some (.map (vsOf s)))]/\m=l.length - k) (n:=l.length - 0) ?_ ?_
    ·exact ⟨0,([]:List Nd),Nat.zero_le _,rfl,rfl,rfl,rfl⟩
    rintro fr σ m ⟨k,out,hI0,hI1,rfl,rfl,rfl⟩
    refine tQ <| tG <| sm 1 rfl <| nL <| tQ ?_
    refine tC rfl (fun hc14=>?_) fun hc14=>?_
    ·have hlt:k<l.length:=by simpa using hc14
     have hd:=List.drop_eq_getElem_cons hlt
     have hm:=List.getElem_mem hlt
     have hi:=z0i (List.getElem?_eq_getElem hlt)
     generalize l[k]=x at hd hm hi
     have hst:z1m s h (x::l.drop (k+1))=z1f s h x++z1m s h (l.drop (k+1)):=rfl
     have hxok:=y1o hok hm
     have hlen1:=zf4 s h l
     have hlen2:=ls_len l
     have hol:out.length+(z1f s h x).length<=1073741824:=by
       have:=congrArg List.length hI1
       rw [hd,hst] at this
       simp only [List.length_append] at this
       omega
     have hWx:=z8s x
     have hWl:=y4o hm
     refine tSk <| tQ <| tBk <| tQ <| tG <| cV rfl (iSq rfl rfl rfl uT44 hi tS43 rfl (by rfl)) <| cV rfl (lEA rfl rfl uT43 rfl tS43 (lb rfl)) <| cE rfl (aLc (k:=108) rfl tZ43 rfl rfl rfl rfl) <| c0 (sBA rfl rfl rfl rfl rfl sI0 tS43 (flk rfl) (lb rfl)) <| nL <| tQ <| tQ ?_
     refine tG <| sm 2 rfl <| nL <| tBk <| tQ <| tG <| sm 2 rfl <| nL ?_
     refine tC rfl (fun hc30=>?_) fun hc30=>?_
     ·have hk:(x.kind==12)=true:=hc30
      have hle:h.yield.length<=x.args.length:=by
        have:=hxok
        rw [z5i] at this
        simpa [hk] using this
      have hlb:h.yield.length<=1073741824:=by omega
      have hN:z1f s h x=[.mk x.kind x.op x.n x.name (z0m s x.args h.yield) x.outs x.params x.kids]:=by
        rw [z52]
        simp only [hk,if_true,Bool.false_eq_true,if_false]
      have hal:(out.map Nd.enc).length=out.length:=by simp
      have hN1:(z1f s h x).length=1:=by rw [hN];rfl
      have hol2:out.length+1<=1073741824:=by rw [hN1] at hol;exact hol
      refine tG <| sm 5 rfl <| cE rfl (ocr (z7y x.args h.yield s oM0 oM0) y4c rfl (po1 rfl) rfl (fun k (h:_)=>.inr h) rfl rfl) <| sm 1 rfl <| c0 (sBx rfl rfl rfl rfl sI0 tS35 (rfl) (lb rfl)) <| nL <| tG <| sm 1 rfl <| cV rfl (lBP rfl rfl rfl uT43 rfl tS43 (lb rfl) rfl trivial) <| cE rfl (bSl rfl rfl uT44 tZ43 tS43 rfl rfl rfl rfl (fbk rfl) rfl) ?_
      refine cE rfl (aPp rfl rfl rfl rfl (by rfl) sI0 uT44 tB43 dC0 (by (simp [z07];done)) (za9 _ _ _ _ _ _ _ _) (by simp [maxLen,z07];omega) (by simp [z07];omega)) ?_
      refine sm 1 rfl <| nL <| Tr.drop (k:=108) ?_
      refine Tr.heap (σ':=look [(106,some (.row ⟨43,8⟩ ((out++z1f s h x).map Nd.enc))),(3002,some (.map (vsOf s)))]) (by
        rw [hN,z7k]
        intro j
        try simp only [look]
        by_cases h108:108=j
        · subst h108;rfl
        · by_cases h106:106=j
          · subst h106;rfl
          · by_cases h3002:3002=j
            · subst h3002;rfl
            · simp [wH,wM,look,up,z0c h108,z0c h106,z0c h3002]) ?_
      refine tG <| cV rfl (oB rfl rfl (z02 rfl oM0)) <| sm 1 rfl <| nL ?_
      refine ⟨_,_,?_,Sub.of (fr':=[(13,iInt (k+1)),(12,iInt l.length),(11,.pv (z0e l)),(6,.sl 106 ((out++z1f s h x).map Nd.enc).length),(5,.pv (.ept [ints h.yield,ints h.next,ints h.left] 0)),(0,.mp 3002)]) ⟨rfl,rfl,rfl,congrArg (fun z=>some (IV.sl _ z)) (by rw [hN];simp [z07]),rfl,rfl,trivial⟩,(k+1),(out++z1f s h x),?_,?_,rfl,rfl,rfl⟩
      ·omega
      ·omega
      rw [List.append_assoc,<- hI1,hd];rfl
     have hk12:(x.kind==12)=false:=hc30
     refine tQ <| tG <| sm 2 rfl <| nL ?_
     refine tC rfl (fun hc39=>?_) fun hc39=>?_
     ·have hk:(x.kind==13)=true:=hc39
      have hle:h.next.length<=x.args.length:=by
        have:=hxok
        rw [z5i] at this
        simpa [hk12,hk] using this
      have hlb:h.next.length<=1073741824:=by omega
      have hN:z1f s h x=[.mk x.kind x.op x.n x.name (z0m s x.args h.next) x.outs x.params x.kids]:=by
        rw [z52]
        simp only [hk12,hk,if_true,Bool.false_eq_true,if_false]
      have hal:(out.map Nd.enc).length=out.length:=by simp
      have hN1:(z1f s h x).length=1:=by rw [hN];rfl
      have hol2:out.length+1<=1073741824:=by rw [hN1] at hol;exact hol
      refine tG <| sm 5 rfl <| cE rfl (ocr (z7y x.args h.next s oM0 oM0) y4c rfl (po1 rfl) rfl (fun k (h:_)=>.inr h) rfl rfl) <| sm 1 rfl <| c0 (sBx rfl rfl rfl rfl sI0 tS35 (rfl) (lb rfl)) <| nL <| tG <| sm 1 rfl <| cV rfl (lBP rfl rfl rfl uT43 rfl tS43 (lb rfl) rfl trivial) <| cE rfl (bSl rfl rfl uT44 tZ43 tS43 rfl rfl rfl rfl (fbk rfl) rfl) ?_
      refine cE rfl (aPp rfl rfl rfl rfl (by rfl) sI0 uT44 tB43 dC0 (by (simp [z07];done)) (za9 _ _ _ _ _ _ _ _) (by simp [maxLen,z07];omega) (by simp [z07];omega)) ?_
      refine sm 1 rfl <| nL <| Tr.drop (k:=108) ?_
      refine Tr.heap (σ':=look [(106,some (.row ⟨43,8⟩ ((out++z1f s h x).map Nd.enc))),(3002,some (.map (vsOf s)))]) (by
        rw [hN,z7k]
        intro j
        try simp only [look]
        by_cases h108:108=j
        · subst h108;rfl
        · by_cases h106:106=j
          · subst h106;rfl
          · by_cases h3002:3002=j
            · subst h3002;rfl
            · simp [wH,wM,look,up,z0c h108,z0c h106,z0c h3002]) ?_
      refine tG <| cV rfl (oB rfl rfl (z02 rfl oM0)) <| sm 1 rfl <| nL ?_
      refine ⟨_,_,?_,Sub.of (fr':=[(13,iInt (k+1)),(12,iInt l.length),(11,.pv (z0e l)),(6,.sl 106 ((out++z1f s h x).map Nd.enc).length),(5,.pv (.ept [ints h.yield,ints h.next,ints h.left] 0)),(0,.mp 3002)]) ⟨rfl,rfl,rfl,congrArg (fun z=>some (IV.sl _ z)) (by rw [hN];simp [z07]),rfl,rfl,trivial⟩,(k+1),(out++z1f s h x),?_,?_,rfl,rfl,rfl⟩
      ·omega
      ·omega
      rw [List.append_assoc,<- hI1,hd];rfl
     have hk13:(x.kind==13)=false:=hc39
     refine tQ <| tG <| sm 2 rfl <| nL ?_
     refine tC rfl (fun hc48=>?_) fun hc48=>?_
     ·have hk:(x.kind==14)=true:=hc48
      have hle:h.left.length<=x.args.length:=by
        have:=hxok
        rw [z5i] at this
        simpa [hk12,hk13,hk] using this
      have hlb:h.left.length<=1073741824:=by omega
      have hN:z1f s h x=[.mk x.kind x.op x.n x.name (z0m s x.args h.left) x.outs x.params x.kids]:=by
        rw [z52]
        simp only [hk12,hk13,hk,if_true,Bool.false_eq_true,if_false]
      have hal:(out.map Nd.enc).length=out.length:=by simp
      have hN1:(z1f s h x).length=1:=by rw [hN];rfl
      have hol2:out.length+1<=1073741824:=by rw [hN1] at hol;exact hol
      refine tG <| sm 5 rfl <| cE rfl (ocr (z7y x.args h.left s oM0 oM0) y4c rfl (po1 rfl) rfl (fun k (h:_)=>.inr h) rfl rfl) <| sm 1 rfl <| c0 (sBx rfl rfl rfl rfl sI0 tS35 (rfl) (lb rfl)) <| nL <| tG <| sm 1 rfl <| cV rfl (lBP rfl rfl rfl uT43 rfl tS43 (lb rfl) rfl trivial) <| cE rfl (bSl rfl rfl uT44 tZ43 tS43 rfl rfl rfl rfl (fbk rfl) rfl) ?_
      refine cE rfl (aPp rfl rfl rfl rfl (by rfl) sI0 uT44 tB43 dC0 (by (simp [z07];done)) (za9 _ _ _ _ _ _ _ _) (by simp [maxLen,z07];omega) (by simp [z07];omega)) ?_
      refine sm 1 rfl <| nL <| Tr.drop (k:=108) ?_
      refine Tr.heap (σ':=look [(106,some (.row ⟨43,8⟩ ((out++z1f s h x).map Nd.enc))),(3002,some (.map (vsOf s)))]) (by
        rw [hN,z7k]
        intro j
        try simp only [look]
        by_cases h108:108=j
        · subst h108;rfl
        · by_cases h106:106=j
          · subst h106;rfl
          · by_cases h3002:3002=j
            · subst h3002;rfl
            · simp [wH,wM,look,up,z0c h108,z0c h106,z0c h3002]) ?_
      refine tG <| cV rfl (oB rfl rfl (z02 rfl oM0)) <| sm 1 rfl <| nL ?_
      refine ⟨_,_,?_,Sub.of (fr':=[(13,iInt (k+1)),(12,iInt l.length),(11,.pv (z0e l)),(6,.sl 106 ((out++z1f s h x).map Nd.enc).length),(5,.pv (.ept [ints h.yield,ints h.next,ints h.left] 0)),(0,.mp 3002)]) ⟨rfl,rfl,rfl,congrArg (fun z=>some (IV.sl _ z)) (by rw [hN];simp [z07]),rfl,rfl,trivial⟩,(k+1),(out++z1f s h x),?_,?_,rfl,rfl,rfl⟩
      ·omega
      ·omega
      rw [List.append_assoc,<- hI1,hd];rfl
     have hk14:(x.kind==14)=false:=hc48
     refine tQ <| tG <| sm 2 rfl <| nL ?_
     refine tC rfl (fun hc57=>?_) fun hc57=>?_
     ·have hk:(x.kind==10)=true:=hc57
      rw [z5i] at hxok
      simp only [hk12,hk13,hk14,hk,if_true,Bool.false_eq_true,if_false,Bool.and_eq_true,beq_iff_eq] at hxok
      obtain ⟨a,b,hks⟩:∃ a b,x.kids=[a,b]:=by
        have h1:=hxok.1
        match x.kids,h1 with
        | [a,b],_=>exact ⟨a,b,rfl⟩
      have hi0:(x.kids.map eKid)[0]? = some [z0e a]:=by rw [hks];rfl
      have hi1:(x.kids.map eKid)[1]? = some [z0e b]:=by rw [hks];rfl
      have ha:a∈x.kids:=by rw [hks];exact .head _
      have hb':b∈x.kids:=by rw [hks];exact .tail _ (.head _)
      have hoa:=z84 hxok.2 ha
      have hob:=z84 hxok.2 hb'
      have hba:lsW a<=1073741824:=by have:=z72 ha;omega
      have hbb:lsW b<=1073741824:=by have:=z72 hb';omega
      have hda:SizeOf.sizeOf a<N:=Nat.lt_of_lt_of_le (z5l hm rfl ha) (Nat.le_of_lt_succ hN)
      have hdb:SizeOf.sizeOf b<N:=Nat.lt_of_lt_of_le (z5l hm rfl hb') (Nat.le_of_lt_succ hN)
      have hN:z1f s h x=[.mk x.kind x.op x.n x.name x.args (z0m s x.outs x.outs) x.params [z1m s ⟨x.outs,h.next,h.left⟩ a,z1m s ⟨x.outs,h.next,h.left⟩ b]]:=by
        rw [z52]
        simp only [hk12,hk13,hk14,hk,hks,if_true,Bool.false_eq_true,if_false]
        rfl
      have hal:(out.map Nd.enc).length=out.length:=by simp
      have hN1:(z1f s h x).length=1:=by rw [hN];rfl
      have hol2:out.length+1<=1073741824:=by rw [hN1] at hol;exact hol
      refine tQ <| tG <| cV rfl (lEA rfl rfl Tryz.underlying81 rfl tS81 (lb rfl)) <| cE rfl (aLc (k:=109) rfl tZ81 rfl rfl rfl rfl) <| c0 (sBA rfl rfl rfl rfl rfl sI0 tS81 (flk rfl) (lb rfl)) <| nL <| tQ <| tG <| sm 3 rfl <| c0 (sBx rfl rfl rfl rfl sI0 tS35 (rfl) (lb rfl)) <| nL <| tQ ?_
      refine Tr.drawnC z5q (fun k=>k∈([3002,108,109]:List Nat)) [16] <| WC.take (i:=0) [6,13,14,15,16] kR0 kR0 kR0 rfl kR0 kR0 kR0 (h30) rfl rfl rfl (z6c rfl rfl) <| WC.take (i:=1) [2,3,4,6,13,14,15,16] kR0 kR0 kR0 rfl kR0 kR0 kR0 (h30) rfl rfl rfl ((z0o rfl rfl rfl y3p)) <| WC.take (i:=2) [3,4,6,13,14,15,16] kR0 kR0 kR0 rfl kR0 kR0 kR0 (h30) rfl rfl rfl ((z16 rfl rfl rfl uT41 rfl rfl dC0)) <| WC.take (i:=3) [4,6,13,14,15,16] kR0 kR0 kR0 rfl kR0 kR0 kR0 (h30) rfl rfl rfl (iSq rfl rfl rfl uT41 hi0 tS44 rfl (by rfl)) <| WC.take (i:=4) [6,13,14,15,16] kR0 kR0 kR0 rfl kR0 kR0 kR0 (h30) rfl rfl rfl ((z4a rfl rfl uT44 rfl rfl)) <| WC.take (i:=5) [6,13,14,15,16] kR0 kR0 kR0 rfl kR0 kR0 kR0 (h30) rfl rfl rfl ((lBP rfl rfl rfl Tryz.underlying81 rfl tS81 (lb rfl) rfl dC0)) <| WC.take (i:=7) [13,14,15,16] kR0 kR0 kR0 rfl kR0 kR0 kR0 (h30) rfl rfl rfl (z6c rfl rfl) <| WC.take (i:=8) [9,10,11,13,14,15,16] kR0 kR0 kR0 rfl kR0 kR0 kR0 (h30) rfl rfl rfl ((z0o rfl rfl rfl y3p)) <| WC.take (i:=9) [10,11,13,14,15,16] kR0 kR0 kR0 rfl kR0 kR0 kR0 (h30) rfl rfl rfl ((z16 rfl rfl rfl uT41 rfl rfl dC0)) <| WC.take (i:=10) [11,13,14,15,16] kR0 kR0 kR0 rfl kR0 kR0 kR0 (h30) rfl rfl rfl (iSq rfl rfl rfl uT41 hi1 tS44 rfl (by rfl)) <| WC.take (i:=11) [13,14,15,16] kR0 kR0 kR0 rfl kR0 kR0 kR0 (h30) rfl rfl rfl ((z4a rfl rfl uT44 rfl rfl)) ?_
      refine WC.take (i:=12) [13,14,15,16] kR0 kR0 kR0 rfl kR0 kR0 kR0 (h30) rfl rfl rfl ((lBP rfl rfl rfl Tryz.underlying81 rfl tS81 (lb rfl) rfl dC0)) <| WC.one (i:=6) kR0 <| WIC.op rfl rfl rfl (by intro t h;cases h<;>rfl) (fun k (h:_)=>by (simp at h ⊢;omega)) (nAp rfl) (fun ρ w=>cRr (ih a ⟨x.outs,h.next,h.left⟩ s hoa hba hda) ent40 rfl rfl (sRf _ _) (po1 rfl) (by rfl) (fun k (h:_)=>by (simp only [List.mem_cons,List.not_mem_nil,or_false] at h;rcases h with rfl | rfl | rfl<;>first | exact .inl rfl | exact .inr rfl | exact .inr dC0)) rfl (by rfl)) <| WC.one (i:=13) kR0 <| WIC.op rfl rfl rfl (by intro t h;cases h<;>rfl) (fun k (h:_)=>by (simp at h ⊢;omega)) (nAp rfl) (fun ρ w=>cRr (ih b ⟨x.outs,h.next,h.left⟩ s hob hbb hdb) ent40 rfl rfl (sRf _ _) (po1 rfl) (by rfl) (fun k (h:_)=>by (simp only [List.mem_cons,List.not_mem_nil,or_false] at h;rcases h with rfl | rfl | rfl<;>first | exact .inl rfl | exact .inr rfl | exact .inr dC0)) rfl (by rfl)) <| WC.one (i:=14) kR0 <| WIC.op rfl rfl rfl (by intro t h;cases h<;>rfl) (fun k (h:_)=>by (simp at h ⊢;omega)) (fun _ h1 h2=>absurd h1 h2) (fun ρ w=>bSl rfl rfl uT41 tZ44 tS44 rfl rfl rfl rfl (fbk rfl) rfl) <| WC.take (i:=15) [16] kR0 kR0 kR0 rfl kR0 kR0 kR0 (h30) rfl rfl rfl ((z0o rfl rfl rfl y3p)) <| WC.one (i:=16) kR0 <| WIC.last (R2:=fun k=>k∈([3002]:List Nat)) kR0 rfl rfl rfl (by intro t h;cases h<;>rfl) (fun k (h:_)=>by (simp at h ⊢;omega)) (nOl rfl) (fun ρ w=>(sBx rfl rfl rfl rfl sI0 tS41 (rfl) (lb rfl))) <| wDn kR0 <| tG ?_
      refine sm 5 rfl <| cE rfl (ocr (z7y x.outs x.outs s oM0 oM0) y4c rfl (po1 rfl) rfl (fun k (h:_)=>.inr h) rfl rfl) <| sm 1 rfl <| c0 (sBx rfl rfl rfl rfl sI0 tS35 (rfl) (lb rfl)) <| nL <| tG <| sm 1 rfl <| cV rfl (lBP rfl rfl rfl uT43 rfl tS43 (lb rfl) rfl trivial) <| cE rfl (bSl rfl rfl uT44 tZ43 tS43 rfl rfl rfl rfl (fbk rfl) rfl) ?_
      refine cE rfl (aPp rfl rfl rfl rfl (by rfl) sI0 uT44 tB43 dC0 (by (simp [z07];done)) (y2f _ _ _ _ _ _ _ _) (by simp [maxLen,z07];omega) (by simp [z07];omega)) ?_
      refine sm 1 rfl <| nL <| Tr.drop (k:=108) <| Tr.drop (k:=109) ?_
      refine Tr.heap (σ':=look [(106,some (.row ⟨43,8⟩ ((out++z1f s h x).map Nd.enc))),(3002,some (.map (vsOf s)))]) (by
        rw [hN,z7k]
        intro j
        try simp only [look]
        by_cases h108:108=j
        · subst h108;rfl
        · by_cases h109:109=j
          · subst h109;rfl
          · by_cases h106:106=j
            · subst h106;rfl
            · by_cases h3002:3002=j
              · subst h3002;rfl
              · simp [wH,wM,look,up,z0c h108,z0c h109,z0c h106,z0c h3002]) ?_
      refine tG <| cV rfl (oB rfl rfl (z02 rfl oM0)) <| sm 1 rfl <| nL ?_
      refine ⟨_,_,?_,Sub.of (fr':=[(13,iInt (k+1)),(12,iInt l.length),(11,.pv (z0e l)),(6,.sl 106 ((out++z1f s h x).map Nd.enc).length),(5,.pv (.ept [ints h.yield,ints h.next,ints h.left] 0)),(0,.mp 3002)]) ⟨rfl,rfl,rfl,congrArg (fun z=>some (IV.sl _ z)) (by rw [hN];simp [z07]),rfl,rfl,trivial⟩,(k+1),(out++z1f s h x),?_,?_,rfl,rfl,rfl⟩
      ·omega
      ·omega
      rw [List.append_assoc,<- hI1,hd];rfl
     have hk10:(x.kind==10)=false:=hc57
     refine tQ <| tG <| sm 2 rfl <| nL ?_
     refine tC rfl (fun hc86=>?_) fun hc86=>?_
     ·have hk:(x.kind==11)=true:=hc86
      rw [z5i] at hxok
      simp only [hk12,hk13,hk14,hk10,hk,if_true,Bool.false_eq_true,if_false,Bool.and_eq_true,beq_iff_eq,decide_eq_true_eq] at hxok
      have hle:=hxok.1
      obtain ⟨a,hks⟩:∃ a,x.kids=[a]:=by
        have h1:=hxok.2.1
        match x.kids,h1 with
        | [a],_=>exact ⟨a,rfl⟩
      have hi0:(x.kids.map eKid)[0]? = some [z0e a]:=by rw [hks];rfl
      have ha:a∈x.kids:=by rw [hks];exact .head _
      have hoa:=z84 hxok.2.2 ha
      have hba:lsW a<=1073741824:=by have:=z72 ha;omega
      have hda:SizeOf.sizeOf a<N:=Nat.lt_of_lt_of_le (z5l hm rfl ha) (Nat.le_of_lt_succ hN)
      have hN:z1f s h x=[.mk x.kind x.op x.n x.name (z0m s x.args x.params) (z0m s x.outs x.outs) (z0m s x.params x.params) [z1m s ⟨[],x.params,x.outs⟩ a]]:=by
        rw [z52]
        simp only [hk12,hk13,hk14,hk10,hk,hks,if_true,Bool.false_eq_true,if_false]
        rfl
      have hal:(out.map Nd.enc).length=out.length:=by simp
      have hN1:(z1f s h x).length=1:=by rw [hN];rfl
      have hol2:out.length+1<=1073741824:=by rw [hN1] at hol;exact hol
      refine tQ <| tG <| sm 4 rfl <| cV rfl (bPu rfl rfl tZ81 tP81 rfl (fbk rfl) rfl) <| cE rfl (aLc (k:=110) rfl tZ81 rfl rfl rfl rfl) <| c0 (sBA rfl rfl rfl rfl rfl sI0 tS81 (flk rfl) (lb rfl)) <| nL <| tQ <| Tr.drawnC z5q (fun k=>k∈([3002,108,110]:List Nat)) [9] <| WC.take (i:=0) [6,7,8,9] kR0 kR0 kR0 rfl kR0 kR0 kR0 (h30) rfl rfl rfl (z6c rfl rfl) <| WC.take (i:=1) [2,3,4,6,7,8,9] kR0 kR0 kR0 rfl kR0 kR0 kR0 (h30) rfl rfl rfl ((z0o rfl rfl rfl y3p)) <| WC.take (i:=2) [3,4,6,7,8,9] kR0 kR0 kR0 rfl kR0 kR0 kR0 (h30) rfl rfl rfl ((z16 rfl rfl rfl uT41 rfl rfl dC0)) ?_
      refine WC.take (i:=3) [4,6,7,8,9] kR0 kR0 kR0 rfl kR0 kR0 kR0 (h30) rfl rfl rfl (iSq rfl rfl rfl uT41 hi0 tS44 rfl (by rfl)) <| WC.take (i:=4) [6,7,8,9] kR0 kR0 kR0 rfl kR0 kR0 kR0 (h30) rfl rfl rfl ((z4a rfl rfl uT44 rfl rfl)) <| WC.take (i:=5) [6,7,8,9] kR0 kR0 kR0 rfl kR0 kR0 kR0 (h30) rfl rfl rfl ((lBP rfl rfl rfl Tryz.underlying81 rfl tS81 (lb rfl) rfl dC0)) <| WC.one (i:=6) kR0 <| WIC.op rfl rfl rfl (by intro t h;cases h<;>rfl) (fun k (h:_)=>by (simp at h ⊢;omega)) (nAp rfl) (fun ρ w=>cRr (ih a ⟨[],x.params,x.outs⟩ s hoa hba hda) ent40 rfl rfl (sSm rfl (sSm rfl (Subs.cons (fun _ _ _ _ h=>z4w (p:=.agg [.val (.slice none 0 0),ints x.params,ints x.outs]) (PSub.agg ⟨PSub.nil,PSub.refl _,PSub.refl _,trivial⟩) h) Subs.nil))) (po1 rfl) (by rfl) (fun k (h:_)=>by (simp only [List.mem_cons,List.not_mem_nil,or_false] at h;rcases h with rfl | rfl | rfl<;>first | exact .inl rfl | exact .inr rfl | exact .inr dC0)) rfl (by rfl)) <| WC.one (i:=7) kR0 <| WIC.op rfl rfl rfl (by intro t h;cases h<;>rfl) (fun k (h:_)=>by (simp at h ⊢;omega)) (fun _ h1 h2=>absurd h1 h2) (fun ρ w=>bSl rfl rfl uT41 tZ44 tS44 rfl rfl rfl rfl (fbk rfl) rfl) <| WC.take (i:=8) [9] kR0 kR0 kR0 rfl kR0 kR0 kR0 (h30) rfl rfl rfl ((z0o rfl rfl rfl y3p)) <| WC.one (i:=9) kR0 <| WIC.last (R2:=fun k=>k∈([3002]:List Nat)) kR0 rfl rfl rfl (by intro t h;cases h<;>rfl) (fun k (h:_)=>by (simp at h ⊢;omega)) (nOl rfl) (fun ρ w=>(sBx rfl rfl rfl rfl sI0 tS41 (rfl) (lb rfl))) <| wDn kR0 <| Tr.drawnC z5q (fun k=>k∈([3002,108]:List Nat)) [19,21,23] ?_
      refine WC.take (i:=0) [5,11,17,18,19,20,21,22,23] kR0 kR0 kR0 rfl kR0 kR0 kR0 (h30) rfl rfl rfl (z6c rfl rfl) <| WC.take (i:=1) [2,5,11,17,18,19,20,21,22,23] kR0 kR0 kR0 rfl kR0 kR0 kR0 (h30) rfl rfl rfl ((z0o rfl rfl rfl tF43_4)) <| WC.take (i:=2) [5,11,17,18,19,20,21,22,23] kR0 kR0 kR0 rfl kR0 kR0 kR0 (h30) rfl rfl rfl ((z16 rfl rfl rfl uT35 rfl rfl dC0)) <| WC.take (i:=3) [4,5,11,17,18,19,20,21,22,23] kR0 kR0 kR0 rfl kR0 kR0 kR0 (h30) rfl rfl rfl ((z0o rfl rfl rfl yi4)) <| WC.take (i:=4) [5,11,17,18,19,20,21,22,23] kR0 kR0 kR0 rfl kR0 kR0 kR0 (h30) rfl rfl rfl ((z16 rfl rfl rfl uT35 rfl rfl dC0)) <| WC.take (i:=6) [11,17,19,20,21,22,23] kR0 kR0 kR0 rfl kR0 kR0 kR0 (h30) rfl rfl rfl (z6c rfl rfl) <| WC.take (i:=7) [8,11,17,18,19,20,21,22,23] kR0 kR0 kR0 rfl kR0 kR0 kR0 (h30) rfl rfl rfl ((z0o rfl rfl rfl yi4)) <| WC.take (i:=8) [11,17,18,19,20,21,22,23] kR0 kR0 kR0 rfl kR0 kR0 kR0 (h30) rfl rfl rfl ((z16 rfl rfl rfl uT35 rfl rfl dC0)) <| WC.take (i:=9) [10,11,17,18,19,20,21,22,23] kR0 kR0 kR0 rfl kR0 kR0 kR0 (h30) rfl rfl rfl ((z0o rfl rfl rfl yi4)) <| WC.take (i:=10) [11,17,18,19,20,21,22,23] kR0 kR0 kR0 rfl kR0 kR0 kR0 (h30) rfl rfl rfl ((z16 rfl rfl rfl uT35 rfl rfl dC0)) <| WC.take (i:=12) [17,19,20,21,22,23] kR0 kR0 kR0 rfl kR0 kR0 kR0 (h30) rfl rfl rfl (z6c rfl rfl) <| WC.take (i:=13) [14,17,18,19,20,21,22,23] kR0 kR0 kR0 rfl kR0 kR0 kR0 (h30) rfl rfl rfl ((z0o rfl rfl rfl tF43_5)) ?_
      refine WC.take (i:=14) [17,18,19,20,21,22,23] kR0 kR0 kR0 rfl kR0 kR0 kR0 (h30) rfl rfl rfl ((z16 rfl rfl rfl uT35 rfl rfl dC0)) <| WC.take (i:=15) [16,17,18,19,20,21,22,23] kR0 kR0 kR0 rfl kR0 kR0 kR0 (h30) rfl rfl rfl ((z0o rfl rfl rfl tF43_5)) <| WC.take (i:=16) [17,18,19,20,21,22,23] kR0 kR0 kR0 rfl kR0 kR0 kR0 (h30) rfl rfl rfl ((z16 rfl rfl rfl uT35 rfl rfl dC0)) <| WC.one (i:=5) kR0 <| WIC.op rfl rfl rfl (by intro t h;cases h<;>rfl) (fun k (h:_)=>by (simp at h ⊢;omega)) (nAp rfl) (fun ρ w=>cRr (z7y x.args x.params s oM0 oM0) y4c rfl rfl (sRf _ _) (po1 rfl) (by rfl) (fun k (h:_)=>by (simp only [List.mem_cons,List.not_mem_nil,or_false] at h;rcases h with rfl | rfl<;>first | exact .inl rfl | exact .inr rfl | exact .inr dC0)) rfl (by rfl)) <| WC.take (i:=18) [19,20,21,22,23] kR0 kR0 kR0 rfl kR0 kR0 kR0 (h30) rfl rfl rfl ((z0o rfl rfl rfl tF43_4)) <| WC.one (i:=11) kR0 <| WIC.op rfl rfl rfl (by intro t h;cases h<;>rfl) (fun k (h:_)=>by (simp at h ⊢;omega)) (nAp rfl) (fun ρ w=>cRr (z7y x.params x.params s oM0 oM0) y4c rfl rfl (sRf _ _) (po1 rfl) (by rfl) (fun k (h:_)=>by (simp only [List.mem_cons,List.not_mem_nil,or_false] at h;rcases h with rfl | rfl<;>first | exact .inl rfl | exact .inr rfl | exact .inr dC0)) rfl (by rfl)) <| WC.one (i:=17) kR0 <| WIC.op rfl rfl rfl (by intro t h;cases h<;>rfl) (fun k (h:_)=>by (simp at h ⊢;omega)) (nAp rfl) (fun ρ w=>cRr (z7y x.outs x.outs s oM0 oM0) y4c rfl rfl (sRf _ _) (po1 rfl) (by rfl) (fun k (h:_)=>by (simp only [List.mem_cons,List.not_mem_nil,or_false] at h;rcases h with rfl | rfl<;>first | exact .inl rfl | exact .inr rfl | exact .inr dC0)) rfl (by rfl)) <| WC.one (i:=19) kR0 <| WIC.last (R2:=fun k=>k∈([3002]:List Nat)) kR0 rfl rfl rfl (by intro t h;cases h<;>rfl) (fun k (h:_)=>by (simp at h ⊢;omega)) (nOl rfl) (fun ρ w=>(sBx rfl rfl rfl rfl sI0 tS35 (rfl) (lb rfl))) ?_
      refine wR 3 [20] kR0 h30 <| smR 1 rfl <| nR <| wO 21 kR0 <| wI rfl rfl (fun k (h:_)=>by (simp at h ⊢;omega)) (nOl rfl) (fun _ _=>sBx rfl rfl rfl rfl sI0 tS35 (rfl) (lb rfl)) <| wR 1 [22] kR0 h30 <| smR 1 rfl <| nR <| wO 23 kR0 <| wI rfl rfl (fun k (h:_)=>by (simp at h ⊢;omega)) (nOl rfl) (fun _ _=>sBx rfl rfl rfl rfl sI0 tS35 (rfl) (lb rfl)) <| wDn kR0 <| tG ?_
      refine sm 1 rfl <| cV rfl (lBP rfl rfl rfl uT43 rfl tS43 (lb rfl) rfl trivial) <| cE rfl (bSl rfl rfl uT44 tZ43 tS43 rfl rfl rfl rfl (fbk rfl) rfl) ?_
      refine cE rfl (aPp rfl rfl rfl rfl (by rfl) sI0 uT44 tB43 dC0 (by (simp [z07];done)) (y2f _ _ _ _ _ _ _ _) (by simp [maxLen,z07];omega) (by simp [z07];omega)) ?_
      refine sm 1 rfl <| nL <| Tr.drop (k:=108) <| Tr.drop (k:=110) ?_
      refine Tr.heap (σ':=look [(106,some (.row ⟨43,8⟩ ((out++z1f s h x).map Nd.enc))),(3002,some (.map (vsOf s)))]) (by
        rw [hN,z7k]
        intro j
        try simp only [look]
        by_cases h108:108=j
        · subst h108;rfl
        · by_cases h110:110=j
          · subst h110;rfl
          · by_cases h106:106=j
            · subst h106;rfl
            · by_cases h3002:3002=j
              · subst h3002;rfl
              · simp [wH,wM,look,up,z0c h108,z0c h110,z0c h106,z0c h3002]) ?_
      refine tG <| cV rfl (oB rfl rfl (z02 rfl oM0)) <| sm 1 rfl <| nL ?_
      refine ⟨_,_,?_,Sub.of (fr':=[(13,iInt (k+1)),(12,iInt l.length),(11,.pv (z0e l)),(6,.sl 106 ((out++z1f s h x).map Nd.enc).length),(5,.pv (.ept [ints h.yield,ints h.next,ints h.left] 0)),(0,.mp 3002)]) ⟨rfl,rfl,rfl,congrArg (fun z=>some (IV.sl _ z)) (by rw [hN];simp [z07]),rfl,rfl,trivial⟩,(k+1),(out++z1f s h x),?_,?_,rfl,rfl,rfl⟩
      ·omega
      ·omega
      rw [List.append_assoc,<- hI1,hd];rfl
     have hk11:(x.kind==11)=false:=hc86
     rw [z5i] at hxok
     simp only [hk12,hk13,hk14,hk10,hk11,Bool.false_eq_true,if_false] at hxok
     have hN0:z1f s h x=if z0v x && !s.contains (x.outs.headD 0) then [] else [x]:=by
       rw [z52]
       simp only [hk12,hk13,hk14,hk10,hk11,Bool.false_eq_true,if_false]
     refine tQ <| tG <| cV rfl (lBP rfl rfl rfl uT43 rfl tS43 (lb rfl) rfl trivial) <| cE rfl (ocq (zm0 _) ent63 rfl rfl) <| sm 1 rfl ?_
     refine wS 21 rfl (fun hb21=>?_) fun hb21=>?_
     ·have hhm:z0v x=true:=hb21
      obtain ⟨o0,ors,hos⟩:=List.exists_cons_of_ne_nil (show x.outs≠[] from fun e=>by rw [hhm,e] at hxok;cases hxok)
      have ho0:(x.outs.map eInt)[0]? = some [vInt o0]:=by rw [hos];rfl
      have hoh:x.outs.headD 0=o0:=by rw [hos];rfl
      refine sm 3 rfl <| yV rfl rfl (iSq rfl rfl rfl uT35 ho0 tS3 rfl (by rfl)) <| sm 1 rfl <| WL.yes rfl rfl rfl rfl rfl rfl (cRr (y17 s o0) ent64 rfl rfl (sRf _ _) (po1 rfl) (by rfl) (fun k (h:_)=>.inr h) rfl (by rfl)) <| sm 2 rfl <| nL ?_
      refine tC rfl (fun hc29=>?_) fun hc29=>?_
      ·have hh:s.contains o0=false:=by simpa using hc29
       have hN:z1f s h x=[]:=by
         rw [hN0,hhm,hoh,hh];rfl
       refine tEx <| Tr.drop (k:=108) ?_
       refine Tr.heap (σ':=look [(106,some (.row ⟨43,8⟩ ((out++z1f s h x).map Nd.enc))),(3002,some (.map (vsOf s)))]) (by
         rw [hN,List.append_nil]
         intro j
         try simp only [look]
         by_cases h108:108=j
         · subst h108;rfl
         · by_cases h106:106=j
           · subst h106;rfl
           · by_cases h3002:3002=j
             · subst h3002;rfl
             · simp [wH,wM,look,up,z0c h108,z0c h106,z0c h3002]) ?_
       refine tG <| cV rfl (oB rfl rfl (z02 rfl oM0)) <| sm 1 rfl <| nL ?_
       refine ⟨_,_,?_,Sub.of (fr':=[(13,iInt (k+1)),(12,iInt l.length),(11,.pv (z0e l)),(6,.sl 106 ((out++z1f s h x).map Nd.enc).length),(5,.pv (.ept [ints h.yield,ints h.next,ints h.left] 0)),(0,.mp 3002)]) ⟨rfl,rfl,rfl,congrArg (fun z=>some (IV.sl _ z)) (by rw [hN];simp [z07]),rfl,rfl,trivial⟩,(k+1),(out++z1f s h x),?_,?_,rfl,rfl,rfl⟩
       ·omega
       ·omega
       rw [List.append_assoc,<- hI1,hd];rfl
      have hN:z1f s h x=[.mk x.kind x.op x.n x.name x.args x.outs x.params x.kids]:=by
        rw [hN0,Nd.eta x]
        (have hh:s.contains o0=true:=by simpa using hc29
         rw [hoh,hh,Bool.not_true,Bool.and_false];rfl)
      have hal:(out.map Nd.enc).length=out.length:=by simp
      have hN1:(z1f s h x).length=1:=by rw [hN];rfl
      have hol2:out.length+1<=1073741824:=by rw [hN1] at hol;exact hol
      refine tSk <| tG <| sm 1 rfl <| cV rfl (lBP rfl rfl rfl uT43 rfl tS43 (lb rfl) rfl trivial) <| cE rfl (bSl rfl rfl uT44 tZ43 tS43 rfl rfl rfl rfl (fbk rfl) rfl) ?_
      refine cE rfl (aPp rfl rfl rfl rfl (by rfl) sI0 uT44 tB43 dC0 (by (simp [z07];done)) (z5w _) (by simp [maxLen,z07];omega) (by simp [z07];omega)) ?_
      refine sm 1 rfl <| nL <| Tr.drop (k:=108) ?_
      refine Tr.heap (σ':=look [(106,some (.row ⟨43,8⟩ ((out++z1f s h x).map Nd.enc))),(3002,some (.map (vsOf s)))]) (by
        rw [hN,z7k]
        intro j
        try simp only [look]
        by_cases h108:108=j
        · subst h108;rfl
        · by_cases h106:106=j
          · subst h106;rfl
          · by_cases h3002:3002=j
            · subst h3002;rfl
            · simp [wH,wM,look,up,z0c h108,z0c h106,z0c h3002]) ?_
      refine tG <| cV rfl (oB rfl rfl (z02 rfl oM0)) <| sm 1 rfl <| nL ?_
      refine ⟨_,_,?_,Sub.of (fr':=[(13,iInt (k+1)),(12,iInt l.length),(11,.pv (z0e l)),(6,.sl 106 ((out++z1f s h x).map Nd.enc).length),(5,.pv (.ept [ints h.yield,ints h.next,ints h.left] 0)),(0,.mp 3002)]) ⟨rfl,rfl,rfl,congrArg (fun z=>some (IV.sl _ z)) (by rw [hN];simp [z07]),rfl,rfl,trivial⟩,(k+1),(out++z1f s h x),?_,?_,rfl,rfl,rfl⟩
      ·omega
      ·omega
      rw [List.append_assoc,<- hI1,hd];rfl
     refine sm 8 rfl <| nL <| Tr.condF rfl ?_
     have hN:z1f s h x=[.mk x.kind x.op x.n x.name x.args x.outs x.params x.kids]:=by
       rw [hN0,Nd.eta x]
       (have hh:z0v x=false:=hb21
        rw [hh];rfl)
     have hal:(out.map Nd.enc).length=out.length:=by simp
     have hN1:(z1f s h x).length=1:=by rw [hN];rfl
     have hol2:out.length+1<=1073741824:=by rw [hN1] at hol;exact hol
     refine tSk <| tG <| sm 1 rfl <| cV rfl (lBP rfl rfl rfl uT43 rfl tS43 (lb rfl) rfl trivial) <| cE rfl (bSl rfl rfl uT44 tZ43 tS43 rfl rfl rfl rfl (fbk rfl) rfl) ?_
     refine cE rfl (aPp rfl rfl rfl rfl (by rfl) sI0 uT44 tB43 dC0 (by (simp [z07];done)) (z5w _) (by simp [maxLen,z07];omega) (by simp [z07];omega)) ?_
     refine sm 1 rfl <| nL <| Tr.drop (k:=108) ?_
     refine Tr.heap (σ':=look [(106,some (.row ⟨43,8⟩ ((out++z1f s h x).map Nd.enc))),(3002,some (.map (vsOf s)))]) (by
       rw [hN,z7k]
       intro j
       try simp only [look]
       by_cases h108:108=j
       · subst h108;rfl
       · by_cases h106:106=j
         · subst h106;rfl
         · by_cases h3002:3002=j
           · subst h3002;rfl
           · simp [wH,wM,look,up,z0c h108,z0c h106,z0c h3002]) ?_
     refine tG <| cV rfl (oB rfl rfl (z02 rfl oM0)) <| sm 1 rfl <| nL ?_
     refine ⟨_,_,?_,Sub.of (fr':=[(13,iInt (k+1)),(12,iInt l.length),(11,.pv (z0e l)),(6,.sl 106 ((out++z1f s h x).map Nd.enc).length),(5,.pv (.ept [ints h.yield,ints h.next,ints h.left] 0)),(0,.mp 3002)]) ⟨rfl,rfl,rfl,congrArg (fun z=>some (IV.sl _ z)) (by rw [hN];simp [z07]),rfl,rfl,trivial⟩,(k+1),(out++z1f s h x),?_,?_,rfl,rfl,rfl⟩
     ·omega
     ·omega
     rw [List.append_assoc,<- hI1,hd];rfl
    refine tEx <| tQ <| Tr.freeze (t:=6) (k:=106) rfl rfl sI0 <| tG <| sm 2 rfl <| nL <| tRt <| rOk rfl ?_ (po1 rfl)
    have hge:l.length<=k:=by simpa using hc14
    have:out=z1m s h l:=by rw [<- hI1,List.drop_eq_nil_of_le hge];simp [z1m]
    rw [this]
    rfl
theorem sc_sweep (l:List Nd) (h:Hd) (s:List Int) (hok:wOkL h l=true) (hb:lsW l<=1073741824):SC Tryz.prog 40 [.mp 3002,.pv (z0e l),.pv (hdv h)] (wM s) (fun k=>k=3002) (.pv (z0e (z1m s h l))) (wM s):=y3e _ l h s hok hb (Nat.lt_succ_self _)
theorem sc_wFlow (f:Fl) (hok:wOkL hd0 f.body=true) (hb:lsW f.body<=1073741824):SC Tryz.prog 23 [.pv (.agg f.enc)] [] (fun _=>False) (.pv (.agg (z3y wB f).enc)) []:=by
  refine SC.ofC Tryz.func23 rfl (lb rfl) rfl fun F ρ w=>?_
  refine tQ <| tG <| cE rfl (zi7 (k:=101) rfl rfl rfl rfl rfl rfl) <| cE rfl (aLc (k:=102) rfl tZ51 rfl rfl rfl rfl) <| nL <| tQ <| tG <| cE rfl (zz4 (k:=3002) rfl rfl rfl rfl rfl) <| cV rfl (zf0 rfl rfl tZ78 tP78 rfl (zd3 ⟨⟨_,rfl⟩,rfl,trivial⟩)) <| cE rfl (ze9 (k:=3001) rfl rfl rfl rfl rfl rfl rfl) <| sm 1 rfl <| nL ?_
  refine tQ <| tBk <| Tr.sub (Sub.of (fr':=[(3,.ptr 3001 0),(1,.ptr 101 0),(2,.ptr 102 0)]) ⟨rfl,rfl,rfl,trivial⟩) ?_
  refine Tr.heap (σ':=look [(3001,some (.box [.mp 3002,iBool true])),(3002,some (.map (vsOf (z28 f.body 0)))),(102,some (.box [iStr ⟨#[]⟩,iInt 0,iInt 0,.pv (.val (.slice none 0 0)),.pv (.val (.slice none 0 0))])),(101,some (.box [iStr f.name,iInt f.ty,iInt f.params,.pv (ints f.types),.pv (z0e f.body)]))]) (by
  intro j
  try simp only [look]
  by_cases h3001:3001=j
  · subst h3001;rfl
  · by_cases h3002:3002=j
    · subst h3002;rfl
    · by_cases h102:102=j
      · subst h102;rfl
      · by_cases h101:101=j
        · subst h101;rfl
        · simp [wH,wM,look,up,z0c h3001,z0c h3002,z0c h102,z0c h101]) ?_
  refine Tr.loop (fun fr σ m=>∃ (j:Nat) (g:Bool),(j<=(z28 f.body j).length)/\(g=false->zm8 f.body (z28 f.body j)=z28 f.body j)/\fr=[(3,.ptr 3001 0),(1,.ptr 101 0),(2,.ptr 102 0)] /\ σ = look [(3001,some (.box [.mp 3002,iBool g])),(3002,some (.map (vsOf (z28 f.body j)))),(102,some (.box [iStr ⟨#[]⟩,iInt 0,iInt 0,.pv (.val (.slice none 0 0)),.pv (.val (.slice none 0 0))])),(101,some (.box [iStr f.name,iInt f.ty,iInt f.params,.pv (ints f.types),.pv (z0e f.body)]))]/\m=2*((agL f.body).length - (z28 f.body j).length)+g.toNat) (n:=2*((agL f.body).length - (z28 f.body 0).length)+true.toNat) ?_ ?_
  ·exact ⟨0,true,Nat.zero_le _,(fun h=>by cases h),rfl,rfl,rfl⟩
  rintro fr σ m ⟨j,g,hI0,hI1,rfl,rfl,rfl⟩
  refine tQ <| tQ <| tG <| sm 1 rfl <| cV rfl (nCk rfl rfl rfl) <| sm 2 rfl <| nL ?_
  refine tC rfl (fun hc10=>?_) fun hc10=>?_
  ·refine tSk <| tBk <| tQ <| tG <| sm 1 rfl <| cV rfl (nCk rfl rfl rfl) <| sm 1 rfl <| c0 (sBx rfl rfl rfl rfl ((fun h=>h)) tS4 (rfl) (lb rfl)) <| nL <| tG <| sm 3 rfl <| cV rfl (bPu rfl rfl tZ81 tP81 rfl (fbk rfl) rfl) ?_
   refine cE rfl (cRr (sc_wList f.body hd0 (z28 f.body j) false hok) ent39 rfl rfl (sSm rfl (sSm rfl (Subs.cons (fun _ _ _ _ h=>z4w (p:=.agg [.val (.slice none 0 0),.val (.slice none 0 0),.val (.slice none 0 0)]) (PSub.agg ⟨PSub.nil,PSub.nil,PSub.nil,trivial⟩) h) Subs.nil))) (po2 rfl rfl) (by rfl) (fun k (h:_)=>.inr h) rfl (by rfl)) <| nL ?_
   have hp:=zh0 f.body (z28 f.body j)
   have hin:=(zo7 f.body (j+1)).len
   have hg:g=true:=hc10
   subst hg
   by_cases hgr:zm8 f.body (z28 f.body j)=z28 f.body j
   ·have hl:z3e hd0 (z28 f.body j) f.body=z28 f.body j:=hgr
    refine ⟨_,_,?_,Sub.of (fr':=[(3,.ptr 3001 0),(1,.ptr 101 0),(2,.ptr 102 0)]) ⟨rfl,rfl,rfl,trivial⟩,j,false,?_,?_,rfl,?_,rfl⟩
    ·simp
    ·exact hI0
    ·exact fun _=>hgr
    rw [hl,zq8]
    exact funext (by
      intro j
      try simp only [look]
      by_cases h3001:3001=j
      · subst h3001;rfl
      · by_cases h3002:3002=j
        · subst h3002;rfl
        · by_cases h102:102=j
          · subst h102;rfl
          · by_cases h101:101=j
            · subst h101;rfl
            · simp [wH,wM,look,up,z0c h3001,z0c h3002,z0c h102,z0c h101])
   have hlt:(z28 f.body j).length<(z28 f.body (j+1)).length:=by
     rcases Nat.lt_or_ge (z28 f.body j).length (zm8 f.body (z28 f.body j)).length with h | h
     ·exact h
     exact absurd (hp.eq h) hgr
   have hge:gr (z28 f.body j) (z3e hd0 (z28 f.body j) f.body) false=true:=by
     cases hx:gr (z28 f.body j) (z3e hd0 (z28 f.body j) f.body) false with
     | true=>rfl
     | false=>exact absurd ((gr_false hp).1 hx) hgr
   refine ⟨_,_,?_,Sub.of (fr':=[(3,.ptr 3001 0),(1,.ptr 101 0),(2,.ptr 102 0)]) ⟨rfl,rfl,rfl,trivial⟩,(j+1),true,?_,?_,rfl,?_,rfl⟩
   ·simp only [Bool.toNat_true];omega
   ·omega
   ·exact fun h=>by cases h
   rw [hge]
   exact funext (by
     intro j
     try simp only [look]
     by_cases h3001:3001=j
     · subst h3001;rfl
     · by_cases h3002:3002=j
       · subst h3002;rfl
       · by_cases h102:102=j
         · subst h102;rfl
         · by_cases h101:101=j
           · subst h101;rfl
           · simp [wH,wM,look,up,z0c h3001,z0c h3002,z0c h102,z0c h101])
  refine tEx <| tQ ?_
  have hg:g=false:=hc10
  subst hg
  have hdone:z28 f.body j=wSet f.body:=y8y hI0 (hI1 rfl)
  rw [hdone]
  refine Tr.drawnC z5q (fun k=>k∈([101,102,3001,3002]:List Nat)) [9] <| WC.take (i:=0) [1,2,3,7,8,9] kR0 kR0 kR0 rfl kR0 kR0 kR0 (h30) rfl rfl rfl (z6c rfl rfl) <| WC.take (i:=1) [2,3,7,8,9] kR0 kR0 kR0 rfl kR0 kR0 kR0 (h30) rfl rfl rfl ((nCk rfl rfl rfl)) <| WC.take (i:=2) [3,7,8,9] kR0 kR0 kR0 rfl kR0 kR0 kR0 (h30) rfl rfl rfl ((z0o rfl rfl rfl tF78_0)) <| WC.take (i:=3) [7,8,9] kR0 kR0 kR0 rfl kR0 kR0 kR0 (h30) rfl rfl rfl ((z16 rfl rfl rfl Tryz.underlying76 rfl rfl dC0)) <| WC.take (i:=4) [5,7,8,9] kR0 kR0 kR0 rfl kR0 kR0 kR0 (h30) rfl rfl rfl ((z0o rfl rfl rfl tF51_4)) <| WC.take (i:=5) [7,8,9] kR0 kR0 kR0 rfl kR0 kR0 kR0 (h30) rfl rfl rfl ((z16 rfl rfl rfl uT44 rfl rfl dC0)) <| WC.take (i:=6) [7,8,9] kR0 kR0 kR0 rfl kR0 kR0 kR0 (h30) rfl rfl rfl ((bPu rfl rfl tZ81 tP81 rfl (fbk rfl) rfl)) <| WC.one (i:=7) kR0 <| WIC.op rfl rfl rfl (by intro t h;cases h<;>rfl) (fun k (h:_)=>h.elim) (nAp rfl) (fun ρ w=>cRr (sc_sweep f.body hd0 (wSet f.body) hok hb) ent40 rfl rfl (sSm rfl (sSm rfl (Subs.cons (fun _ _ _ _ h=>z4w (p:=.agg [.val (.slice none 0 0),.val (.slice none 0 0),.val (.slice none 0 0)]) (PSub.agg ⟨PSub.nil,PSub.nil,PSub.nil,trivial⟩) h) Subs.nil))) (po1 rfl) (by rfl) (fun k (h:_)=>by (simp only [List.mem_cons,List.not_mem_nil,or_false] at h;rcases h with rfl | rfl | rfl | rfl<;>first | exact .inl rfl | exact .inr rfl | exact .inr dC0)) rfl (by rfl)) <| WC.take (i:=8) [9] kR0 kR0 kR0 rfl kR0 kR0 kR0 (h30) rfl rfl rfl ((z0o rfl rfl rfl tF51_4)) <| WC.one (i:=9) kR0 ?_
  refine WIC.last (R2:=fun k=>k∈([3002]:List Nat)) kR0 rfl rfl rfl (by intro t h;cases h<;>rfl) (fun k (h:_)=>h.elim) (nOl rfl) (fun ρ w=>(sBx rfl rfl rfl rfl sI0 tS44 (rfl) (lb rfl))) <| wDn kR0 <| tQ <| tG <| cV rfl (lBP rfl rfl rfl Tryz.underlying51 rfl tS51 (lb rfl) rfl trivial) <| c0 (sBA rfl rfl rfl rfl rfl ((fun h=>h)) tS51 (flk rfl) (lb rfl)) <| nL <| tRt <| rCk (.inl rfl) (fun _ _ ho=>lBP ho rfl rfl Tryz.underlying51 rfl tS51 (lb rfl) rfl trivial) rfl nPo
theorem y58 (u:Un) (hW:z0r u<=536870912) (hok:(z4r u).1=0->∀ f∈u.flows,wOkL hd0 f.body=true):SC Tryz.prog 11 [.pv u.enc] [] (fun _=>False) (.tup [.pv (z6d wB u).1.enc,iInt (z6d wB u).2]) []:=by
  refine SC.ofC2 Tryz.func11 rfl (lb rfl) rfl fun F ρ w=>?_
  have hW2:z0r u=u.arrays.length+u.flows.length+wtA u.arrays+wtF u.flows:=rfl
  refine tQ <| tG <| cE rfl (z2n rfl rfl) <| cE rfl (aLc (k:=102) rfl tZ25 rfl rfl rfl rfl) <| sm 1 rfl <| nL <| tQ <| tQ <| tG <| cV rfl (lEA rfl rfl uT25 rfl tS25 (lb rfl)) <| cE rfl (ocq (y8e u hW) ent22 rfl rfl) <| sm 1 rfl ?_
  refine cV rfl (z1e rfl rfl rfl) <| cV rfl (z1e rfl rfl rfl) <| sm 2 rfl <| nL <| tQ <| tG <| sm 2 rfl <| nL ?_
  refine tC rfl (fun hc15=>?_) fun hc15=>?_
  ·refine tQ <| tG <| cV rfl (bPu rfl rfl tZ25 tP25 rfl (fbk rfl) rfl) <| c0 (sBA rfl rfl rfl rfl rfl ((fun h=>h)) tS25 (flk rfl) (lb rfl)) <| sm 1 rfl <| nL <| tRt ?_
   have hz:((z4r u).1==0)=false:=by simpa using hc15
   have hH:z6d wB u=(⟨[],[]⟩,1):=by simp [z6d,hz]
   rw [hH]
   exact ⟨⟨_,_,(fun _ _ ho=>lBP ho rfl rfl uT25 rfl tS25 (lb rfl) rfl trivial),rfl,fun _ _ _ _ h=>tup2_sub (fun _ h=>zx6 h) h⟩,nPo⟩
  ·have hz:(z4r u).1=0:=by simpa using hc15
   have hH:z6d wB u=(z3z wB u,0):=by simp [z6d,hz]
   refine tSk <| tQ <| tG <| sm 2 rfl <| cV rfl (bPu rfl rfl tZ25 tP25 rfl (fbk rfl) rfl) <| cE rfl (aLc (k:=106) rfl tZ25 rfl rfl rfl rfl) <| c0 (sBA rfl rfl rfl rfl rfl ((fun h=>h)) tS25 (flk rfl) (lb rfl)) <| nL <| tQ <| tQ <| Tr.growCell (k:=199) (k2:=106) (j:=1) ⟨51,5⟩ rfl rfl rfl rfl rfl rfl <| tG ?_
   refine sm 2 rfl <| cV rfl (oSm uT23 rfl) <| sm 1 rfl <| nL <| tBk <| Tr.sub (Sub.of (fr':=[(23,iInt 0),(22,iInt u.flows.length),(21,.pv (flws u.flows)),(6,.ptr 106 0),(2,.ptr 102 0)]) ⟨rfl,rfl,rfl,rfl,rfl,trivial⟩) ?_
   refine Tr.heap (σ':=look [(106,some (.box [.pv (arrs u.arrays),.sl 199 (([]:List Fl).map Fl.enc).length])),(199,some (.row ⟨51,5⟩ (([]:List Fl).map Fl.enc))),(102,some (.box [.pv (.val (.slice none 0 0)),.pv (.val (.slice none 0 0))]))]) (by
  intro j
  try simp only [look]
  by_cases h106:106=j
  · subst h106;rfl
  · by_cases h199:199=j
    · subst h199;rfl
    · by_cases h102:102=j
      · subst h102;rfl
      · simp [wH,wM,look,up,z0c h106,z0c h199,z0c h102]) ?_
   refine Tr.loop (fun fr σ m=>∃ (k:Nat) (out:List Fl),(k<=u.flows.length)/\(out++(u.flows.drop k).map (z3y wB)=u.flows.map (z3y wB))/\(out.length=k)/\fr=[(23,iInt k),(22,iInt u.flows.length),(21,.pv (flws u.flows)),(6,.ptr 106 0),(2,.ptr 102 0)] /\ σ = look [(106,some (.box [.pv (arrs u.arrays),.sl 199 (out.map Fl.enc).length])),(199,some (.row ⟨51,5⟩ (out.map Fl.enc))),(102,some (.box [.pv (.val (.slice none 0 0)),.pv (.val (.slice none 0 0))]))]/\m=u.flows.length - k) (n:=u.flows.length - 0) ?_ ?_
   ·exact ⟨0,([]:List Fl),Nat.zero_le _,rfl,rfl,rfl,rfl,rfl⟩
   rintro fr σ m ⟨k,out,hI0,hI1,hI2,rfl,rfl,rfl⟩
   refine tQ <| tG <| sm 1 rfl <| nL <| tQ ?_
   refine tC rfl (fun hc24=>?_) fun hc24=>?_
   ·have hlt:k<u.flows.length:=by simpa using hc24
    have hd:=List.drop_eq_getElem_cons hlt
    have hm:=List.getElem_mem hlt
    have hi:=z06 (f:=Fl.enc) (List.getElem?_eq_getElem hlt)
    generalize u.flows[k]=x at hd hm hi
    have hxok:=hok hz x hm
    have hxb:lsW x.body<=1073741824:=by have:=zh9 hW hm;omega
    have hol:(out.map Fl.enc).length=out.length:=by simp
    refine tSk <| tQ <| tBk <| tQ <| tG <| cV rfl (iSq rfl rfl rfl uT23 hi tS51 rfl (by rfl)) <| cV rfl (lEA rfl rfl Tryz.underlying51 rfl tS51 (lb rfl)) <| cE rfl (aLc (k:=108) rfl tZ51 rfl rfl rfl rfl) <| c0 (sBA rfl rfl rfl rfl rfl ((fun h=>h)) tS51 (flk rfl) (lb rfl)) <| nL <| Tr.freezeBox (t:=8) (k:=108) rfl rfl rfl ?_
    refine Tr.heap (σ':=look [(106,some (.box [.pv (arrs u.arrays),.sl 199 (out.map Fl.enc).length])),(199,some (.row ⟨51,5⟩ (out.map Fl.enc))),(102,some (.box [.pv (.val (.slice none 0 0)),.pv (.val (.slice none 0 0))]))]) (by
      skip
      intro j
      try simp only [look]
      by_cases h108:108=j
      · subst h108;rfl
      · by_cases h106:106=j
        · subst h106;rfl
        · by_cases h199:199=j
          · subst h199;rfl
          · by_cases h102:102=j
            · subst h102;rfl
            · simp [wH,wM,look,up,z0c h108,z0c h106,z0c h199,z0c h102]) ?_
    refine Tr.drawnC z5q (fun k=>k∈([106]:List Nat)) [7] <| WC.take (i:=0) [1,5,6,7] kR0 kR0 kR0 rfl kR0 kR0 kR0 (h30) rfl rfl rfl ((z0o rfl rfl rfl tF25_1)) <| WC.take (i:=1) [5,6,7] kR0 kR0 kR0 rfl kR0 kR0 kR0 (h30) rfl rfl rfl ((z16 rfl rfl rfl uT23 rfl rfl dC0)) <| WC.take (i:=2) [3,4,5,6,7] kR0 kR0 kR0 rfl kR0 kR0 kR0 (h30) rfl rfl rfl ((lEA rfl rfl Tryz.underlying51 rfl tS51 (lb rfl))) <| WC.one (i:=3) kR0 <| WIC.op rfl rfl rfl (by intro t h;cases h<;>rfl) (fun k (h:_)=>h.elim) (fun _ h1 h2=>absurd h1 h2) (fun ρ w=>z1y (sc_wFlow x hxok hxb) ent23 rfl rfl (sRf _ _) rfl) <| WC.one (i:=4) kR0 <| WIC.op rfl rfl rfl (by intro t h;cases h<;>rfl) (fun k (h:_)=>h.elim) (fun _ h1 h2=>absurd h1 h2) (fun ρ w=>bSl rfl rfl uT23 tZ51 tS51 rfl rfl rfl rfl (fbk rfl) rfl) <| WC.one (i:=5) kR0 ?_
    refine WIC.op rfl rfl rfl (by intro t h;cases h<;>rfl) (fun k (h:_)=>h.elim) (nOl rfl) (fun ρ w=>aPp rfl rfl rfl rfl (by rfl) sI0 uT23 tB51 dC0 (by (simp [z07];done)) (y7n _ _ _ _ _) (by simp [maxLen,z07];omega) (by simp [z07];omega)) ?_
    refine WC.take (i:=6) [7] kR0 kR0 kR0 rfl kR0 kR0 kR0 (h30) rfl rfl rfl ((z0o rfl rfl rfl tF25_1)) <| WC.one (i:=7) kR0 <| WIC.last (R2:=fun k=>k∈([]:List Nat)) kR0 rfl rfl rfl (by intro t h;cases h<;>rfl) (fun k (h:_)=>h.elim) (nOl rfl) (fun ρ w=>(sBx rfl rfl rfl rfl sI0 tS23 (⟨_,_,rfl,by simp⟩) (lb rfl))) <| wDn kR0 ?_
    refine Tr.heap (σ':=look [(106,some (.box [.pv (arrs u.arrays),.sl 199 ((out++[z3y wB x]).map Fl.enc).length])),(199,some (.row ⟨51,5⟩ ((out++[z3y wB x]).map Fl.enc))),(102,some (.box [.pv (.val (.slice none 0 0)),.pv (.val (.slice none 0 0))]))]) (by
      rw [y9o,List.length_append]
      intro j
      try simp only [look]
      by_cases h106:106=j
      · subst h106;rfl
      · by_cases h199:199=j
        · subst h199;rfl
        · by_cases h102:102=j
          · subst h102;rfl
          · simp [wH,wM,look,up,z0c h106,z0c h199,z0c h102]) ?_
    refine tG <| cV rfl (oB rfl rfl (z02 rfl oM0)) <| sm 1 rfl <| nL ?_
    refine ⟨_,_,?_,Sub.of (fr':=[(23,iInt (k+1)),(22,iInt u.flows.length),(21,.pv (flws u.flows)),(6,.ptr 106 0),(2,.ptr 102 0)]) ⟨rfl,rfl,rfl,rfl,rfl,trivial⟩,(k+1),(out++[z3y wB x]),?_,?_,?_,rfl,rfl,rfl⟩
    ·omega
    ·omega
    ·rw [List.append_assoc,<- hI1,hd];rfl
    simp [hI2]
   refine tEx <| tQ <| Tr.freezeCell (k:=199) (k2:=106) (j:=1) rfl rfl rfl rfl dC0 <| tG <| cV rfl (lBP rfl rfl rfl uT25 rfl tS25 (lb rfl) rfl trivial) <| c0 (sBA rfl rfl rfl rfl rfl ((fun h=>h)) tS25 (flk rfl) (lb rfl)) <| sm 1 rfl <| nL <| tRt <| retC2_ok (.inl rfl) (fun _ _ ho=>lBP ho rfl rfl uT25 rfl tS25 (lb rfl) rfl trivial) rfl ?_ nPo
   have hge:u.flows.length<=k:=by simpa using hc24
   have hout:out=u.flows.map (z3y wB):=by rw [<- hI1,List.drop_eq_nil_of_le hge];simp
   rw [hH,hout]
   rfl
theorem y5l (N:Nat):∀ (l:List Nd) (v:Int),SizeOf.sizeOf l<N->SC Tryz.prog 41 [.pv (z0e l),iInt v] [] (fun _=>False) (iBool (uL v l)) []:=by
  induction N with
  | zero=>intro l v hN;exact absurd hN (Nat.not_lt_zero _)
  | succ N ih =>
    intro l v hN
    refine SC.of Tryz.func41 rfl (lb rfl) fun F ρ w=>?_
    refine Tr.lenOf (t:=0) rfl (fun hl=>?_)
    simp only [List.length_map] at hl
    refine tQ <| tG <| sm 1 rfl <| nL <| tQ <| tQ <| tG <| sm 1 rfl <| nL <| tBk <| Tr.sub (Sub.of (fr':=[(5,iInt 0),(0,.pv (z0e l)),(1,iInt v)]) ⟨rfl,rfl,rfl,trivial⟩) ?_
    refine Tr.loop (fun fr σ m=>∃ (k:Nat),(k<=l.length)/\(uL v l=uL v (l.drop k))/\fr=[(5,iInt k),(0,.pv (z0e l)),(1,iInt v)] /\ σ = look []/\m=l.length - k) (n:=l.length - 0) ?_ ?_
    ·exact ⟨0,Nat.zero_le _,rfl,rfl,rfl,rfl⟩
    rintro fr σ m ⟨k,hI0,hI1,rfl,rfl,rfl⟩
    refine tQ <| tQ <| tG <| sm 2 rfl <| cV rfl (oSm uT44 rfl) <| sm 1 rfl <| nL ?_
    refine tC rfl (fun hc11=>?_) fun hc11=>?_
    ·have hlt:k<l.length:=by simpa using hc11
     have hd:=List.drop_eq_getElem_cons hlt
     have hm:=List.getElem_mem hlt
     have hi:=z0i (List.getElem?_eq_getElem hlt)
     generalize l[k]=x at hd hm hi
     refine tSk <| tQ <| tBk <| tQ <| tQ <| tG <| sm 1 rfl <| nL <| tBk <| Tr.sub (Sub.of (fr':=[(6,iInt 0),(5,iInt k),(0,.pv (z0e l)),(1,iInt v)]) ⟨rfl,rfl,rfl,rfl,trivial⟩) ?_
     refine Tr.loop (fun fr σ m=>∃ (i:Nat),(i<=x.args.length)/\(x.args.contains v=(x.args.drop i).contains v)/\fr=[(6,iInt i),(5,iInt k),(0,.pv (z0e l)),(1,iInt v)] /\ σ = look []/\m=x.args.length - i) (n:=x.args.length - 0) ?_ ?_
     ·exact ⟨0,Nat.zero_le _,rfl,rfl,rfl,rfl⟩
     rintro fr σ m ⟨i,hJ0,hJ1,rfl,rfl,rfl⟩
     refine tQ <| tQ <| tG <| sm 3 rfl <| cV rfl (iSq rfl rfl rfl uT44 hi tS43 rfl (by rfl)) <| sm 2 rfl ?_
     refine WL.lenOf (t:=19) rfl (fun hl2=>?_)
     simp only [List.length_map] at hl2
     refine cV rfl (oSm uT35 rfl) <| sm 1 rfl <| nL ?_
     refine tC rfl (fun hc21=>?_) fun hc21=>?_
     ·have hlt2:i<x.args.length:=by simpa using hc21
      have hd2:=List.drop_eq_getElem_cons hlt2
      have hm2:=List.getElem_mem hlt2
      have hi2:=z06 (f:=eInt) (List.getElem?_eq_getElem hlt2)
      generalize x.args[i]=y at hd2 hm2 hi2
      refine tSk <| tQ <| tBk <| tQ <| tG <| sm 2 rfl <| cV rfl (iSq rfl rfl rfl uT44 hi tS43 rfl (by rfl)) <| sm 3 rfl <| cV rfl (iSq rfl rfl rfl uT35 hi2 tS3 rfl (by rfl)) <| sm 3 rfl <| nL ?_
      refine tC rfl (fun hc33=>?_) fun hc33=>?_
      ·refine tQ <| tG <| sm 1 rfl <| nL <| tRt <| rOk rfl ?_ nPo
       have hyv:(y==v)=true:=hc33
       have hxa:x.args.contains v=true:=by rw [hJ1,hd2];exact cont_eq hyv
       rw [hI1,hd]
       simp only [uL,uN_eq,hxa,Bool.true_or]
      refine tSk <| tG <| sm 1 rfl <| cV rfl (oB rfl rfl (z02 rfl oM0)) <| sm 1 rfl <| nL ?_
      refine ⟨_,_,?_,Sub.of (fr':=[(6,iInt (i+1)),(5,iInt k),(0,.pv (z0e l)),(1,iInt v)]) ⟨rfl,rfl,rfl,rfl,trivial⟩,(i+1),?_,?_,rfl,rfl,rfl⟩
      ·omega
      ·omega
      rw [hJ1,hd2]
      have hyv:(y==v)=false:=by simpa using hc33
      rw [cont_ne hyv]
     have hxa:x.args.contains v=false:=by
       have hge:x.args.length<=i:=by simpa using hc21
       rw [hJ1,List.drop_eq_nil_of_le hge]
       rfl
     refine tEx <| tQ <| tG <| sm 1 rfl <| nL <| tBk <| Tr.sub (Sub.of (fr':=[(7,iInt 0),(5,iInt k),(0,.pv (z0e l)),(1,iInt v)]) ⟨rfl,rfl,rfl,rfl,trivial⟩) ?_
     refine Tr.loop (fun fr σ m=>∃ (j:Nat),(j<=x.kids.length)/\(uK v x.kids=uK v (x.kids.drop j))/\fr=[(7,iInt j),(5,iInt k),(0,.pv (z0e l)),(1,iInt v)] /\ σ = look []/\m=x.kids.length - j) (n:=x.kids.length - 0) ?_ ?_
     ·exact ⟨0,Nat.zero_le _,rfl,rfl,rfl,rfl⟩
     rintro fr σ m ⟨j,hK0,hK1,rfl,rfl,rfl⟩
     refine tQ <| tQ <| tG <| sm 3 rfl <| cV rfl (iSq rfl rfl rfl uT44 hi tS43 rfl (by rfl)) <| sm 2 rfl ?_
     refine WL.lenOf (t:=39) rfl (fun hl3=>?_)
     simp only [List.length_map] at hl3
     refine cV rfl (oSm uT41 rfl) <| sm 1 rfl <| nL ?_
     refine tC rfl (fun hc41=>?_) fun hc41=>?_
     ·have hlt3:j<x.kids.length:=by simpa using hc41
      have hd3:=List.drop_eq_getElem_cons hlt3
      have hm3:=List.getElem_mem hlt3
      have hi3:=z06 (f:=eKid) (List.getElem?_eq_getElem hlt3)
      generalize x.kids[j]=q at hd3 hm3 hi3
      have hdec:SizeOf.sizeOf q<N:=Nat.lt_of_lt_of_le (z5l hm rfl hm3) (Nat.le_of_lt_succ hN)
      refine tSk <| tQ <| tBk <| tQ <| tG <| sm 2 rfl <| cV rfl (iSq rfl rfl rfl uT44 hi tS43 rfl (by rfl)) <| sm 3 rfl <| cV rfl (iSq rfl rfl rfl uT41 hi3 tS44 rfl (by rfl)) <| sm 2 rfl <| cE rfl (ocq (ih q v hdec) ent41 rfl rfl) <| nL ?_
      refine tC rfl (fun hc53=>?_) fun hc53=>?_
      ·refine tQ <| tG <| sm 1 rfl <| nL <| tRt <| rOk rfl ?_ nPo
       have hq:uL v q=true:=hc53
       rw [hI1,hd]
       simp only [uL,uN_eq,hK1,hd3,uK,hq,Bool.true_or,Bool.or_true]
      refine tSk <| tG <| sm 1 rfl <| cV rfl (oB rfl rfl (z02 rfl oM0)) <| sm 1 rfl <| nL ?_
      refine ⟨_,_,?_,Sub.of (fr':=[(7,iInt (j+1)),(5,iInt k),(0,.pv (z0e l)),(1,iInt v)]) ⟨rfl,rfl,rfl,rfl,trivial⟩,(j+1),?_,?_,rfl,rfl,rfl⟩
      ·omega
      ·omega
      rw [hK1,hd3]
      have hq:uL v q=false:=by simpa using hc53
      simp only [uK,hq,Bool.false_or]
     have hxk:uK v x.kids=false:=by
       have hge:x.kids.length<=j:=by simpa using hc41
       rw [hK1,List.drop_eq_nil_of_le hge]
       rfl
     refine tEx <| tG <| sm 1 rfl <| cV rfl (oB rfl rfl (z02 rfl oM0)) <| sm 1 rfl <| nL ?_
     refine ⟨_,_,?_,Sub.of (fr':=[(5,iInt (k+1)),(0,.pv (z0e l)),(1,iInt v)]) ⟨rfl,rfl,rfl,trivial⟩,(k+1),?_,?_,rfl,rfl,rfl⟩
     ·omega
     ·omega
     rw [hI1,hd]
     simp only [uL,uN_eq,hxa,hxk,Bool.false_or]
    refine tEx <| tQ <| tG <| sm 1 rfl <| nL <| tRt <| rOk rfl ?_ nPo
    have hge:l.length<=k:=by simpa using hc11
    rw [hI1,List.drop_eq_nil_of_le hge]
    rfl
theorem sc_uses (l:List Nd) (v:Int):SC Tryz.prog 41 [.pv (z0e l),iInt v] [] (fun _=>False) (iBool (uL v l)) []:=y5l _ l v (Nat.lt_succ_self _)
set_option maxRecDepth 20000
set_option maxHeartbeats 2000000
def run0 (ins:List Int) (fuel:Int):Rs:={ ins:=ins,ar:=[],st:=0,code:=0,out:=[],cost:=0,fuel:=if fuel<0 then 0 else fuel,spent:=false }
def mEnd (r:Int × Rs):Rs:=if z12 r.2 then r.2 else { r.2 with st:=1,code:=r.1 }
def runv (s:Rs):PV:=.agg [vInt s.st,vInt s.code,ints s.out,vInt s.cost,vInt s.fuel]
theorem yi0 (fs:List Fl) (hW:z0r ⟨[],fs⟩<=536870912) (hz:(z18 ⟨[],fs⟩).1=0) (ins:List Int) (fuel:Int) (d:Nat) (r:Int × Rs) (h:z3r ⟨[],fs⟩ d (z03 z0b fs 0) [] { run0 ins fuel with ar:=[] }=some r):SC Tryz.prog 17 [.pv (Un.enc ⟨[],fs⟩),.pv (ints ins),iInt fuel] [] (fun _=>False) (.pv (runv (mEnd r))) []:=by
  refine SC.anyR (SC.vc tb { gh:=[(5,[.growC 1001 6 1002 3 1]),(12,[.fzC 1001 6 1002])],ids:=[(26,1001),(45,1004),(47,1003)] } [] Tryz.func17 rfl rfl ?_)
  have hub:∀ f∈fs,lsW f.body<=1073741824:=fun f hf=>Nat.le_trans (zh9 (u:=⟨[],fs⟩) hW hf) oM0
  have hcall:=(zk1 ⟨[],fs⟩ hub (d+1)).1 d (Nat.lt_succ_self d) _ _ _ _ h sI0
  have hal:=y96 h
  have hC:=zz9 ⟨[],fs⟩ hW
  rw [hz] at hC
  have hP:=z4g ⟨[],fs⟩ z0b
  obtain ⟨n,ins',ar',st',code',out',cost',fuel',spent'⟩:=r
  obtain rfl:ar'=[]:=List.eq_nil_of_length_eq_zero hal
  have hO:=z4d ⟨[],fs⟩ ⟨ins',[],st',code',out',cost',fuel',spent'⟩
  obtain ⟨ov,hov⟩:∃ b,z12 ⟨ins',[],st',code',out',cost',fuel',spent'⟩=b:=⟨_,rfl⟩
  rw [hov] at hO
  have hend:mEnd (n,⟨ins',[],st',code',out',cost',fuel',spent'⟩)=if ov then (⟨ins',[],st',code',out',cost',fuel',spent'⟩:Rs) else ⟨ins',[],1,n,out',cost',fuel',spent'⟩:=by unfold mEnd;rw [hov]
  rw [hend]
  clear hend
  refine ⟨[],hC,sR,trivial,rfl,Unit,fun _=>[(10,iInt 0)],fun _=>[],fun _=>0,fun _=>True,[],(),trivial,⟨rfl,trivial⟩,trivial,fun _ _=>⟨[],hP,sR,trivial,rfl,[],hcall,SubA.same (SubA.same (SubA.cons sN sR)),⟨rfl,rfl,trivial⟩,rfl,[],hO,sR,⟨rfl,rfl,trivial⟩,rfl,?_⟩⟩
  cases ov with
  | true=>exact ⟨rfl,sI,trivial⟩
  | false=>exact ⟨rfl,sI,trivial⟩
theorem sr_run1 (fs:List Fl) (A:Ar) (hW:z0r ⟨[A],fs⟩<=536870912) (hz:(z18 ⟨[A],fs⟩).1=0) (ins:List Int) (fuel:Int) (d:Nat) (r:Int × Rs) (h:z3r ⟨[A],fs⟩ d (z03 z0b fs 0) [] { run0 ins fuel with ar:=[List.replicate A.size.toNat 0] }=some r) (hsz:0<=A.size/\A.size<=1000):SC Tryz.prog 17 [.pv (Un.enc ⟨[A],fs⟩),.pv (ints ins),iInt fuel] [] (fun _=>False) (.pv (runv (mEnd r))) []:=by
  refine SC.anyR (SC.vc tb { gh:=[(5,[.growC 1001 6 1002 3 1]),(12,[.fzC 1001 6 1002])],ids:=[(26,1001),(45,1004),(47,1003)] } [] Tryz.func17 rfl rfl ?_)
  have hub:∀ f∈fs,lsW f.body<=1073741824:=fun f hf=>Nat.le_trans (zh9 (u:=⟨[A],fs⟩) hW hf) oM0
  have hcall:=(zk1 ⟨[A],fs⟩ hub (d+1)).1 d (Nat.lt_succ_self d) _ _ _ _ h sI0
  have hal:=y96 h
  have hC:=zz9 ⟨[A],fs⟩ hW
  rw [hz] at hC
  have hP:=z4g ⟨[A],fs⟩ z0b
  obtain ⟨n,ins',ar',st',code',out',cost',fuel',spent'⟩:=r
  obtain ⟨q2,rfl⟩:∃ q2,ar'=[q2]:=List.length_eq_one_iff.1 hal
  have hO:=z4d ⟨[A],fs⟩ ⟨ins',[q2],st',code',out',cost',fuel',spent'⟩
  obtain ⟨ov,hov⟩:∃ b,z12 ⟨ins',[q2],st',code',out',cost',fuel',spent'⟩=b:=⟨_,rfl⟩
  rw [hov] at hO
  have hend:mEnd (n,⟨ins',[q2],st',code',out',cost',fuel',spent'⟩)=if ov then (⟨ins',[q2],st',code',out',cost',fuel',spent'⟩:Rs) else ⟨ins',[q2],1,n,out',cost',fuel',spent'⟩:=by unfold mEnd;rw [hov]
  rw [hend]
  clear hend
  have hTl:((A.size:Int))=(A.size.toNat:Nat):=by omega
  refine ⟨[],hC,sR,trivial,rfl,Bool,fun b=>[(10,iInt (if b then 1 else 0))],fun b=>if b then [(1001,rBox ⟨[A],fs⟩ { run0 ins fuel with ar:=[List.replicate A.size.toNat 0] }),(1003,.box [.sl 1004 ((List.replicate A.size.toNat (0:Int)).map eInt).length]),(1004,rowI (List.replicate A.size.toNat 0))] else [(1001,rBox ⟨[A],fs⟩ { run0 ins fuel with ar:=[] })],fun b=>if b then 0 else 1,fun _=>True,[],false,trivial,⟨rfl,trivial⟩,⟨rfl,trivial⟩,fun b _=>?_⟩
  cases b with
  | false =>
    exact ⟨at0 (a:=Ar.enc A),rfl,rfl,hTl,by omega,by simp,rfl,Nat.zero_lt_one,by decide,z02 (m:=0) (n:=1) rfl dC0,true,Nat.zero_lt_one,trivial,⟨rfl,trivial⟩,⟨rfl,boq (show [IV.sl 1004 A.size.toNat]=_ by simp),rwq (by simp [eInt];exact .inr rfl),trivial⟩,rfl,rfl,rfl,rfl⟩
  | true =>
    refine ⟨[],hP,sR,trivial,rfl,[],hcall,SubA.same (SubA.same (SubA.cons sN sR)),⟨rfl,rfl,rfl,rfl,trivial⟩,rfl,[],hO,sR,⟨rfl,rfl,rfl,rfl,trivial⟩,rfl,?_⟩
    cases ov with
    | true=>exact ⟨rfl,sI,trivial⟩
    | false=>exact ⟨rfl,sI,trivial⟩
set_option maxRecDepth 20000
set_option maxHeartbeats 2000000
mutual
theorem nsz_W:∀ x:Nd,nsz x<=ndW x
  | .mk _ _ _ _ _ _ _ ks=>by have:=kdz_W ks;simp only [nsz,ndW];omega
theorem lsz_W:∀ l:List Nd,lsz l<=lsW l
  | []=>Nat.le_refl _
  | x::r=>by have:=nsz_W x;have:=lsz_W r;simp only [lsz,lsW];omega
theorem kdz_W:∀ ks:List (List Nd),kdz ks<=kdW ks
  | []=>Nat.le_refl _
  | l::r=>by have:=lsz_W l;have:=kdz_W r;simp only [kdz,kdW];omega
end
def szK:List Nd->Nat
  | []=>0
  | x::r=>kdz x.kids+szK r
theorem y5r:∀ a b:List Nd,szK (a++b)=szK a+szK b
  | [],b=>by simp [szK]
  | x::r,b=>by simp only [List.cons_append,szK,y5r r b];omega
theorem y4j:∀ a b:List (List Nd),kdz (a++b)=kdz a+kdz b
  | [],b=>by simp [kdz]
  | x::r,b=>by simp only [List.cons_append,kdz,y4j r b];omega
theorem yb9:∀ l:List Nd,lsz l=l.length+szK l
  | []=>rfl
  | x::r=>by simp only [lsz,szK,List.length_cons,zz2,yb9 r];omega
theorem yg4:∀ (N:Nat) (l:List Nd),SizeOf.sizeOf l<N->lsW l<=1073741824->SC Tryz.prog 44 [.pv (z0e l)] [] (fun k=>k∈[]) (iInt (lsz l)) []
  | 0,_,h,_=>absurd h (Nat.not_lt_zero _)
  | N+1,l,hN,hb=>by
    refine SC.vc tb {} [] Tryz.func44 rfl rfl ?_
    have hl:=yb9 l
    have hw:=lsz_W l
    refine ⟨Nat,fun i=>[(4,iInt i),(3,iInt ((l.length+szK (l.take i):Nat)))],fun _=>[],fun i=>l.length - i,fun i=>i<=l.length,[],0,Nat.zero_le _,⟨rfl,ivq (by simp [szK]),trivial⟩,trivial,?_⟩
    intro i hi
    refine z00 (fun hc=>?_) fun hc=>?_
    · have hlt:=z7p (f:=Nd.enc) rfl hc
      obtain ⟨x,hx,ht,hd,hm⟩:=z64 hlt
      have happ:szK l=szK (l.take i)+(kdz x.kids+szK (l.drop (i+1))):=by
        conv=>lhs;rw [<- List.take_append_drop i l,hd]
        rw [y5r];rfl
      have hone:szK (l.take (i+1))=szK (l.take i)+kdz x.kids:=by rw [ht,y5r];simp [szK]
      have hxw:=(@zy9 l).2 x hm
      have hxe:=z8s x
      refine ⟨Nat,fun j=>[(5,iInt j),(3,iInt ((l.length+szK (l.take i)+kdz (x.kids.take j):Nat)))],fun _=>[],fun j=>x.kids.length - j,fun j=>j<=x.kids.length,[],0,Nat.zero_le _,⟨rfl,ivq (by simp [kdz]),trivial⟩,trivial,?_⟩
      intro j hj
      refine ⟨z0i hx,rfl,z00 (fun hc2=>?_) fun hc2=>?_⟩
      · have hlt2:=z7p (f:=eKid) rfl hc2
        obtain ⟨q,hq,ht2,hd2,hm2⟩:=z64 hlt2
        have happ2:kdz x.kids=kdz (x.kids.take j)+(lsz q+kdz (x.kids.drop (j+1))):=by
          conv=>lhs;rw [<- List.take_append_drop j x.kids,hd2]
          rw [y4j];rfl
        have hone2:kdz (x.kids.take (j+1))=kdz (x.kids.take j)+lsz q:=by rw [ht2,y4j];simp [kdz]
        have hqw:=z72 hm2
        have hkl:=kd_len x.kids
        exact ⟨z0i hx,rfl,z06 (f:=eKid) hq,rfl,[],yg4 N q (Nat.lt_of_lt_of_le (z5l hm rfl hm2) (Nat.le_of_lt_succ hN)) oM0,sR,trivial,rfl,z02 rfl oM0,z02 rfl oM0,j+1,z0x hlt2,hlt2,⟨rfl,ivq (by rw [hone2];omega),trivial⟩,trivial,rfl,rfl,rfl,rfl⟩
      · have hge:=z8c (f:=eKid) rfl hc2
        exact ⟨z02 rfl oM0,i+1,z0x hlt,hlt,⟨rfl,ivq (by rw [hone,List.take_of_length_le hge];omega),trivial⟩,trivial,rfl,rfl,rfl,rfl⟩
    · exact ⟨sE (by rw [List.take_of_length_le (z8c (f:=Nd.enc) rfl hc),hl]),trivial⟩
def uSz:List Fl->Nat
  | []=>0
  | f::r=>lsz f.body+uSz r
theorem y5x:∀ a b:List Fl,uSz (a++b)=uSz a+uSz b
  | [],b=>by simp [uSz]
  | x::r,b=>by simp only [List.cons_append,uSz,y5x r b];omega
theorem uSz_W:∀ l:List Fl,uSz l<=wtF l
  | []=>Nat.le_refl _
  | f::r=>by have:=uSz_W r;have:=lsz_W f.body;have:=y6i f.body;simp only [uSz,wtF,z4b];omega
theorem sc_nodes (u:Un) (hW:z0r u<=536870912):SC Tryz.prog 26 [.pv u.enc] [] (fun k=>k∈[]) (iInt (uSz u.flows)) []:=by
  refine SC.vc tb {} [] Tryz.func26 rfl rfl ?_
  have hw:=uSz_W u.flows
  have hw2:wtF u.flows<=z0r u:=by unfold z0r;omega
  have hw3:u.flows.length<=z0r u:=by unfold z0r;omega
  refine ⟨Nat,fun i=>[(4,iInt i),(3,iInt (uSz (u.flows.take i)))],fun _=>[],fun i=>u.flows.length - i,fun i=>i<=u.flows.length,[],0,Nat.zero_le _,⟨rfl,rfl,trivial⟩,trivial,?_⟩
  intro i hi
  refine z00 (fun hc=>?_) fun hc=>?_
  · have hlt:=z7p (f:=Fl.enc) rfl hc
    obtain ⟨f,hf,ht,hd,hm⟩:=z64 hlt
    have happ:uSz u.flows=uSz (u.flows.take i)+(lsz f.body+uSz (u.flows.drop (i+1))):=by
      conv=>lhs;rw [<- List.take_append_drop i u.flows,hd]
      rw [y5x];rfl
    have hone:uSz (u.flows.take (i+1))=uSz (u.flows.take i)+lsz f.body:=by rw [ht,y5x];simp [uSz]
    exact ⟨z06 (f:=Fl.enc) hf,rfl,[],yg4 _ f.body (Nat.lt_succ_self _) (Nat.le_trans (zh9 hW hm) oM0),sR,trivial,rfl,z02 rfl oM0,z02 rfl oM0,i+1,z0x hlt,hlt,⟨rfl,ivq (by rw [hone];omega),trivial⟩,trivial,rfl,rfl,rfl,rfl⟩
  · exact ⟨sE (by rw [List.take_of_length_le (z8c (f:=Fl.enc) rfl hc)]),trivial⟩
theorem sc_ins (l:List Int):SC Tryz.prog 14 [.pv (ints l)] [] (fun k=>k∈[]) (.pv (ints (l.take 10))) []:=by
  refine SC.vc tb {} [] Tryz.func14 rfl rfl ?_
  refine z00 (fun h=>?_) fun h=>?_
  · have h2:(10:Int)<l.length:=by simpa using h
    exact ⟨10,rfl,by omega,by simp;omega,z5k,sE (by simp [ints]),trivial⟩
  · have h2:(l.length:Int)<=10:=by simpa using h
    have:l.length<=10:=by omega
    exact ⟨sE (by rw [List.take_of_length_le this]),trivial⟩
theorem y00 (l:List Int):SC Tryz.prog 42 [.pv (ints l),.pv (ints l)] [] (fun k=>k∈[]) (iBool true) []:=by
  refine SC.vc tb { gh:=[(1,[.len 0])] } [] Tryz.func42 rfl rfl ?_
  intro hl
  simp only [List.length_map] at hl
  refine z00 (fun h1=>absurd h1 sI0) fun _=>?_
  refine ⟨Nat,fun k=>[(5,iInt k)],fun _=>[],fun k=>l.length - k,fun k=>k<=l.length,[],0,Nat.zero_le _,⟨rfl,trivial⟩,trivial,?_⟩
  intro k hk
  refine z00 (fun hc=>?_) fun hc=>?_
  · have hlt:=z7p (f:=eInt) rfl hc
    obtain ⟨x,hx,ht,hd,_⟩:=z64 hlt
    exact ⟨z06 (f:=eInt) hx,rfl,z06 (f:=eInt) hx,rfl,z00 (fun h2=>absurd h2 sI0) fun _=>⟨z02 rfl oM0,k+1,z0x hlt,hlt,⟨rfl,trivial⟩,trivial,rfl,rfl,rfl,rfl⟩⟩
  · exact ⟨sI,trivial⟩
theorem sc_alike (a b:Rs) (h1:b.st=a.st) (h2:b.code=a.code) (h3:b.out=a.out):SC Tryz.prog 43 [.pv (runv a),.pv (runv b)] [] (fun k=>k∈[]) (iBool true) []:=by
  refine SC.vc tb {} [] Tryz.func43 rfl rfl ?_
  have hS:=y00 a.out
  obtain ⟨ins,ar,st,code,out,cost,fuel,spent⟩:=a
  obtain ⟨ins',ar',st',code',out',cost',fuel',spent'⟩:=b
  obtain rfl:st'=st:=h1
  obtain rfl:code'=code:=h2
  obtain rfl:out'=out:=h3
  refine z00 (fun _=>?_) fun h=>absurd h sI0
  refine z00 (fun _=>?_) fun h=>absurd h sI0
  exact ⟨[],hS,sR,trivial,rfl,sI,trivial⟩
def Fol (a b:Rs):Prop:=(a.st=0/\a.out <+: b.out)∨(a.st≠0/\b.st=a.st/\b.code=a.code/\b.out=a.out)
theorem zz8 (a b:Rs) (h:Fol a b) (hb:b.out.length<=1073741824):SC Tryz.prog 25 [.pv (runv a),.pv (runv b)] [] (fun k=>k∈[]) (iBool true) []:=by
  refine SC.vc tb {} [] Tryz.func25 rfl rfl ?_
  rcases h with ⟨h1,h2⟩ | ⟨h1,h2,h3,h4⟩
  · have hS:=y00 a.out
    obtain ⟨ins,ar,st,code,out,cost,fuel,spent⟩:=a
    obtain ⟨ins',ar',st',code',out',cost',fuel',spent'⟩:=b
    obtain rfl:st=0:=h1
    obtain ⟨t,rfl⟩:∃ t,out++t=out':=h2
    refine z00 (fun _=>?_) fun h=>absurd h (by simp;omega)
    exact ⟨out.length,by simp,by omega,by simp,z5k,[],hS,SubA.same (SubA.cons (sE (by simp [ints])) sR),trivial,rfl,sI,trivial⟩
  · have hA:=sc_alike a b h2 h3 h4
    obtain ⟨ins,ar,st,code,out,cost,fuel,spent⟩:=a
    refine z00 (fun h=>absurd (by simpa using h) h1) fun _=>?_
    exact ⟨[],hA,sR,trivial,rfl,sI,trivial⟩
def runA (u:Un) (ins:List Int) (fuel:Int):Rs:={ run0 ins fuel with ar:=u.arrays.map fun a=>List.replicate a.size.toNat 0 }
theorem y10 (u:Un) (ins:List Int) {fuel:Int} (h0:0<=fuel) {B M:Int} (hB:fuel<=B) (hM:fuel<=M):Inv u.arrays.length B M (runA u ins fuel):=by
  have e:(runA u ins fuel).fuel=fuel:=by show (if fuel<0 then 0 else fuel)=fuel;rw [if_neg oM0]
  refine ⟨⟨by rw [e];exact h0,Int.le_refl _,by rw [e];show (0:Int)+fuel<=B;omega⟩,by rw [e];show ((0:Nat):Int)+fuel<=M;omega,by simp [runA]⟩
theorem main_ok {u:Un} (h:(z18 u).1=0):0<=z03 z0b u.flows 0/\∃ g,u.flows[(z03 z0b u.flows 0).toNat]? = some g/\g.params=0:=by
  obtain ⟨h1,_⟩:=(z74 u).1 h
  unfold z13 at h1
  simp only [Bool.and_eq_true] at h1
  have h2:=h1.2
  unfold z6u at h2
  simp only [Bool.and_eq_true,decide_eq_true_eq,beq_iff_eq] at h2
  obtain ⟨⟨h3,h4⟩,h5⟩:=h2
  obtain ⟨j,hj,hjl⟩:=zj5 z0b u.flows 0 oM0 h3
  refine ⟨h3,_,List.getElem?_eq_getElem oM0,?_⟩
  rw [List.getD_eq_getElem?_getD,List.getElem?_eq_getElem oM0] at h5
  exact h5
theorem y11 {u:Un} (hz:(z18 u).1=0) (ins:List Int) {fuel:Int} (h0:0<=fuel) {B M:Int} (hB:B<=4611686018427387903) (hM:M<=1073741824) (hfB:fuel<=B) (hfM:fuel<=M) :
    ∃ d r,z3r u d (z03 z0b u.flows 0) [] (runA u ins fuel)=some r/\Inv u.arrays.length B M r.2:=by
  obtain ⟨m1,g,m2,m3⟩:=main_ok hz
  have hi:=y10 u ins h0 hfB hfM
  have e:(runA u ins fuel).fuel=fuel:=by show (if fuel<0 then 0 else fuel)=fuel;rw [if_neg oM0]
  obtain ⟨r,h1,h2⟩:=(yi8 hB hM rfl (vf_of hz) (3*fuel.toNat+2)).2.2.1 _ [] _ m1 ⟨g,m2,by rw [m3];rfl⟩ hi (by rw [e];omega)
  exact ⟨_,r,h1,h2⟩
structure URel (u v:Un):Prop where
  ar:v.arrays=u.arrays
  pl:∀ name,z03 name v.flows 0=z03 name u.flows 0
  fl:∀ (i:Nat) f g,u.flows[i]? = some f->v.flows[i]? = some g->FRel (uSz u.flows) f g
theorem yj6:∀ {l:List Fl} {f:Fl},f∈l->lsz f.body<=uSz l
  | g::r,f,h=>by
    rcases List.mem_cons.1 h with rfl | h
    ·simp only [uSz];omega
    have:=yj6 h;simp only [uSz];omega
theorem y6s (m:Bool) {u v:Un} (R:URel u v) (ins:List Int) {F F':Int} (h0:0<=F) (h0':0<=F') {B M:Int} (hB:B<=4611686018427387903) (hfB:F<=B) (hfB':F'<=B) (hfM:F<=M) (hfM':F'<=M)
    (hG:G m (uSz u.flows) 0 (uSz u.flows+1) F F') {d d':Nat} {q q':Int × Rs} (h:z3r u d (z03 z0b u.flows 0) [] (runA u ins F)=some q) (h':z3r v d' (z03 z0b v.flows 0) [] (runA v ins F')=some q'):RC m (uSz u.flows) q q':=by
  have e:∀ (u:Un) {fuel:Int},0<=fuel->(runA u ins fuel).fuel=fuel:=fun u fuel h0=>by show (if fuel<0 then 0 else fuel)=fuel;rw [if_neg oM0]
  rw [R.pl] at h'
  refine y1x (B:=B) hB R.ar R.pl R.fl (d+1) d d' _ [] _ _ _ _ (Nat.lt_succ_self _) h h' (y10 u ins h0 hfB hfM).ok (y10 v ins h0' hfB' hfM').ok ⟨⟨⟨rfl,rfl⟩,⟨rfl,rfl⟩,rfl,?_,rfl,rfl⟩,?_,?_⟩
  ·simp only [runA,R.ar]
  ·rw [e u h0,e v h0'];exact hG
  exact Int.le_refl _
theorem z9b {q:Int × Rs} (h:z12 q.2=true):mEnd q=q.2:=if_pos h
theorem zn0 {q:Int × Rs} (h:Live q.2):mEnd q={ q.2 with st:=1,code:=q.1 }:=if_neg (by rw [z0u h];decide)
theorem zh7 (q:Int × Rs):(mEnd q).out=q.2.out:=by unfold mEnd;split<;>rfl
theorem rc_fol {N:Nat} {q q':Int × Rs} (h:RC true N q q'):Fol (mEnd q) (mEnd q')/\((mEnd q).st≠0->(mEnd q').cost<=(mEnd q).cost/\(mEnd q).fuel<=(mEnd q').fuel):=by
  cases h with
  | ok hv hr =>
    rw [zn0 hr.al.l,zn0 hr.al.l']
    have hg:=hr.g
    unfold G at hg
    simp only [if_true] at hg
    have hc:=hr.co
    exact ⟨.inr ⟨show (1:Int)≠0 by decide,rfl,hv,hr.al.out⟩,fun _=>⟨by simpa using hc,by simpa using hg⟩⟩
  | halt hh =>
    obtain ⟨o1,o2⟩:=hh.over
    rw [z9b o1,z9b o2]
    exact ⟨.inr ⟨hh.st,hh.st',hh.code,hh.out⟩,fun _=>⟨hh.co,hh.fu rfl⟩⟩
  | cut hc =>
    unfold Cut at hc
    simp only [if_true] at hc
    have e:=z9b (z61 hc.1)
    refine ⟨.inl ⟨by rw [e];exact hc.2.1,by rw [zh7,zh7];exact hc.2.2⟩,fun h=>absurd (by rw [e];exact hc.2.1) h⟩
theorem rc_fol2 {N:Nat} {q q':Int × Rs} (h:RC false N q q'):Fol (mEnd q') (mEnd q):=by
  cases h with
  | ok hv hr =>
    rw [zn0 hr.al.l,zn0 hr.al.l']
    exact .inr ⟨show (1:Int)≠0 by decide,rfl,hv.symm,hr.al.out.symm⟩
  | halt hh =>
    obtain ⟨o1,o2⟩:=hh.over
    rw [z9b o1,z9b o2]
    exact .inr ⟨by rw [hh.st'];exact hh.st,hh.st'.symm,hh.code.symm,hh.out.symm⟩
  | cut hc =>
    unfold Cut at hc
    simp only [Bool.false_eq_true,if_false] at hc
    have e:=z9b (z61 hc.1)
    exact .inl ⟨by rw [e];exact hc.2.1,by rw [zh7,zh7];exact hc.2.2⟩
def EqW (s S:List Int):VR:=fun a b=>∀ x∈S,x∈s->getV a x=getV b x
def WE (s:List Int) (h:Hd) (y lv:Bool) (S0 S1:List Int):ER:=fun n p p' a b =>
  (n=12/\y=true/\p.length=h.yield.length/\p'=z0m s p h.yield/\EqW s S0 a b)∨(n=13/\p.length=h.next.length/\p'=z0m s p h.next/\EqW s S1 a b) ∨
  (n=14/\lv=true/\p.length=h.left.length/\p'=z0m s p h.left/\EqW s S1 a b)∨(n=15/\p'=p)
theorem EqW.sub {s S T:List Int} {a b:List Int} (h:EqW s S a b) (ht:∀ x∈T,x∈S):EqW s T a b:=fun x hx hs=>h x (ht x hx) hs
theorem zr2:∀ {a l p:List Int},mOf a l=some p->p.length=l.length
  | _,[],_,h=>by cases h;rfl
  | a,i::r,p,h=>by
    simp only [mOf,Option.bind_eq_some_iff,Option.map_eq_some_iff] at h
    obtain ⟨y,_,q,h2,rfl⟩:=h
    simp [zr2 h2]
theorem zn7 {s:List Int} {a b:List Int}:∀ {l to p:List Int},mOf a l=some p->(∀ v∈z0m s l to,getV a v=getV b v)->mOf b (z0m s l to)=some (z0m s p to)
  | [],to,p,h,_=>by cases h;rfl
  | i::r,[],p,h,_=>by
    simp only [mOf,Option.bind_eq_some_iff,Option.map_eq_some_iff] at h
    obtain ⟨y,_,q,h2,rfl⟩:=h
    simp [z0m,mOf]
  | i::r,t::to,p,h,hk=>by
    simp only [mOf,Option.bind_eq_some_iff,Option.map_eq_some_iff] at h
    obtain ⟨y,h1,q,h2,rfl⟩:=h
    unfold z0m at hk ⊢
    split
    ·rename_i ht
     rw [if_pos ht] at hk
     simp only [mOf,Option.bind_eq_some_iff,Option.map_eq_some_iff]
     exact ⟨y,by rw [<- hk i (.head _)];exact h1,_,zn7 h2 fun v hv=>hk v (.tail _ hv),rfl⟩
    rename_i ht
    rw [if_neg ht] at hk
    exact zn7 h2 hk
theorem EqW.mset {s:List Int}:∀ {o p S a b a2 b2:List Int},EqW s S a b->p.length=o.length->mSet a o p=some a2->mSet b (z0m s o o) (z0m s p o)=some b2->EqW s (S++o) a2 b2
  | [],p,S,a,b,a2,b2,h,hl,h1,h2=>by
    cases h1
    have:p=[]:=List.eq_nil_of_length_eq_zero hl
    subst this
    cases h2;simpa using h
  | i::r,[],S,a,b,a2,b2,h,hl,h1,h2=>by simp at hl
  | i::r,y::p,S,a,b,a2,b2,h,hl,h1,h2=>by
    obtain ⟨y',p',a1,e,g1,g2⟩:=zr3 h1
    obtain ⟨rfl,rfl⟩:=List.cons.inj e
    have hl':p.length=r.length:=by simpa using hl
    unfold z0m at h2
    by_cases hi:s.contains i=true
    ·rw [if_pos hi,if_pos hi] at h2
     obtain ⟨y'',p'',b1,e,g1',g2'⟩:=zr3 h2
     obtain ⟨rfl,rfl⟩:=List.cons.inj e
     have h3:EqW s (S++[i]) a1 b1:=fun x hx hs=>by
       rw [z9d g1,z9d g1']
       by_cases e:x=i
       ·rw [if_pos e,if_pos e]
       rw [if_neg e,if_neg e]
       rcases List.mem_append.1 hx with hx | hx
       ·exact h x hx hs
       exact absurd (List.mem_singleton.1 hx) e
     have:=EqW.mset h3 hl' g2 g2'
     simpa using this
    rw [if_neg hi,if_neg hi] at h2
    have h3:EqW s (S++[i]) a1 b:=fun x hx hs=>by
      have e:x≠i:=fun e=>hi (List.contains_iff_mem.2 (e ▸ hs))
      rw [z9d g1,if_neg e]
      rcases List.mem_append.1 hx with hx | hx
      ·exact h x hx hs
      exact absurd (List.mem_singleton.1 hx) e
    have:=EqW.mset h3 hl' g2 h2
    simpa using this
theorem EqW.seto {s S outs a b a2 b2:List Int} {y:Int} (h:EqW s S a b) (ho:outs.length<=1) (h1:setO outs a y a2) (h2:setO outs b y b2):EqW s (S++outs) a2 b2:=by
  cases outs with
  | nil=>obtain rfl:a2=a:=h1;obtain rfl:b2=b:=h2;simpa using h
  | cons o os =>
    have:os=[]:=List.eq_nil_of_length_eq_zero (by simpa using ho)
    subst this
    intro x hx hs
    rw [z9d h1,z9d h2]
    by_cases e:x=o
    ·rw [if_pos e,if_pos e]
    rw [if_neg e,if_neg e]
    rcases List.mem_append.1 hx with hx | hx
    ·exact h x hx hs
    exact absurd (List.mem_singleton.1 hx) e
theorem zd9 (s:List Int):∀ (l to:List Int),∀ v∈z0m s l to,v∈l
  | [],to,v,h=>by simp [z0m] at h
  | i::r,[],v,h=>by simp [z0m] at h
  | i::r,t::to,v,h=>by
    unfold z0m at h
    split at h
    ·rcases List.mem_cons.1 h with rfl | h
     ·exact .head _
     exact .tail _ (zd9 s r to v h)
    exact .tail _ (zd9 s r to v h)
theorem z8m {u:Un} {f:Fl} {s:List Int} (hu:∀ g∈u.flows,VF u g):∀ (N:Nat) (l:List Nd),SizeOf.sizeOf l<N->∀ (deep:Int) (i lp:Bool) (h:Hd) (S:List Int) (y lv:Bool) (S0 S1:List Int),
    l≠[]->HdIn f h->z3e h s l=s->vGo u f deep (whOf f i lp h) S l=true->(∀ v∈S0,v∈S)->(∀ v∈S1,v∈S)->(z1b l=12->y=true)->(z0h l=true->lv=true)->LRel 0 0 (EqW s S) l [] (z1m s h l) (WE s h y lv S0 S1)
  | 0,_,hN,_,_,_,_,_,_,_,_,_,_,_,_,_,_,_,_,_=>absurd hN (Nat.not_lt_zero _)
  | N+1,[],_,_,_,_,_,_,_,_,_,_,hne,_,_,_,_,_,_,_=>absurd rfl hne
  | N+1,x::l,hN,deep,i,lp,h,S,y,lv,S0,S1,_,hi,hw,hv,s0,s1,hy,hlv=>by
    have hsl:SizeOf.sizeOf l<N:=by have:SizeOf.sizeOf (x::l)=1+SizeOf.sizeOf x+SizeOf.sizeOf l:=rfl;omega
    have hkid:∀ q∈x.kids,SizeOf.sizeOf q<N:=fun q hq=>Nat.lt_of_lt_of_le (z5l (l:=x::l) (.head _) rfl hq) (Nat.le_of_lt_succ hN)
    have hv0:=hv
    unfold vGo at hv
    simp only [Bool.and_eq_true,beq_iff_eq] at hv
    obtain ⟨⟨⟨_,v2⟩,v3⟩,v4⟩:=hv
    have hb:=z3u u f deep _ S v2
    have hw0:=hw
    unfold z3e at hw
    obtain ⟨e1,_⟩:=Pre.two (z99 x h s) (z2t l h _) hw
    rw [e1] at hw
    rw [show z1m s h (x::l)=z1f s h x++z1m s h l by rw [z1m]]
    rw [z6y] at e1
    rw [z52]
    have rest:∀ (hl:l≠[]),LRel 0 0 (EqW s (S++x.outs)) l [] (z1m s h l) (WE s h y lv S0 S1):=fun hl =>
      z8m hu N l hsl deep i lp h _ y lv S0 S1 hl hi hw v4 (fun v hv=>List.mem_append_left _ (s0 v hv)) (fun v hv=>List.mem_append_left _ (s1 v hv)) (fun e=>hy (by rw [y6j hl];exact e)) fun e=>hlv (by simp [z0h,e])
    by_cases h10:x.kind=10
    ·have n12:¬ (x.kind==12)=true:=by simp [h10]
     have n13:¬ (x.kind==13)=true:=by simp [h10]
     have n14:¬ (x.kind==14)=true:=by simp [h10]
     have p10:(x.kind==10)=true:=by simp [h10]
     rw [if_neg n12,if_neg n13,if_neg n14,if_pos p10] at e1 ⊢
     obtain ⟨q0,q1,hk⟩:=z36 hb h10
     obtain ⟨f1,_⟩:=Pre.two (z34 x.args s) (z4u x.kids _ _) e1
     rw [f1,hk] at e1
     simp only [z83] at e1
     obtain ⟨f3,_⟩:=Pre.two (z2t q0 _ s) (z2t q1 _ _) e1
     rw [f3] at e1
     rw [z54 u f deep _ S hb h10 hk,w1_of] at v2
     simp only [Bool.and_eq_true,z2s] at v2
     have hargs:=z22 v2.1.1.1.1
     have hwa:=zg7 f1
     have hin:HdIn f ⟨x.outs,h.next,h.left⟩:=⟨z19 v2.2,hi.2⟩
     have hcl:z04 x=((z1b q0 != 12)&&(z1b q1 != 12)):=by simp [z04,h10,hk,kid0,kid1]
     have hlq:∀ q,q=q0∨q=q1->z0h q=true->lv=true:=fun q hq' e=>hlv (by
       have:z1w x=true:=by rw [z2k,h10,hk];rcases hq' with rfl | rfl<;>simp [z2d,e]
       simp [z0h,this])
     have harg:∀ a b p p',EqW s S a b->mOf a x.args=some p->mOf b x.args=some p'->p'[0]? = p[0]?:=fun a b p p' hI g g'=>by
       rw [yc0 fun v hv=>hI v (hargs v hv) (hwa v hv),g'] at g;rw [Option.some.inj g]
     have hks:z4v s ⟨x.outs,h.next,h.left⟩ x.kids=[z1m s ⟨x.outs,h.next,h.left⟩ q0,z1m s ⟨x.outs,h.next,h.left⟩ q1]:=by rw [hk];simp [z4v]
     rw [hks]
     have kid:∀ (yy:Bool) q,(q=q0∨q=q1)->(z1b q=12->yy=true)->LRel 0 0 (EqW s S) q [] (z1m s ⟨x.outs,h.next,h.left⟩ q) (WE s ⟨x.outs,h.next,h.left⟩ yy lv S S1):=by
       intro yy q hq hyy
       rcases hq with rfl | rfl
       ·exact z8m hu N q (hkid q (by rw [hk];simp)) _ _ _ _ S yy lv S S1 (by simpa using v2.1.1.1.2.1) hin f3 v2.1.1.1.2.2 (fun _ h=>h) s1 hyy (hlq q (.inl rfl))
       exact z8m hu N q (hkid q (by rw [hk];simp)) _ _ _ _ S yy lv S S1 (by simpa using v2.1.1.2.1) hin e1 v2.1.1.2.2 (fun _ h=>h) s1 hyy (hlq q (.inr rfl))
     have other:∀ {yy:Bool} {n:Int} {p p' a b:List Int},n≠12->WE s ⟨x.outs,h.next,h.left⟩ yy lv S S1 n p p' a b->n≠12/\n≠0/\(([]:List KF)=[]∨n=15)/\WE s h y lv S0 S1 n p p' a b:=by
       intro yy n p p' a b hn he
       rcases he with ⟨e,_⟩ | e | e | e
       ·exact absurd e hn
       ·exact ⟨hn,by rw [e.1];decide,.inl rfl,.inr (.inl e)⟩
       ·exact ⟨hn,by rw [e.1];decide,.inl rfl,.inr (.inr (.inl e))⟩
       exact ⟨hn,by rw [e.1];decide,.inl rfl,.inr (.inr (.inr e))⟩
     cases hcx:z04 x with
     | true =>
       rw [hcx] at hcl
       have hcl2:z1b q0≠12/\z1b q1≠12:=by simpa using hcl.symm
       refine .ite (J:=fun _ _=>False) (E2:=WE s ⟨x.outs,h.next,h.left⟩ false lv S S1) h10 h10 hk rfl harg (kid false q0 (.inl rfl) fun e=>absurd e hcl2.1) (kid false q1 (.inr rfl) fun e=>absurd e hcl2.2) (fun n p p' a b he=>?_) (.dead fun _ _ h=>h)
       by_cases hn:n=12
       ·rcases he with ⟨_,e,_⟩ | ⟨e,_⟩ | ⟨e,_⟩ | ⟨e,_⟩
        ·cases e
        all_goals rw [e] at hn;exact absurd hn dC0
       exact .inr (other hn he)
     | false =>
       have hl:l≠[]:=by rw [hcx] at v3;intro e;rw [e] at v3;cases v3
       refine .ite (J:=EqW s (S++x.outs)) (E2:=WE s ⟨x.outs,h.next,h.left⟩ true lv S S1) h10 h10 hk rfl harg (kid true q0 (.inl rfl) fun _=>rfl) (kid true q1 (.inr rfl) fun _=>rfl) (fun n p p' a b he=>?_) (rest hl)
       by_cases hn:n=12
       ·rcases he with ⟨e,_,e2,rfl,e3⟩ | ⟨e,_⟩ | ⟨e,_⟩ | ⟨e,_⟩
        ·exact .inl ⟨e,fun a2 b2 g g'=>e3.mset e2 g g'⟩
        all_goals rw [e] at hn;exact absurd hn dC0
       exact .inr (other hn he)
    by_cases h11:x.kind=11
    ·have n12:¬ (x.kind==12)=true:=by simp [h11]
     have n13:¬ (x.kind==13)=true:=by simp [h11]
     have n14:¬ (x.kind==14)=true:=by simp [h11]
     have n10:¬ (x.kind==10)=true:=by simp [h11]
     have p11:(x.kind==11)=true:=by simp [h11]
     rw [if_neg n12,if_neg n13,if_neg n14,if_neg n10,if_pos p11] at e1 ⊢
     obtain ⟨q,hk⟩:=z1t hb h11
     obtain ⟨f1,_⟩:=Pre.two (z2f x.args x.params s) (z4u x.kids _ _) e1
     rw [f1,hk] at e1
     simp only [z83] at e1
     rw [z37 u f deep _ S hb h11 hk,w2_of] at v2
     simp only [Bool.and_eq_true,z2s] at v2
     have hargs:=z22 v2.1.1.1.1
     have hp:inR f.types.length x.params:=z19 v2.1.1.1.2
     have hpl:x.args.length=x.params.length:=zv2 hp v2.1.1.1.1
     have hin:HdIn f ⟨[],x.params,x.outs⟩:=⟨fun v hv=>by simp at hv,hp,z19 v2.2⟩
     have hcl:z04 x = !z0h q:=by simp [z04,h11,hk,kid0]
     have hqne:q≠[]:=by simpa using v2.1.1.2.1
     have hks:z4v s ⟨[],x.params,x.outs⟩ x.kids=[z1m s ⟨[],x.params,x.outs⟩ q]:=by rw [hk];simp [z4v]
     rw [hks]
     have body:LRel 0 0 (EqW s (S++x.params)) q [] (z1m s ⟨[],x.params,x.outs⟩ q) (WE s ⟨[],x.params,x.outs⟩ false (z0h q) [] S) :=
       z8m hu N q (hkid q (by rw [hk];simp)) _ _ _ _ (S++x.params) false (z0h q) [] S hqne hin e1 v2.1.1.2.2 (fun _ h=>by simp at h) (fun v hv=>List.mem_append_left _ hv) (fun e=>by have:=yb6 v2.1.1.2.2 e;cases this) (fun e=>e)
     have hh:=z50 f1
     have ent:∀ a b p p' a2 b2,EqW s S a b->mOf a x.args=some p->mOf b (z0m s x.args x.params)=some p'->mSet a x.params p=some a2->mSet b (z0m s x.params x.params) p'=some b2->EqW s (S++x.params) a2 b2:=by
       intro a b p p' a2 b2 hI g g' t t'
       have hsub:∀ v∈z0m s x.args x.params,v∈x.args:=zd9 s x.args x.params
       rw [zn7 g fun v hv=>hI v (hargs v (hsub v hv)) (hh v hv)] at g'
       cases g'
       exact hI.mset ((zr2 g).trans hpl) t t'
     cases hcx:z04 x with
     | true =>
       rw [hcx] at hcl
       refine .loop (J:=fun _ _=>False) (E2:=WE s ⟨[],x.params,x.outs⟩ false (z0h q) [] S) h11 h11 hk rfl ent body (fun n p p' a b he=>?_) (.dead fun _ _ h=>h)
       rcases he with ⟨_,e,_⟩ | ⟨e1,e2,rfl,e3⟩ | ⟨_,e2,_⟩ | ⟨e1,e2⟩
       ·cases e
       ·exact .inr (.inr ⟨e1,fun a2 b2 t t'=>e3.mset e2 t t'⟩)
       ·rw [e2] at hcl;cases hcl
       exact .inl ⟨e1,.inr (.inr (.inr ⟨rfl,e2⟩))⟩
     | false =>
       have hl:l≠[]:=by rw [hcx] at v3;intro e;rw [e] at v3;cases v3
       refine .loop (J:=EqW s (S++x.outs)) (E2:=WE s ⟨[],x.params,x.outs⟩ false (z0h q) [] S) h11 h11 hk rfl ent body (fun n p p' a b he=>?_) (rest hl)
       rcases he with ⟨_,e,_⟩ | ⟨e1,e2,rfl,e3⟩ | ⟨e1,_,e2,rfl,e3⟩ | ⟨e1,e2⟩
       ·cases e
       ·exact .inr (.inr ⟨e1,fun a2 b2 t t'=>e3.mset e2 t t'⟩)
       ·exact .inr (.inl ⟨e1,fun a2 b2 t t'=>e3.mset e2 t t'⟩)
       exact .inl ⟨e1,.inr (.inr (.inr ⟨rfl,e2⟩))⟩
    have e10:(x.kind==10)=false:=by simpa using h10
    have e11:(x.kind==11)=false:=by simpa using h11
    rw [z1i u f deep _ S hb e10 e11] at v2
    obtain ⟨a1,a2,a3,a4,a5⟩:=zu9 v2
    obtain ⟨_,_,_,_,t12,t13,t14,_⟩:=smp_ok hu v2
    have cl:z04 x=z0p x.kind:=by unfold z04;rw [e10,e11];rfl
    have endNil:z0p x.kind=true->l=[]:=fun e=>by
      rw [cl,e] at v3
      cases l with
      | nil=>rfl
      | cons z r=>cases v3
    have handed:∀ (to:List Int) a b p p',z0y s x.args to=s->EqW s S a b->mOf a x.args=some p->mOf b (z0m s x.args to)=some p'->p'=z0m s p to:=by
      intro to a b p p' hh hI g g'
      have hsub:∀ v∈z0m s x.args to,v∈x.args:=zd9 s x.args to
      rw [zn7 g fun v hv=>hI v (a1 v (hsub v hv)) (z50 hh v hv)] at g'
      exact (Option.some.inj g').symm
    by_cases h12:x.kind=12
    ·have p12:(x.kind==12)=true:=by simp [h12]
     rw [if_pos p12] at e1 ⊢
     have hl0:=endNil (by rw [h12];rfl)
     refine .ender oM0 oM0 rfl (.inl rfl) fun a b p p' hI g g'=>.inl ⟨h12,hy (by rw [hl0,y6d,h12];rfl),?_,handed _ a b p p' e1 hI g g',hI.sub s0⟩
     rw [zr2 g,(t12 h12).2];exact z7w hi.1
    rw [if_neg (by simpa using h12)] at e1 ⊢
    by_cases h13:x.kind=13
    ·have p13:(x.kind==13)=true:=by simp [h13]
     rw [if_pos p13] at e1 ⊢
     refine .ender (by show (12:Int)<=x.kind;omega) oM0 rfl (.inl rfl) fun a b p p' hI g g'=>.inr (.inl ⟨h13,?_,handed _ a b p p' e1 hI g g',hI.sub s1⟩)
     rw [zr2 g,t13 h13];exact z7w hi.2.1
    rw [if_neg (by simpa using h13)] at e1 ⊢
    by_cases h14:x.kind=14
    ·have p14:(x.kind==14)=true:=by simp [h14]
     rw [if_pos p14] at e1 ⊢
     refine .ender (by show (12:Int)<=x.kind;omega) oM0 rfl (.inl rfl) fun a b p p' hI g g'=>.inr (.inr (.inl ⟨h14,hlv (by simp [z0h,z2k,h14]),?_,handed _ a b p p' e1 hI g g',hI.sub s1⟩))
     rw [zr2 g,t14 h14];exact z7w hi.2.2
    rw [if_neg (by simpa using h14),if_neg (by simpa using h10),if_neg (by simpa using h11)] at e1 ⊢
    by_cases hd:(z0v x && !s.contains (x.outs.headD 0))=true
    ·rw [if_pos hd,List.nil_append]
     simp only [Bool.and_eq_true,Bool.not_eq_true'] at hd
     obtain ⟨hHL,o,ho⟩:=a3 hd.1
     have hl:l≠[]:=by rw [(z68 hd.1).2.2.1] at v3;intro e;rw [e] at v3;cases v3
     refine .skip (J:=EqW s (S++x.outs)) hHL (fun a b a2' hI ha=>?_) (rest hl)
     obtain ⟨p,z,o1,_,_,g3,g4⟩:=ha
     rw [ho] at g3 ⊢
     obtain rfl:o=o1:=by simpa using g3
     have hos:o∉s:=fun h=>by
       rw [ho] at hd
       have:=hd.2
       simp [h] at this
     intro v hv hs
     have e:v≠o:=fun e=>hos (e ▸ hs)
     rw [z9d g4,if_neg e]
     rcases List.mem_append.1 hv with hv | hv
     ·exact hI v hv hs
     exact absurd (List.mem_singleton.1 hv) e
    rw [if_neg hd]
    have hc:(!z0v x||s.contains (x.outs.headD 0))=true:=by
      cases h1:z0v x<;>cases h2:s.contains (x.outs.headD 0)<;>simp_all
    rw [if_pos hc] at e1
    have hwa:=zg7 e1
    have hof:∀ {a b},EqW s S a b->mOf a x.args=mOf b x.args:=fun hI=>yc0 fun v hv=>hI v (a1 v hv) (hwa v hv)
    rw [List.singleton_append]
    cases hm:z0v x with
    | true =>
      obtain ⟨hHL,o,ho⟩:=a3 hm
      have hl:l≠[]:=by rw [(z68 hm).2.2.1] at v3;intro e;rw [e] at v3;cases v3
      refine .both (J:=EqW s (S++x.outs)) hHL hHL (Nat.le_refl _) (fun a b a2' b2' hI ha hb2=>?_) (rest hl)
      obtain ⟨p,z,o1,g1,g2,g3,g4⟩:=ha
      obtain ⟨p',z',o1',g1',g2',g3',g4'⟩:=hb2
      rw [hof hI,g1'] at g1
      cases g1
      rw [g2'] at g2;cases g2
      obtain rfl:o1=o1':=by rw [g3] at g3';exact Option.some.inj g3'
      rw [ho] at g3 ⊢
      obtain rfl:o=o1:=by simpa using g3
      exact hI.seto (outs:=[o]) sI0 g4 g4'
    | false =>
      have n1:x.kind≠1:=fun e=>by rw [z0v,e] at hm;cases hm
      have n2:x.kind≠2:=fun e=>by rw [z0v,e] at hm;cases hm
      by_cases h15:x.kind=15
      ·refine .ender oM0 oM0 rfl (.inl rfl) fun a b p p' hI g g'=>.inr (.inr (.inr ⟨h15,?_⟩))
       rw [hof hI,g'] at g;exact Option.some.inj g
      have hE:¬ 12<=x.kind:=fun h=>by have:=a5 h;omega
      have hl:l≠[]:=by
        rw [cl,show z0p x.kind=false by simp [z0p];omega] at v3
        intro e;rw [e] at v3;cases v3
      refine .eff (J:=EqW s (S++x.outs)) ⟨n1,n2,h10,h11,h12,h13,h14,h15⟩ rfl rfl rfl rfl (fun a b p p' hI g g'=>?_) (fun a b a2' b2' z hI ha hb2=>hI.seto a2 ha hb2) (rest hl)
      rw [hof hI,g'] at g;exact Option.some.inj g
theorem ym1 {u:Un} (hz:(z18 u).1=0) {f:Fl} (hf:f∈u.flows):FRel (uSz u.flows) f (z3y wB f):=by
  refine ⟨rfl,yj6 hf,?_⟩
  obtain ⟨v1,_⟩:=vf_of hz f hf
  simp only [z2s,Bool.and_eq_true] at v1
  have hr:=z8m (u:=u) (f:=f) (s:=wSet f.body) (vf_of hz) _ f.body (Nat.lt_succ_self _) 1 false false hd0 (iota f.params.toNat) true true [] [] (by simpa using v1.1) (hd0_in f) (y77 f.body) v1.2 (fun _ h=>by simp at h) (fun _ h=>by simp at h) (fun _=>rfl) fun _=>rfl
  refine .weak (fun a b h=>?_) (hr.monoE fun n p p' a b h=>?_)
  ·rw [h.1];exact fun _ _ _=>rfl
  unfold EF
  rcases h with ⟨_,_,e,rfl,_⟩ | ⟨_,e,rfl,_⟩ | ⟨_,_,e,rfl,_⟩ | ⟨_,rfl⟩
  ·have:p=[]:=List.eq_nil_of_length_eq_zero e
   subst this;rfl
  ·have:p=[]:=List.eq_nil_of_length_eq_zero e
   subst this;rfl
  ·have:p=[]:=List.eq_nil_of_length_eq_zero e
   subst this;rfl
  rfl
theorem want_rel {u:Un} (hz:(z18 u).1=0):URel u (z3z wB u):=by
  refine ⟨rfl,fun name=>zj3 wB name u.flows 0,fun i f g h h'=>?_⟩
  have:(z3z wB u).flows[i]? = (u.flows[i]?).map (z3y wB):=List.getElem?_map ..
  rw [h',h] at this
  obtain rfl:g=z3y wB f:=Option.some.inj this
  exact ym1 hz (List.mem_of_getElem? h)
section
structure Gn where
  pos:Nat
  types:List Int
  left:Nat
structure Plc where
  If:Bool
  Loop:Bool
  Yield:List Int
  Next:List Int
  Left:List Int
def plc0:Plc:=⟨false,false,[],[],[]⟩
section
variable (l:List UInt8)
def z05 (n:Nat) (g:Gn):Nat × Gn:=(if g.pos+1 > l.length∨g.pos+1 > 150 then 0 else (l.getD g.pos 0).toNat % n,{ g with pos:=g.pos+1 })
def z08 (t:Int) (g:Gn):Int × Gn:=(g.types.length,{ g with types:=g.types++[t] })
def gS1 (tys:List Int) (t:Int):Bool->Int->Int->List Int->Int
  | _,_,v,[]=>v
  | b,k,v,s::r=>if tys.getD s.toNat 0==t&&(b||decide (k > 0)) then gS1 tys t false (k - 1) s r else gS1 tys t false k v r
def gS2 (tys:List Int) (t:Int):Int->List Int->Int
  | v,[]=>v
  | v,s::r=>if tys.getD v.toNat 0 != t then gS2 tys t (if tys.getD s.toNat 0==t then s else v) r else v
def zd4 (seen:List Int) (t:Int) (g:Gn):Int × Gn :=
  (gS2 g.types t (gS1 g.types t true (z05 l 8 g).1 0 seen) seen,(z05 l 8 g).2)
def z1n (seen:List Int):List Int->Gn->List Int × Gn
  | [],g=>([],g)
  | t::r,g=>((zd4 l seen t g).1::(z1n seen r (zd4 l seen t g).2).1,(z1n seen r (zd4 l seen t g).2).2)
def gTyN:Nat->Gn->List Int × Gn
  | 0,g=>([],g)
  | n+1,g=>((1+((z05 l 2 g).1:Int))::(gTyN n (z05 l 2 g).2).1,(gTyN n (z05 l 2 g).2).2)
def z0n (g:Gn):List Int × Gn:=gTyN l (z05 l 3 g).1 (z05 l 3 g).2
def z0k:List Int->Gn->List Int × Gn
  | [],g=>([],g)
  | t::r,g=>((z08 t g).1::(z0k r (z08 t g).2).1,(z0k r (z08 t g).2).2)
def z7h:ByteArray:=⟨#[97]⟩
def z3q:ByteArray:=⟨#[102]⟩
def z0l:ByteArray:=⟨#[]⟩
def gNums:List Int:=[0,1,2,3,-1,100]
def y4e:List Int:=[20,21,23,27]
def z43 (kind op n:Int) (name:ByteArray) (seen ins outs:List Int) (g:Gn):Nd × Gn :=
  (.mk kind op n name (z1n l seen ins g).1 (z0k outs (z1n l seen ins g).2).1 [] [],(z0k outs (z1n l seen ins g).2).2)
def z1s (seen:List Int) (g0:Gn):Nd × Gn :=
  let k:=(z05 l 12 g0).1
  let g:=(z05 l 12 g0).2
  if k=0 then z43 l 1 0 (gNums.getD (z05 l 6 g).1 0) z0l seen [] [1] (z05 l 6 g).2
  else if k=1 then z43 l 2 0 (z05 l 2 g).1 z0l seen [] [2] (z05 l 2 g).2
  else if k=2 then z43 l 3 (y4e.getD (z05 l 4 g).1 0) 0 z0l seen [1] [1] (z05 l 4 g).2
  else if k=3 then z43 l 3 22 0 z0l seen [2] [2] g
  else if k=4∨k=5∨k=6 then z43 l 4 (1+((z05 l 11 g).1:Int)) 0 z0l seen [1,1] [1] (z05 l 11 g).2
  else if k=7∨k=8 then z43 l 4 (12+((z05 l 6 g).1:Int)) 0 z0l seen [1,1] [2] (z05 l 6 g).2
  else if k=9 then z43 l 5 0 0 z7h seen [1] [1] g
  else if k=10 then z43 l 6 0 0 z7h seen [1,1] [] g
  else if (z05 l 4 g).1=0 then z43 l 7 0 0 z3q seen [1,2] [1] (z05 l 4 g).2
  else if (z05 l 4 g).1=1 then z43 l 8 0 0 z0l seen [] [1] (z05 l 4 g).2
  else z43 l 9 0 0 z0l seen [1] [] (z05 l 4 g).2
def gEnd (seen:List Int) (p:Plc) (g0:Gn):Nd × Gn :=
  let k:=(z05 l 6 g0).1
  let g:=(z05 l 6 g0).2
  if p.If=true/\k<4 then z43 l 12 0 0 z0l seen p.Yield [] g
  else if p.Loop=true/\k % 2=0 then z43 l 13 0 0 z0l seen p.Next [] g
  else if p.Loop=true then z43 l 14 0 0 z0l seen p.Left [] g
  else z43 l 15 0 0 z0l seen [1] [] g
abbrev GRec:=List Int->Plc->Gn->List Nd × Gn
def z7n (x:List Int->Nd) (t:List Int) (g:Gn):Nd × Gn:=if z04 (x []) then (x [],g) else (x (z0k t g).1,(z0k t g).2)
def gIf (rec:GRec) (all:List Int) (p:Plc) (g:Gn):Nd × Gn :=
  let t:=z0n l g
  let x:Plc:=⟨true,p.Loop,t.1,p.Next,p.Left⟩
  let c:=z1n l all [2] t.2
  let a:=rec all x c.2
  let b:=rec all x a.2
  z7n (fun o=>.mk 10 0 0 z0l c.1 o [] [a.1,b.1]) t.1 b.2
def z9v (rec:GRec) (all:List Int) (g:Gn):Nd × Gn :=
  let t:=z0n l g
  let o:=z0n l t.2
  let a:=z1n l all t.1 o.2
  let q:=z0k t.1 a.2
  let b:=rec (all++q.1) ⟨false,true,[],t.1,o.1⟩ q.2
  z7n (fun z=>.mk 11 0 0 z0l a.1 z q.1 [b.1]) o.1 b.2
def gAny (rec:Option GRec) (all:List Int) (p:Plc) (g:Gn):Nd × Gn :=
  let s:=z1s l all { g with left:=g.left - 1 }
  let k:=z05 l 6 s.2
  match rec with
  | none=>(s.1,k.2)
  | some rec=>if k.1=0 then gIf l rec all p k.2 else if k.1=1 then z9v l rec all k.2 else (s.1,k.2)
def z3g (rec:Option GRec) (p:Plc):Nat->List Nd->List Int->Gn->List Nd × Gn
  | 0,out,all,g=>(out++[(gEnd l all p g).1],(gEnd l all p g).2)
  | i+1,out,all,g =>
    if g.left=0 then (out++[(gEnd l all p g).1],(gEnd l all p g).2)
    else
      let x:=gAny l rec all p g
      if z04 x.1 then (out++[x.1],x.2) else z3g rec p i (out++[x.1]) (all++x.1.outs) x.2
def z31:Nat->GRec
  | 0,seen,p,g=>z3g l none p (z05 l 6 g).1 [] seen (z05 l 6 g).2
  | d+1,seen,p,g=>z3g l (some (z31 d)) p (z05 l 6 g).1 [] seen (z05 l 6 g).2
def zq6 (i b:Int):List Nd:=[.mk 1 0 3 z0l [] [i] [] [],.mk 2 0 1 z0l [] [b] [] []]
def z30 (name:ByteArray) (params:List Int) (g0:Gn):Fl × Gn :=
  let s:=z0k params { g0 with types:=[],left:=30 }
  let i:=z08 1 s.2
  let b:=z08 2 i.2
  let r:=z31 l 3 (s.1++[i.1,b.1]) plc0 b.2
  (⟨name,1,params.length,r.2.types,zq6 i.1 b.1++r.1⟩,r.2)
def made:Un :=
  let m:=z30 l z0b [] ⟨0,[],0⟩
  ⟨[⟨z7h,4⟩],[m.1,(z30 l z3q [1,2] m.2).1]⟩
end
end
def eB (x:UInt8):List PV:=[.val (.int .u8 (x.toNat:Int))]
def bts (l:List UInt8):PV:=.seq (l.map eB)
def z3h (l:List UInt8) (g:Gn):HO:=.box [.pv (bts l),iInt (g.pos:Int),.sl 2002 (g.types.map eInt).length,iInt (g.left:Int)]
def gH (l:List UInt8) (g:Gn):List (Nat × HO):=[(2001,z3h l g),(2002,rowI g.types)]
def gHs (l:List UInt8) (g:Gn) (seen:List Int):List (Nat × HO):=[(2001,z3h l g),(2002,rowI g.types),(2003,rowI seen)]
def InR (tys seen:List Int):Prop:=∀ s∈seen,0<=s/\s.toNat<tys.length
theorem InR.at {tys seen:List Int} (h:InR tys seen) {s:Int} (hs:s∈seen):s.toNat<(tys.map eInt).length/\(tys.map eInt)[s.toNat]? = some [vInt (tys.getD s.toNat 0)]/\s=((s.toNat:Nat):Int):=by
  obtain ⟨h1,h2⟩:=h s hs
  refine ⟨by simpa using h2,?_,by omega⟩
  rw [List.getElem?_map,List.getD,List.getElem?_eq_getElem h2];rfl
theorem z1x {l:List UInt8} {n:Nat} {g:Gn} (hn:0<n):(z05 l n g).1<n:=by
  unfold z05
  simp only
  split
  ·exact hn
  exact Nat.mod_lt _ hn
theorem u8_i64 (x:UInt8):IntKind.i64.wrap (x.toNat:Int)=(x.toNat:Int):=IntWalk.i64_in _ (by have:=x.toNat_lt;omega)
theorem i64_rem {m n:Nat} (hn:0<n):z3v .rem .i64 (m:Int) (n:Int)=some (.int .i64 ((m % n:Nat):Int)):=by
  simp only [z3v,Int.natCast_emod]
  rw [if_neg oM0,Int.tmod_eq_emod_of_nonneg oM0]
theorem ya5 {tys:List Int} {t:Int}:∀ (r:List Int) (b:Bool) (k v:Int),InR tys r->(0<=v/\(v.toNat<tys.length∨v=0))->0<=gS1 tys t b k v r/\((gS1 tys t b k v r).toNat<tys.length∨gS1 tys t b k v r=0)
  | [],_,_,_,_,hv=>hv
  | s::r,b,k,v,h,hv=>by
    unfold gS1
    have hr:InR tys r:=fun x hx=>h x (.tail _ hx)
    split
    ·have:=h s (.head _)
     exact ya5 r _ _ _ hr ⟨this.1,.inl this.2⟩
    exact ya5 r _ _ _ hr hv
theorem z1k (l:List UInt8) (seen:List Int):∀ (ts:List Int) (g:Gn),(z1n l seen ts g).2={ g with pos:=g.pos+ts.length }/\(z1n l seen ts g).1.length=ts.length
  | [],g=>⟨rfl,rfl⟩
  | t::r,g=>by
    have:=z1k l seen r (zd4 l seen t g).2
    simp only [z1n,List.length_cons,this]
    refine ⟨?_,trivial⟩
    simp only [zd4,z05]
    congr 1
    omega
theorem ya6 (l:List UInt8):∀ (n:Nat) (g:Gn),(gTyN l n g).2={ g with pos:=g.pos+n }/\(gTyN l n g).1.length=n
  | 0,g=>⟨rfl,rfl⟩
  | n+1,g=>by
    have:=ya6 l n (z05 l 2 g).2
    simp only [gTyN,List.length_cons,this]
    refine ⟨?_,trivial⟩
    simp only [z05]
    congr 1
    omega
theorem z4m (l:List UInt8) (g:Gn):(z0n l g).2={ g with pos:=g.pos+1+(z05 l 3 g).1 }/\(z0n l g).1.length=(z05 l 3 g).1:=by
  have:=ya6 l (z05 l 3 g).1 (z05 l 3 g).2
  unfold z0n
  rw [this.1]
  exact ⟨rfl,this.2⟩
theorem z25:∀ (ts:List Int) (g:Gn),(z0k ts g).2={ g with types:=g.types++ts }/\(z0k ts g).1.length=ts.length
  | [],g=>⟨by simp [z0k],rfl⟩
  | t::r,g=>by
    have:=z25 r (z08 t g).2
    simp only [z0k,List.length_cons,this]
    refine ⟨?_,trivial⟩
    simp [z08]
theorem y69:∀ (ts:List Int) (g:Gn),∀ s∈(z0k ts g).1,(g.types.length:Int)<=s/\s<((g.types.length+ts.length:Nat):Int)
  | [],_,s,h=>by simp [z0k] at h
  | t::r,g,s,h=>by
    simp only [z0k,List.mem_cons] at h
    rcases h with rfl | h
    ·simp only [z08,List.length_cons];omega
    have:=y69 r (z08 t g).2 s h
    simp only [z08,List.length_append,List.length_cons,List.length_nil] at this ⊢
    omega
theorem ya7 {a:List Int} {i:Nat} (h:i<a.length):(a.map eInt)[i]? = some [vInt (a.getD i 0)]:=by
  rw [List.getElem?_map,List.getD,List.getElem?_eq_getElem h];rfl
def plcv (p:Plc):PV:=.agg [vBool p.If,vBool p.Loop,ints p.Yield,ints p.Next,ints p.Left]
def y6m:IV->IV
  | .pv (.val (.slice none 0 0))=>.pv (.seq [])
  | x=>x
theorem y7r (x:IV):ISub x (y6m x):=by
  unfold y6m
  split
  ·exact ISub.pv PSub.nil
  exact ISub.refl _
theorem zr7:∀ cs:List IV,ISubs cs (cs.map y6m)
  | []=>trivial
  | x::r=>⟨y7r x,zr7 r⟩
theorem Tr.fixNil {P:Program} {c:Cx} {fr:Fr} {hp:Hp} {Q:Exit->Fr->Heap'->Prop} {x:Code} {k:Nat} {cs:List IV} (hk:look hp k=some (.box cs)) (hR:¬ c.R k) (h:Tr P c x fr (look ((k,some (.box (cs.map y6m)))::hp)) Q):Tr P c x fr (look hp) Q :=
  Tr.subBox _ hk (zr7 cs) hR h
section
structure Bd (a b:Nat) (g g':Gn):Prop where
  lf:g'.left<=g.left
  ps:g'.pos+60*g'.left<=g.pos+60*g.left+a
  t1:g.types.length<=g'.types.length
  t2:g'.types.length+10*g'.left<=g.types.length+10*g.left+b
theorem Bd.trans {a b a' b':Nat} {g g' g'':Gn} (h:Bd a b g g') (h':Bd a' b' g' g''):Bd (a+a') (b+b') g g'' :=
  ⟨by have:=h.lf;have:=h'.lf;omega,by have:=h.ps;have:=h'.ps;omega,by have:=h.t1;have:=h'.t1;omega,by have:=h.t2;have:=h'.t2;omega⟩
theorem Bd.mono {a b a' b':Nat} {g g':Gn} (h:Bd a b g g') (ha:a<=a') (hb:b<=b'):Bd a' b' g g' :=
  ⟨h.lf,by have:=h.ps;omega,h.t1,by have:=h.t2;omega⟩
section
variable (l:List UInt8)
theorem z8i (n:Nat) (g:Gn):Bd 1 0 g (z05 l n g).2:=⟨Nat.le_refl _,by simp only [z05];omega,Nat.le_refl _,Nat.le_refl _⟩
theorem zh4 (seen ts:List Int) (g:Gn):Bd ts.length 0 g (z1n l seen ts g).2:=by
  rw [(z1k l seen ts g).1]
  exact ⟨Nat.le_refl _,by simp only [];omega,Nat.le_refl _,Nat.le_refl _⟩
theorem zp3 (ts:List Int) (g:Gn):Bd 0 ts.length g (z0k ts g).2:=by
  rw [(z25 ts g).1]
  exact ⟨Nat.le_refl _,Nat.le_refl _,by simp,by simp only [List.length_append];omega⟩
theorem z3p (g:Gn):Bd 3 0 g (z0n l g).2/\(z0n l g).1.length<=2:=by
  have h3:(z05 l 3 g).1<3:=z1x oM0
  obtain ⟨h1,h2⟩:=z4m l g
  refine ⟨?_,by omega⟩
  rw [h1]
  exact ⟨Nat.le_refl _,by simp only [];omega,Nat.le_refl _,Nat.le_refl _⟩
theorem y9a (kind op n:Int) (name:ByteArray) (seen ins outs:List Int) (g:Gn):Bd ins.length outs.length g (z43 l kind op n name seen ins outs g).2:=by
  have:=(zh4 l seen ins g).trans (zp3 outs (z1n l seen ins g).2)
  simpa [z43] using this
theorem zp4 (seen:List Int) (g:Gn):Bd 4 1 g (z1s l seen g).2:=by
  unfold z1s
  have h0:=z8i l 12 g
  have P:=fun n=>z8i l n (z05 l 12 g).2
  have N:=fun kind op n name ins outs g'=>y9a l kind op n name seen ins outs g'
  simp only
  split
  ·exact ((h0.trans (P 6)).trans (N _ _ _ _ [] [1] _)).mono sI0 sI0
  split
  ·exact ((h0.trans (P 2)).trans (N _ _ _ _ [] [2] _)).mono sI0 sI0
  split
  ·exact ((h0.trans (P 4)).trans (N _ _ _ _ [1] [1] _)).mono sI0 sI0
  split
  ·exact (h0.trans (N _ _ _ _ [2] [2] _)).mono sI0 sI0
  split
  ·exact ((h0.trans (P 11)).trans (N _ _ _ _ [1,1] [1] _)).mono sI0 sI0
  split
  ·exact ((h0.trans (P 6)).trans (N _ _ _ _ [1,1] [2] _)).mono sI0 sI0
  split
  ·exact (h0.trans (N _ _ _ _ [1] [1] _)).mono sI0 sI0
  split
  ·exact (h0.trans (N _ _ _ _ [1,1] [] _)).mono sI0 sI0
  split
  ·exact ((h0.trans (P 4)).trans (N _ _ _ _ [1,2] [1] _)).mono sI0 sI0
  split
  ·exact ((h0.trans (P 4)).trans (N _ _ _ _ [] [1] _)).mono sI0 sI0
  exact ((h0.trans (P 4)).trans (N _ _ _ _ [1] [] _)).mono sI0 sI0
def Plc.small (p:Plc):Prop:=p.Yield.length<=2/\p.Next.length<=2/\p.Left.length<=2
theorem bd_end (seen:List Int) (p:Plc) (hp:p.small) (g:Gn):Bd 3 0 g (gEnd l seen p g).2:=by
  obtain ⟨h1,h2,h3⟩:=hp
  unfold gEnd
  have h0:=z8i l 6 g
  have N:=fun kind op n name ins outs g'=>y9a l kind op n name seen ins outs g'
  simp only
  split
  ·exact (h0.trans (N _ _ _ _ p.Yield [] _)).mono oM0 sI0
  split
  ·exact (h0.trans (N _ _ _ _ p.Next [] _)).mono oM0 sI0
  split
  ·exact (h0.trans (N _ _ _ _ p.Left [] _)).mono oM0 sI0
  exact (h0.trans (N _ _ _ _ [1] [] _)).mono sI0 sI0
def y45 (rec:GRec):Prop:=∀ seen p g,p.small->Bd 4 0 g (rec seen p g).2
theorem y9b (x:List Int->Nd) (t:List Int) (ht:t.length<=2) (g:Gn):Bd 0 2 g (z7n x t g).2:=by
  unfold z7n
  split
  ·exact ⟨Nat.le_refl _,Nat.le_refl _,Nat.le_refl _,by show g.types.length+10*g.left<=g.types.length+10*g.left+2;omega⟩
  exact (zp3 t g).mono (Nat.le_refl _) ht
theorem bd_if {rec:GRec} (hr:y45 rec) (all:List Int) (p:Plc) (hp:p.small) (g:Gn):Bd 12 2 g (gIf l rec all p g).2:=by
  unfold gIf
  simp only
  obtain ⟨h1,h2⟩:=z3p l g
  have h3:=h1.trans (zh4 l all [2] (z0n l g).2)
  have hsm:Plc.small ⟨true,p.Loop,(z0n l g).1,p.Next,p.Left⟩:=⟨h2,hp.2.1,hp.2.2⟩
  have h4:=h3.trans (hr all ⟨true,p.Loop,(z0n l g).1,p.Next,p.Left⟩ _ hsm)
  have h5:=h4.trans (hr all ⟨true,p.Loop,(z0n l g).1,p.Next,p.Left⟩ _ hsm)
  exact (h5.trans (y9b _ _ h2 _)).mono sI0 sI0
theorem y99 {rec:GRec} (hr:y45 rec) (all:List Int) (g:Gn):Bd 12 4 g (z9v l rec all g).2:=by
  unfold z9v
  simp only
  obtain ⟨h1,h2⟩:=z3p l g
  obtain ⟨h3,h4⟩:=z3p l (z0n l g).2
  have h5:=(h1.trans h3).trans ((zh4 l all (z0n l g).1 (z0n l (z0n l g).2).2).mono h2 (Nat.le_refl 0))
  have h6:=h5.trans ((zp3 (z0n l g).1 (z1n l all (z0n l g).1 (z0n l (z0n l g).2).2).2).mono (Nat.le_refl 0) h2)
  have h7:=h6.trans (hr (all++(z0k (z0n l g).1 (z1n l all (z0n l g).1 (z0n l (z0n l g).2).2).2).1) ⟨false,true,[],(z0n l g).1,(z0n l (z0n l g).2).1⟩ _ ⟨by simp,h2,h4⟩)
  exact (h7.trans (y9b _ _ h4 _)).mono oM0 oM0
theorem bd_any {rec:Option GRec} (hr:∀ r,rec=some r->y45 r) (all:List Int) (p:Plc) (hp:p.small) (g:Gn) (hg:0<g.left):Bd 0 0 g (gAny l rec all p g).2:=by
  have h0:({ g with left:=g.left - 1 }:Gn).left+1=g.left:=by show g.left - 1+1=g.left;omega
  have key:∀ g',Bd 17 5 { g with left:=g.left - 1 } g'->Bd 0 0 g g':=fun g' h =>
    ⟨by have:=h.lf;omega,by have:=h.ps;have e:({ g with left:=g.left - 1 }:Gn).pos=g.pos:=rfl;omega,h.t1,by have:=h.t2;have e:({ g with left:=g.left - 1 }:Gn).types=g.types:=rfl;rw [e] at this;omega⟩
  have hs:=(zp4 l all { g with left:=g.left - 1 }).trans (z8i l 6 _)
  unfold gAny
  simp only
  cases rec with
  | none=>exact key _ (hs.mono oM0 oM0)
  | some r =>
    simp only
    split
    ·exact key _ ((hs.trans (bd_if l (hr r rfl) all p hp _)).mono oM0 oM0)
    split
    ·exact key _ ((hs.trans (y99 l (hr r rfl) all _)).mono oM0 oM0)
    exact key _ (hs.mono oM0 oM0)
theorem y09 {rec:Option GRec} (hr:∀ r,rec=some r->y45 r) (p:Plc) (hp:p.small):∀ (i:Nat) (out:List Nd) (all:List Int) (g:Gn),Bd 3 0 g (z3g l rec p i out all g).2
  | 0,out,all,g=>bd_end l all p hp g
  | i+1,out,all,g=>by
    unfold z3g
    split
    ·exact bd_end l all p hp g
    rename_i hl
    have h1:=bd_any l hr all p hp g oM0
    simp only
    split
    ·exact h1.mono oM0 oM0
    exact (h1.trans (y09 hr p hp i _ _ _)).mono oM0 oM0
theorem z7j:∀ d:Nat,y45 (z31 l d)
  | 0=>fun seen p g hp=>((z8i l 6 g).trans (y09 l (rec:=none) (fun r h=>by cases h) p hp _ _ _ _)).mono oM0 oM0
  | d+1=>fun seen p g hp=>((z8i l 6 g).trans (y09 l (rec:=some (z31 l d)) (fun r h=>by cases h;exact z7j d) p hp _ _ _ _)).mono oM0 oM0
def gRec:Nat->Option GRec
  | 0=>none
  | d+1=>some (z31 l d)
theorem ya4 (d:Nat):∀ r,gRec l d=some r->y45 r:=by
  intro r h
  cases d with
  | zero=>cases h
  | succ d=>cases h;exact z7j l d
theorem z7l (d:Nat) (seen:List Int) (p:Plc) (g:Gn):z31 l d seen p g=z3g l (gRec l d) p (z05 l 6 g).1 [] seen (z05 l 6 g).2:=by cases d<;>rfl
end
theorem InR.mono {tys tys' seen:List Int} (h:InR tys seen) (hl:tys.length<=tys'.length):InR tys' seen:=fun s hs=>⟨(h s hs).1,Nat.lt_of_lt_of_le (h s hs).2 hl⟩
theorem InR.app {tys a b:List Int} (h:InR tys a) (h':InR tys b):InR tys (a++b):=fun s hs=>(List.mem_append.1 hs).elim (h s) (h' s)
theorem InR.outs (ts:List Int) (g:Gn):InR (z0k ts g).2.types (z0k ts g).1:=by
  intro s hs
  have:=y69 ts g s hs
  rw [(z25 ts g).1]
  simp only [List.length_append]
  omega
section
variable (l:List UInt8)
theorem yc4 (kind op n:Int) (name:ByteArray) (seen ins outs:List Int) (g:Gn):InR (z43 l kind op n name seen ins outs g).2.types (z43 l kind op n name seen ins outs g).1.outs/\(z43 l kind op n name seen ins outs g).1.outs.length=outs.length :=
  ⟨InR.outs outs _,(z25 outs _).2⟩
theorem y5o (seen:List Int) (g:Gn):InR (z1s l seen g).2.types (z1s l seen g).1.outs/\(z1s l seen g).1.outs.length<=1:=by
  have N:=fun kind op n name ins outs g'=>yc4 l kind op n name seen ins outs g'
  have fin:∀ {x:Nd × Gn} {k:Nat},InR x.2.types x.1.outs/\x.1.outs.length=k->k<=1->InR x.2.types x.1.outs/\x.1.outs.length<=1:=fun h hk=>⟨h.1,by omega⟩
  unfold z1s
  simp only
  split
  ·exact fin (N _ _ _ _ _ [1] _) sI0
  split
  ·exact fin (N _ _ _ _ _ [2] _) sI0
  split
  ·exact fin (N _ _ _ _ _ [1] _) sI0
  split
  ·exact fin (N _ _ _ _ _ [2] _) sI0
  split
  ·exact fin (N _ _ _ _ _ [1] _) sI0
  split
  ·exact fin (N _ _ _ _ _ [2] _) sI0
  split
  ·exact fin (N _ _ _ _ _ [1] _) sI0
  split
  ·exact fin (N _ _ _ _ _ [] _) sI0
  split
  ·exact fin (N _ _ _ _ _ [1] _) sI0
  split
  ·exact fin (N _ _ _ _ _ [1] _) sI0
  exact fin (N _ _ _ _ _ [] _) sI0
theorem y3m (x:List Int->Nd) (hx:∀ o,(x o).outs=o) (t:List Int) (ht:t.length<=2) (g:Gn):InR (z7n x t g).2.types (z7n x t g).1.outs/\(z7n x t g).1.outs.length<=2:=by
  unfold z7n
  split
  ·rw [hx];exact ⟨fun s hs=>by simp at hs,by simp⟩
  rw [hx];exact ⟨InR.outs t g,by rw [(z25 t g).2];exact ht⟩
theorem y65 {rec:Option GRec} (all:List Int) (p:Plc) (g:Gn):InR (gAny l rec all p g).2.types (gAny l rec all p g).1.outs/\(gAny l rec all p g).1.outs.length<=2:=by
  have hs:=y5o l all { g with left:=g.left - 1 }
  unfold gAny
  simp only
  cases rec with
  | none=>exact ⟨hs.1,Nat.le_trans hs.2 dC0⟩
  | some r =>
    simp only
    split
    ·unfold gIf;exact y3m _ (fun _=>rfl) _ (z3p l _).2 _
    split
    ·unfold z9v;exact y3m _ (fun _=>rfl) _ (z3p l _).2 _
    exact ⟨hs.1,Nat.le_trans hs.2 dC0⟩
end
theorem any_left (l:List UInt8) {rec:Option GRec} (hr:∀ r,rec=some r->y45 r) (all:List Int) (p:Plc) (hp:p.small) (g:Gn) (hg:0<g.left):(gAny l rec all p g).2.left+1<=g.left:=by
  have h0:({ g with left:=g.left - 1 }:Gn).left+1=g.left:=by show g.left - 1+1=g.left;omega
  have hs:=(zp4 l all { g with left:=g.left - 1 }).trans (z8i l 6 _)
  have fin:∀ {a b:Nat} {g':Gn},Bd a b { g with left:=g.left - 1 } g'->g'.left+1<=g.left:=fun h=>by have:=h.lf;omega
  unfold gAny
  simp only
  cases rec with
  | none=>exact fin hs
  | some r =>
    simp only
    split
    ·exact fin (hs.trans (bd_if l (hr r rfl) all p hp _))
    split
    ·exact fin (hs.trans (y99 l (hr r rfl) all _))
    exact fin hs
theorem zy1 (l:List UInt8) (rec:Option GRec) (p:Plc):∀ (i:Nat) (out:List Nd) (all:List Int) (g:Gn),(z3g l rec p i out all g).1.length<=out.length+i+1
  | 0,out,all,g=>by simp [z3g]
  | i+1,out,all,g=>by
    unfold z3g
    split
    ·simp
    simp only
    split
    ·simp
    have:=zy1 l rec p i (out++[(gAny l rec all p g).1]) (all++(gAny l rec all p g).1.outs) (gAny l rec all p g).2
    simp only [List.length_append,List.length_cons,List.length_nil] at this
    omega
theorem zq7 (l:List UInt8) (d:Nat) (seen:List Int) (p:Plc) (g:Gn):(z31 l d seen p g).1.length<=6:=by
  rw [z7l]
  have h6:(z05 l 6 g).1<6:=z1x oM0
  have:=zy1 l (gRec l d) p (z05 l 6 g).1 [] seen (z05 l 6 g).2
  simp only [List.length_nil] at this
  omega
theorem ya3 (l:List UInt8) (name:ByteArray) (params:List Int) (g:Gn) (hp:params.length<=10) (hg:g.pos<=100):(z30 l name params g).2.pos<=2000:=by
  have hS:=(z25 params { g with types:=[],left:=30 }).1
  have hb:=(z7j l 3 ((z0k params { g with types:=[],left:=30 }).1++[(z08 1 (z0k params { g with types:=[],left:=30 }).2).1,(z08 2 (z08 1 (z0k params { g with types:=[],left:=30 }).2).2).1]) plc0 (z08 2 (z08 1 (z0k params { g with types:=[],left:=30 }).2).2).2 ⟨by simp [plc0],by simp [plc0],by simp [plc0]⟩).ps
  have h1:(z08 2 (z08 1 (z0k params { g with types:=[],left:=30 }).2).2).2.pos=g.pos:=by rw [hS];rfl
  have h2:(z08 2 (z08 1 (z0k params { g with types:=[],left:=30 }).2).2).2.left=30:=by rw [hS];rfl
  rw [h1,h2] at hb
  show (z31 l 3 _ plc0 _).2.pos<=2000
  omega
end
section
section
variable (l:List UInt8)
theorem y79 (kind op n:Int) (name:ByteArray) (seen ins outs:List Int) (g:Gn):wtN (z43 l kind op n name seen ins outs g).1=ins.length+outs.length+name.size:=by
  rw [wtN_eq]
  show (z1n l seen ins g).1.length+(z0k outs _).1.length+0+name.size+0=_
  rw [(z1k l seen ins g).2,(z25 outs _).2]
  omega
theorem ym6 (seen:List Int) (g:Gn):wtN (z1s l seen g).1<=4:=by
  unfold z1s
  simp only
  have hn:z0l.size=0:=rfl
  have ha:z7h.size=1:=rfl
  have hf:z3q.size=1:=rfl
  repeat' split
  all_goals (rw [y79];simp only [List.length_cons,List.length_nil,hn,ha,hf];omega)
theorem wt_end (seen:List Int) (p:Plc) (hp:p.small) (g:Gn):wtN (gEnd l seen p g).1<=2:=by
  obtain ⟨h1,h2,h3⟩:=hp
  unfold gEnd
  simp only
  have hn:z0l.size=0:=rfl
  repeat' split
  all_goals (rw [y79];simp only [List.length_cons,List.length_nil,hn];omega)
def y94 (N:Nat) (rec:GRec):Prop:=∀ seen p g,p.small->wtL (rec seen p g).1<=N/\(rec seen p g).1.length<=6
theorem ym5 (x:List Int->Nd) (t:List Int) (ht:t.length<=2) (g:Gn) (N:Nat) (hx:∀ o,wtN (x o)=o.length+N):wtN (z7n x t g).1<=N+2:=by
  unfold z7n
  split
  ·rw [hx];simp
  rw [hx,(z25 t g).2];omega
theorem wt_if {N:Nat} {rec:GRec} (hr:y94 N rec) (all:List Int) (p:Plc) (hp:p.small) (g:Gn):wtN (gIf l rec all p g).1<=2*N+20:=by
  unfold gIf
  simp only
  obtain ⟨_,h2⟩:=z3p l g
  have hsm:Plc.small ⟨true,p.Loop,(z0n l g).1,p.Next,p.Left⟩:=⟨h2,hp.2.1,hp.2.2⟩
  refine Nat.le_trans (ym5 _ _ h2 _ (1+(1+((rec all ⟨true,p.Loop,(z0n l g).1,p.Next,p.Left⟩ (z1n l all [2] (z0n l g).2).2).1.length+wtL (rec all ⟨true,p.Loop,(z0n l g).1,p.Next,p.Left⟩ (z1n l all [2] (z0n l g).2).2).1)+(1+((rec all ⟨true,p.Loop,(z0n l g).1,p.Next,p.Left⟩ (rec all ⟨true,p.Loop,(z0n l g).1,p.Next,p.Left⟩ (z1n l all [2] (z0n l g).2).2).2).1.length+wtL (rec all ⟨true,p.Loop,(z0n l g).1,p.Next,p.Left⟩ (rec all ⟨true,p.Loop,(z0n l g).1,p.Next,p.Left⟩ (z1n l all [2] (z0n l g).2).2).2).1)))) fun o=>?_) ?_
  ·simp only [wtN,wtK,(z1k l all [2] (z0n l g).2).2,show z0l.size=0 from rfl,List.length_cons,List.length_nil]
   omega
  have h3:=hr all _ (z1n l all [2] (z0n l g).2).2 hsm
  have h4:=hr all _ (rec all ⟨true,p.Loop,(z0n l g).1,p.Next,p.Left⟩ (z1n l all [2] (z0n l g).2).2).2 hsm
  omega
theorem wt_loop {N:Nat} {rec:GRec} (hr:y94 N rec) (all:List Int) (g:Gn):wtN (z9v l rec all g).1<=2*N+20:=by
  unfold z9v
  simp only
  obtain ⟨_,h2⟩:=z3p l g
  obtain ⟨_,h4⟩:=z3p l (z0n l g).2
  generalize hA:z1n l all (z0n l g).1 (z0n l (z0n l g).2).2=A
  have hAl:A.1.length<=2:=by rw [<- hA,(z1k l all _ _).2];exact h2
  generalize hQ:z0k (z0n l g).1 A.2=Q
  have hQl:Q.1.length<=2:=by rw [<- hQ,(z25 _ _).2];exact h2
  have h5:=hr (all++Q.1) ⟨false,true,[],(z0n l g).1,(z0n l (z0n l g).2).1⟩ Q.2 ⟨by simp,h2,h4⟩
  generalize hB:rec (all++Q.1) ⟨false,true,[],(z0n l g).1,(z0n l (z0n l g).2).1⟩ Q.2=B at h5
  refine Nat.le_trans (ym5 _ _ h4 _ (A.1.length+Q.1.length+(1+(B.1.length+wtL B.1))) fun o=>?_) ?_
  ·simp only [wtN,wtK,show z0l.size=0 from rfl]
   omega
  omega
theorem wt_any {N:Nat} {rec:Option GRec} (hr:∀ r,rec=some r->y94 N r) (all:List Int) (p:Plc) (hp:p.small) (g:Gn):wtN (gAny l rec all p g).1<=2*N+20:=by
  have hs:=ym6 l all { g with left:=g.left - 1 }
  unfold gAny
  simp only
  cases rec with
  | none=>exact Nat.le_trans hs oM0
  | some r =>
    simp only
    split
    ·exact wt_if l (hr r rfl) all p hp _
    split
    ·exact wt_loop l (hr r rfl) all _
    exact Nat.le_trans hs oM0
theorem y1r {N:Nat} {rec:Option GRec} (hr:∀ r,rec=some r->y94 N r) (p:Plc) (hp:p.small):∀ (i:Nat) (out:List Nd) (all:List Int) (g:Gn),wtL (z3g l rec p i out all g).1<=wtL out+(i+1)*(2*N+20)
  | 0,out,all,g=>by
    have:=wt_end l all p hp g
    simp only [z3g,zc8,wtL]
    omega
  | i+1,out,all,g=>by
    have he:=wt_end l all p hp g
    have hx:=wt_any l hr all p hp g
    have e:(i+1+1)*(2*N+20)=(i+1)*(2*N+20)+(2*N+20):=Nat.succ_mul _ _
    unfold z3g
    split
    ·simp only [zc8,wtL];omega
    simp only
    split
    ·simp only [zc8,wtL];omega
    have:=y1r hr p hp i (out++[(gAny l rec all p g).1]) (all++(gAny l rec all p g).1.outs) (gAny l rec all p g).2
    simp only [zc8,wtL] at this ⊢
    omega
def zw9:Nat->Nat
  | 0=>120
  | d+1=>6*(2*zw9 d+20)
theorem y90 (d:Nat):zw9 (d+1)=6*(2*zw9 d+20):=rfl
theorem wt_gList (d:Nat):y94 (zw9 d) (z31 l d):=by
  induction d with
  | zero =>
    intro seen p g hp
    refine ⟨?_,zq7 l 0 seen p g⟩
    have h6:(z05 l 6 g).1<6:=z1x oM0
    have:=y1r l (N:=0) (rec:=none) (fun r h=>by cases h) p hp (z05 l 6 g).1 [] seen (z05 l 6 g).2
    rw [z7l]
    show wtL (z3g l none p (z05 l 6 g).1 [] seen (z05 l 6 g).2).1<=zw9 0
    generalize wtL (z3g l none p (z05 l 6 g).1 [] seen (z05 l 6 g).2).1=z at this
    generalize (z05 l 6 g).1=k at *
    have e:zw9 0=120:=rfl
    simp only [wtL,Nat.zero_add,Nat.mul_zero] at this
    rw [e]
    omega
  | succ d ih =>
    intro seen p g hp
    refine ⟨?_,zq7 l (d+1) seen p g⟩
    have h6:(z05 l 6 g).1<6:=z1x oM0
    have:=y1r l (N:=zw9 d) (rec:=some (z31 l d)) (fun r h=>by cases h;exact ih) p hp (z05 l 6 g).1 [] seen (z05 l 6 g).2
    rw [z7l]
    rw [show gRec l (d+1)=some (z31 l d) from rfl,y90]
    generalize wtL (z3g l (some (z31 l d)) p (z05 l 6 g).1 [] seen (z05 l 6 g).2).1=z at this
    generalize (z05 l 6 g).1=k at *
    generalize zw9 d=m at *
    have h7:(k+1)*(2*m+20)<=6*(2*m+20):=Nat.mul_le_mul_right _ oM0
    simp only [wtL,Nat.zero_add] at this
    exact Nat.le_trans this h7
theorem zc9 (name:ByteArray) (params:List Int) (hp:params.length<=10) (g:Gn):(z30 l name params g).1.types.length<=1000/\z4b (z30 l name params g).1.body<=1000000:=by
  have hs:plc0.small:=⟨by simp [plc0],by simp [plc0],by simp [plc0]⟩
  have hS:=(z25 params { g with types:=[],left:=30 }).1
  generalize hB:(z08 2 (z08 1 (z0k params { g with types:=[],left:=30 }).2).2).2=B
  generalize hE:(z0k params { g with types:=[],left:=30 }).1++[(z08 1 (z0k params { g with types:=[],left:=30 }).2).1,(z08 2 (z08 1 (z0k params { g with types:=[],left:=30 }).2).2).1]=E
  have h1:B.types.length=params.length+2:=by rw [<- hB,hS];simp [z08]
  have h2:B.left=30:=by rw [<- hB,hS];rfl
  have hb:=(z7j l 3 E plc0 B hs).t2
  have hw:=wt_gList l 3 E plc0 B hs
  have e:z30 l name params g=(⟨name,1,params.length,(z31 l 3 E plc0 B).2.types,zq6 (z08 1 (z0k params { g with types:=[],left:=30 }).2).1 (z08 2 (z08 1 (z0k params { g with types:=[],left:=30 }).2).2).1++(z31 l 3 E plc0 B).1⟩,(z31 l 3 E plc0 B).2):=by
    unfold z30
    simp only [hB,hE]
  rw [e]
  refine ⟨by simp only;omega,?_⟩
  simp only [z4b,List.length_append,zc8]
  have h3:wtL (zq6 (z08 1 (z0k params { g with types:=[],left:=30 }).2).1 (z08 2 (z08 1 (z0k params { g with types:=[],left:=30 }).2).2).1)=2:=rfl
  have h4:(zq6 (z08 1 (z0k params { g with types:=[],left:=30 }).2).1 (z08 2 (z08 1 (z0k params { g with types:=[],left:=30 }).2).2).1).length=2:=rfl
  have h5:zw9 3<=500000:=by simp only [zw9];omega
  omega
theorem wt_made:z0r (made l)<=536870912:=by
  have h1:=zc9 l z0b [] sI0 ⟨0,[],0⟩
  have h2:=zc9 l z3q [1,2] sI0 (z30 l z0b [] ⟨0,[],0⟩).2
  have e1:(z30 l z0b [] ⟨0,[],0⟩).1.name.size=4:=rfl
  have e2:(z30 l z3q [1,2] (z30 l z0b [] ⟨0,[],0⟩).2).1.name.size=1:=rfl
  have e3:z7h.size=1:=rfl
  simp only [z0r,made,wtA,wtF,List.length_cons,List.length_nil,e1,e2,e3]
  omega
end
end
theorem made_sz (l:List UInt8):uSz (made l).flows<=4000000:=by
  have h1:=(zc9 l z0b [] sI0 ⟨0,[],0⟩).2
  have h2:=(zc9 l z3q [1,2] sI0 (z30 l z0b [] ⟨0,[],0⟩).2).2
  refine Nat.le_trans (uSz_W _) ?_
  simp only [made,wtF]
  have e1:(z30 l z0b [] ⟨0,[],0⟩).1.name.size=4:=rfl
  have e2:(z30 l z3q [1,2] (z30 l z0b [] ⟨0,[],0⟩).2).1.name.size=1:=rfl
  have t1:=(zc9 l z0b [] sI0 ⟨0,[],0⟩).1
  have t2:=(zc9 l z3q [1,2] sI0 (z30 l z0b [] ⟨0,[],0⟩).2).1
  omega
set_option maxRecDepth 20000
set_option maxHeartbeats 2000000
theorem y0f {m n z:Int} (hn:n≠0) (h:m.tdiv n=z) (h1:-9223372036854775808<=z/\z<=9223372036854775807):z3v .quo .i64 m n=some (.int .i64 z):=by
  subst h;simp only [z3v];rw [if_neg hn,IntWalk.i64_in _ h1]
theorem ye5 (u v:Un) (hW:z0r u<=536870912) (ins:List Int) (fuel q:Int) (hf:0<=fuel/\fuel<=1000000) (hq:fuel.tdiv 4=q) (a b c d:Rs)
    (hA:SC Tryz.prog 17 [.pv u.enc,.pv (ints ins),iInt fuel] [] (fun _=>False) (.pv (runv a)) [])
    (hB:SC Tryz.prog 17 [.pv v.enc,.pv (ints ins),iInt fuel] [] (fun _=>False) (.pv (runv b)) [])
    (hC:SC Tryz.prog 17 [.pv v.enc,.pv (ints ins),iInt q] [] (fun _=>False) (.pv (runv c)) [])
    (hD:SC Tryz.prog 17 [.pv u.enc,.pv (ints ins),iInt ((q+1)*((uSz u.flows:Int)+1))] [] (fun _=>False) (.pv (runv d)) [])
    (h1:Fol a b) (h2:a.st≠0->b.cost<=a.cost/\a.fuel<=b.fuel) (h3:Fol c d) (hb:b.out.length<=1073741824) (hd:d.out.length<=1073741824) :
    SC Tryz.prog 13 [.pv u.enc,.pv v.enc,.pv (ints ins),iInt fuel] [] (fun k=>k∈[]) (iBool true) []:=by
  refine SC.vc tb {} [] Tryz.func13 rfl rfl ?_
  have hF1:=zz8 a b h1 hb
  have hF2:=zz8 c d h3 hd
  have hN:=sc_nodes u hW
  have hw:=uSz_W u.flows
  have hw2:wtF u.flows<=z0r u:=by unfold z0r;omega
  have hqb:0<=q/\q<=1000000:=by
    rw [<- hq,Int.tdiv_eq_ediv_of_nonneg hf.1];omega
  have hm:-9223372036854775808<=(q+1)*((uSz u.flows:Int)+1)/\(q+1)*((uSz u.flows:Int)+1)<=9223372036854775807:=by
    have x1:0<=(q+1)*((uSz u.flows:Int)+1):=Int.mul_nonneg oM0 oM0
    have x2:(q+1)*((uSz u.flows:Int)+1)<=1000001*536870913:=Int.mul_le_mul oM0 oM0 oM0 oM0
    omega
  obtain ⟨ains,aar,ast,acode,aout,acost,afuel,asp⟩:=a
  obtain ⟨bins,bar,bst,bcode,bout,bcost,bfuel,bsp⟩:=b
  dsimp only at h2
  refine ⟨[],hA,sR,trivial,rfl,[],hB,sR,trivial,rfl,[],hF1,sR,trivial,rfl,?_⟩
  refine z00 (fun h5=>?_) fun h5=>?_
  · have hst:ast≠0:=by simpa using h5
    obtain ⟨c1,c2⟩:=h2 hst
    refine z00 (fun h6=>absurd h6 (by simp;omega)) fun _=>z00 (fun h6=>absurd h6 (by simp;omega)) fun _=>?_
    exact ⟨y0f dC0 hq oM0,[],hC,sR,trivial,rfl,y0f dC0 hq oM0,z02 rfl oM0,[],hN,sR,trivial,rfl,z02 rfl oM0,yb1 rfl hm,[],hD,sR,trivial,rfl,[],hF2,sR,trivial,rfl,sI,trivial⟩
  · exact ⟨y0f dC0 hq oM0,[],hC,sR,trivial,rfl,y0f dC0 hq oM0,z02 rfl oM0,[],hN,sR,trivial,rfl,z02 rfl oM0,yb1 rfl hm,[],hD,sR,trivial,rfl,[],hF2,sR,trivial,rfl,sI,trivial⟩
theorem arr_size {u:Un} {A:Ar} (hz:(z18 u).1=0) (h:u.arrays=[A]):0<=A.size/\A.size<=1000:=by
  obtain ⟨h1,_⟩:=(z74 u).1 hz
  unfold z13 at h1
  simp only [Bool.and_eq_true] at h1
  have h2:=h1.1.1
  rw [h] at h2
  simp only [r8gA,gArr,Bool.and_eq_true,Bool.not_eq_true',decide_eq_false_iff_not] at h2
  omega
theorem y6z (u:Un) (h1:u.arrays.length<=1) (hW:z0r u<=536870912) (hz:(z18 u).1=0) (ins:List Int) (fuel:Int) (d:Nat) (r:Int × Rs) (h:z3r u d (z03 z0b u.flows 0) [] (runA u ins fuel)=some r) :
    SC Tryz.prog 17 [.pv u.enc,.pv (ints ins),iInt fuel] [] (fun _=>False) (.pv (runv (mEnd r))) []:=by
  have hs:=@arr_size u
  obtain ⟨ar,fs⟩:=u
  rcases ar with _ | ⟨A,_ | ⟨A2,t⟩⟩
  · exact yi0 fs hW hz ins fuel d r h
  · exact sr_run1 fs A hW hz ins fuel d r h (hs hz rfl)
  · simp at h1
theorem y5a {u v:Un} (R:URel u v) (h1:u.arrays.length<=1) (hW:z0r u<=536870912) (hW':z0r v<=536870912) (hz:(z18 u).1=0) (hz':(z18 v).1=0) (hN:uSz u.flows<=4000000) (ins:List Int) (fuel:Int) (hf:0<=fuel/\fuel<=510) :
    SC Tryz.prog 13 [.pv u.enc,.pv v.enc,.pv (ints ins),iInt fuel] [] (fun k=>k∈[]) (iBool true) []:=by
  have hq:0<=fuel.tdiv 4/\fuel.tdiv 4<=127:=by rw [Int.tdiv_eq_ediv_of_nonneg hf.1];omega
  have hfD0:0<=(fuel.tdiv 4+1)*((uSz u.flows:Int)+1):=Int.mul_nonneg oM0 oM0
  have hfD:(fuel.tdiv 4+1)*((uSz u.flows:Int)+1)<=128*4000001:=Int.mul_le_mul oM0 oM0 oM0 oM0
  have B:(1073741824:Int)<=4611686018427387903:=by decide
  have M:(1073741824:Int)<=1073741824:=by decide
  have hav:v.arrays.length<=1:=by rw [R.ar];exact h1
  obtain ⟨da,qa,ra,ia⟩:=y11 hz ins hf.1 B M oM0 oM0
  obtain ⟨db,qb,rb,ib⟩:=y11 hz' ins hf.1 B M oM0 oM0
  obtain ⟨dc,qc,rc,ic⟩:=y11 hz' ins hq.1 B M oM0 oM0
  obtain ⟨dd,qd,rd,id⟩:=y11 hz ins hfD0 B M oM0 oM0
  have k1:=rc_fol (y6s true R ins hf.1 hf.1 B (M:=1073741824) oM0 oM0 oM0 oM0 (by unfold G;simp) ra rb)
  have k2:=rc_fol2 (y6s false R ins hfD0 hq.1 B (M:=1073741824) oM0 oM0 oM0 oM0 (by
    unfold G
    simp only [Bool.false_eq_true,if_false]
    rw [Int.add_mul]
    generalize fuel.tdiv 4*((uSz u.flows:Int)+1)=P
    omega) rd rc)
  have ob:qb.2.out.length<=1073741824:=by have:=ib.out;have:=ib.ok.1;omega
  have od:qd.2.out.length<=1073741824:=by have:=id.out;have:=id.ok.1;omega
  exact ye5 u v hW ins fuel (fuel.tdiv 4) oM0 rfl _ _ _ _ (y6z u h1 hW hz ins fuel da qa ra) (y6z v hav hW' hz' ins fuel db qb rb) (y6z v hav hW' hz' ins _ dc qc rc) (y6z u h1 hW hz ins _ dd qd rd) k1.1 k1.2 k2 (by rw [zh7];exact ob) (by rw [zh7];exact od)
theorem z2o (l:List UInt8) (n:Nat) (g:Gn) (hn:0<n) (hb:g.pos<=1000000):SC Tryz.prog 49 [.ptr 2001 0,iInt (n:Int)] (gH l g) (fun _=>False) (iInt ((z05 l n g).1:Int)) (gH l (z05 l n g).2):=by
  refine SC.of Tryz.func49 rfl (lb rfl) fun F ρ w=>?_
  refine tQ <| tG <| sm 1 rfl <| nL <| tQ <| tG <| sm 1 rfl <| cV rfl (nCk rfl rfl rfl) <| sm 2 rfl <| cV rfl (oB rfl rfl (z02 rfl oM0)) <| cV rfl (nCk rfl rfl rfl) <| sm 1 rfl ?_
  refine c0 (sBx rfl rfl rfl rfl ((fun h=>h)) tS3 (rfl) (lb rfl)) <| nL <| tQ <| tQ <| Tr.still z5q kR0 rfl <| smS 1 rfl <| sV rfl (nCk rfl rfl rfl) <| smS 3 rfl <| sV rfl (nCk rfl rfl rfl) <| smS 2 rfl <| sV rfl (oSm Tryz.underlying29 rfl) <| smS 2 rfl ?_
  refine WS.split (t:=22) rfl (fun hb22=>?_) (fun hb22=>?_)
  ·refine smS 6 rfl <| WS.nil <| Tr.condT rfl ?_
   have hc:g.pos+1 > l.length∨g.pos+1 > 150:=by
     (have:=hb22;simp at this;omega)
   refine tQ <| tG <| sm 1 rfl <| nL <| tRt <| rOk rfl ?_ (po2 rfl rfl)
   simp only [z05,if_pos hc]
   rfl
  refine smS 1 rfl <| syV rfl rfl (nCk rfl rfl rfl) <| smS 4 rfl <| WS.nil ?_
  refine tC rfl (fun hc28=>?_) fun hc28=>?_
  ·have hc:g.pos+1 > l.length∨g.pos+1 > 150:=by
     (have:=hc28;simp at this;omega)
   refine tQ <| tG <| sm 1 rfl <| nL <| tRt <| rOk rfl ?_ (po2 rfl rfl)
   simp only [z05,if_pos hc]
   rfl
  have hc:¬ (g.pos+1 > l.length∨g.pos+1 > 150):=by
    simp at hb22 hc28
    omega
  have hlt:g.pos<l.length:=by omega
  have hi:=z06 (f:=eB) (List.getElem?_eq_getElem hlt)
  have hgd:l.getD g.pos 0=l[g.pos]:=by rw [List.getD,List.getElem?_eq_getElem hlt];rfl
  generalize l[g.pos]=x at hi hgd
  have hrem:z3v .rem .i64 (IntKind.i64.wrap (x.toNat:Int)) (n:Int)=some (.int .i64 ((x.toNat % n:Nat):Int)):=by rw [u8_i64];exact i64_rem hn
  refine tSk <| tQ <| Tr.still z5q kR0 rfl <| smS 1 rfl <| sV rfl (nCk rfl rfl rfl) <| smS 3 rfl <| sV rfl (nCk rfl rfl rfl) <| smS 2 rfl <| sV rfl (oB rfl rfl (z3i rfl oM0)) <| sV rfl (iSq rfl rfl rfl Tryz.underlying29 hi tS5 rfl oM0) <| smS 1 rfl <| sV rfl (zb4 rfl rfl ⟨_,Tryz.underlying5⟩ uT3) ?_
  refine smS 1 rfl <| sV rfl (oB rfl rfl hrem) <| smS 1 rfl <| WS.nil <| tRt <| rOk rfl ?_ (po2 rfl rfl)
  simp only [z05,if_neg hc,hgd]
theorem zf5 (l:List UInt8) (t:Int) (g:Gn) (hb:g.types.length<=1000000):SC Tryz.prog 35 [.ptr 2001 0,iInt t] (gH l g) (fun _=>False) (iInt (z08 t g).1) (gH l (z08 t g).2):=by
  refine SC.of Tryz.func35 rfl (lb rfl) fun F ρ w=>?_
  have hbl:(g.types.map eInt).length=g.types.length:=by simp
  have hbl2:((z08 t g).2.types.map eInt).length=g.types.length+1:=by simp [z08]
  refine tQ <| tG <| sm 1 rfl <| nL <| tQ <| tG <| sm 2 rfl <| cV rfl (nCk rfl rfl rfl) <| sm 3 rfl <| cE rfl (bSl rfl rfl uT35 tZ3 tS3 rfl rfl rfl rfl (fbk rfl) rfl) ?_
  refine cE rfl (aPp rfl rfl rfl rfl (by rfl) ((fun h=>h)) uT35 tB3 dC0 (by (simp [z07];done)) (by (simp [z07,PV.one];rfl)) (by simp [maxLen,z07];omega) (by simp [z07];omega)) ?_
  refine cV rfl (nCk rfl rfl rfl) <| sm 1 rfl <| c0 (sBx rfl rfl rfl rfl ((fun h=>h)) tS35 (⟨_,_,rfl,by simp⟩) (lb rfl)) <| nL <| tQ ?_
  refine Tr.heap (σ':=look [(2001,some (z3h l (z08 t g).2)),(2002,some (rowI (z08 t g).2.types))]) (lkq [2001,2002] rfl rfl ⟨(by first | exact congrArg (fun z=>some (HO.row _ z)) (by simp [z08,z07,eInt]) | exact congrArg (fun z=>some (HO.box z)) (by simp [z08,z07,eInt])),(by first | exact congrArg (fun z=>some (HO.row _ z)) (by simp [z08,z07,eInt]) | exact congrArg (fun z=>some (HO.box z)) (by simp [z08,z07,eInt])),trivial⟩) ?_
  refine tG <| sm 1 rfl <| cV rfl (nCk rfl rfl rfl) <| sm 2 rfl <| cV rfl (z9j rfl rfl rfl rfl uT35) <| cV rfl (oB rfl rfl (z3i rfl oM0)) <| sm 1 rfl <| nL <| tRt <| rOk rfl ?_ (po2 rfl rfl)
  refine congrArg (fun z=>IV.pv (.val (.int .i64 z))) ?_
  rw [hbl2]
  simp only [z08]
  omega
theorem sc_gSome (l:List UInt8) (g:Gn) (seen:List Int) (t:Int) (hs:InR g.types seen) (hb:g.pos<=999999) (hsl:seen.length<=1000000):SC Tryz.prog 74 [.ptr 2001 0,.sl 2003 (seen.map eInt).length,iInt t] (gHs l g seen) (fun _=>False) (iInt (zd4 l seen t g).1) (gHs l (zd4 l seen t g).2 seen):=by
  refine SC.of Tryz.func74 rfl (lb rfl) fun F ρ w=>?_
  have hp8:(z05 l 8 g).1<8:=z1x oM0
  refine tQ <| tG <| sm 1 rfl <| nL <| tQ <| tG <| sm 1 rfl <| cE rfl (ocr (z2o l 8 g oM0 oM0) y9u rfl (po2 rfl rfl) rfl (fun k (h:_)=>.inr h) rfl rfl) <| sm 1 rfl <| nL <| tQ <| tG ?_
  refine sm 1 rfl <| nL <| tQ <| tQ <| tG <| sm 1 rfl <| nL <| tBk <| Tr.sub (Sub.of (fr':=[(9,iInt 0),(8,iInt 0),(7,iInt ((z05 l 8 g).1:Int)),(0,.ptr 2001 0),(1,.sl 2003 (seen.map eInt).length),(2,iInt t)]) ⟨rfl,rfl,rfl,rfl,rfl,rfl,trivial⟩) <| Tr.heap (σ':=look [(2001,some (z3h l (z05 l 8 g).2)),(2002,some (rowI (z05 l 8 g).2.types)),(2003,some (rowI seen))]) (lkq [2001,2002,2003] rfl rfl ⟨rfl,rfl,rfl,trivial⟩) ?_
  refine Tr.loop (fun fr σ m=>∃ (i:Nat) (k:Int) (v:Int),(i<=seen.length)/\(k<=8 /\ -(i:Int)<=k)/\(gS1 g.types t (i==0) k v (seen.drop i)=gS1 g.types t true (z05 l 8 g).1 0 seen)/\fr=[(9,iInt i),(8,iInt v),(7,iInt k),(0,.ptr 2001 0),(1,.sl 2003 (seen.map eInt).length),(2,iInt t)] /\ σ = look [(2001,some (z3h l (z05 l 8 g).2)),(2002,some (rowI (z05 l 8 g).2.types)),(2003,some (rowI seen))]/\m=seen.length - i) (n:=seen.length - 0) ?_ ?_
  ·exact ⟨0,((z05 l 8 g).1:Int),0,Nat.zero_le _,⟨by omega,by omega⟩,rfl,rfl,rfl,rfl⟩
  rintro fr σ m ⟨i,k,v,hI0,hI1,hI2,rfl,rfl,rfl⟩
  refine tQ <| tQ <| tG <| sm 2 rfl <| cV rfl (z9j rfl rfl rfl rfl uT35) <| sm 1 rfl <| nL ?_
  refine tC rfl (fun hc16=>?_) fun hc16=>?_
  ·have hlt:i<seen.length:=by simpa using hc16
   have hd:=List.drop_eq_getElem_cons hlt
   have hm:=List.getElem_mem hlt
   have hi:=z06 (f:=eInt) (List.getElem?_eq_getElem hlt)
   generalize seen[i]=s at hd hm hi
   have hil:i<(seen.map eInt).length:=by rw [List.length_map];exact hlt
   obtain ⟨hs1,hs2,hs3⟩:=hs.at hm
   refine tSk <| tQ <| tBk <| tQ <| Tr.still z5q kR0 rfl <| smS 1 rfl <| sV rfl (nCk rfl rfl rfl) <| smS 4 rfl <| sV rfl (iRw rfl rfl rfl rfl rfl uT35 tS3 hil (by rfl)) <| sV rfl (lRw rfl rfl rfl rfl (Nat.add_zero _).symm hi rfl uT3 rfl trivial) <| sV rfl (iRw rfl rfl rfl rfl rfl uT35 tS3 hs1 (by assumption)) <| sV rfl (lRw rfl rfl rfl rfl (Nat.add_zero _).symm hs2 rfl uT3 rfl trivial) ?_
   refine smS 3 rfl ?_
   refine WS.split (t:=31) rfl (fun hb31=>?_) (fun hb31=>?_)
   ·refine smS 3 rfl ?_
    refine WS.split (t:=34) rfl (fun hb34=>?_) (fun hb34=>?_)
    ·refine smS 4 rfl <| WS.nil <| Tr.condT rfl <| tQ <| tG <| sm 2 rfl <| cV rfl (iRw rfl rfl rfl rfl rfl uT35 tS3 hil (by rfl)) <| cV rfl (lRw rfl rfl rfl rfl (Nat.add_zero _).symm hi rfl uT3 rfl trivial) <| sm 1 rfl <| nL <| tG <| sm 1 rfl ?_
     refine cV rfl (oB rfl rfl (z3i rfl oM0)) <| sm 1 rfl <| nL <| tG <| sm 1 rfl <| cV rfl (oB rfl rfl (z02 rfl oM0)) <| sm 1 rfl <| nL ?_
     refine ⟨_,_,?_,Sub.of (fr':=[(9,iInt (i+1)),(8,iInt s),(7,iInt (k - 1)),(0,.ptr 2001 0),(1,.sl 2003 (seen.map eInt).length),(2,iInt t)]) ⟨rfl,rfl,rfl,rfl,rfl,rfl,trivial⟩,(i+1),(k - 1),s,?_,?_,?_,rfl,rfl,rfl⟩
     ·omega
     ·omega
     ·omega
     rw [<- hI2,hd]
     have hi0:(i+1==0)=false:=rfl
     rw [hi0]
     simp only [gS1]
     (rw [if_pos (by clear hs3 hi hs hd hm hs1 hs2 hI2;simp_all)];done)
    refine smS 4 rfl <| WS.nil ?_
    refine tC rfl (fun hc38=>?_) fun hc38=>?_
    ·refine tQ <| tG <| sm 2 rfl <| cV rfl (iRw rfl rfl rfl rfl rfl uT35 tS3 hil (by rfl)) <| cV rfl (lRw rfl rfl rfl rfl (Nat.add_zero _).symm hi rfl uT3 rfl trivial) <| sm 1 rfl <| nL <| tG <| sm 1 rfl <| cV rfl (oB rfl rfl (z3i rfl oM0)) <| sm 1 rfl <| nL ?_
     refine tG <| sm 1 rfl <| cV rfl (oB rfl rfl (z02 rfl oM0)) <| sm 1 rfl <| nL ?_
     refine ⟨_,_,?_,Sub.of (fr':=[(9,iInt (i+1)),(8,iInt s),(7,iInt (k - 1)),(0,.ptr 2001 0),(1,.sl 2003 (seen.map eInt).length),(2,iInt t)]) ⟨rfl,rfl,rfl,rfl,rfl,rfl,trivial⟩,(i+1),(k - 1),s,?_,?_,?_,rfl,rfl,rfl⟩
     ·omega
     ·omega
     ·omega
     rw [<- hI2,hd]
     have hi0:(i+1==0)=false:=rfl
     rw [hi0]
     simp only [gS1]
     (rw [if_pos (by clear hs3 hi hs hd hm hs1 hs2 hI2;simp_all)];done)
    refine tSk <| tG <| sm 1 rfl <| cV rfl (oB rfl rfl (z02 rfl oM0)) <| sm 1 rfl <| nL ?_
    refine ⟨_,_,?_,Sub.of (fr':=[(9,iInt (i+1)),(8,iInt v),(7,iInt k),(0,.ptr 2001 0),(1,.sl 2003 (seen.map eInt).length),(2,iInt t)]) ⟨rfl,rfl,rfl,rfl,rfl,rfl,trivial⟩,(i+1),k,v,?_,?_,?_,rfl,rfl,rfl⟩
    ·omega
    ·omega
    ·omega
    rw [<- hI2,hd]
    have hi0:(i+1==0)=false:=rfl
    rw [hi0]
    simp only [gS1]
    (rw [if_neg (by clear hs3 hi hs hd hm hs1 hs2 hI2;simp_all)];done)
   refine smS 3 rfl <| WS.noU rfl rfl rfl rfl rfl rfl <| WS.noU rfl rfl rfl rfl rfl rfl <| smS 2 rfl <| WS.nil <| Tr.condF rfl <| tSk <| tG <| sm 1 rfl <| cV rfl (oB rfl rfl (z02 rfl oM0)) <| sm 1 rfl <| nL ?_
   refine ⟨_,_,?_,Sub.of (fr':=[(9,iInt (i+1)),(8,iInt v),(7,iInt k),(0,.ptr 2001 0),(1,.sl 2003 (seen.map eInt).length),(2,iInt t)]) ⟨rfl,rfl,rfl,rfl,rfl,rfl,trivial⟩,(i+1),k,v,?_,?_,?_,rfl,rfl,rfl⟩
   ·omega
   ·omega
   ·omega
   rw [<- hI2,hd]
   have hi0:(i+1==0)=false:=rfl
   rw [hi0]
   simp only [gS1]
   (rw [if_neg (by clear hs3 hi hs hd hm hs1 hs2 hI2;simp_all)];done)
  refine tEx <| tQ <| tQ ?_
  have hge:seen.length<=i:=by simpa using hc16
  rw [List.drop_eq_nil_of_le hge] at hI2
  simp only [gS1] at hI2
  obtain ⟨v0,hv0e⟩:∃ v0,gS1 g.types t true (z05 l 8 g).1 0 seen=v0:=⟨_,rfl⟩
  have hv0:=ya5 (t:=t) seen true (z05 l 8 g).1 0 hs ⟨by omega,.inr rfl⟩
  rw [hv0e] at hI2 hv0
  subst hI2
  refine tG <| sm 1 rfl <| nL <| tBk <| Tr.sub (Sub.of (fr':=[(10,iInt 0),(8,iInt v),(0,.ptr 2001 0),(1,.sl 2003 (seen.map eInt).length),(2,iInt t)]) ⟨rfl,rfl,rfl,rfl,rfl,trivial⟩) ?_
  refine Tr.loop (fun fr σ m=>∃ (i:Nat) (v1:Int),(i<=seen.length)/\(gS2 g.types t v1 (seen.drop i)=gS2 g.types t v seen)/\(0<=v1/\(v1.toNat<g.types.length∨v1=0))/\fr=[(10,iInt i),(8,iInt v1),(0,.ptr 2001 0),(1,.sl 2003 (seen.map eInt).length),(2,iInt t)] /\ σ = look [(2001,some (z3h l (z05 l 8 g).2)),(2002,some (rowI (z05 l 8 g).2.types)),(2003,some (rowI seen))]/\m=seen.length - i) (n:=seen.length - 0) ?_ ?_
  ·exact ⟨0,v,Nat.zero_le _,rfl,hv0,rfl,rfl,rfl⟩
  rintro fr σ m ⟨i,v1,hI0,hI1,hI2,rfl,rfl,rfl⟩
  refine tQ <| tQ <| tG <| sm 2 rfl <| cV rfl (z9j rfl rfl rfl rfl uT35) <| sm 2 rfl ?_
  refine wS 49 rfl (fun hb49=>?_) fun hb49=>?_
  ·have hlt:i<seen.length:=by simpa using hb49
   have hd:=List.drop_eq_getElem_cons hlt
   have hm:=List.getElem_mem hlt
   have hi:=z06 (f:=eInt) (List.getElem?_eq_getElem hlt)
   generalize seen[i]=s at hd hm hi
   have hil:i<(seen.map eInt).length:=by rw [List.length_map];exact hlt
   obtain ⟨hs1,hs2,hs3⟩:=hs.at hm
   have hvr:v1.toNat<g.types.length:=by
     rcases hI2.2 with h1 | h1
     ·exact h1
     subst h1
     have:s.toNat<g.types.length:=by simpa using hs1
     simp;omega
   have hvm:InR g.types [v1]:=fun x hx=>by rw [List.mem_singleton.1 hx];exact ⟨hI2.1,hvr⟩
   obtain ⟨hv1,hv2,hv3⟩:=hvm.at (.head _)
   refine sm 1 rfl <| yV rfl rfl (nCk rfl rfl rfl) <| sm 3 rfl <| yV rfl rfl (iRw rfl rfl rfl rfl rfl uT35 tS3 hv1 (by assumption)) <| yV rfl rfl (lRw rfl rfl rfl rfl (Nat.add_zero _).symm hv2 rfl uT3 rfl trivial) <| sm 3 rfl <| nL ?_
   refine tC rfl (fun hc59=>?_) fun hc59=>?_
   ·have hcont:(g.types.getD v1.toNat 0 != t)=true:=hc59
    refine tSk <| tQ <| tBk <| tQ <| Tr.still z5q kR0 rfl <| smS 1 rfl <| sV rfl (nCk rfl rfl rfl) <| smS 4 rfl <| sV rfl (iRw rfl rfl rfl rfl rfl uT35 tS3 hil (by rfl)) <| sV rfl (lRw rfl rfl rfl rfl (Nat.add_zero _).symm hi rfl uT3 rfl trivial) <| sV rfl (iRw rfl rfl rfl rfl rfl uT35 tS3 hs1 (by assumption)) <| sV rfl (lRw rfl rfl rfl rfl (Nat.add_zero _).symm hs2 rfl uT3 rfl trivial) ?_
    refine smS 2 rfl <| WS.nil ?_
    refine tC rfl (fun hc73=>?_) fun hc73=>?_
    ·refine tG <| sm 2 rfl <| cV rfl (iRw rfl rfl rfl rfl rfl uT35 tS3 hil (by rfl)) <| cV rfl (lRw rfl rfl rfl rfl (Nat.add_zero _).symm hi rfl uT3 rfl trivial) <| sm 1 rfl <| nL <| tG <| sm 1 rfl <| cV rfl (oB rfl rfl (z02 rfl oM0)) <| sm 1 rfl <| nL ?_
     refine ⟨_,_,?_,Sub.of (fr':=[(10,iInt (i+1)),(8,iInt s),(0,.ptr 2001 0),(1,.sl 2003 (seen.map eInt).length),(2,iInt t)]) ⟨rfl,rfl,rfl,rfl,rfl,trivial⟩,(i+1),s,?_,?_,?_,rfl,rfl,rfl⟩
     ·omega
     ·omega
     ·rw [<- hI1,hd]
      simp only [gS2]
      rw [if_pos hcont]
      (rw [if_pos hc73];done)
     first
     | exact hI2
     | exact ⟨by omega,.inl (by simpa using hs1)⟩
    refine tSk <| tG <| sm 1 rfl <| cV rfl (oB rfl rfl (z02 rfl oM0)) <| sm 1 rfl <| nL ?_
    refine ⟨_,_,?_,Sub.of (fr':=[(10,iInt (i+1)),(8,iInt v1),(0,.ptr 2001 0),(1,.sl 2003 (seen.map eInt).length),(2,iInt t)]) ⟨rfl,rfl,rfl,rfl,rfl,trivial⟩,(i+1),v1,?_,?_,?_,rfl,rfl,rfl⟩
    ·omega
    ·omega
    ·rw [<- hI1,hd]
     simp only [gS2]
     rw [if_pos hcont]
     (rw [if_neg (by rw [hc73];decide)];done)
    first
    | exact hI2
    | exact ⟨by omega,.inl (by simpa using hs1)⟩
   refine tEx <| tQ <| tG <| sm 2 rfl <| nL <| tRt <| rOk rfl ?_ (po3 rfl rfl rfl)
   refine congrArg iInt ?_
   show _=gS2 g.types t (gS1 g.types t true (z05 l 8 g).1 0 seen) seen
   rw [hv0e,<- hI1]
   (rw [hd]
    simp only [gS2]
    rw [if_neg (by rw [show (g.types.getD v1.toNat 0 != t)=false from hc59];decide)]
    done)
  refine sm 10 rfl <| nL <| Tr.condF rfl <| tEx <| tQ <| tG <| sm 2 rfl <| nL <| tRt <| rOk rfl ?_ (po3 rfl rfl rfl)
  refine congrArg iInt ?_
  show _=gS2 g.types t (gS1 g.types t true (z05 l 8 g).1 0 seen) seen
  rw [hv0e,<- hI1]
  (rw [List.drop_eq_nil_of_le (by simpa using hb49)]
   rfl)
theorem z20 (l:List UInt8) (seen ts:List Int) (g:Gn) (hs:InR g.types seen) (hb:g.pos+ts.length<=1000000) (hsl:seen.length<=1000000):SC Tryz.prog 52 [.ptr 2001 0,.sl 2003 (seen.map eInt).length,.pv (ints ts)] (gHs l g seen) (fun _=>False) (.pv (ints (z1n l seen ts g).1)) (gHs l (z1n l seen ts g).2 seen):=by
  refine SC.of Tryz.func52 rfl (lb rfl) fun F ρ w=>?_
  refine Tr.lenOf (t:=2) rfl (fun hl=>?_)
  simp only [List.length_map] at hl
  refine tQ <| tG <| sm 1 rfl <| nL <| tQ <| tG <| sm 1 rfl <| nL <| tQ <| tQ <| Tr.grow (t:=7) (k:=107) ⟨3,1⟩ rfl rfl rfl rfl rfl <| tG ?_
  refine sm 1 rfl <| nL <| tBk <| Tr.sub (Sub.of (fr':=[(8,iInt 0),(7,.sl 107 (([]:List Int).map eInt).length),(0,.ptr 2001 0),(1,.sl 2003 (seen.map eInt).length),(2,.pv (ints ts))]) ⟨rfl,rfl,rfl,rfl,rfl,trivial⟩) <| Tr.heap (σ':=look [(107,some (rowI ([]:List Int))),(2001,some (z3h l g)),(2002,some (rowI g.types)),(2003,some (rowI seen))]) (lkq [107,2001,2002,2003] rfl rfl ⟨rfl,rfl,rfl,rfl,trivial⟩) ?_
  refine Tr.loop (fun fr σ m=>∃ (i:Nat) (acc:List Int) (g1:Gn),(i<=ts.length)/\(acc++(z1n l seen (ts.drop i) g1).1=(z1n l seen ts g).1)/\((z1n l seen (ts.drop i) g1).2=(z1n l seen ts g).2)/\(g1.types=g.types)/\(g1.pos+(ts.length - i)<=1000000)/\(acc.length=i)/\fr=[(8,iInt i),(7,.sl 107 (acc.map eInt).length),(0,.ptr 2001 0),(1,.sl 2003 (seen.map eInt).length),(2,.pv (ints ts))] /\ σ = look [(107,some (rowI acc)),(2001,some (z3h l g1)),(2002,some (rowI g1.types)),(2003,some (rowI seen))]/\m=ts.length - i) (n:=ts.length - 0) ?_ ?_
  ·exact ⟨0,([]:List Int),g,Nat.zero_le _,sI0,rfl,rfl,hb,rfl,rfl,rfl,rfl⟩
  rintro fr σ m ⟨i,acc,g1,hI0,hI1,hI2,hIt,hIb,hIa,rfl,rfl,rfl⟩
  refine tQ <| tQ <| tG <| sm 2 rfl <| cV rfl (oSm uT35 rfl) <| sm 1 rfl <| nL ?_
  refine tC rfl (fun hc12=>?_) fun hc12=>?_
  ·have hlt:i<ts.length:=by simpa using hc12
   have hd:=List.drop_eq_getElem_cons hlt
   have hm:=List.getElem_mem hlt
   have hi:=z06 (f:=eInt) (List.getElem?_eq_getElem hlt)
   generalize ts[i]=x at hd hm hi
   have hal:(acc.map eInt).length=acc.length:=by simp
   refine tSk <| tQ <| tBk <| tG <| sm 5 rfl <| cV rfl (iSq rfl rfl rfl uT35 hi tS3 rfl (by rfl)) <| sm 1 rfl <| cE rfl (ocr (sc_gSome l g1 seen x (by rw [hIt];exact hs) oM0 hsl) ent74 rfl (po3 rfl rfl rfl) rfl (fun k (h:_)=>.inr h) rfl rfl) <| cE rfl (bSl rfl rfl uT35 tZ3 tS3 rfl rfl rfl rfl (fbk rfl) rfl) ?_
   refine cE rfl (aPp rfl rfl rfl rfl (by rfl) ((fun h=>h)) uT35 tB3 dC0 (by (simp [z07];done)) (by (simp [z07,PV.one];rfl)) (by simp [maxLen,z07];omega) (by simp [z07];omega)) ?_
   refine sm 1 rfl <| nL <| tG <| sm 1 rfl <| cV rfl (oB rfl rfl (z02 rfl oM0)) <| sm 1 rfl <| nL ?_
   refine ⟨_,_,?_,Sub.of (fr':=[(8,iInt (i+1)),(7,.sl 107 ((acc++[(zd4 l seen x g1).1]).map eInt).length),(0,.ptr 2001 0),(1,.sl 2003 (seen.map eInt).length),(2,.pv (ints ts))]) ⟨rfl,congrArg (fun z=>some (IV.sl _ z)) (by simp [z07,eInt]),rfl,rfl,rfl,trivial⟩,(i+1),(acc++[(zd4 l seen x g1).1]),(zd4 l seen x g1).2,?_,?_,?_,?_,?_,?_,rfl,(funext (lkq [107,2001,2002,2003] rfl rfl ⟨(congrArg (fun z=>some (HO.row _ z)) (by simp [z07,eInt])),rfl,rfl,rfl,trivial⟩)),rfl⟩
   ·omega
   ·omega
   ·rw [<- hI1,hd];simp [z1n]
   ·rw [<- hI2,hd];rfl
   ·exact hIt
   ·show g1.pos+1+(ts.length - (i+1))<=1000000
    omega
   simp [hIa]
  refine tEx <| tQ <| Tr.freeze (t:=7) (k:=107) rfl rfl sI0 ?_
  have hge:ts.length<=i:=by simpa using hc12
  rw [List.drop_eq_nil_of_le hge] at hI1 hI2
  simp only [z1n,List.append_nil] at hI1 hI2
  subst hI2
  refine tG <| sm 2 rfl <| nL <| tRt <| rOk rfl ?_ (po3 rfl rfl rfl)
  rw [<- hI1]
  rfl
theorem z94 (l:List UInt8) (g:Gn) (hb:g.pos<=999990):SC Tryz.prog 51 [.ptr 2001 0] (gH l g) (fun _=>False) (.pv (ints (z0n l g).1)) (gH l (z0n l g).2):=by
  refine SC.of Tryz.func51 rfl (lb rfl) fun F ρ w=>?_
  have hp3:(z05 l 3 g).1<3:=z1x oM0
  refine tQ <| tG <| sm 1 rfl <| nL <| tQ <| tG <| sm 1 rfl <| nL <| tQ <| tQ <| Tr.grow (t:=3) (k:=103) ⟨3,1⟩ rfl rfl rfl rfl rfl <| tG ?_
  refine sm 1 rfl <| cE rfl (ocr (z2o l 3 g oM0 oM0) y9u rfl (po2 rfl rfl) rfl (fun k (h:_)=>.inr h) rfl rfl) <| sm 1 rfl <| nL <| tBk <| Tr.sub (Sub.of (fr':=[(4,iInt (((z05 l 3 g).1:Nat):Int)),(3,.sl 103 (([]:List Int).map eInt).length),(0,.ptr 2001 0)]) ⟨rfl,rfl,rfl,trivial⟩) <| Tr.heap (σ':=look [(103,some (rowI ([]:List Int))),(2001,some (z3h l (z05 l 3 g).2)),(2002,some (rowI (z05 l 3 g).2.types))]) (lkq [103,2001,2002] rfl rfl ⟨rfl,rfl,rfl,trivial⟩) ?_
  refine Tr.loop (fun fr σ m=>∃ (n:Nat) (acc:List Int) (g1:Gn),(n<=3)/\(acc++(gTyN l n g1).1=(z0n l g).1)/\((gTyN l n g1).2=(z0n l g).2)/\(g1.pos+n<=1000000)/\(acc.length+n<=3)/\fr=[(4,iInt ((n:Nat):Int)),(3,.sl 103 (acc.map eInt).length),(0,.ptr 2001 0)] /\ σ = look [(103,some (rowI acc)),(2001,some (z3h l g1)),(2002,some (rowI g1.types))]/\m=n+1) (n:=(z05 l 3 g).1+1) ?_ ?_
  ·exact ⟨(z05 l 3 g).1,([]:List Int),(z05 l 3 g).2,oM0,(by rw [List.nil_append];rfl),rfl,(by simp only [z05] at hp3 ⊢;omega),(by simp;omega),rfl,rfl,rfl⟩
  rintro fr σ m ⟨n,acc,g1,hI0,hI1,hI2,hIb,hIa,rfl,rfl,rfl⟩
  refine tQ <| tQ <| tG <| sm 2 rfl <| nL ?_
  refine tC rfl (fun hc8=>?_) fun hc8=>?_
  ·have hn0:0<n:=by simpa using hc8
   obtain ⟨m,rfl⟩:∃ m,n=m+1:=⟨n - 1,by omega⟩
   have hp2:(z05 l 2 g1).1<2:=z1x oM0
   have hal:(acc.map eInt).length=acc.length:=by simp
   refine tSk <| tQ <| tBk <| tG <| sm 2 rfl <| cE rfl (ocr (z2o l 2 g1 oM0 oM0) y9u rfl (po2 rfl rfl) rfl (fun k (h:_)=>.inr h) rfl rfl) <| cV rfl (oB rfl rfl (z02 rfl oM0)) <| cE rfl (bSl rfl rfl uT35 tZ3 tS3 rfl rfl rfl rfl (fbk rfl) rfl) ?_
   refine cE rfl (aPp rfl rfl rfl rfl (by rfl) ((fun h=>h)) uT35 tB3 dC0 (by (simp [z07];done)) (by (simp [z07,PV.one];rfl)) (by simp [maxLen,z07];omega) (by simp [z07];omega)) ?_
   refine sm 1 rfl <| nL <| tG <| sm 1 rfl <| cV rfl (oB rfl rfl (z3i rfl oM0)) <| sm 1 rfl <| nL ?_
   refine ⟨_,_,?_,Sub.of (fr':=[(4,iInt ((m:Nat):Int)),(3,.sl 103 ((acc++[1+((z05 l 2 g1).1:Int)]).map eInt).length),(0,.ptr 2001 0)]) ⟨congrArg (fun z=>some (iInt z)) oM0,congrArg (fun z=>some (IV.sl _ z)) (by simp [z07,eInt]),rfl,trivial⟩,m,(acc++[1+((z05 l 2 g1).1:Int)]),(z05 l 2 g1).2,?_,?_,?_,?_,?_,rfl,(funext (lkq [103,2001,2002] rfl rfl ⟨(congrArg (fun z=>some (HO.row _ z)) (by simp [z07,eInt])),rfl,rfl,trivial⟩)),rfl⟩
   ·omega
   ·omega
   ·rw [<- hI1];simp [gTyN]
   ·rw [<- hI2];rfl
   ·show g1.pos+1+m<=1000000
    omega
   simp;omega
  refine tEx <| tQ <| Tr.freeze (t:=3) (k:=103) rfl rfl sI0 ?_
  obtain rfl:n=0:=by simp at hc8;omega
  simp only [gTyN,List.append_nil] at hI1 hI2
  subst hI2
  refine tG <| sm 2 rfl <| nL <| tRt <| rOk rfl ?_ (po2 rfl rfl)
  rw [<- hI1]
  rfl
theorem z2m (l:List UInt8) (ts:List Int) (g:Gn) (hb:g.types.length+ts.length<=1000000):SC Tryz.prog 34 [.ptr 2001 0,.pv (ints ts)] (gH l g) (fun _=>False) (.pv (ints (z0k ts g).1)) (gH l (z0k ts g).2):=by
  refine SC.of Tryz.func34 rfl (lb rfl) fun F ρ w=>?_
  refine Tr.lenOf (t:=1) rfl (fun hl=>?_)
  simp only [List.length_map] at hl
  refine tQ <| tG <| sm 1 rfl <| nL <| tQ <| tG <| sm 1 rfl <| nL <| tQ <| tQ <| Tr.grow (t:=5) (k:=105) ⟨3,1⟩ rfl rfl rfl rfl rfl <| tG ?_
  refine sm 1 rfl <| nL <| tBk <| Tr.sub (Sub.of (fr':=[(6,iInt 0),(5,.sl 105 (([]:List Int).map eInt).length),(0,.ptr 2001 0),(1,.pv (ints ts))]) ⟨rfl,rfl,rfl,rfl,trivial⟩) <| Tr.heap (σ':=look [(105,some (rowI ([]:List Int))),(2001,some (z3h l g)),(2002,some (rowI g.types))]) (lkq [105,2001,2002] rfl rfl ⟨rfl,rfl,rfl,trivial⟩) ?_
  refine Tr.loop (fun fr σ m=>∃ (i:Nat) (acc:List Int) (g1:Gn),(i<=ts.length)/\(acc++(z0k (ts.drop i) g1).1=(z0k ts g).1)/\((z0k (ts.drop i) g1).2=(z0k ts g).2)/\(g1.types.length+(ts.length - i)<=1000000)/\(acc.length=i)/\fr=[(6,iInt i),(5,.sl 105 (acc.map eInt).length),(0,.ptr 2001 0),(1,.pv (ints ts))] /\ σ = look [(105,some (rowI acc)),(2001,some (z3h l g1)),(2002,some (rowI g1.types))]/\m=ts.length - i) (n:=ts.length - 0) ?_ ?_
  ·exact ⟨0,([]:List Int),g,Nat.zero_le _,sI0,rfl,hb,rfl,rfl,rfl,rfl⟩
  rintro fr σ m ⟨i,acc,g1,hI0,hI1,hI2,hIb,hIa,rfl,rfl,rfl⟩
  refine tQ <| tQ <| tG <| sm 2 rfl <| cV rfl (oSm uT35 rfl) <| sm 1 rfl <| nL ?_
  refine tC rfl (fun hc10=>?_) fun hc10=>?_
  ·have hlt:i<ts.length:=by simpa using hc10
   have hd:=List.drop_eq_getElem_cons hlt
   have hm:=List.getElem_mem hlt
   have hi:=z06 (f:=eInt) (List.getElem?_eq_getElem hlt)
   generalize ts[i]=x at hd hm hi
   have hal:(acc.map eInt).length=acc.length:=by simp
   refine tSk <| tQ <| tBk <| tG <| sm 4 rfl <| cV rfl (iSq rfl rfl rfl uT35 hi tS3 rfl (by rfl)) <| sm 1 rfl <| cE rfl (ocr (zf5 l x g1 oM0) ent35 rfl (po2 rfl rfl) rfl (fun k (h:_)=>.inr h) rfl rfl) <| cE rfl (bSl rfl rfl uT35 tZ3 tS3 rfl rfl rfl rfl (fbk rfl) rfl) ?_
   refine cE rfl (aPp rfl rfl rfl rfl (by rfl) ((fun h=>h)) uT35 tB3 dC0 (by (simp [z07];done)) (by (simp [z07,PV.one];rfl)) (by simp [maxLen,z07];omega) (by simp [z07];omega)) ?_
   refine sm 1 rfl <| nL <| tG <| sm 1 rfl <| cV rfl (oB rfl rfl (z02 rfl oM0)) <| sm 1 rfl <| nL ?_
   refine ⟨_,_,?_,Sub.of (fr':=[(6,iInt (i+1)),(5,.sl 105 ((acc++[(z08 x g1).1]).map eInt).length),(0,.ptr 2001 0),(1,.pv (ints ts))]) ⟨rfl,congrArg (fun z=>some (IV.sl _ z)) (by simp [z07,eInt]),rfl,rfl,trivial⟩,(i+1),(acc++[(z08 x g1).1]),(z08 x g1).2,?_,?_,?_,?_,?_,rfl,(funext (lkq [105,2001,2002] rfl rfl ⟨(congrArg (fun z=>some (HO.row _ z)) (by simp [z07,eInt])),rfl,rfl,trivial⟩)),rfl⟩
   ·omega
   ·omega
   ·rw [<- hI1,hd];simp [z0k]
   ·rw [<- hI2,hd];rfl
   ·simp only [z08,List.length_append,List.length_cons,List.length_nil]
    omega
   simp [hIa]
  refine tEx <| tQ <| Tr.freeze (t:=5) (k:=105) rfl rfl sI0 ?_
  have hge:ts.length<=i:=by simpa using hc10
  rw [List.drop_eq_nil_of_le hge] at hI1 hI2
  simp only [z0k,List.append_nil] at hI1 hI2
  subst hI2
  rw [<- hI1]
  refine tG <| sm 2 rfl <| nL <| tRt <| rOk rfl rfl (po2 rfl rfl)
theorem ye7 (l:List UInt8) (ts:List Int) (g:Gn) (hb:g.types.length+ts.length<=1000000):SC Tryz.prog 34 [.ptr 2001 0,.pv (ints ts)] (gH l g) (fun _=>False) (.sl 2005 ((z0k ts g).1.map eInt).length) ((2005,rowI (z0k ts g).1)::gH l (z0k ts g).2):=by
  refine SC.of Tryz.func34 rfl (lb rfl) fun F ρ w=>?_
  refine Tr.lenOf (t:=1) rfl (fun hl=>?_)
  simp only [List.length_map] at hl
  refine tQ <| tG <| sm 1 rfl <| nL <| tQ <| tG <| sm 1 rfl <| nL <| tQ <| tQ <| Tr.grow (t:=5) (k:=2005) ⟨3,1⟩ rfl rfl rfl rfl rfl <| tG ?_
  refine sm 1 rfl <| nL <| tBk <| Tr.sub (Sub.of (fr':=[(6,iInt 0),(5,.sl 2005 (([]:List Int).map eInt).length),(0,.ptr 2001 0),(1,.pv (ints ts))]) ⟨rfl,rfl,rfl,rfl,trivial⟩) <| Tr.heap (σ':=look [(2005,some (rowI ([]:List Int))),(2001,some (z3h l g)),(2002,some (rowI g.types))]) (lkq [2005,2001,2002] rfl rfl ⟨rfl,rfl,rfl,trivial⟩) ?_
  refine Tr.loop (fun fr σ m=>∃ (i:Nat) (acc:List Int) (g1:Gn),(i<=ts.length)/\(acc++(z0k (ts.drop i) g1).1=(z0k ts g).1)/\((z0k (ts.drop i) g1).2=(z0k ts g).2)/\(g1.types.length+(ts.length - i)<=1000000)/\(acc.length=i)/\fr=[(6,iInt i),(5,.sl 2005 (acc.map eInt).length),(0,.ptr 2001 0),(1,.pv (ints ts))] /\ σ = look [(2005,some (rowI acc)),(2001,some (z3h l g1)),(2002,some (rowI g1.types))]/\m=ts.length - i) (n:=ts.length - 0) ?_ ?_
  ·exact ⟨0,([]:List Int),g,Nat.zero_le _,sI0,rfl,hb,rfl,rfl,rfl,rfl⟩
  rintro fr σ m ⟨i,acc,g1,hI0,hI1,hI2,hIb,hIa,rfl,rfl,rfl⟩
  refine tQ <| tQ <| tG <| sm 2 rfl <| cV rfl (oSm uT35 rfl) <| sm 1 rfl <| nL ?_
  refine tC rfl (fun hc10=>?_) fun hc10=>?_
  ·have hlt:i<ts.length:=by simpa using hc10
   have hd:=List.drop_eq_getElem_cons hlt
   have hm:=List.getElem_mem hlt
   have hi:=z06 (f:=eInt) (List.getElem?_eq_getElem hlt)
   generalize ts[i]=x at hd hm hi
   have hal:(acc.map eInt).length=acc.length:=by simp
   refine tSk <| tQ <| tBk <| tG <| sm 4 rfl <| cV rfl (iSq rfl rfl rfl uT35 hi tS3 rfl (by rfl)) <| sm 1 rfl <| cE rfl (ocr (zf5 l x g1 oM0) ent35 rfl (po2 rfl rfl) rfl (fun k (h:_)=>.inr h) rfl rfl) <| cE rfl (bSl rfl rfl uT35 tZ3 tS3 rfl rfl rfl rfl (fbk rfl) rfl) ?_
   refine cE rfl (aPp rfl rfl rfl rfl (by rfl) ((fun h=>h)) uT35 tB3 dC0 (by (simp [z07];done)) (by (simp [z07,PV.one];rfl)) (by simp [maxLen,z07];omega) (by simp [z07];omega)) ?_
   refine sm 1 rfl <| nL <| tG <| sm 1 rfl <| cV rfl (oB rfl rfl (z02 rfl oM0)) <| sm 1 rfl <| nL ?_
   refine ⟨_,_,?_,Sub.of (fr':=[(6,iInt (i+1)),(5,.sl 2005 ((acc++[(z08 x g1).1]).map eInt).length),(0,.ptr 2001 0),(1,.pv (ints ts))]) ⟨rfl,congrArg (fun z=>some (IV.sl _ z)) (by simp [z07,eInt]),rfl,rfl,trivial⟩,(i+1),(acc++[(z08 x g1).1]),(z08 x g1).2,?_,?_,?_,?_,?_,rfl,(funext (lkq [2005,2001,2002] rfl rfl ⟨(congrArg (fun z=>some (HO.row _ z)) (by simp [z07,eInt])),rfl,rfl,trivial⟩)),rfl⟩
   ·omega
   ·omega
   ·rw [<- hI1,hd];simp [z0k]
   ·rw [<- hI2,hd];rfl
   ·simp only [z08,List.length_append,List.length_cons,List.length_nil]
    omega
   simp [hIa]
  refine tEx <| tQ ?_
  have hge:ts.length<=i:=by simpa using hc10
  rw [List.drop_eq_nil_of_le hge] at hI1 hI2
  simp only [z0k,List.append_nil] at hI1 hI2
  subst hI2
  rw [<- hI1]
  refine tG <| sm 2 rfl <| nL <| tRt <| rOk rfl rfl (po3 rfl rfl rfl)
set_option maxRecDepth 20000
theorem y84 (l:List UInt8) (seen:List Int) (g:Gn) (hs:InR g.types seen) (hb:g.pos<=999980) (hbt:g.types.length<=999990) (hsl:seen.length<=1000000):SC Tryz.prog 50 [.ptr 2001 0,.sl 2003 (seen.map eInt).length] (gHs l g seen) (fun _=>False) (.pv (ndv (z1s l seen g).1)) (gHs l (z1s l seen g).2 seen):=by
  refine SC.sameR (SC.vc tb {} [] Tryz.func50 rfl rfl ?_) fun k _ h=>h.elim
  have h0:=z2o l 12 g oM0 oM0
  have h12:(z05 l 12 g).1<12:=z1x oM0
  have hp:(z05 l 12 g).2.pos=g.pos+1:=by simp only [z05]
  have hs1:InR (z05 l 12 g).2.types seen:=by simp only [z05];exact hs
  have ht:(z05 l 12 g).2.types.length=g.types.length:=by simp only [z05]
  unfold z1s
  generalize z05 l 12 g=A at h0 h12 hp hs1 ht ⊢
  obtain ⟨k,g1⟩:=A
  dsimp only at h0 h12 hp hs1 ht ⊢
  have hN:(gNums.map eInt)[(z05 l 6 g1).1]? = some [vInt (gNums.getD (z05 l 6 g1).1 0)]:=ya7 (z1x oM0)
  have hO:(y4e.map eInt)[(z05 l 4 g1).1]? = some [vInt (y4e.getD (z05 l 4 g1).1 0)]:=ya7 (z1x oM0)
  have hp11:(z05 l 11 g1).1<11:=z1x oM0
  have hp6:(z05 l 6 g1).1<6:=z1x oM0
  have hk:k=0∨k=1∨k=2∨k=3∨k=4∨k=5∨k=6∨k=7∨k=8∨k=9∨k=10∨k=11:=by omega
  rcases hk with rfl | rfl | rfl | rfl | rfl | rfl | rfl | rfl | rfl | rfl | rfl | rfl
  · exact ⟨[],h0,sR,⟨rfl,rfl,trivial⟩,rfl,[],z2o l 6 g1 oM0 oM0,sR,⟨rfl,rfl,trivial⟩,rfl,hN,rfl,[],z2m l [1] (z05 l 6 g1).2 (by simp [z05,z1k];omega),sR,⟨rfl,rfl,trivial⟩,rfl,sP (z14 _),rfl,rfl,rfl,trivial⟩
  · exact ⟨[],h0,sR,⟨rfl,rfl,trivial⟩,rfl,[],z2o l 2 g1 oM0 oM0,sR,⟨rfl,rfl,trivial⟩,rfl,[],z2m l [2] (z05 l 2 g1).2 (by simp [z05,z1k];omega),sR,⟨rfl,rfl,trivial⟩,rfl,sP (z14 _),rfl,rfl,rfl,trivial⟩
  · exact ⟨[],h0,sR,⟨rfl,rfl,trivial⟩,rfl,[],z2o l 4 g1 oM0 oM0,sR,⟨rfl,rfl,trivial⟩,rfl,hO,rfl,[],z20 l seen [1] (z05 l 4 g1).2 hs1 (by simp [z05];omega) hsl,sR,⟨rfl,rfl,rfl,trivial⟩,rfl,[],z2m l [1] (z1n l seen [1] (z05 l 4 g1).2).2 (by simp [z05,z1k];omega),sR,⟨rfl,rfl,trivial⟩,rfl,sP (z14 _),rfl,rfl,rfl,trivial⟩
  · exact ⟨[],h0,sR,⟨rfl,rfl,trivial⟩,rfl,[],z20 l seen [2] g1 hs1 (by simp [z05];omega) hsl,sR,⟨rfl,rfl,rfl,trivial⟩,rfl,[],z2m l [2] (z1n l seen [2] g1).2 (by simp [z05,z1k];omega),sR,⟨rfl,rfl,trivial⟩,rfl,sP (z14 _),rfl,rfl,rfl,trivial⟩
  · exact ⟨[],h0,sR,⟨rfl,rfl,trivial⟩,rfl,[],z2o l 11 g1 oM0 oM0,sR,⟨rfl,rfl,trivial⟩,rfl,z02 rfl oM0,[],z20 l seen [1,1] (z05 l 11 g1).2 hs1 (by simp [z05];omega) hsl,sR,⟨rfl,rfl,rfl,trivial⟩,rfl,[],z2m l [1] (z1n l seen [1,1] (z05 l 11 g1).2).2 (by simp [z05,z1k];omega),sR,⟨rfl,rfl,trivial⟩,rfl,sP (z14 _),rfl,rfl,rfl,trivial⟩
  · exact ⟨[],h0,sR,⟨rfl,rfl,trivial⟩,rfl,[],z2o l 11 g1 oM0 oM0,sR,⟨rfl,rfl,trivial⟩,rfl,z02 rfl oM0,[],z20 l seen [1,1] (z05 l 11 g1).2 hs1 (by simp [z05];omega) hsl,sR,⟨rfl,rfl,rfl,trivial⟩,rfl,[],z2m l [1] (z1n l seen [1,1] (z05 l 11 g1).2).2 (by simp [z05,z1k];omega),sR,⟨rfl,rfl,trivial⟩,rfl,sP (z14 _),rfl,rfl,rfl,trivial⟩
  · exact ⟨[],h0,sR,⟨rfl,rfl,trivial⟩,rfl,[],z2o l 11 g1 oM0 oM0,sR,⟨rfl,rfl,trivial⟩,rfl,z02 rfl oM0,[],z20 l seen [1,1] (z05 l 11 g1).2 hs1 (by simp [z05];omega) hsl,sR,⟨rfl,rfl,rfl,trivial⟩,rfl,[],z2m l [1] (z1n l seen [1,1] (z05 l 11 g1).2).2 (by simp [z05,z1k];omega),sR,⟨rfl,rfl,trivial⟩,rfl,sP (z14 _),rfl,rfl,rfl,trivial⟩
  · exact ⟨[],h0,sR,⟨rfl,rfl,trivial⟩,rfl,[],z2o l 6 g1 oM0 oM0,sR,⟨rfl,rfl,trivial⟩,rfl,z02 rfl oM0,[],z20 l seen [1,1] (z05 l 6 g1).2 hs1 (by simp [z05];omega) hsl,sR,⟨rfl,rfl,rfl,trivial⟩,rfl,[],z2m l [2] (z1n l seen [1,1] (z05 l 6 g1).2).2 (by simp [z05,z1k];omega),sR,⟨rfl,rfl,trivial⟩,rfl,sP (z14 _),rfl,rfl,rfl,trivial⟩
  · exact ⟨[],h0,sR,⟨rfl,rfl,trivial⟩,rfl,[],z2o l 6 g1 oM0 oM0,sR,⟨rfl,rfl,trivial⟩,rfl,z02 rfl oM0,[],z20 l seen [1,1] (z05 l 6 g1).2 hs1 (by simp [z05];omega) hsl,sR,⟨rfl,rfl,rfl,trivial⟩,rfl,[],z2m l [2] (z1n l seen [1,1] (z05 l 6 g1).2).2 (by simp [z05,z1k];omega),sR,⟨rfl,rfl,trivial⟩,rfl,sP (z14 _),rfl,rfl,rfl,trivial⟩
  · exact ⟨[],h0,sR,⟨rfl,rfl,trivial⟩,rfl,[],z20 l seen [1] g1 hs1 (by simp [z05];omega) hsl,sR,⟨rfl,rfl,rfl,trivial⟩,rfl,[],z2m l [1] (z1n l seen [1] g1).2 (by simp [z05,z1k];omega),sR,⟨rfl,rfl,trivial⟩,rfl,sP (z14 _),rfl,rfl,rfl,trivial⟩
  · exact ⟨[],h0,sR,⟨rfl,rfl,trivial⟩,rfl,[],z20 l seen [1,1] g1 hs1 (by simp [z05];omega) hsl,sR,⟨rfl,rfl,rfl,trivial⟩,rfl,sP (z14 _),rfl,rfl,rfl,trivial⟩
  · have h4:=z2o l 4 g1 oM0 oM0
    have hl4:(z05 l 4 g1).1<4:=z1x oM0
    have hp4:(z05 l 4 g1).2.pos=g1.pos+1:=by simp only [z05]
    have hs4:InR (z05 l 4 g1).2.types seen:=by simp only [z05];exact hs1
    have ht4:(z05 l 4 g1).2.types.length=g1.types.length:=by simp only [z05]
    generalize z05 l 4 g1=A at h4 hl4 hp4 hs4 ht4 ⊢
    obtain ⟨j,g2⟩:=A
    dsimp only at h4 hl4 hp4 hs4 ht4 ⊢
    have hj:j=0∨j=1∨j=2∨j=3:=by omega
    rcases hj with rfl | rfl | rfl | rfl
    · exact ⟨[],h0,sR,⟨rfl,rfl,trivial⟩,rfl,[],h4,sR,⟨rfl,rfl,trivial⟩,rfl,[],z20 l seen [1,2] g2 hs4 (by simp [z05];omega) hsl,sR,⟨rfl,rfl,rfl,trivial⟩,rfl,[],z2m l [1] (z1n l seen [1,2] g2).2 (by simp [z05,z1k];omega),sR,⟨rfl,rfl,trivial⟩,rfl,sP (z14 _),rfl,rfl,rfl,trivial⟩
    · exact ⟨[],h0,sR,⟨rfl,rfl,trivial⟩,rfl,[],h4,sR,⟨rfl,rfl,trivial⟩,rfl,[],z2m l [1] g2 (by simp [z05,z1k];omega),sR,⟨rfl,rfl,trivial⟩,rfl,sP (z14 _),rfl,rfl,rfl,trivial⟩
    · exact ⟨[],h0,sR,⟨rfl,rfl,trivial⟩,rfl,[],h4,sR,⟨rfl,rfl,trivial⟩,rfl,[],z20 l seen [1] g2 hs4 (by simp [z05];omega) hsl,sR,⟨rfl,rfl,rfl,trivial⟩,rfl,sP (z14 _),rfl,rfl,rfl,trivial⟩
    · exact ⟨[],h0,sR,⟨rfl,rfl,trivial⟩,rfl,[],h4,sR,⟨rfl,rfl,trivial⟩,rfl,[],z20 l seen [1] g2 hs4 (by simp [z05];omega) hsl,sR,⟨rfl,rfl,rfl,trivial⟩,rfl,sP (z14 _),rfl,rfl,rfl,trivial⟩
set_option maxRecDepth 20000
set_option maxHeartbeats 2000000
theorem sc_gEnd (l:List UInt8) (seen:List Int) (p:Plc) (g:Gn) (hs:InR g.types seen) (hb:g.pos<=999980) (hsl:seen.length<=1000000) (hp1:p.Yield.length<=2) (hp2:p.Next.length<=2) (hp3:p.Left.length<=2):SC Tryz.prog 54 [.ptr 2001 0,.sl 2003 (seen.map eInt).length,.pv (plcv p)] (gHs l g seen) (fun _=>False) (.pv (ndv (gEnd l seen p g).1)) (gHs l (gEnd l seen p g).2 seen):=by
  refine SC.sameR (SC.vc tb {} [] Tryz.func54 rfl rfl ?_) fun k _ h=>h.elim
  have h0:=z2o l 6 g oM0 oM0
  have h6:(z05 l 6 g).1<6:=z1x oM0
  have hp:(z05 l 6 g).2.pos=g.pos+1:=by simp only [z05]
  have hs1:InR (z05 l 6 g).2.types seen:=by simp only [z05];exact hs
  unfold gEnd
  generalize z05 l 6 g=A at h0 h6 hp hs1 ⊢
  obtain ⟨k,g1⟩:=A
  obtain ⟨b1,b2,Y,N,L⟩:=p
  dsimp only at h0 h6 hp hs1 hp1 hp2 hp3 ⊢
  rcases (show k=0∨k=1∨k=2∨k=3∨k=4∨k=5 by omega) with rfl | rfl | rfl | rfl | rfl | rfl<;>cases b1<;>cases b2<;>first
    | exact ⟨[],h0,sR,⟨rfl,rfl,trivial⟩,rfl,[],z20 l seen Y g1 hs1 oM0 hsl,sR,⟨rfl,rfl,rfl,trivial⟩,rfl,sP (z14 _),rfl,rfl,rfl,trivial⟩
    | exact ⟨[],h0,sR,⟨rfl,rfl,trivial⟩,rfl,[],z20 l seen N g1 hs1 oM0 hsl,sR,⟨rfl,rfl,rfl,trivial⟩,rfl,sP (z14 _),rfl,rfl,rfl,trivial⟩
    | exact ⟨[],h0,sR,⟨rfl,rfl,trivial⟩,rfl,rfl,[],z20 l seen N g1 hs1 oM0 hsl,sR,⟨rfl,rfl,rfl,trivial⟩,rfl,sP (z14 _),rfl,rfl,rfl,trivial⟩
    | exact ⟨[],h0,sR,⟨rfl,rfl,trivial⟩,rfl,[],z20 l seen L g1 hs1 oM0 hsl,sR,⟨rfl,rfl,rfl,trivial⟩,rfl,sP (z14 _),rfl,rfl,rfl,trivial⟩
    | exact ⟨[],h0,sR,⟨rfl,rfl,trivial⟩,rfl,rfl,[],z20 l seen L g1 hs1 oM0 hsl,sR,⟨rfl,rfl,rfl,trivial⟩,rfl,sP (z14 _),rfl,rfl,rfl,trivial⟩
    | exact ⟨[],h0,sR,⟨rfl,rfl,trivial⟩,rfl,[],z20 l seen [1] g1 hs1 (by simp only [List.length_cons,List.length_nil];omega) hsl,sR,⟨rfl,rfl,rfl,trivial⟩,rfl,sP (z14 _),rfl,rfl,rfl,trivial⟩
    | exact ⟨[],h0,sR,⟨rfl,rfl,trivial⟩,rfl,rfl,[],z20 l seen [1] g1 hs1 (by simp only [List.length_cons,List.length_nil];omega) hsl,sR,⟨rfl,rfl,rfl,trivial⟩,rfl,sP (z14 _),rfl,rfl,rfl,trivial⟩
def qS (l:List UInt8) (all:List Int) (g1:Gn) (m1:Nat):Nd × Gn:=z1s l all { g1 with left:=m1 }
def qK (l:List UInt8) (all:List Int) (g1:Gn) (m1:Nat):Nat × Gn:=z05 l 6 (qS l all g1 m1).2
def qT (l:List UInt8) (all:List Int) (g1:Gn) (m1:Nat):List Int × Gn:=z0n l (qK l all g1 m1).2
def qC (l:List UInt8) (all:List Int) (g1:Gn) (m1:Nat):List Int × Gn:=z1n l all [2] (qT l all g1 m1).2
def qP (l:List UInt8) (all:List Int) (g1:Gn) (m1:Nat) (p:Plc):Plc:=⟨true,p.Loop,(qT l all g1 m1).1,p.Next,p.Left⟩
def qA (l:List UInt8) (m:Nat) (all:List Int) (p:Plc) (g1:Gn) (m1:Nat):List Nd × Gn:=z31 l m all (qP l all g1 m1 p) (qC l all g1 m1).2
def qB (l:List UInt8) (m:Nat) (all:List Int) (p:Plc) (g1:Gn) (m1:Nat):List Nd × Gn:=z31 l m all (qP l all g1 m1 p) (qA l m all p g1 m1).2
def qO (l:List UInt8) (all:List Int) (g1:Gn) (m1:Nat):List Int × Gn:=z0n l (qT l all g1 m1).2
def qE (l:List UInt8) (all:List Int) (g1:Gn) (m1:Nat):List Int × Gn:=z1n l all (qT l all g1 m1).1 (qO l all g1 m1).2
def qQ (l:List UInt8) (all:List Int) (g1:Gn) (m1:Nat):List Int × Gn:=z0k (qT l all g1 m1).1 (qE l all g1 m1).2
def qL (l:List UInt8) (all:List Int) (g1:Gn) (m1:Nat):Plc:=⟨false,true,[],(qT l all g1 m1).1,(qO l all g1 m1).1⟩
def qD (l:List UInt8) (m:Nat) (all:List Int) (g1:Gn) (m1:Nat):List Nd × Gn:=z31 l m (all++(qQ l all g1 m1).1) (qL l all g1 m1) (qQ l all g1 m1).2
def gHr (k:Nat) (l:List UInt8) (g:Gn) (seen:List Int):List (Nat × HO):=[(2001,z3h l g),(2002,rowI g.types),(k,rowI seen)]
theorem zt9 (l:List UInt8) (seen ts:List Int) (g:Gn) (hs:InR g.types seen) (hb:g.pos+ts.length<=1000000) (hsl:seen.length<=1000000):SC Tryz.prog 52 [.ptr 2001 0,.sl 2010 (seen.map eInt).length,.pv (ints ts)] (gHr 2010 l g seen) (fun _=>False) (.pv (ints (z1n l seen ts g).1)) (gHr 2010 l (z1n l seen ts g).2 seen):=SC.sw 2003 2010 (z20 l seen ts g hs hb hsl)
theorem y5b (l:List UInt8) (seen:List Int) (g:Gn) (hs:InR g.types seen) (hb:g.pos<=999980) (hbt:g.types.length<=999990) (hsl:seen.length<=1000000):SC Tryz.prog 50 [.ptr 2001 0,.sl 2010 (seen.map eInt).length] (gHr 2010 l g seen) (fun _=>False) (.pv (ndv (z1s l seen g).1)) (gHr 2010 l (z1s l seen g).2 seen):=SC.sw 2003 2010 (y84 l seen g hs hb hbt hsl)
theorem y6u (l:List UInt8) (seen:List Int) (p:Plc) (g:Gn) (hs:InR g.types seen) (hb:g.pos<=999980) (hsl:seen.length<=1000000) (hp:p.small):SC Tryz.prog 54 [.ptr 2001 0,.sl 2010 (seen.map eInt).length,.pv (plcv p)] (gHr 2010 l g seen) (fun _=>False) (.pv (ndv (gEnd l seen p g).1)) (gHr 2010 l (gEnd l seen p g).2 seen):=SC.sw 2003 2010 (sc_gEnd l seen p g hs hb hsl hp.1 hp.2.1 hp.2.2)
def LSCg (l:List UInt8) (d:Nat):Prop:=∀ (seen:List Int) (p:Plc) (g:Gn),InR g.types seen->p.small->g.pos+60*g.left<=900000->g.types.length+10*g.left<=900000->seen.length+10*g.left<=900000 ->
  SC Tryz.prog 36 [.ptr 2001 0,.sl 2003 (seen.map eInt).length,.pv (plcv p),iInt (d:Int)] (gHs l g seen) (fun _=>False) (.pv (z0e (z31 l d seen p g).1)) (gHs l (z31 l d seen p g).2 seen)
theorem LSCg.at2010 {l:List UInt8} {d:Nat} (h:LSCg l d) (seen:List Int) (p:Plc) (g:Gn) (h1:InR g.types seen) (h2:p.small) (h3:g.pos+60*g.left<=900000) (h4:g.types.length+10*g.left<=900000) (h5:seen.length+10*g.left<=900000) :
    SC Tryz.prog 36 [.ptr 2001 0,.sl 2010 (seen.map eInt).length,.pv (plcv p),iInt (d:Int)] (gHr 2010 l g seen) (fun _=>False) (.pv (z0e (z31 l d seen p g).1)) (gHr 2010 l (z31 l d seen p g).2 seen):=SC.sw 2003 2010 (h seen p g h1 h2 h3 h4 h5)
theorem LSCg.at2019 {l:List UInt8} {d:Nat} (h:LSCg l d) (seen:List Int) (p:Plc) (g:Gn) (h1:InR g.types seen) (h2:p.small) (h3:g.pos+60*g.left<=900000) (h4:g.types.length+10*g.left<=900000) (h5:seen.length+10*g.left<=900000) :
    SC Tryz.prog 36 [.ptr 2001 0,.sl 2019 (seen.map eInt).length,.pv (plcv p),iInt (d:Int)] (gHr 2019 l g seen) (fun _=>False) (.pv (z0e (z31 l d seen p g).1)) (gHr 2019 l (z31 l d seen p g).2 seen):=SC.sw 2003 2019 (h seen p g h1 h2 h3 h4 h5)
theorem y37 (l:List UInt8) (d:Nat) (hd3:d<=100) (ih:∀ m,d=m+1->LSCg l m) (seen:List Int) (p:Plc) (g:Gn) (hs:InR g.types seen) (hp:p.small) (hb1:g.pos+60*g.left<=900000) (hb2:g.types.length+10*g.left<=900000) (hb3:seen.length+10*g.left<=900000):SC Tryz.prog 36 [.ptr 2001 0,.sl 2003 (seen.map eInt).length,.pv (plcv p),iInt (d:Int)] (gHs l g seen) (fun _=>False) (.pv (z0e (z31 l d seen p g).1)) (gHs l (z31 l d seen p g).2 seen):=by
  refine SC.of Tryz.func36 rfl (lb rfl) fun F ρ w=>?_
  have h6:(z05 l 6 g).1<6:=z1x oM0
  have hsl0:(seen.map eInt).length=seen.length:=by simp
  refine tQ <| tG <| cE rfl (z2n rfl rfl) <| sm 1 rfl <| nL <| tQ <| tG <| sm 1 rfl <| nL <| tQ <| tG <| sm 1 rfl ?_
  refine nL <| tQ <| Tr.grow (t:=10) (k:=2010) ⟨3,1⟩ rfl rfl rfl rfl rfl <| tG <| sm 2 rfl ?_
  refine cE rfl (z5r rfl rfl rfl rfl rfl rfl rfl sI0 uT35 tB3 dC0 z5k z5o (by simp [maxLen];omega) (by simp;omega)) ?_
  refine sm 1 rfl <| nL <| tQ <| tQ <| Tr.grow (t:=9) (k:=109) ⟨43,8⟩ rfl rfl rfl rfl rfl <| tG <| sm 1 rfl <| cE rfl (ocr (z2o l 6 g oM0 oM0) y9u rfl (po2 rfl rfl) rfl (fun k (h:_)=>.inr h) rfl rfl) <| sm 1 rfl <| nL <| tBk <| Tr.sub (Sub.of (fr':=[(11,iInt (((z05 l 6 g).1:Nat):Int)),(10,.sl 2010 (seen.map eInt).length),(9,.sl 109 (([]:List Nd).map Nd.enc).length),(6,.pv (.ept [vBool p.If,vBool p.Loop,ints p.Yield,ints p.Next,ints p.Left] 0)),(0,.ptr 2001 0),(3,iInt (d:Int))]) ⟨rfl,congrArg (fun z=>some (IV.sl _ z)) sI0,rfl,rfl,rfl,rfl,trivial⟩) ?_
  refine Tr.heap (σ':=look [(109,some (.row ⟨43,8⟩ (([]:List Nd).map Nd.enc))),(2010,some (rowI seen)),(2001,some (z3h l (z05 l 6 g).2)),(2002,some (rowI (z05 l 6 g).2.types)),(2003,some (rowI seen))]) (lkq [109,2010,2001,2002,2003] rfl rfl ⟨rfl,(congrArg (fun z=>some (HO.row _ z)) sI0),rfl,rfl,rfl,trivial⟩) ?_
  refine Tr.loop (fun fr σ m=>∃ (n:Nat) (out:List Nd) (all:List Int) (g1:Gn),(z3g l (gRec l d) p n out all g1=z31 l d seen p g)/\(InR g1.types all)/\(g1.pos+60*g1.left<=900001)/\(g1.types.length+10*g1.left<=900000)/\(all.length+10*g1.left<=900000)/\(out.length+n<=5)/\fr=[(11,iInt ((n:Nat):Int)),(10,.sl 2010 (all.map eInt).length),(9,.sl 109 (out.map Nd.enc).length),(6,.pv (.ept [vBool p.If,vBool p.Loop,ints p.Yield,ints p.Next,ints p.Left] 0)),(0,.ptr 2001 0),(3,iInt (d:Int))] /\ σ = look [(109,some (.row ⟨43,8⟩ (out.map Nd.enc))),(2010,some (rowI all)),(2001,some (z3h l g1)),(2002,some (rowI g1.types)),(2003,some (rowI seen))]/\m=n+1) (n:=(z05 l 6 g).1+1) ?_ ?_
  ·exact ⟨(z05 l 6 g).1,([]:List Nd),seen,(z05 l 6 g).2,(z7l l d seen p g).symm,hs,(by simp only [z05];omega),hb2,hb3,(by simp;omega),rfl,rfl,rfl⟩
  rintro fr σ m ⟨n,out,all,g1,hI,hIn,hIp,hIt,hIa,hIo,rfl,rfl,rfl⟩
  refine tQ <| tQ <| tG <| sm 3 rfl ?_
  refine wS 27 rfl (fun hb27=>?_) fun hb27=>?_
  ·refine sm 1 rfl <| yV rfl rfl (nCk rfl rfl rfl) <| sm 4 rfl <| nL ?_
   refine tC rfl (fun hc33=>?_) fun hc33=>?_
   ·refine tSk <| tQ <| tBk <| tQ ?_
    have hn0:0<n:=by simpa using hb27
    obtain ⟨n1,rfl⟩:∃ n1,n=n1+1:=⟨n - 1,by omega⟩
    have hl0:0<g1.left:=by simpa using hc33
    have hleft:¬ g1.left=0:=by omega
    obtain ⟨m1,hm1⟩:∃ m1,g1.left=m1+1:=⟨g1.left - 1,by omega⟩
    have hXb:=bd_any l (ya4 l d) all p hp g1 hl0
    have hXo:=y65 l (rec:=gRec l d) all p g1
    have hXl:(gAny l (gRec l d) all p g1).2.left+1<=g1.left:=any_left l (ya4 l d) all p hp g1 hl0
    refine tG <| sm 2 rfl <| cV rfl (nCk rfl rfl rfl) <| sm 2 rfl <| cV rfl (oB rfl rfl (z3i rfl oM0)) <| cV rfl (nCk rfl rfl rfl) <| sm 1 rfl <| c0 (sBx rfl rfl rfl rfl ((fun h=>h)) tS3 (rfl) (lb rfl)) <| nL <| tQ <| Tr.heap (σ':=look [(109,some (.row ⟨43,8⟩ (out.map Nd.enc))),(2010,some (rowI all)),(2001,some (z3h l { g1 with left:=m1 })),(2002,some (rowI { g1 with left:=m1 }.types)),(2003,some (rowI seen))]) (lkq [2001,109,2010,2002,2003] rfl rfl ⟨(by exact congrArg (fun z=>some (HO.box [.pv (bts l),iInt (g1.pos:Int),.sl 2002 (g1.types.map eInt).length,iInt z])) (by show (g1.left:Int) - 1=(m1:Int);omega)),rfl,rfl,rfl,rfl,trivial⟩) <| tG ?_
    refine sm 2 rfl <| cE rfl (ocr (y5b l all { g1 with left:=m1 } hIn (by show g1.pos<=999980;omega) (by show g1.types.length<=999990;omega) oM0) ent50 rfl (po3 rfl rfl rfl) rfl (fun k (h:_)=>.inr h) rfl rfl) <| cE rfl (aLc (k:=112) rfl tZ43 rfl rfl rfl rfl) <| c0 (sBA rfl rfl rfl rfl rfl ((fun h=>h)) tS43 (flk rfl) (lb rfl)) <| nL <| tQ ?_
    have e2:({ g1 with left:=g1.left - 1 }:Gn)={ g1 with left:=m1 }:=by rw [hm1];rfl
    have hSb:Bd 4 1 { g1 with left:=m1 } (qS l all g1 m1).2:=zp4 l all { g1 with left:=m1 }
    have hS1:=hSb.ps
    have hS2:=hSb.t1
    have hS3:=hSb.t2
    have hS4:=hSb.lf
    have hKb:Bd 1 0 (qS l all g1 m1).2 (qK l all g1 m1).2:=z8i l 6 (qS l all g1 m1).2
    have hK1:=hKb.ps
    have hK2:=hKb.t1
    have hK3:=hKb.t2
    have hK4:=hKb.lf
    dsimp only at hS1 hS2 hS3 hS4
    refine tG <| sm 1 rfl <| cE rfl (ocr (z2o l 6 (qS l all g1 m1).2 oM0 oM0) y9u rfl (po2 rfl rfl) rfl (fun k (h:_)=>.inr h) rfl rfl) <| sm 1 rfl <| nL <| tQ ?_
    refine Tr.cut (fr':=[(12,.ptr 112 0),(11,iInt ((n1+1:Nat):Int)),(10,.sl 2010 (all.map eInt).length),(9,.sl 109 (out.map Nd.enc).length),(6,.pv (.ept [vBool p.If,vBool p.Loop,ints p.Yield,ints p.Next,ints p.Left] 0)),(0,.ptr 2001 0),(3,iInt (d:Int))]) (σ':=look [(112,some (.box [.pv (vInt (gAny l (gRec l d) all p g1).1.kind),.pv (vInt (gAny l (gRec l d) all p g1).1.op),.pv (vInt (gAny l (gRec l d) all p g1).1.n),.pv (vStr (gAny l (gRec l d) all p g1).1.name),.pv (ints (gAny l (gRec l d) all p g1).1.args),.pv (ints (gAny l (gRec l d) all p g1).1.outs),.pv (ints (gAny l (gRec l d) all p g1).1.params),.pv (kids (gAny l (gRec l d) all p g1).1.kids)])),(109,some (.row ⟨43,8⟩ (out.map Nd.enc))),(2010,some (rowI all)),(2001,some (z3h l (gAny l (gRec l d) all p g1).2)),(2002,some (rowI (gAny l (gRec l d) all p g1).2.types)),(2003,some (rowI seen))]) ?_ ?_
    ·refine tBk <| tQ <| tG <| sm 3 rfl ?_
     refine wS 52 rfl (fun hb52=>?_) fun hb52=>?_
     ·refine sm 4 rfl <| nL ?_
      refine tC rfl (fun hc49=>?_) fun hc49=>?_
      ·have hk0:(z05 l 6 (qS l all g1 m1).2).1=0:=by simp at hb52;omega
       obtain ⟨m,rfl⟩:∃ m,d=m+1:=⟨d - 1,by simp at hc49;omega⟩
       obtain ⟨hTb,hTl⟩:Bd 3 0 (qK l all g1 m1).2 (qT l all g1 m1).2/\(qT l all g1 m1).1.length<=2:=z3p l (qK l all g1 m1).2
       have hT1:=hTb.ps
       have hT2:=hTb.t1
       have hT3:=hTb.t2
       have hT4:=hTb.lf
       have hXP:Plc.small (qP l all g1 m1 p):=⟨hTl,hp.2.1,hp.2.2⟩
       have hCb:Bd 1 0 (qT l all g1 m1).2 (qC l all g1 m1).2:=zh4 l all [2] (qT l all g1 m1).2
       have hC1:=hCb.ps
       have hC2:=hCb.t1
       have hC3:=hCb.t2
       have hC4:=hCb.lf
       have hAb:Bd 4 0 (qC l all g1 m1).2 (qA l m all p g1 m1).2:=z7j l m all (qP l all g1 m1 p) (qC l all g1 m1).2 hXP
       have hA1:=hAb.ps
       have hA2:=hAb.t1
       have hA3:=hAb.t2
       have hA4:=hAb.lf
       have hBb:Bd 4 0 (qA l m all p g1 m1).2 (qB l m all p g1 m1).2:=z7j l m all (qP l all g1 m1 p) (qA l m all p g1 m1).2 hXP
       have hB1:=hBb.ps
       have hB2:=hBb.t1
       have hB3:=hBb.t2
       have hB4:=hBb.lf
       refine tQ <| tG <| sm 1 rfl <| cE rfl (ocr (z94 l (qK l all g1 m1).2 oM0) y9v rfl (po2 rfl rfl) rfl (fun k (h:_)=>.inr h) rfl rfl) <| sm 1 rfl <| nL <| tQ <| tG <| sm 7 rfl <| cV rfl (bPu rfl rfl tZ73 tP73 rfl (fbk rfl) rfl) <| cE rfl (aLc (k:=115) rfl tZ73 rfl rfl rfl rfl) <| c0 (sBA rfl rfl rfl rfl rfl ((fun h=>h)) tS73 (flk rfl) (lb rfl)) ?_
       refine nL <| tQ <| Tr.freezeBox (t:=15) (k:=115) rfl rfl rfl <| tG <| sm 2 rfl <| cE rfl (bSl rfl rfl uT35 tZ3 tS3 rfl rfl rfl rfl (fbk rfl) rfl) ?_
       refine cE rfl (ocr (zt9 l all [2] (qT l all g1 m1).2 (hIn.mono oM0) (by simp only [List.length_cons,List.length_nil];omega) oM0) ent52 rfl (po3 rfl rfl rfl) rfl (fun k (h:_)=>.inr h) rfl rfl) ?_
       refine cV rfl (bPu rfl rfl tZ43 tP43 rfl (fbk rfl) rfl) <| c0 (sBA rfl rfl rfl rfl rfl ((fun h=>h)) tS43 (flk rfl) (lb rfl)) <| nL <| tQ <| Tr.fixNil (k:=112) rfl (fun h=>h) <| tG <| sm 2 rfl <| cV rfl (lEA rfl rfl Tryz.underlying73 rfl tS73 (lb rfl)) <| sm 1 rfl <| cV rfl (oB rfl rfl (z3i rfl oM0)) <| cE rfl (cRr ((ih m rfl).at2010 all (qP l all g1 m1 p) (qC l all g1 m1).2 (hIn.mono oM0) hXP oM0 oM0 oM0) y9t rfl rfl (sSm rfl (sSm rfl (sSm rfl (sSm (congrArg (fun z=>iInt z) oM0) Subs.nil)))) (po3 rfl rfl rfl) (by rfl) (fun k (h:_)=>.inr h) rfl (by rfl)) <| sm 1 rfl ?_
       refine nL <| tQ <| tG <| sm 3 rfl <| cV rfl (lEA rfl rfl Tryz.underlying73 rfl tS73 (lb rfl)) <| sm 1 rfl <| cV rfl (oB rfl rfl (z3i rfl oM0)) <| cE rfl (cRr ((ih m rfl).at2010 all (qP l all g1 m1 p) (qA l m all p g1 m1).2 (hIn.mono oM0) hXP oM0 oM0 oM0) y9t rfl rfl (sSm rfl (sSm rfl (sSm rfl (sSm (congrArg (fun z=>iInt z) oM0) Subs.nil)))) (po3 rfl rfl rfl) (by rfl) (fun k (h:_)=>.inr h) rfl (by rfl)) <| cE rfl (bSl rfl rfl uT41 tZ44 tS44 rfl rfl rfl rfl (fbk rfl) rfl) <| sm 1 rfl <| c0 (sBx rfl rfl rfl rfl ((fun h=>h)) tS41 (rfl) (lb rfl)) <| nL ?_
       refine tQ <| tG <| cV rfl (lBP rfl rfl rfl uT43 rfl tS43 (lb rfl) rfl trivial) <| cE rfl (ocq (z4c (.mk 10 0 0 z0l (qC l all g1 m1).1 [] [] [(qA l m all p g1 m1).1,(qB l m all p g1 m1).1]:Nd)) y9w rfl rfl) <| sm 1 rfl <| nL ?_
       refine tC rfl (fun hc88=>?_) fun hc88=>?_
       ·have hX:gAny l (gRec l (m+1)) all p g1=((.mk 10 0 0 z0l (qC l all g1 m1).1 (z0k (qT l all g1 m1).1 (qB l m all p g1 m1).2).1 [] [(qA l m all p g1 m1).1,(qB l m all p g1 m1).1]:Nd),(z0k (qT l all g1 m1).1 (qB l m all p g1 m1).2).2):=by
          have hcl:z04 (.mk 10 0 0 z0l (qC l all g1 m1).1 [] [] [(qA l m all p g1 m1).1,(qB l m all p g1 m1).1]:Nd)=false:=by simpa using hc88
          unfold gAny
          simp only [gRec,e2]
          exact (if_pos hk0).trans (if_neg (fun h=>Bool.noConfusion (hcl.symm.trans h)))
        refine tG <| sm 2 rfl <| cE rfl (ocr (z2m l (qT l all g1 m1).1 (qB l m all p g1 m1).2 oM0) y7g rfl (po2 rfl rfl) rfl (fun k (h:_)=>.inr h) rfl rfl) <| sm 1 rfl <| c0 (sBx rfl rfl rfl rfl ((fun h=>h)) tS35 (rfl) (lb rfl)) <| nL ?_
        refine ⟨rfl,Sub.of ⟨rfl,rfl,rfl,rfl,rfl,rfl,rfl,trivial⟩,funext (lkq [112,109,2010,2001,2002,2003,115,2019] rfl rfl ⟨(by first | rfl | (rw [hX];rfl)),rfl,rfl,(by first | rfl | (rw [hX];rfl)),(by first | rfl | (rw [hX];rfl)),rfl,rfl,rfl,trivial⟩)⟩
       have hX:gAny l (gRec l (m+1)) all p g1=((.mk 10 0 0 z0l (qC l all g1 m1).1 [] [] [(qA l m all p g1 m1).1,(qB l m all p g1 m1).1]:Nd),(qB l m all p g1 m1).2):=by
         have hcl:z04 (.mk 10 0 0 z0l (qC l all g1 m1).1 [] [] [(qA l m all p g1 m1).1,(qB l m all p g1 m1).1]:Nd)=true:=by simpa using hc88
         unfold gAny
         simp only [gRec,e2]
         exact (if_pos hk0).trans (if_pos hcl)
       refine tSk ?_
       refine ⟨rfl,Sub.of ⟨rfl,rfl,rfl,rfl,rfl,rfl,rfl,trivial⟩,funext (lkq [112,109,2010,2001,2002,2003,115,2019] rfl rfl ⟨(by first | rfl | (rw [hX];rfl)),rfl,rfl,(by first | rfl | (rw [hX];rfl)),(by first | rfl | (rw [hX];rfl)),rfl,rfl,rfl,trivial⟩)⟩
      refine tQ <| tG <| sm 3 rfl ?_
      refine wS 96 rfl (fun hb96=>?_) fun hb96=>?_
      ·refine sm 4 rfl <| nL ?_
       refine tC rfl (fun hc93=>?_) fun hc93=>?_
       ·have hk1:(z05 l 6 (qS l all g1 m1).2).1=1:=by simp at hb96;omega
        obtain ⟨m,rfl⟩:∃ m,d=m+1:=⟨d - 1,by simp at hc93;omega⟩
        obtain ⟨hTb,hTl⟩:Bd 3 0 (qK l all g1 m1).2 (qT l all g1 m1).2/\(qT l all g1 m1).1.length<=2:=z3p l (qK l all g1 m1).2
        have hT1:=hTb.ps
        have hT2:=hTb.t1
        have hT3:=hTb.t2
        have hT4:=hTb.lf
        obtain ⟨hOb,hOl⟩:Bd 3 0 (qT l all g1 m1).2 (qO l all g1 m1).2/\(qO l all g1 m1).1.length<=2:=z3p l (qT l all g1 m1).2
        have hO1:=hOb.ps
        have hO2:=hOb.t1
        have hO3:=hOb.t2
        have hO4:=hOb.lf
        have hLP:Plc.small (qL l all g1 m1):=⟨by simp [qL],hTl,hOl⟩
        have hCb:Bd (qT l all g1 m1).1.length 0 (qO l all g1 m1).2 (qE l all g1 m1).2:=zh4 l all (qT l all g1 m1).1 (qO l all g1 m1).2
        have hC1:=hCb.ps
        have hC2:=hCb.t1
        have hC3:=hCb.t2
        have hC4:=hCb.lf
        have hQb:Bd 0 (qT l all g1 m1).1.length (qE l all g1 m1).2 (qQ l all g1 m1).2:=zp3 (qT l all g1 m1).1 (qE l all g1 m1).2
        have hQ1:=hQb.ps
        have hQ2:=hQb.t1
        have hQ3:=hQb.t2
        have hQ4:=hQb.lf
        have hQl:(qQ l all g1 m1).1.length=(qT l all g1 m1).1.length:=(z25 (qT l all g1 m1).1 (qE l all g1 m1).2).2
        have hInQ:InR (qQ l all g1 m1).2.types (all++(qQ l all g1 m1).1):=(hIn.mono oM0).app (InR.outs _ _)
        have hBb:Bd 4 0 (qQ l all g1 m1).2 (qD l m all g1 m1).2:=z7j l m (all++(qQ l all g1 m1).1) (qL l all g1 m1) (qQ l all g1 m1).2 hLP
        have hB1:=hBb.ps
        have hB2:=hBb.t1
        have hB3:=hBb.t2
        have hB4:=hBb.lf
        have hQl2:((qQ l all g1 m1).1.map eInt).length=(qQ l all g1 m1).1.length:=by simp
        have hal:(all.map eInt).length=all.length:=by simp
        have hQl3:=(z25 (qT l all g1 m1).1 (qE l all g1 m1).2).2
        refine tQ <| tG <| sm 1 rfl <| cE rfl (ocr (z94 l (qK l all g1 m1).2 oM0) y9v rfl (po2 rfl rfl) rfl (fun k (h:_)=>.inr h) rfl rfl) <| sm 1 rfl <| cE rfl (ocr (z94 l (qT l all g1 m1).2 oM0) y9v rfl (po2 rfl rfl) rfl (fun k (h:_)=>.inr h) rfl rfl) <| sm 2 rfl <| nL <| tQ <| tG <| sm 3 rfl <| cE rfl (ocr (zt9 l all (qT l all g1 m1).1 (qO l all g1 m1).2 (hIn.mono oM0) oM0 oM0) ent52 rfl (po3 rfl rfl rfl) rfl (fun k (h:_)=>.inr h) rfl rfl) ?_
        refine sm 2 rfl <| cE rfl (ocr (z2m l (qT l all g1 m1).1 (qE l all g1 m1).2 oM0) y7g rfl (po2 rfl rfl) rfl (fun k (h:_)=>.inr h) rfl rfl) <| cV rfl (bPu rfl rfl tZ43 tP43 rfl (fbk rfl) rfl) <| c0 (sBA rfl rfl rfl rfl rfl ((fun h=>h)) tS43 (flk rfl) (lb rfl)) <| nL <| tQ <| Tr.fixNil (k:=112) rfl (fun h=>h) <| tG <| sm 1 rfl <| nL <| tQ <| Tr.grow (t:=19) (k:=2019) ⟨3,1⟩ rfl rfl rfl rfl rfl ?_
        refine tG <| sm 2 rfl ?_
        refine cE rfl (z5r rfl rfl rfl rfl rfl rfl rfl sI0 uT35 tB3 dC0 z5k z5o (by simp [maxLen];omega) (by simp;omega)) ?_
        refine sm 1 rfl <| nL <| tQ <| tG <| sm 3 rfl ?_
        refine cE rfl (aPp rfl rfl rfl rfl (by (simp;done)) ((fun h=>h)) uT35 tB3 dC0 (z5k) (z5o) (by simp [maxLen,z07];omega) (by simp [z07];omega)) ?_
        refine sm 1 rfl <| nL <| tQ ?_
        refine Tr.heap (σ':=look [(2019,some (rowI (all++(qQ l all g1 m1).1))),(112,some (.box [.pv (vInt (.mk 11 0 0 z0l (qE l all g1 m1).1 [] (qQ l all g1 m1).1 []:Nd).kind),.pv (vInt (.mk 11 0 0 z0l (qE l all g1 m1).1 [] (qQ l all g1 m1).1 []:Nd).op),.pv (vInt (.mk 11 0 0 z0l (qE l all g1 m1).1 [] (qQ l all g1 m1).1 []:Nd).n),.pv (vStr (.mk 11 0 0 z0l (qE l all g1 m1).1 [] (qQ l all g1 m1).1 []:Nd).name),.pv (ints (.mk 11 0 0 z0l (qE l all g1 m1).1 [] (qQ l all g1 m1).1 []:Nd).args),.pv (ints (.mk 11 0 0 z0l (qE l all g1 m1).1 [] (qQ l all g1 m1).1 []:Nd).outs),.pv (ints (.mk 11 0 0 z0l (qE l all g1 m1).1 [] (qQ l all g1 m1).1 []:Nd).params),.pv (kids (.mk 11 0 0 z0l (qE l all g1 m1).1 [] (qQ l all g1 m1).1 []:Nd).kids)])),(109,some (.row ⟨43,8⟩ (out.map Nd.enc))),(2010,some (rowI all)),(2001,some (z3h l (qQ l all g1 m1).2)),(2002,some (rowI (qQ l all g1 m1).2.types)),(2003,some (rowI seen))]) (lkq [2019,112,109,2010,2001,2002,2003] rfl rfl ⟨(congrArg (fun z=>some (HO.row _ z)) (by simp [qQ])),rfl,rfl,rfl,rfl,rfl,rfl,trivial⟩) ?_
        refine tG <| sm 4 rfl <| cV rfl (bPu rfl rfl tZ73 tP73 rfl (fbk rfl) rfl) <| sm 1 rfl <| cV rfl (oB rfl rfl (z3i rfl oM0)) ?_
        refine cE rfl (cRr ((ih m rfl).at2019 (all++(qQ l all g1 m1).1) (qL l all g1 m1) (qQ l all g1 m1).2 hInQ hLP oM0 oM0 (by rw [List.length_append];omega)) y9t rfl rfl (sSm rfl (sSm (congrArg (fun n=>IV.sl 2019 n) (by simp [qQ])) (Subs.cons (fun _ _ _ _ h=>z4w (q:=plcv (qL l all g1 m1)) (PSub.agg (ps:=[vBool false,vBool true,.val (.slice none 0 0),ints (qT l all g1 m1).1,ints (qO l all g1 m1).1]) (And.intro (PSub.refl _) (And.intro (PSub.refl _) (And.intro PSub.nil (And.intro (PSub.refl _) (And.intro (PSub.refl _) trivial)))))) h) (sSm (congrArg (fun z=>iInt z) oM0) Subs.nil)))) (po3 rfl rfl rfl) (by rfl) (fun k (h:_)=>.inr h) rfl (by rfl)) ?_
        refine cE rfl (bSl rfl rfl uT41 tZ44 tS44 rfl rfl rfl rfl (fbk rfl) rfl) <| sm 1 rfl <| c0 (sBx rfl rfl rfl rfl ((fun h=>h)) tS41 (rfl) (lb rfl)) <| nL <| tQ <| Tr.drop (k:=2019) <| tG <| cV rfl (lBP rfl rfl rfl uT43 rfl tS43 (lb rfl) rfl trivial) <| cE rfl (ocq (z4c (.mk 11 0 0 z0l (qE l all g1 m1).1 [] (qQ l all g1 m1).1 [(qD l m all g1 m1).1]:Nd)) y9w rfl rfl) <| sm 1 rfl <| nL ?_
        refine tC rfl (fun hc131=>?_) fun hc131=>?_
        ·have hX:gAny l (gRec l (m+1)) all p g1=((.mk 11 0 0 z0l (qE l all g1 m1).1 (z0k (qO l all g1 m1).1 (qD l m all g1 m1).2).1 (qQ l all g1 m1).1 [(qD l m all g1 m1).1]:Nd),(z0k (qO l all g1 m1).1 (qD l m all g1 m1).2).2):=by
           have hcl:z04 (.mk 11 0 0 z0l (qE l all g1 m1).1 [] (qQ l all g1 m1).1 [(qD l m all g1 m1).1]:Nd)=false:=by simpa using hc131
           have hk0:¬ (z05 l 6 (qS l all g1 m1).2).1=0:=by omega
           unfold gAny
           simp only [gRec,e2]
           exact (if_neg hk0).trans ((if_pos hk1).trans (if_neg (fun h=>Bool.noConfusion (hcl.symm.trans h))))
         refine tG <| sm 2 rfl <| cE rfl (ocr (z2m l (qO l all g1 m1).1 (qD l m all g1 m1).2 oM0) y7g rfl (po2 rfl rfl) rfl (fun k (h:_)=>.inr h) rfl rfl) <| sm 1 rfl <| c0 (sBx rfl rfl rfl rfl ((fun h=>h)) tS35 (rfl) (lb rfl)) <| nL ?_
         refine ⟨rfl,Sub.of ⟨rfl,rfl,rfl,rfl,rfl,rfl,rfl,trivial⟩,funext (lkq [112,109,2010,2001,2002,2003,115,2019] rfl rfl ⟨(by first | rfl | (rw [hX];rfl)),rfl,rfl,(by first | rfl | (rw [hX];rfl)),(by first | rfl | (rw [hX];rfl)),rfl,rfl,rfl,trivial⟩)⟩
        have hX:gAny l (gRec l (m+1)) all p g1=((.mk 11 0 0 z0l (qE l all g1 m1).1 [] (qQ l all g1 m1).1 [(qD l m all g1 m1).1]:Nd),(qD l m all g1 m1).2):=by
          have hcl:z04 (.mk 11 0 0 z0l (qE l all g1 m1).1 [] (qQ l all g1 m1).1 [(qD l m all g1 m1).1]:Nd)=true:=by simpa using hc131
          have hk0:¬ (z05 l 6 (qS l all g1 m1).2).1=0:=by omega
          unfold gAny
          simp only [gRec,e2]
          exact (if_neg hk0).trans ((if_pos hk1).trans (if_pos hcl))
        refine tSk ?_
        refine ⟨rfl,Sub.of ⟨rfl,rfl,rfl,rfl,rfl,rfl,rfl,trivial⟩,funext (lkq [112,109,2010,2001,2002,2003,115,2019] rfl rfl ⟨(by first | rfl | (rw [hX];rfl)),rfl,rfl,(by first | rfl | (rw [hX];rfl)),(by first | rfl | (rw [hX];rfl)),rfl,rfl,rfl,trivial⟩)⟩
       have hX:gAny l (gRec l d) all p g1=((qS l all g1 m1).1,(qK l all g1 m1).2):=by
         unfold gAny
         simp only [e2]
         cases d with
         | zero=>rfl
         | succ m =>
           have hk0:¬ (z05 l 6 (qS l all g1 m1).2).1=0:=by first | (simp at hb52<;>omega) | (simp at hc49<;>omega)
           have hk1:¬ (z05 l 6 (qS l all g1 m1).2).1=1:=by first | (simp at hb96<;>omega) | (simp at hc93<;>omega)
           exact (if_neg hk0).trans (if_neg hk1)
       refine tSk ?_
       refine ⟨rfl,Sub.of ⟨rfl,rfl,rfl,rfl,rfl,rfl,rfl,trivial⟩,funext (lkq [112,109,2010,2001,2002,2003,115,2019] rfl rfl ⟨(by first | rfl | (rw [hX];rfl)),rfl,rfl,(by first | rfl | (rw [hX];rfl)),(by first | rfl | (rw [hX];rfl)),rfl,rfl,rfl,trivial⟩)⟩
      refine sm 4 rfl <| nL <| Tr.condF rfl ?_
      have hX:gAny l (gRec l d) all p g1=((qS l all g1 m1).1,(qK l all g1 m1).2):=by
        unfold gAny
        simp only [e2]
        cases d with
        | zero=>rfl
        | succ m =>
          have hk0:¬ (z05 l 6 (qS l all g1 m1).2).1=0:=by first | (simp at hb52<;>omega) | (simp at hc49<;>omega)
          have hk1:¬ (z05 l 6 (qS l all g1 m1).2).1=1:=by first | (simp at hb96<;>omega) | (simp at hc93<;>omega)
          exact (if_neg hk0).trans (if_neg hk1)
      refine tSk ?_
      refine ⟨rfl,Sub.of ⟨rfl,rfl,rfl,rfl,rfl,rfl,rfl,trivial⟩,funext (lkq [112,109,2010,2001,2002,2003,115,2019] rfl rfl ⟨(by first | rfl | (rw [hX];rfl)),rfl,rfl,(by first | rfl | (rw [hX];rfl)),(by first | rfl | (rw [hX];rfl)),rfl,rfl,rfl,trivial⟩)⟩
     refine sm 4 rfl <| nL <| Tr.condF rfl <| tQ <| tG <| sm 3 rfl ?_
     refine wS 96 rfl (fun hb96=>?_) fun hb96=>?_
     ·refine sm 4 rfl <| nL ?_
      refine tC rfl (fun hc93=>?_) fun hc93=>?_
      ·have hk1:(z05 l 6 (qS l all g1 m1).2).1=1:=by simp at hb96;omega
       obtain ⟨m,rfl⟩:∃ m,d=m+1:=⟨d - 1,by simp at hc93;omega⟩
       obtain ⟨hTb,hTl⟩:Bd 3 0 (qK l all g1 m1).2 (qT l all g1 m1).2/\(qT l all g1 m1).1.length<=2:=z3p l (qK l all g1 m1).2
       have hT1:=hTb.ps
       have hT2:=hTb.t1
       have hT3:=hTb.t2
       have hT4:=hTb.lf
       obtain ⟨hOb,hOl⟩:Bd 3 0 (qT l all g1 m1).2 (qO l all g1 m1).2/\(qO l all g1 m1).1.length<=2:=z3p l (qT l all g1 m1).2
       have hO1:=hOb.ps
       have hO2:=hOb.t1
       have hO3:=hOb.t2
       have hO4:=hOb.lf
       have hLP:Plc.small (qL l all g1 m1):=⟨by simp [qL],hTl,hOl⟩
       have hCb:Bd (qT l all g1 m1).1.length 0 (qO l all g1 m1).2 (qE l all g1 m1).2:=zh4 l all (qT l all g1 m1).1 (qO l all g1 m1).2
       have hC1:=hCb.ps
       have hC2:=hCb.t1
       have hC3:=hCb.t2
       have hC4:=hCb.lf
       have hQb:Bd 0 (qT l all g1 m1).1.length (qE l all g1 m1).2 (qQ l all g1 m1).2:=zp3 (qT l all g1 m1).1 (qE l all g1 m1).2
       have hQ1:=hQb.ps
       have hQ2:=hQb.t1
       have hQ3:=hQb.t2
       have hQ4:=hQb.lf
       have hQl:(qQ l all g1 m1).1.length=(qT l all g1 m1).1.length:=(z25 (qT l all g1 m1).1 (qE l all g1 m1).2).2
       have hInQ:InR (qQ l all g1 m1).2.types (all++(qQ l all g1 m1).1):=(hIn.mono oM0).app (InR.outs _ _)
       have hBb:Bd 4 0 (qQ l all g1 m1).2 (qD l m all g1 m1).2:=z7j l m (all++(qQ l all g1 m1).1) (qL l all g1 m1) (qQ l all g1 m1).2 hLP
       have hB1:=hBb.ps
       have hB2:=hBb.t1
       have hB3:=hBb.t2
       have hB4:=hBb.lf
       have hQl2:((qQ l all g1 m1).1.map eInt).length=(qQ l all g1 m1).1.length:=by simp
       have hal:(all.map eInt).length=all.length:=by simp
       have hQl3:=(z25 (qT l all g1 m1).1 (qE l all g1 m1).2).2
       refine tQ <| tG <| sm 1 rfl <| cE rfl (ocr (z94 l (qK l all g1 m1).2 oM0) y9v rfl (po2 rfl rfl) rfl (fun k (h:_)=>.inr h) rfl rfl) <| sm 1 rfl <| cE rfl (ocr (z94 l (qT l all g1 m1).2 oM0) y9v rfl (po2 rfl rfl) rfl (fun k (h:_)=>.inr h) rfl rfl) <| sm 2 rfl <| nL <| tQ <| tG <| sm 3 rfl <| cE rfl (ocr (zt9 l all (qT l all g1 m1).1 (qO l all g1 m1).2 (hIn.mono oM0) oM0 oM0) ent52 rfl (po3 rfl rfl rfl) rfl (fun k (h:_)=>.inr h) rfl rfl) ?_
       refine sm 2 rfl <| cE rfl (ocr (z2m l (qT l all g1 m1).1 (qE l all g1 m1).2 oM0) y7g rfl (po2 rfl rfl) rfl (fun k (h:_)=>.inr h) rfl rfl) <| cV rfl (bPu rfl rfl tZ43 tP43 rfl (fbk rfl) rfl) <| c0 (sBA rfl rfl rfl rfl rfl ((fun h=>h)) tS43 (flk rfl) (lb rfl)) <| nL <| tQ <| Tr.fixNil (k:=112) rfl (fun h=>h) <| tG <| sm 1 rfl <| nL <| tQ <| Tr.grow (t:=19) (k:=2019) ⟨3,1⟩ rfl rfl rfl rfl rfl ?_
       refine tG <| sm 2 rfl ?_
       refine cE rfl (z5r rfl rfl rfl rfl rfl rfl rfl sI0 uT35 tB3 dC0 z5k z5o (by simp [maxLen];omega) (by simp;omega)) ?_
       refine sm 1 rfl <| nL <| tQ <| tG <| sm 3 rfl ?_
       refine cE rfl (aPp rfl rfl rfl rfl (by (simp;done)) ((fun h=>h)) uT35 tB3 dC0 (z5k) (z5o) (by simp [maxLen,z07];omega) (by simp [z07];omega)) ?_
       refine sm 1 rfl <| nL <| tQ ?_
       refine Tr.heap (σ':=look [(2019,some (rowI (all++(qQ l all g1 m1).1))),(112,some (.box [.pv (vInt (.mk 11 0 0 z0l (qE l all g1 m1).1 [] (qQ l all g1 m1).1 []:Nd).kind),.pv (vInt (.mk 11 0 0 z0l (qE l all g1 m1).1 [] (qQ l all g1 m1).1 []:Nd).op),.pv (vInt (.mk 11 0 0 z0l (qE l all g1 m1).1 [] (qQ l all g1 m1).1 []:Nd).n),.pv (vStr (.mk 11 0 0 z0l (qE l all g1 m1).1 [] (qQ l all g1 m1).1 []:Nd).name),.pv (ints (.mk 11 0 0 z0l (qE l all g1 m1).1 [] (qQ l all g1 m1).1 []:Nd).args),.pv (ints (.mk 11 0 0 z0l (qE l all g1 m1).1 [] (qQ l all g1 m1).1 []:Nd).outs),.pv (ints (.mk 11 0 0 z0l (qE l all g1 m1).1 [] (qQ l all g1 m1).1 []:Nd).params),.pv (kids (.mk 11 0 0 z0l (qE l all g1 m1).1 [] (qQ l all g1 m1).1 []:Nd).kids)])),(109,some (.row ⟨43,8⟩ (out.map Nd.enc))),(2010,some (rowI all)),(2001,some (z3h l (qQ l all g1 m1).2)),(2002,some (rowI (qQ l all g1 m1).2.types)),(2003,some (rowI seen))]) (lkq [2019,112,109,2010,2001,2002,2003] rfl rfl ⟨(congrArg (fun z=>some (HO.row _ z)) (by simp [qQ])),rfl,rfl,rfl,rfl,rfl,rfl,trivial⟩) ?_
       refine tG <| sm 4 rfl <| cV rfl (bPu rfl rfl tZ73 tP73 rfl (fbk rfl) rfl) <| sm 1 rfl <| cV rfl (oB rfl rfl (z3i rfl oM0)) ?_
       refine cE rfl (cRr ((ih m rfl).at2019 (all++(qQ l all g1 m1).1) (qL l all g1 m1) (qQ l all g1 m1).2 hInQ hLP oM0 oM0 (by rw [List.length_append];omega)) y9t rfl rfl (sSm rfl (sSm (congrArg (fun n=>IV.sl 2019 n) (by simp [qQ])) (Subs.cons (fun _ _ _ _ h=>z4w (q:=plcv (qL l all g1 m1)) (PSub.agg (ps:=[vBool false,vBool true,.val (.slice none 0 0),ints (qT l all g1 m1).1,ints (qO l all g1 m1).1]) (And.intro (PSub.refl _) (And.intro (PSub.refl _) (And.intro PSub.nil (And.intro (PSub.refl _) (And.intro (PSub.refl _) trivial)))))) h) (sSm (congrArg (fun z=>iInt z) oM0) Subs.nil)))) (po3 rfl rfl rfl) (by rfl) (fun k (h:_)=>.inr h) rfl (by rfl)) ?_
       refine cE rfl (bSl rfl rfl uT41 tZ44 tS44 rfl rfl rfl rfl (fbk rfl) rfl) <| sm 1 rfl <| c0 (sBx rfl rfl rfl rfl ((fun h=>h)) tS41 (rfl) (lb rfl)) <| nL <| tQ <| Tr.drop (k:=2019) <| tG <| cV rfl (lBP rfl rfl rfl uT43 rfl tS43 (lb rfl) rfl trivial) <| cE rfl (ocq (z4c (.mk 11 0 0 z0l (qE l all g1 m1).1 [] (qQ l all g1 m1).1 [(qD l m all g1 m1).1]:Nd)) y9w rfl rfl) <| sm 1 rfl <| nL ?_
       refine tC rfl (fun hc131=>?_) fun hc131=>?_
       ·have hX:gAny l (gRec l (m+1)) all p g1=((.mk 11 0 0 z0l (qE l all g1 m1).1 (z0k (qO l all g1 m1).1 (qD l m all g1 m1).2).1 (qQ l all g1 m1).1 [(qD l m all g1 m1).1]:Nd),(z0k (qO l all g1 m1).1 (qD l m all g1 m1).2).2):=by
          have hcl:z04 (.mk 11 0 0 z0l (qE l all g1 m1).1 [] (qQ l all g1 m1).1 [(qD l m all g1 m1).1]:Nd)=false:=by simpa using hc131
          have hk0:¬ (z05 l 6 (qS l all g1 m1).2).1=0:=by omega
          unfold gAny
          simp only [gRec,e2]
          exact (if_neg hk0).trans ((if_pos hk1).trans (if_neg (fun h=>Bool.noConfusion (hcl.symm.trans h))))
        refine tG <| sm 2 rfl <| cE rfl (ocr (z2m l (qO l all g1 m1).1 (qD l m all g1 m1).2 oM0) y7g rfl (po2 rfl rfl) rfl (fun k (h:_)=>.inr h) rfl rfl) <| sm 1 rfl <| c0 (sBx rfl rfl rfl rfl ((fun h=>h)) tS35 (rfl) (lb rfl)) <| nL ?_
        refine ⟨rfl,Sub.of ⟨rfl,rfl,rfl,rfl,rfl,rfl,rfl,trivial⟩,funext (lkq [112,109,2010,2001,2002,2003,115,2019] rfl rfl ⟨(by first | rfl | (rw [hX];rfl)),rfl,rfl,(by first | rfl | (rw [hX];rfl)),(by first | rfl | (rw [hX];rfl)),rfl,rfl,rfl,trivial⟩)⟩
       have hX:gAny l (gRec l (m+1)) all p g1=((.mk 11 0 0 z0l (qE l all g1 m1).1 [] (qQ l all g1 m1).1 [(qD l m all g1 m1).1]:Nd),(qD l m all g1 m1).2):=by
         have hcl:z04 (.mk 11 0 0 z0l (qE l all g1 m1).1 [] (qQ l all g1 m1).1 [(qD l m all g1 m1).1]:Nd)=true:=by simpa using hc131
         have hk0:¬ (z05 l 6 (qS l all g1 m1).2).1=0:=by omega
         unfold gAny
         simp only [gRec,e2]
         exact (if_neg hk0).trans ((if_pos hk1).trans (if_pos hcl))
       refine tSk ?_
       refine ⟨rfl,Sub.of ⟨rfl,rfl,rfl,rfl,rfl,rfl,rfl,trivial⟩,funext (lkq [112,109,2010,2001,2002,2003,115,2019] rfl rfl ⟨(by first | rfl | (rw [hX];rfl)),rfl,rfl,(by first | rfl | (rw [hX];rfl)),(by first | rfl | (rw [hX];rfl)),rfl,rfl,rfl,trivial⟩)⟩
      have hX:gAny l (gRec l d) all p g1=((qS l all g1 m1).1,(qK l all g1 m1).2):=by
        unfold gAny
        simp only [e2]
        cases d with
        | zero=>rfl
        | succ m =>
          have hk0:¬ (z05 l 6 (qS l all g1 m1).2).1=0:=by first | (simp at hb52<;>omega) | (simp at hc49<;>omega)
          have hk1:¬ (z05 l 6 (qS l all g1 m1).2).1=1:=by first | (simp at hb96<;>omega) | (simp at hc93<;>omega)
          exact (if_neg hk0).trans (if_neg hk1)
      refine tSk ?_
      refine ⟨rfl,Sub.of ⟨rfl,rfl,rfl,rfl,rfl,rfl,rfl,trivial⟩,funext (lkq [112,109,2010,2001,2002,2003,115,2019] rfl rfl ⟨(by first | rfl | (rw [hX];rfl)),rfl,rfl,(by first | rfl | (rw [hX];rfl)),(by first | rfl | (rw [hX];rfl)),rfl,rfl,rfl,trivial⟩)⟩
     refine sm 4 rfl <| nL <| Tr.condF rfl ?_
     have hX:gAny l (gRec l d) all p g1=((qS l all g1 m1).1,(qK l all g1 m1).2):=by
       unfold gAny
       simp only [e2]
       cases d with
       | zero=>rfl
       | succ m =>
         have hk0:¬ (z05 l 6 (qS l all g1 m1).2).1=0:=by first | (simp at hb52<;>omega) | (simp at hc49<;>omega)
         have hk1:¬ (z05 l 6 (qS l all g1 m1).2).1=1:=by first | (simp at hb96<;>omega) | (simp at hc93<;>omega)
         exact (if_neg hk0).trans (if_neg hk1)
     refine tSk ?_
     refine ⟨rfl,Sub.of ⟨rfl,rfl,rfl,rfl,rfl,rfl,rfl,trivial⟩,funext (lkq [112,109,2010,2001,2002,2003,115,2019] rfl rfl ⟨(by first | rfl | (rw [hX];rfl)),rfl,rfl,(by first | rfl | (rw [hX];rfl)),(by first | rfl | (rw [hX];rfl)),rfl,rfl,rfl,trivial⟩)⟩
    refine tQ ?_
    have hol:(out.map Nd.enc).length=out.length:=by simp
    have hal:(all.map eInt).length=all.length:=by simp
    have hxo:((gAny l (gRec l d) all p g1).1.outs.map eInt).length=(gAny l (gRec l d) all p g1).1.outs.length:=by simp
    have hxo2:=hXo.2
    refine tG <| sm 1 rfl <| cV rfl (lBP rfl rfl rfl uT43 rfl tS43 (lb rfl) rfl trivial) <| cE rfl (bSl rfl rfl uT44 tZ43 tS43 rfl rfl rfl rfl (fbk rfl) rfl) ?_
    refine cE rfl (aPp rfl rfl rfl rfl (by rfl) ((fun h=>h)) uT44 tB43 dC0 (by (simp [z07];done)) (z5w _) (by simp [maxLen,z07];omega) (by simp [z07];omega)) ?_
    refine sm 1 rfl <| nL <| tQ <| tQ <| tG <| cV rfl (lBP rfl rfl rfl uT43 rfl tS43 (lb rfl) rfl trivial) <| cE rfl (ocq (z4c (gAny l (gRec l d) all p g1).1) y9w rfl rfl) <| nL ?_
    refine tC rfl (fun hc141=>?_) fun hc141=>?_
    ·refine tQ ?_
     have hres:z31 l d seen p g=(out++[(gAny l (gRec l d) all p g1).1],(gAny l (gRec l d) all p g1).2):=by rw [<- hI,z3g,if_neg hleft,if_pos hc141]
     refine tG <| sm 2 rfl <| nL ?_
     refine Tr.freeze (t:=8) (k:=109) rfl rfl (by simp [z07]) ?_
     refine tRt ?_
     rw [hres]
     refine rOk rfl (congrArg (fun z=>IV.pv (.seq z)) (by simp [z07,Nd.enc_eq,Nd.cells_eta])) (po3 rfl rfl rfl)
    refine tSk <| tG <| sm 3 rfl ?_
    refine cE rfl (aPp rfl rfl rfl rfl (by rfl) ((fun h=>h)) uT35 tB3 dC0 (z5k) (z5o) (by simp [maxLen,z07];omega) (by simp [z07];omega)) ?_
    refine sm 1 rfl <| nL <| Tr.drop (k:=112) <| tG <| sm 1 rfl <| cV rfl (oB rfl rfl (z3i rfl oM0)) <| sm 1 rfl <| nL ?_
    refine ⟨_,_,?_,Sub.of (fr':=[(11,iInt ((n1:Nat):Int)),(10,.sl 2010 ((all++(gAny l (gRec l d) all p g1).1.outs).map eInt).length),(9,.sl 109 ((out++[(gAny l (gRec l d) all p g1).1]).map Nd.enc).length),(6,.pv (.ept [vBool p.If,vBool p.Loop,ints p.Yield,ints p.Next,ints p.Left] 0)),(0,.ptr 2001 0),(3,iInt (d:Int))]) ⟨congrArg (fun z=>some (iInt z)) oM0,congrArg (fun z=>some (IV.sl _ z)) sI0,congrArg (fun z=>some (IV.sl _ z)) (by simp [z07]),rfl,rfl,rfl,trivial⟩,n1,(out++[(gAny l (gRec l d) all p g1).1]),(all++(gAny l (gRec l d) all p g1).1.outs),(gAny l (gRec l d) all p g1).2,?_,?_,?_,?_,?_,?_,rfl,(funext (lkq [112,109,2010,2001,2002,2003] rfl rfl ⟨rfl,(by first | rfl | exact congrArg (fun z=>some (HO.row _ z)) (by simp [z07,Nd.enc_eq,Nd.cells_eta]) | exact congrArg (fun z=>some (HO.row _ z)) sI0),(by first | rfl | exact congrArg (fun z=>some (HO.row _ z)) (by simp [z07,Nd.enc_eq,Nd.cells_eta]) | exact congrArg (fun z=>some (HO.row _ z)) sI0),rfl,rfl,rfl,trivial⟩)),rfl⟩
    ·omega
    ·rw [<- hI,z3g,if_neg hleft,if_neg (by rw [hc141];decide)]
    ·exact (hIn.mono hXb.t1).app hXo.1
    ·have:=hXb.ps;omega
    ·have:=hXb.t2;omega
    ·have:=hXo.2;rw [List.length_append];have:=hXl;omega
    simp;omega
   refine tEx <| tQ ?_
   have hres:z31 l d seen p g=(out++[(gEnd l all p g1).1],(gEnd l all p g1).2):=by
     rw [<- hI]
     (have h0:g1.left=0:=by simpa using hc33
      cases n with
      | zero=>rw [z3g]
      | succ n=>rw [z3g,if_pos h0])
   have hol:(out.map Nd.enc).length=out.length:=by simp
   refine tG <| sm 3 rfl <| cV rfl (lEA rfl rfl Tryz.underlying73 rfl tS73 (lb rfl)) <| cE rfl (ocr (y6u l all p g1 hIn oM0 oM0 hp) ent54 rfl (po3 rfl rfl rfl) rfl (fun k (h:_)=>.inr h) rfl rfl) <| cE rfl (bSl rfl rfl uT44 tZ43 tS43 rfl rfl rfl rfl (fbk rfl) rfl) ?_
   refine cE rfl (aPp rfl rfl rfl rfl (by rfl) ((fun h=>h)) uT44 tB43 dC0 (by (simp [z07];done)) (z5w _) (by simp [maxLen,z07];omega) (by simp [z07];omega)) ?_
   refine sm 1 rfl <| nL ?_
   refine Tr.freeze (t:=8) (k:=109) rfl rfl (by simp [z07]) ?_
   refine tRt ?_
   rw [hres]
   refine rOk rfl (congrArg (fun z=>IV.pv (.seq z)) (by simp [z07,Nd.enc_eq,Nd.cells_eta])) (po3 rfl rfl rfl)
  refine sm 6 rfl <| nL <| Tr.condF rfl <| tEx <| tQ ?_
  have hres:z31 l d seen p g=(out++[(gEnd l all p g1).1],(gEnd l all p g1).2):=by
    rw [<- hI]
    (have h0:n=0:=by simpa using hb27
     rw [h0,z3g]
     done)
  have hol:(out.map Nd.enc).length=out.length:=by simp
  refine tG <| sm 3 rfl <| cV rfl (lEA rfl rfl Tryz.underlying73 rfl tS73 (lb rfl)) <| cE rfl (ocr (y6u l all p g1 hIn oM0 oM0 hp) ent54 rfl (po3 rfl rfl rfl) rfl (fun k (h:_)=>.inr h) rfl rfl) <| cE rfl (bSl rfl rfl uT44 tZ43 tS43 rfl rfl rfl rfl (fbk rfl) rfl) ?_
  refine cE rfl (aPp rfl rfl rfl rfl (by rfl) ((fun h=>h)) uT44 tB43 dC0 (by (simp [z07];done)) (z5w _) (by simp [maxLen,z07];omega) (by simp [z07];omega)) ?_
  refine sm 1 rfl <| nL ?_
  refine Tr.freeze (t:=8) (k:=109) rfl rfl (by simp [z07]) ?_
  refine tRt ?_
  rw [hres]
  refine rOk rfl (congrArg (fun z=>IV.pv (.seq z)) (by simp [z07,Nd.enc_eq,Nd.cells_eta])) (po3 rfl rfl rfl)
end Go.Proofs.YtiflpehjefhnmaaGreat
