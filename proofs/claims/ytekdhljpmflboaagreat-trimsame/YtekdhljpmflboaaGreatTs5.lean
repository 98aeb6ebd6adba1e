/- PART 5 of 6 of a proof: see the last part. -/
import Derived.Test.YtekdhljpmflboaaGreatTs4
set_option maxRecDepth 8000
set_option maxHeartbeats 2000000
set_option linter.unusedSimpArgs false
set_option linter.unusedVariables false
set_option linter.unusedSectionVars false
namespace Go.Proofs.YtekdhljpmflboaaGreat
open Go
theorem y9u (u : Un) (f : Fl) (hg : ∀ g ∈ u.flows, 0 <= g.params /\ g.params <= g.types.length) (x : Nd) (deep : Int) (hd : 0 <= deep /\ deep <= 100) (wh : Wh) (seen : List Int) (set : List Bool) (hs : set.length = f.types.length) (hb : seen.length + ndW x <= 1073741824) (ih : ∀ q ∈ x.kids, ∀ (deep : Int) (w : Wh) (all : List Int) (set : List Bool), 0 <= deep /\ deep <= 101 -> set.length = f.types.length -> all.length + lsW q <= 1073741824 -> SC Tryz.prog 52 [.ptr 3 0, .pv (z0f q), .pv (ints all), .pv (whv w), iInt deep] (ckHp u f 4 set) (fun k => k = 3) (iBool (z0g u f deep w all set q).1) (ckHp u f 4 (z0g u f deep w all set q).2)) : SC Tryz.prog 79 [.ptr 3 0, .pv (ndv x), .pv (ints seen), .pv (whv wh), iInt deep] (ckHp u f 4 set) (fun k => k = 3) (iBool (z0x u f deep wh seen set x).1) (ckHp u f 4 (z0x u f deep wh seen set x).2) := by
  refine SC.of Tryz.func79 rfl (lb rfl) fun F ρ w => ?_
  have hbW := zg0 x
  have hbo : x.outs.length <= 1073741824 := by omega
  have hbp : x.params.length <= 1073741824 := by omega
  refine tQ <| tG <| cE rfl (z1y rfl rfl) <| cE rfl (z1y rfl rfl) <| sm 1 rfl <| nL <| tQ <| tQ <| tG <| cV rfl (lEA rfl rfl uT42 rfl tS42 (lb rfl)) <| cE rfl (ocq (y9s _) ent100 rfl rfl) <| sm 1 rfl ?_
  refine nL ?_
  refine tC rfl (fun hc17 => ?_) fun hc17 => ?_
  ·refine tQ <| tG <| sm 1 rfl <| nL <| tRt ?_
   have hbare : z1a x = false := by simpa using hc17
   rw [z9u _ _ _ _ _ _ hbare]
   exact rOk rfl rfl (po2 rfl rfl)
  have hbare : z1a x = true := by simpa using hc17
  refine tSk <| tQ <| tQ <| tG <| sm 2 rfl <| nL <| tBk <| tQ <| tG <| sm 2 rfl <| nL ?_
  refine tC rfl (fun hc20 => ?_) fun hc20 => ?_
  ·have hk10 : x.kind = 10 := by simpa using hc20
   obtain ⟨ka, kb, hkids⟩ := z3q hbare hk10
   have hi0 : (x.kids.map eKid)[0]? = some [z0f ka] := by rw [hkids]; rfl
   have hi1 : (x.kids.map eKid)[1]? = some [z0f kb] := by rw [hkids]; rfl
   have hm0 : ka ∈ x.kids := by rw [hkids]; simp
   have hm1 : kb ∈ x.kids := by rw [hkids]; simp
   have hkW : kdW x.kids = 1 + lsW ka + (1 + lsW kb) := by rw [hkids]; simp [kdW] <;> omega
   have hb0 : seen.length + lsW ka <= 1073741824 := by omega
   have hb1 : seen.length + lsW kb <= 1073741824 := by omega
   have hs1 : (z0g u f (deep + 1) ⟨true, wh.Loop, r8of f.types x.outs, wh.Next, wh.Left⟩ seen set ka).2.length = f.types.length := (z3b ..).trans hs
   have hs2 : (z0g u f (deep + 1) ⟨true, wh.Loop, r8of f.types x.outs, wh.Next, wh.Left⟩ seen (z0g u f (deep + 1) ⟨true, wh.Loop, r8of f.types x.outs, wh.Next, wh.Left⟩ seen set ka).2 kb).2.length = f.types.length := (z3b ..).trans hs1
   refine tQ <| tDr z1t (fun k => k ∈ ([3] : List Nat)) <| wR 4 [0, 1, 2, 3, 4, 6, 7, 8, 9] kR0 h30 <| smR 9 rfl <| nR <| WA.all (rs := [5, 11]) kR0 sI0 ?_
   refine fmc ⟨?_, fmc ⟨?_, by simp⟩⟩
   ·refine wI rfl rfl (fun k (h : _) => by (simp at h ⊢; omega)) (nAp rfl) (fun _ _ => ocr (z6t u f set x.outs hbo) z9c rfl (po2 rfl rfl) rfl (fun k (h : _) => by (simp only [List.mem_cons, List.not_mem_nil, or_false] at h; rcases h with rfl <;> first | exact .inl rfl | exact .inr rfl | exact .inr dC0)) rfl rfl) <| wR 2 [10] kR0 h30 <| rV rfl rfl (bPu rfl rfl tZ90 tP90 rfl (fbk rfl) rfl) <| nR <| wO 11 kR0 <| wI rfl rfl (fun k (h : _) => by (simp at h ⊢; omega)) (z1n rfl) (fun _ _ => aLc (k := 111) rfl tZ90 rfl rfl rfl rfl) <| wO 12 kR0 <| wI rfl rfl (fun k (h : _) => by (simp at h ⊢; omega)) (nOl rfl) (fun _ _ => sBA rfl rfl rfl rfl rfl sI0 tS90 (flk rfl) (lb rfl)) <| wDn kR0 <| tQ <| tDr z1t (fun k => k ∈ ([3, 111] : List Nat)) <| wR 27 [0, 1, 2, 3] kR0 h30 ?_
    refine smR 4 rfl <| nR <| wO 4 kR0 <| wI rfl rfl (fun k (h : _) => by (simp at h ⊢; omega)) nw (fun _ _ => bSl rfl rfl uT35 tZ3 tS3 rfl rfl rfl rfl (fbk rfl) rfl) <| wO 5 kR0 <| wI rfl rfl (fun k (h : _) => by (simp at h ⊢; omega)) (nAp rfl) (fun _ _ => ocr (z1d u f set x.args seen [2]) z4v rfl (po2 rfl rfl) rfl (fun k (h : _) => .inr trivial) rfl rfl) <| wR 15 [6, 7, 8, 9, 10, 11, 12, 13, 14, 15] kR0 h30 <| smR 1 rfl ?_
    refine WR.split (t := 39) rfl (fun hb39 => ?_) (fun hb39 => ?_)
    ·refine smR 3 rfl <| ryV rfl rfl rfl (iSq rfl rfl rfl uT40 hi0 tS43 rfl (by rfl)) <| smR 2 rfl <| ryV rfl rfl rfl (lBP rfl rfl rfl Tryz.underlying90 rfl tS90 (lb rfl) rfl dC0) <| smR 1 rfl <| ryV rfl rfl rfl (oB rfl rfl (z05 rfl oM0)) <| nR <| wO 16 kR0 <| wY rfl rfl rfl (fun k (h : _) => by (simp at h ⊢; omega)) (nAp rfl) (fun _ _ => ocr (ih ka hm0 (deep + 1) ⟨true, wh.Loop, r8of f.types x.outs, wh.Next, wh.Left⟩ seen set ⟨by omega, by omega⟩ hs hb0) y06 rfl (po2 rfl rfl) rfl (fun k (h : _) => by (simp only [List.mem_cons, List.not_mem_nil, or_false] at h; rcases h with rfl | rfl <;> first | exact .inl rfl | exact .inr rfl | exact .inr dC0)) rfl rfl) <| wR 3 [17, 18, 19, 20, 21, 22, 23, 24, 25, 26, 27] kR0 h30 <| smR 2 rfl ?_
     refine WR.split (t := 51) rfl (fun hb51 => ?_) (fun hb51 => ?_)
     ·refine smR 3 rfl <| ryV rfl rfl rfl (iSq rfl rfl rfl uT40 hi1 tS43 rfl (by rfl)) <| smR 2 rfl <| ryV rfl rfl rfl (lBP rfl rfl rfl Tryz.underlying90 rfl tS90 (lb rfl) rfl dC0) <| smR 1 rfl <| ryV rfl rfl rfl (oB rfl rfl (z05 rfl oM0)) <| nR <| wO 28 kR0 <| wY rfl rfl rfl (fun k (h : _) => by (simp at h ⊢; omega)) (nAp rfl) (fun _ _ => ocr (ih kb hm1 (deep + 1) ⟨true, wh.Loop, r8of f.types x.outs, wh.Next, wh.Left⟩ seen (z0g u f (deep + 1) ⟨true, wh.Loop, r8of f.types x.outs, wh.Next, wh.Left⟩ seen set ka).2 ⟨by omega, by omega⟩ hs1 hb1) y06 rfl (po2 rfl rfl) rfl (fun k (h : _) => by (simp only [List.mem_cons, List.not_mem_nil, or_false] at h; rcases h with rfl | rfl <;> first | exact .inl rfl | exact .inr rfl | exact .inr dC0)) rfl rfl) <| wR 0 [29, 30] kR0 h30 <| smR 2 rfl <| nR ?_
      refine wDn kR0 <| tQ <| tDr z1t (fun k => k ∈ ([3] : List Nat)) <| wR 15 [0, 1, 2, 3, 4, 5, 6, 7] kR0 h30 <| smR 2 rfl ?_
      refine WR.split (t := 64) rfl (fun hb64 => ?_) (fun hb64 => ?_)
      ·refine smR 2 rfl <| ryV rfl rfl rfl (oSm uT35 rfl) <| smR 2 rfl ?_
       refine WR.split (t := 69) rfl (fun hb69 => ?_) (fun hb69 => ?_)
       ·refine smR 1 rfl <| nR <| wN 8 kR0 h30 rfl rfl rfl <| wR 4 [9, 10, 11, 12, 13, 14, 15, 16, 17, 18] kR0 h30 <| smR 9 rfl <| ryV rfl rfl rfl (oSm uT35 rfl) <| nR <| wO 19 kR0 <| wY rfl rfl rfl (fun k (h : _) => by (simp at h ⊢; omega)) (z1n rfl) (fun _ _ => z0w (k := 182) (s := ⟨3, 1⟩) rfl rfl rfl uT35 tZ3 tC3 rfl dC0 oM0 oM0 rfl rfl rfl rfl) <| wO 20 kR0 <| wY rfl rfl rfl (fun k (h : _) => by (simp at h ⊢; omega)) (nAp rfl) (fun _ _ => z3a (fun k => k = 182) (z1e u f (z0g u f (deep + 1) ⟨true, wh.Loop, r8of f.types x.outs, wh.Next, wh.Left⟩ seen (z0g u f (deep + 1) ⟨true, wh.Loop, r8of f.types x.outs, wh.Next, wh.Left⟩ seen set ka).2 kb).2 x.outs (List.replicate x.outs.length 0) hs2) z46 rfl rfl (sRf _ _) (And.intro LendOf.same (And.intro LendOf.same (And.intro (LendOf.row rfl rfl (by (simp; done)) (by (simp only [List.map_replicate]; rfl))) (trivial)))) (fun k h => by subst h; rfl) (po2 rfl rfl) rfl (fun k (h : _) => by (simp only [List.mem_cons, List.not_mem_nil, or_false] at h; rcases h with rfl <;> first | exact .inl rfl | exact .inr rfl | exact .inr dC0)) ⟨_, rfl⟩ (z3h (z0u ..))) <| wR 0 [21, 22] kR0 h30 ?_
        refine smR 2 rfl <| nR <| wDn kR0 <| tRt ?_
        (have h2 : (z0x u f deep wh seen set x).2 = (z0i f.types (z0g u f (deep + 1) ⟨true, wh.Loop, r8of f.types x.outs, wh.Next, wh.Left⟩ seen (z0g u f (deep + 1) ⟨true, wh.Loop, r8of f.types x.outs, wh.Next, wh.Left⟩ seen set ka).2 kb).2 x.outs (List.replicate x.outs.length 0)).2 := (by rw [z11 _ _ _ _ _ _ hbare hk10 hkids]; simp_all [andT, andS, z18]; done)
         rw [h2]
         refine rOk rfl ?_ (po2 rfl rfl)
         clear h2
         rw [z11 _ _ _ _ _ _ hbare hk10 hkids]
         simp_all [andT, andS, z18]
         done)
       refine ryV rfl rfl rfl (lEA rfl rfl uT42 rfl tS42 (lb rfl)) <| nR <| wO 8 kR0 <| wY rfl rfl rfl (fun k (h : _) => by (simp at h ⊢; omega)) nw (fun _ _ => ocq (z2r _) zq5 rfl rfl) <| wR 4 [9, 10, 11, 12, 13, 14, 15, 16, 17, 18] kR0 h30 <| smR 4 rfl ?_
       refine WR.split (t := 75) rfl (fun hb75 => ?_) (fun hb75 => ?_)
       ·refine smR 5 rfl <| ryV rfl rfl rfl (oSm uT35 rfl) <| nR <| wO 19 kR0 <| wY rfl rfl rfl (fun k (h : _) => by (simp at h ⊢; omega)) (z1n rfl) (fun _ _ => z0w (k := 182) (s := ⟨3, 1⟩) rfl rfl rfl uT35 tZ3 tC3 rfl dC0 oM0 oM0 rfl rfl rfl rfl) <| wO 20 kR0 <| wY rfl rfl rfl (fun k (h : _) => by (simp at h ⊢; omega)) (nAp rfl) (fun _ _ => z3a (fun k => k = 182) (z1e u f (z0g u f (deep + 1) ⟨true, wh.Loop, r8of f.types x.outs, wh.Next, wh.Left⟩ seen (z0g u f (deep + 1) ⟨true, wh.Loop, r8of f.types x.outs, wh.Next, wh.Left⟩ seen set ka).2 kb).2 x.outs (List.replicate x.outs.length 0) hs2) z46 rfl rfl (sRf _ _) (And.intro LendOf.same (And.intro LendOf.same (And.intro (LendOf.row rfl rfl (by (simp; done)) (by (simp only [List.map_replicate]; rfl))) (trivial)))) (fun k h => by subst h; rfl) (po2 rfl rfl) rfl (fun k (h : _) => by (simp only [List.mem_cons, List.not_mem_nil, or_false] at h; rcases h with rfl <;> first | exact .inl rfl | exact .inr rfl | exact .inr dC0)) ⟨_, rfl⟩ (z3h (z0u ..))) <| wR 0 [21, 22] kR0 h30 <| smR 2 rfl <| nR <| wDn kR0 <| tRt ?_
        (have h2 : (z0x u f deep wh seen set x).2 = (z0i f.types (z0g u f (deep + 1) ⟨true, wh.Loop, r8of f.types x.outs, wh.Next, wh.Left⟩ seen (z0g u f (deep + 1) ⟨true, wh.Loop, r8of f.types x.outs, wh.Next, wh.Left⟩ seen set ka).2 kb).2 x.outs (List.replicate x.outs.length 0)).2 := (by rw [z11 _ _ _ _ _ _ hbare hk10 hkids]; simp_all [andT, andS, z18]; done)
         rw [h2]
         refine rOk rfl ?_ (po2 rfl rfl)
         clear h2
         rw [z11 _ _ _ _ _ _ hbare hk10 hkids]
         simp_all [andT, andS, z18]
         done)
       refine smR 6 rfl <| nR <| wN 19 kR0 h30 rfl rfl rfl <| wN 20 kR0 h30 rfl rfl rfl <| wR 0 [21, 22] kR0 h30 <| smR 2 rfl <| nR <| wDn kR0 <| tRt ?_
       (have h2 : (z0x u f deep wh seen set x).2 = (z0g u f (deep + 1) ⟨true, wh.Loop, r8of f.types x.outs, wh.Next, wh.Left⟩ seen (z0g u f (deep + 1) ⟨true, wh.Loop, r8of f.types x.outs, wh.Next, wh.Left⟩ seen set ka).2 kb).2 := (by rw [z11 _ _ _ _ _ _ hbare hk10 hkids]; simp_all [andT, andS, z18]; done)
        rw [h2]
        refine rOk rfl ?_ (po2 rfl rfl)
        clear h2
        rw [z11 _ _ _ _ _ _ hbare hk10 hkids]
        simp_all [andT, andS, z18]
        done)
      refine smR 5 rfl <| nUr rfl rfl rfl rfl rfl rfl rfl <| nR <| WA.takeNoU (i := 8) rfl kR0 kR0 kR0 h30 rfl rfl rfl rfl rfl rfl <| wR 4 [9, 10, 11, 12, 13, 14, 15, 16, 17, 18] kR0 h30 <| nUr rfl rfl rfl rfl rfl rfl rfl <| smR 9 rfl <| nR <| wN 19 kR0 h30 rfl rfl rfl <| wN 20 kR0 h30 rfl rfl rfl <| wR 0 [21, 22] kR0 h30 <| smR 2 rfl ?_
      refine nR <| wDn kR0 <| tRt ?_
      (have h2 : (z0x u f deep wh seen set x).2 = (z0g u f (deep + 1) ⟨true, wh.Loop, r8of f.types x.outs, wh.Next, wh.Left⟩ seen (z0g u f (deep + 1) ⟨true, wh.Loop, r8of f.types x.outs, wh.Next, wh.Left⟩ seen set ka).2 kb).2 := (by rw [z11 _ _ _ _ _ _ hbare hk10 hkids]; simp_all [andT, andS, z18]; done)
       rw [h2]
       refine rOk rfl ?_ (po2 rfl rfl)
       clear h2
       rw [z11 _ _ _ _ _ _ hbare hk10 hkids]
       simp_all [andT, andS, z18]
       done)
     refine smR 9 rfl <| nR <| wN 28 kR0 h30 rfl rfl rfl <| wR 0 [29, 30] kR0 h30 <| smR 2 rfl <| nR <| wDn kR0 <| tQ <| tDr z1t (fun k => k ∈ ([3] : List Nat)) <| wR 15 [0, 1, 2, 3, 4, 5, 6, 7] kR0 h30 <| smR 7 rfl <| nUr rfl rfl rfl rfl rfl rfl rfl ?_
     refine nR <| WA.takeNoU (i := 8) rfl kR0 kR0 kR0 h30 rfl rfl rfl rfl rfl rfl <| wR 4 [9, 10, 11, 12, 13, 14, 15, 16, 17, 18] kR0 h30 <| nUr rfl rfl rfl rfl rfl rfl rfl <| smR 9 rfl <| nR <| wN 19 kR0 h30 rfl rfl rfl <| wN 20 kR0 h30 rfl rfl rfl <| wR 0 [21, 22] kR0 h30 <| smR 2 rfl <| nR <| wDn kR0 ?_
     refine tRt ?_
     (have h2 : (z0x u f deep wh seen set x).2 = (z0g u f (deep + 1) ⟨true, wh.Loop, r8of f.types x.outs, wh.Next, wh.Left⟩ seen set ka).2 := (by rw [z11 _ _ _ _ _ _ hbare hk10 hkids]; simp_all [andT, andS, z18]; done)
      rw [h2]
      refine rOk rfl ?_ (po2 rfl rfl)
      clear h2
      rw [z11 _ _ _ _ _ _ hbare hk10 hkids]
      simp_all [andT, andS, z18]
      done)
    refine smR 9 rfl <| nR <| wN 16 kR0 h30 rfl rfl rfl <| wR 3 [17, 18, 19, 20, 21, 22, 23, 24, 25, 26, 27] kR0 h30 <| smR 11 rfl <| nR <| wN 28 kR0 h30 rfl rfl rfl <| wR 0 [29, 30] kR0 h30 <| smR 2 rfl <| nR <| wDn kR0 <| tQ ?_
    refine tDr z1t (fun k => k ∈ ([3] : List Nat)) <| wR 15 [0, 1, 2, 3, 4, 5, 6, 7] kR0 h30 <| smR 7 rfl <| nUr rfl rfl rfl rfl rfl rfl rfl <| nR <| WA.takeNoU (i := 8) rfl kR0 kR0 kR0 h30 rfl rfl rfl rfl rfl rfl <| wR 4 [9, 10, 11, 12, 13, 14, 15, 16, 17, 18] kR0 h30 <| nUr rfl rfl rfl rfl rfl rfl rfl <| smR 9 rfl <| nR <| wN 19 kR0 h30 rfl rfl rfl <| wN 20 kR0 h30 rfl rfl rfl ?_
    refine wR 0 [21, 22] kR0 h30 <| smR 2 rfl <| nR <| wDn kR0 <| tRt ?_
    (have h2 : (z0x u f deep wh seen set x).2 = set := (by rw [z11 _ _ _ _ _ _ hbare hk10 hkids]; simp_all [andT, andS, z18]; done)
     rw [h2]
     refine rOk rfl ?_ (po2 rfl rfl)
     clear h2
     rw [z11 _ _ _ _ _ _ hbare hk10 hkids]
     simp_all [andT, andS, z18]
     done)
   refine wI rfl rfl (fun k (h : _) => by (simp at h ⊢; omega)) (z1n rfl) (fun _ _ => aLc (k := 111) rfl tZ90 rfl rfl rfl rfl) <| wO 5 kR0 <| wI rfl rfl (fun k (h : _) => by (simp at h ⊢; omega)) (nAp rfl) (fun _ _ => ocr (z6t u f set x.outs hbo) z9c rfl (po2 rfl rfl) rfl (fun k (h : _) => by (simp only [List.mem_cons, List.not_mem_nil, or_false] at h; rcases h with rfl <;> first | exact .inl rfl | exact .inr rfl | exact .inr dC0)) rfl rfl) <| wR 1 [10] kR0 h30 <| rV rfl rfl (bPu rfl rfl tZ90 tP90 rfl (fbk rfl) rfl) <| nR <| wO 12 kR0 <| wI rfl rfl (fun k (h : _) => by (simp at h ⊢; omega)) (nOl rfl) (fun _ _ => sBA rfl rfl rfl rfl rfl sI0 tS90 (flk rfl) (lb rfl)) <| wDn kR0 <| tQ <| tDr z1t (fun k => k ∈ ([3, 111] : List Nat)) <| wR 27 [0, 1, 2, 3] kR0 h30 ?_
   refine smR 4 rfl <| nR <| wO 4 kR0 <| wI rfl rfl (fun k (h : _) => by (simp at h ⊢; omega)) nw (fun _ _ => bSl rfl rfl uT35 tZ3 tS3 rfl rfl rfl rfl (fbk rfl) rfl) <| wO 5 kR0 <| wI rfl rfl (fun k (h : _) => by (simp at h ⊢; omega)) (nAp rfl) (fun _ _ => ocr (z1d u f set x.args seen [2]) z4v rfl (po2 rfl rfl) rfl (fun k (h : _) => .inr trivial) rfl rfl) <| wR 15 [6, 7, 8, 9, 10, 11, 12, 13, 14, 15] kR0 h30 <| smR 1 rfl ?_
   refine WR.split (t := 39) rfl (fun hb39 => ?_) (fun hb39 => ?_)
   ·refine smR 3 rfl <| ryV rfl rfl rfl (iSq rfl rfl rfl uT40 hi0 tS43 rfl (by rfl)) <| smR 2 rfl <| ryV rfl rfl rfl (lBP rfl rfl rfl Tryz.underlying90 rfl tS90 (lb rfl) rfl dC0) <| smR 1 rfl <| ryV rfl rfl rfl (oB rfl rfl (z05 rfl oM0)) <| nR <| wO 16 kR0 <| wY rfl rfl rfl (fun k (h : _) => by (simp at h ⊢; omega)) (nAp rfl) (fun _ _ => ocr (ih ka hm0 (deep + 1) ⟨true, wh.Loop, r8of f.types x.outs, wh.Next, wh.Left⟩ seen set ⟨by omega, by omega⟩ hs hb0) y06 rfl (po2 rfl rfl) rfl (fun k (h : _) => by (simp only [List.mem_cons, List.not_mem_nil, or_false] at h; rcases h with rfl | rfl <;> first | exact .inl rfl | exact .inr rfl | exact .inr dC0)) rfl rfl) <| wR 3 [17, 18, 19, 20, 21, 22, 23, 24, 25, 26, 27] kR0 h30 <| smR 2 rfl ?_
    refine WR.split (t := 51) rfl (fun hb51 => ?_) (fun hb51 => ?_)
    ·refine smR 3 rfl <| ryV rfl rfl rfl (iSq rfl rfl rfl uT40 hi1 tS43 rfl (by rfl)) <| smR 2 rfl <| ryV rfl rfl rfl (lBP rfl rfl rfl Tryz.underlying90 rfl tS90 (lb rfl) rfl dC0) <| smR 1 rfl <| ryV rfl rfl rfl (oB rfl rfl (z05 rfl oM0)) <| nR <| wO 28 kR0 <| wY rfl rfl rfl (fun k (h : _) => by (simp at h ⊢; omega)) (nAp rfl) (fun _ _ => ocr (ih kb hm1 (deep + 1) ⟨true, wh.Loop, r8of f.types x.outs, wh.Next, wh.Left⟩ seen (z0g u f (deep + 1) ⟨true, wh.Loop, r8of f.types x.outs, wh.Next, wh.Left⟩ seen set ka).2 ⟨by omega, by omega⟩ hs1 hb1) y06 rfl (po2 rfl rfl) rfl (fun k (h : _) => by (simp only [List.mem_cons, List.not_mem_nil, or_false] at h; rcases h with rfl | rfl <;> first | exact .inl rfl | exact .inr rfl | exact .inr dC0)) rfl rfl) <| wR 0 [29, 30] kR0 h30 <| smR 2 rfl <| nR ?_
     refine wDn kR0 <| tQ <| tDr z1t (fun k => k ∈ ([3] : List Nat)) <| wR 15 [0, 1, 2, 3, 4, 5, 6, 7] kR0 h30 <| smR 2 rfl ?_
     refine WR.split (t := 64) rfl (fun hb64 => ?_) (fun hb64 => ?_)
     ·refine smR 2 rfl <| ryV rfl rfl rfl (oSm uT35 rfl) <| smR 2 rfl ?_
      refine WR.split (t := 69) rfl (fun hb69 => ?_) (fun hb69 => ?_)
      ·refine smR 1 rfl <| nR <| wN 8 kR0 h30 rfl rfl rfl <| wR 4 [9, 10, 11, 12, 13, 14, 15, 16, 17, 18] kR0 h30 <| smR 9 rfl <| ryV rfl rfl rfl (oSm uT35 rfl) <| nR <| wO 19 kR0 <| wY rfl rfl rfl (fun k (h : _) => by (simp at h ⊢; omega)) (z1n rfl) (fun _ _ => z0w (k := 182) (s := ⟨3, 1⟩) rfl rfl rfl uT35 tZ3 tC3 rfl dC0 oM0 oM0 rfl rfl rfl rfl) <| wO 20 kR0 <| wY rfl rfl rfl (fun k (h : _) => by (simp at h ⊢; omega)) (nAp rfl) (fun _ _ => z3a (fun k => k = 182) (z1e u f (z0g u f (deep + 1) ⟨true, wh.Loop, r8of f.types x.outs, wh.Next, wh.Left⟩ seen (z0g u f (deep + 1) ⟨true, wh.Loop, r8of f.types x.outs, wh.Next, wh.Left⟩ seen set ka).2 kb).2 x.outs (List.replicate x.outs.length 0) hs2) z46 rfl rfl (sRf _ _) (And.intro LendOf.same (And.intro LendOf.same (And.intro (LendOf.row rfl rfl (by (simp; done)) (by (simp only [List.map_replicate]; rfl))) (trivial)))) (fun k h => by subst h; rfl) (po2 rfl rfl) rfl (fun k (h : _) => by (simp only [List.mem_cons, List.not_mem_nil, or_false] at h; rcases h with rfl <;> first | exact .inl rfl | exact .inr rfl | exact .inr dC0)) ⟨_, rfl⟩ (z3h (z0u ..))) <| wR 0 [21, 22] kR0 h30 ?_
       refine smR 2 rfl <| nR <| wDn kR0 <| tRt ?_
       (have h2 : (z0x u f deep wh seen set x).2 = (z0i f.types (z0g u f (deep + 1) ⟨true, wh.Loop, r8of f.types x.outs, wh.Next, wh.Left⟩ seen (z0g u f (deep + 1) ⟨true, wh.Loop, r8of f.types x.outs, wh.Next, wh.Left⟩ seen set ka).2 kb).2 x.outs (List.replicate x.outs.length 0)).2 := (by rw [z11 _ _ _ _ _ _ hbare hk10 hkids]; simp_all [andT, andS, z18]; done)
        rw [h2]
        refine rOk rfl ?_ (po2 rfl rfl)
        clear h2
        rw [z11 _ _ _ _ _ _ hbare hk10 hkids]
        simp_all [andT, andS, z18]
        done)
      refine ryV rfl rfl rfl (lEA rfl rfl uT42 rfl tS42 (lb rfl)) <| nR <| wO 8 kR0 <| wY rfl rfl rfl (fun k (h : _) => by (simp at h ⊢; omega)) nw (fun _ _ => ocq (z2r _) zq5 rfl rfl) <| wR 4 [9, 10, 11, 12, 13, 14, 15, 16, 17, 18] kR0 h30 <| smR 4 rfl ?_
      refine WR.split (t := 75) rfl (fun hb75 => ?_) (fun hb75 => ?_)
      ·refine smR 5 rfl <| ryV rfl rfl rfl (oSm uT35 rfl) <| nR <| wO 19 kR0 <| wY rfl rfl rfl (fun k (h : _) => by (simp at h ⊢; omega)) (z1n rfl) (fun _ _ => z0w (k := 182) (s := ⟨3, 1⟩) rfl rfl rfl uT35 tZ3 tC3 rfl dC0 oM0 oM0 rfl rfl rfl rfl) <| wO 20 kR0 <| wY rfl rfl rfl (fun k (h : _) => by (simp at h ⊢; omega)) (nAp rfl) (fun _ _ => z3a (fun k => k = 182) (z1e u f (z0g u f (deep + 1) ⟨true, wh.Loop, r8of f.types x.outs, wh.Next, wh.Left⟩ seen (z0g u f (deep + 1) ⟨true, wh.Loop, r8of f.types x.outs, wh.Next, wh.Left⟩ seen set ka).2 kb).2 x.outs (List.replicate x.outs.length 0) hs2) z46 rfl rfl (sRf _ _) (And.intro LendOf.same (And.intro LendOf.same (And.intro (LendOf.row rfl rfl (by (simp; done)) (by (simp only [List.map_replicate]; rfl))) (trivial)))) (fun k h => by subst h; rfl) (po2 rfl rfl) rfl (fun k (h : _) => by (simp only [List.mem_cons, List.not_mem_nil, or_false] at h; rcases h with rfl <;> first | exact .inl rfl | exact .inr rfl | exact .inr dC0)) ⟨_, rfl⟩ (z3h (z0u ..))) <| wR 0 [21, 22] kR0 h30 <| smR 2 rfl <| nR <| wDn kR0 <| tRt ?_
       (have h2 : (z0x u f deep wh seen set x).2 = (z0i f.types (z0g u f (deep + 1) ⟨true, wh.Loop, r8of f.types x.outs, wh.Next, wh.Left⟩ seen (z0g u f (deep + 1) ⟨true, wh.Loop, r8of f.types x.outs, wh.Next, wh.Left⟩ seen set ka).2 kb).2 x.outs (List.replicate x.outs.length 0)).2 := (by rw [z11 _ _ _ _ _ _ hbare hk10 hkids]; simp_all [andT, andS, z18]; done)
        rw [h2]
        refine rOk rfl ?_ (po2 rfl rfl)
        clear h2
        rw [z11 _ _ _ _ _ _ hbare hk10 hkids]
        simp_all [andT, andS, z18]
        done)
      refine smR 6 rfl <| nR <| wN 19 kR0 h30 rfl rfl rfl <| wN 20 kR0 h30 rfl rfl rfl <| wR 0 [21, 22] kR0 h30 <| smR 2 rfl <| nR <| wDn kR0 <| tRt ?_
      (have h2 : (z0x u f deep wh seen set x).2 = (z0g u f (deep + 1) ⟨true, wh.Loop, r8of f.types x.outs, wh.Next, wh.Left⟩ seen (z0g u f (deep + 1) ⟨true, wh.Loop, r8of f.types x.outs, wh.Next, wh.Left⟩ seen set ka).2 kb).2 := (by rw [z11 _ _ _ _ _ _ hbare hk10 hkids]; simp_all [andT, andS, z18]; done)
       rw [h2]
       refine rOk rfl ?_ (po2 rfl rfl)
       clear h2
       rw [z11 _ _ _ _ _ _ hbare hk10 hkids]
       simp_all [andT, andS, z18]
       done)
     refine smR 5 rfl <| nUr rfl rfl rfl rfl rfl rfl rfl <| nR <| WA.takeNoU (i := 8) rfl kR0 kR0 kR0 h30 rfl rfl rfl rfl rfl rfl <| wR 4 [9, 10, 11, 12, 13, 14, 15, 16, 17, 18] kR0 h30 <| nUr rfl rfl rfl rfl rfl rfl rfl <| smR 9 rfl <| nR <| wN 19 kR0 h30 rfl rfl rfl <| wN 20 kR0 h30 rfl rfl rfl <| wR 0 [21, 22] kR0 h30 <| smR 2 rfl ?_
     refine nR <| wDn kR0 <| tRt ?_
     (have h2 : (z0x u f deep wh seen set x).2 = (z0g u f (deep + 1) ⟨true, wh.Loop, r8of f.types x.outs, wh.Next, wh.Left⟩ seen (z0g u f (deep + 1) ⟨true, wh.Loop, r8of f.types x.outs, wh.Next, wh.Left⟩ seen set ka).2 kb).2 := (by rw [z11 _ _ _ _ _ _ hbare hk10 hkids]; simp_all [andT, andS, z18]; done)
      rw [h2]
      refine rOk rfl ?_ (po2 rfl rfl)
      clear h2
      rw [z11 _ _ _ _ _ _ hbare hk10 hkids]
      simp_all [andT, andS, z18]
      done)
    refine smR 9 rfl <| nR <| wN 28 kR0 h30 rfl rfl rfl <| wR 0 [29, 30] kR0 h30 <| smR 2 rfl <| nR <| wDn kR0 <| tQ <| tDr z1t (fun k => k ∈ ([3] : List Nat)) <| wR 15 [0, 1, 2, 3, 4, 5, 6, 7] kR0 h30 <| smR 7 rfl <| nUr rfl rfl rfl rfl rfl rfl rfl ?_
    refine nR <| WA.takeNoU (i := 8) rfl kR0 kR0 kR0 h30 rfl rfl rfl rfl rfl rfl <| wR 4 [9, 10, 11, 12, 13, 14, 15, 16, 17, 18] kR0 h30 <| nUr rfl rfl rfl rfl rfl rfl rfl <| smR 9 rfl <| nR <| wN 19 kR0 h30 rfl rfl rfl <| wN 20 kR0 h30 rfl rfl rfl <| wR 0 [21, 22] kR0 h30 <| smR 2 rfl <| nR <| wDn kR0 ?_
    refine tRt ?_
    (have h2 : (z0x u f deep wh seen set x).2 = (z0g u f (deep + 1) ⟨true, wh.Loop, r8of f.types x.outs, wh.Next, wh.Left⟩ seen set ka).2 := (by rw [z11 _ _ _ _ _ _ hbare hk10 hkids]; simp_all [andT, andS, z18]; done)
     rw [h2]
     refine rOk rfl ?_ (po2 rfl rfl)
     clear h2
     rw [z11 _ _ _ _ _ _ hbare hk10 hkids]
     simp_all [andT, andS, z18]
     done)
   refine smR 9 rfl <| nR <| wN 16 kR0 h30 rfl rfl rfl <| wR 3 [17, 18, 19, 20, 21, 22, 23, 24, 25, 26, 27] kR0 h30 <| smR 11 rfl <| nR <| wN 28 kR0 h30 rfl rfl rfl <| wR 0 [29, 30] kR0 h30 <| smR 2 rfl <| nR <| wDn kR0 <| tQ ?_
   refine tDr z1t (fun k => k ∈ ([3] : List Nat)) <| wR 15 [0, 1, 2, 3, 4, 5, 6, 7] kR0 h30 <| smR 7 rfl <| nUr rfl rfl rfl rfl rfl rfl rfl <| nR <| WA.takeNoU (i := 8) rfl kR0 kR0 kR0 h30 rfl rfl rfl rfl rfl rfl <| wR 4 [9, 10, 11, 12, 13, 14, 15, 16, 17, 18] kR0 h30 <| nUr rfl rfl rfl rfl rfl rfl rfl <| smR 9 rfl <| nR <| wN 19 kR0 h30 rfl rfl rfl <| wN 20 kR0 h30 rfl rfl rfl ?_
   refine wR 0 [21, 22] kR0 h30 <| smR 2 rfl <| nR <| wDn kR0 <| tRt ?_
   (have h2 : (z0x u f deep wh seen set x).2 = set := (by rw [z11 _ _ _ _ _ _ hbare hk10 hkids]; simp_all [andT, andS, z18]; done)
    rw [h2]
    refine rOk rfl ?_ (po2 rfl rfl)
    clear h2
    rw [z11 _ _ _ _ _ _ hbare hk10 hkids]
    simp_all [andT, andS, z18]
    done)
  refine tQ <| tG <| sm 2 rfl <| nL ?_
  refine tC rfl (fun hc85 => ?_) fun hc85 => ?_
  ·have hk11 : x.kind = 11 := by simpa using hc85
   obtain ⟨ka, hkids⟩ := z2e hbare hk11
   have hi0 : (x.kids.map eKid)[0]? = some [z0f ka] := by rw [hkids]; rfl
   have hm0 : ka ∈ x.kids := by rw [hkids]; simp
   have hkW : kdW x.kids = 1 + lsW ka := by rw [hkids]; simp [kdW]
   have hb0 : (seen ++ x.params).length + lsW ka <= 1073741824 := by simp; omega
   have hs1 : (z0i f.types set x.params (List.replicate x.params.length 0)).2.length = f.types.length := (z0u ..).trans hs
   have hs2 : (z0g u f (deep + 1) ⟨false, true, [], r8of f.types x.params, r8of f.types x.outs⟩ (seen ++ x.params) (z0i f.types set x.params (List.replicate x.params.length 0)).2 ka).2.length = f.types.length := (z3b ..).trans hs1
   refine tQ <| tDr z1t (fun k => k ∈ ([3] : List Nat)) <| wR 5 [0, 1, 2, 4, 5, 6] kR0 h30 <| smR 6 rfl <| nR <| WA.all (rs := [3, 9]) kR0 sI0 ?_
   refine fmc ⟨?_, fmc ⟨?_, by simp⟩⟩
   ·refine wI rfl rfl (fun k (h : _) => by (simp at h ⊢; omega)) (nAp rfl) (fun _ _ => ocr (z6t u f set x.params hbp) z9c rfl (po2 rfl rfl) rfl (fun k (h : _) => by (simp only [List.mem_cons, List.not_mem_nil, or_false] at h; rcases h with rfl <;> first | exact .inl rfl | exact .inr rfl | exact .inr dC0)) rfl rfl) <| WA.all (rs := [7, 9]) kR0 sI0 ?_
    refine fmc ⟨?_, fmc ⟨?_, by simp⟩⟩
    ·refine wI rfl rfl (fun k (h : _) => by (simp at h ⊢; omega)) (nAp rfl) (fun _ _ => ocr (z6t u f set x.outs hbo) z9c rfl (po2 rfl rfl) rfl (fun k (h : _) => by (simp only [List.mem_cons, List.not_mem_nil, or_false] at h; rcases h with rfl <;> first | exact .inl rfl | exact .inr rfl | exact .inr dC0)) rfl rfl) <| wR 2 [8] kR0 h30 <| rV rfl rfl (bPu rfl rfl tZ90 tP90 rfl (fbk rfl) rfl) <| nR <| wO 9 kR0 <| wI rfl rfl (fun k (h : _) => by (simp at h ⊢; omega)) (z1n rfl) (fun _ _ => aLc (k := 113) rfl tZ90 rfl rfl rfl rfl) <| wO 10 kR0 <| wI rfl rfl (fun k (h : _) => by (simp at h ⊢; omega)) (nOl rfl) (fun _ _ => sBA rfl rfl rfl rfl rfl sI0 tS90 (flk rfl) (lb rfl)) <| wDn kR0 <| tQ <| tQ <| tDr z1t (fun k => k ∈ ([3] : List Nat)) ?_
     refine wR 14 [0, 1, 2, 3, 4, 5, 6] kR0 h30 <| smR 7 rfl <| nR <| wO 7 kR0 <| wI rfl rfl (fun k (h : _) => by (simp at h ⊢; omega)) (nAp rfl) (fun _ _ => ocr (z6t u f set x.params hbp) z9c rfl (po2 rfl rfl) rfl (fun k (h : _) => by (simp only [List.mem_cons, List.not_mem_nil, or_false] at h; rcases h with rfl <;> first | exact .inl rfl | exact .inr rfl | exact .inr dC0)) rfl rfl) <| wO 8 kR0 <| wI rfl rfl (fun k (h : _) => by (simp at h ⊢; omega)) (nAp rfl) (fun _ _ => ocr (z1d u f set x.args seen (r8of f.types x.params)) z4v rfl (po2 rfl rfl) rfl (fun k (h : _) => .inr trivial) rfl rfl) <| wR 4 [9, 10, 11, 12, 13, 14, 15, 16] kR0 h30 <| smR 2 rfl ?_
     refine WR.split (t := 106) rfl (fun hb106 => ?_) (fun hb106 => ?_)
     ·refine smR 6 rfl <| nR <| wN 17 kR0 h30 rfl rfl rfl <| wN 18 kR0 h30 rfl rfl rfl <| wR 0 [19, 20] kR0 h30 <| smR 2 rfl <| nR <| wDn kR0 <| Tr.condT rfl <| tQ <| tG <| sm 1 rfl ?_
      refine nL <| tRt ?_
      (have h2 : (z0x u f deep wh seen set x).2 = set := (by rw [z0b _ _ _ _ _ _ hbare hk11 hkids]; simp_all [andT, andS, z18]; done)
       rw [h2]
       refine rOk rfl ?_ (po2 rfl rfl)
       clear h2
       rw [z0b _ _ _ _ _ _ hbare hk11 hkids]
       simp_all [andT, andS, z18]
       done)
     refine smR 5 rfl <| ryV rfl rfl rfl (oSm uT35 rfl) <| nR <| wO 17 kR0 <| wY rfl rfl rfl (fun k (h : _) => by (simp at h ⊢; omega)) (z1n rfl) (fun _ _ => z0w (k := 213) (s := ⟨3, 1⟩) rfl rfl rfl uT35 tZ3 tC3 rfl dC0 oM0 oM0 rfl rfl rfl rfl) <| wO 18 kR0 <| wY rfl rfl rfl (fun k (h : _) => by (simp at h ⊢; omega)) (nAp rfl) (fun _ _ => z3a (fun k => k = 213) (z1e u f set x.params (List.replicate x.params.length 0) hs) z46 rfl rfl (sRf _ _) (And.intro LendOf.same (And.intro LendOf.same (And.intro (LendOf.row rfl rfl (by (simp; done)) (by (simp only [List.map_replicate]; rfl))) (trivial)))) (fun k h => by subst h; rfl) (po2 rfl rfl) rfl (fun k (h : _) => by (simp only [List.mem_cons, List.not_mem_nil, or_false] at h; rcases h with rfl <;> first | exact .inl rfl | exact .inr rfl | exact .inr dC0)) ⟨_, rfl⟩ (z3h (z0u ..))) <| wR 0 [19, 20] kR0 h30 <| smR 2 rfl <| nR <| wDn kR0 ?_
     refine tC rfl (fun hc116 => ?_) fun hc116 => ?_
     ·refine tQ <| tG <| sm 1 rfl <| nL <| tRt ?_
      (have h2 : (z0x u f deep wh seen set x).2 = (z0i f.types set x.params (List.replicate x.params.length 0)).2 := (by rw [z0b _ _ _ _ _ _ hbare hk11 hkids]; simp_all [andT, andS, z18]; done)
       rw [h2]
       refine rOk rfl ?_ (po2 rfl rfl)
       clear h2
       rw [z0b _ _ _ _ _ _ hbare hk11 hkids]
       simp_all [andT, andS, z18]
       done)
     refine tSk <| tQ <| tG <| sm 1 rfl <| nL <| tQ <| Tr.grow (t := 14) (k := 114) ⟨3, 1⟩ rfl rfl rfl rfl rfl <| tG <| sm 2 rfl ?_
     refine cE rfl (aPp rfl rfl rfl rfl (by rfl) sI0 uT35 tB3 dC0 (z56) (z39) (by simp [maxLen, z01]; omega) (by simp [z01]; omega)) ?_
     refine sm 1 rfl <| nL <| tQ <| tG <| sm 3 rfl ?_
     refine cE rfl (aPp rfl rfl rfl rfl (by (simp; done)) sI0 uT35 tB3 dC0 (z56) (z39) (by simp [maxLen, z01]; omega) (by simp [z01]; omega)) ?_
     refine sm 1 rfl <| nL <| tQ <| tDr z1t (fun k => k ∈ ([3, 113] : List Nat)) <| wR 23 [0, 1, 2, 3, 4, 5, 6, 7, 8] kR0 h30 <| smR 3 rfl <| rV rfl rfl (iSq rfl rfl rfl uT40 hi0 tS43 rfl (by rfl)) <| smR 2 rfl <| rV rfl rfl (lBP rfl rfl rfl Tryz.underlying90 rfl tS90 (lb rfl) rfl dC0) <| smR 1 rfl <| rV rfl rfl (oB rfl rfl (z05 rfl oM0)) <| nR ?_
     refine wO 9 kR0 <| wI rfl rfl (fun k (h : _) => by (simp at h ⊢; omega)) (nAp rfl) (fun _ _ => z3a (fun k => k = 114) (ih ka hm0 (deep + 1) ⟨false, true, [], r8of f.types x.params, r8of f.types x.outs⟩ (seen ++ x.params) (z0i f.types set x.params (List.replicate x.params.length 0)).2 ⟨by omega, by omega⟩ hs1 hb0) y06 rfl rfl (sSm rfl (sSm rfl (sSm rfl (Subs.cons (fun _ _ _ _ h => z42 (q := whv ⟨false, true, [], r8of f.types x.params, r8of f.types x.outs⟩) (PSub.agg (ps := [vBool false, vBool true, .val (.slice none 0 0), ints (r8of f.types x.params), ints (r8of f.types x.outs)]) (And.intro (PSub.refl _) (And.intro (PSub.refl _) (And.intro PSub.nil (And.intro (PSub.refl _) (And.intro (PSub.refl _) trivial)))))) h) (sSm rfl Subs.nil))))) (And.intro LendOf.same (And.intro LendOf.same (And.intro (LendOf.row rfl rfl (by (simp; done)) (by (simp; done))) (And.intro LendOf.same (And.intro LendOf.same (trivial)))))) (fun k h => by subst h; rfl) (po2 rfl rfl) rfl (fun k (h : _) => by (simp only [List.mem_cons, List.not_mem_nil, or_false] at h; rcases h with rfl | rfl <;> first | exact .inl rfl | exact .inr rfl | exact .inr dC0)) ⟨_, rfl⟩ (z3h (z3b ..))) <| wR 15 [10, 11, 12, 13, 14, 15, 16] kR0 h30 <| smR 1 rfl ?_
     refine WR.split (t := 134) rfl (fun hb134 => ?_) (fun hb134 => ?_)
     ·refine smR 2 rfl <| ryV rfl rfl rfl (oSm uT35 rfl) <| smR 2 rfl ?_
      refine WR.split (t := 139) rfl (fun hb139 => ?_) (fun hb139 => ?_)
      ·refine smR 1 rfl <| nR <| wN 17 kR0 h30 rfl rfl rfl <| wR 4 [18, 19, 20, 21, 22, 23, 24, 25, 26, 27] kR0 h30 <| smR 9 rfl <| ryV rfl rfl rfl (oSm uT35 rfl) <| nR <| wO 28 kR0 <| wY rfl rfl rfl (fun k (h : _) => by (simp at h ⊢; omega)) (z1n rfl) (fun _ _ => z0w (k := 252) (s := ⟨3, 1⟩) rfl rfl rfl uT35 tZ3 tC3 rfl dC0 oM0 oM0 rfl rfl rfl rfl) <| wO 29 kR0 <| wY rfl rfl rfl (fun k (h : _) => by (simp at h ⊢; omega)) (nAp rfl) (fun _ _ => z3a (fun k => k = 252) (z1e u f (z0g u f (deep + 1) ⟨false, true, [], r8of f.types x.params, r8of f.types x.outs⟩ (seen ++ x.params) (z0i f.types set x.params (List.replicate x.params.length 0)).2 ka).2 x.outs (List.replicate x.outs.length 0) hs2) z46 rfl rfl (sRf _ _) (And.intro LendOf.same (And.intro LendOf.same (And.intro (LendOf.row rfl rfl (by (simp; done)) (by (simp only [List.map_replicate]; rfl))) (trivial)))) (fun k h => by subst h; rfl) (po2 rfl rfl) rfl (fun k (h : _) => by (simp only [List.mem_cons, List.not_mem_nil, or_false] at h; rcases h with rfl | rfl <;> first | exact .inl rfl | exact .inr rfl | exact .inr dC0)) ⟨_, rfl⟩ (z3h (z0u ..))) <| wR 0 [30, 31] kR0 h30 ?_
       refine smR 2 rfl <| nR <| wDn kR0 <| tRt ?_
       (have h2 : (z0x u f deep wh seen set x).2 = (z0i f.types (z0g u f (deep + 1) ⟨false, true, [], r8of f.types x.params, r8of f.types x.outs⟩ (seen ++ x.params) (z0i f.types set x.params (List.replicate x.params.length 0)).2 ka).2 x.outs (List.replicate x.outs.length 0)).2 := (by rw [z0b _ _ _ _ _ _ hbare hk11 hkids]; simp_all [andT, andS, z18]; done)
        rw [h2]
        refine rOk rfl ?_ (po2 rfl rfl)
        clear h2
        rw [z0b _ _ _ _ _ _ hbare hk11 hkids]
        simp_all [andT, andS, z18]
        done)
      refine ryV rfl rfl rfl (lEA rfl rfl uT42 rfl tS42 (lb rfl)) <| nR <| wO 17 kR0 <| wY rfl rfl rfl (fun k (h : _) => by (simp at h ⊢; omega)) nw (fun _ _ => ocq (z2r _) zq5 rfl rfl) <| wR 4 [18, 19, 20, 21, 22, 23, 24, 25, 26, 27] kR0 h30 <| smR 4 rfl ?_
      refine WR.split (t := 145) rfl (fun hb145 => ?_) (fun hb145 => ?_)
      ·refine smR 5 rfl <| ryV rfl rfl rfl (oSm uT35 rfl) <| nR <| wO 28 kR0 <| wY rfl rfl rfl (fun k (h : _) => by (simp at h ⊢; omega)) (z1n rfl) (fun _ _ => z0w (k := 252) (s := ⟨3, 1⟩) rfl rfl rfl uT35 tZ3 tC3 rfl dC0 oM0 oM0 rfl rfl rfl rfl) <| wO 29 kR0 <| wY rfl rfl rfl (fun k (h : _) => by (simp at h ⊢; omega)) (nAp rfl) (fun _ _ => z3a (fun k => k = 252) (z1e u f (z0g u f (deep + 1) ⟨false, true, [], r8of f.types x.params, r8of f.types x.outs⟩ (seen ++ x.params) (z0i f.types set x.params (List.replicate x.params.length 0)).2 ka).2 x.outs (List.replicate x.outs.length 0) hs2) z46 rfl rfl (sRf _ _) (And.intro LendOf.same (And.intro LendOf.same (And.intro (LendOf.row rfl rfl (by (simp; done)) (by (simp only [List.map_replicate]; rfl))) (trivial)))) (fun k h => by subst h; rfl) (po2 rfl rfl) rfl (fun k (h : _) => by (simp only [List.mem_cons, List.not_mem_nil, or_false] at h; rcases h with rfl | rfl <;> first | exact .inl rfl | exact .inr rfl | exact .inr dC0)) ⟨_, rfl⟩ (z3h (z0u ..))) <| wR 0 [30, 31] kR0 h30 <| smR 2 rfl <| nR <| wDn kR0 <| tRt ?_
       (have h2 : (z0x u f deep wh seen set x).2 = (z0i f.types (z0g u f (deep + 1) ⟨false, true, [], r8of f.types x.params, r8of f.types x.outs⟩ (seen ++ x.params) (z0i f.types set x.params (List.replicate x.params.length 0)).2 ka).2 x.outs (List.replicate x.outs.length 0)).2 := (by rw [z0b _ _ _ _ _ _ hbare hk11 hkids]; simp_all [andT, andS, z18]; done)
        rw [h2]
        refine rOk rfl ?_ (po2 rfl rfl)
        clear h2
        rw [z0b _ _ _ _ _ _ hbare hk11 hkids]
        simp_all [andT, andS, z18]
        done)
      refine smR 6 rfl <| nR <| wN 28 kR0 h30 rfl rfl rfl <| wN 29 kR0 h30 rfl rfl rfl <| wR 0 [30, 31] kR0 h30 <| smR 2 rfl <| nR <| wDn kR0 <| tRt ?_
      (have h2 : (z0x u f deep wh seen set x).2 = (z0g u f (deep + 1) ⟨false, true, [], r8of f.types x.params, r8of f.types x.outs⟩ (seen ++ x.params) (z0i f.types set x.params (List.replicate x.params.length 0)).2 ka).2 := (by rw [z0b _ _ _ _ _ _ hbare hk11 hkids]; simp_all [andT, andS, z18]; done)
       rw [h2]
       refine rOk rfl ?_ (po2 rfl rfl)
       clear h2
       rw [z0b _ _ _ _ _ _ hbare hk11 hkids]
       simp_all [andT, andS, z18]
       done)
     refine smR 5 rfl <| nUr rfl rfl rfl rfl rfl rfl rfl <| nR <| WA.takeNoU (i := 17) rfl kR0 kR0 kR0 h30 rfl rfl rfl rfl rfl rfl <| wR 4 [18, 19, 20, 21, 22, 23, 24, 25, 26, 27] kR0 h30 <| nUr rfl rfl rfl rfl rfl rfl rfl <| smR 9 rfl <| nR <| wN 28 kR0 h30 rfl rfl rfl <| wN 29 kR0 h30 rfl rfl rfl <| wR 0 [30, 31] kR0 h30 <| smR 2 rfl ?_
     refine nR <| wDn kR0 <| tRt ?_
     (have h2 : (z0x u f deep wh seen set x).2 = (z0g u f (deep + 1) ⟨false, true, [], r8of f.types x.params, r8of f.types x.outs⟩ (seen ++ x.params) (z0i f.types set x.params (List.replicate x.params.length 0)).2 ka).2 := (by rw [z0b _ _ _ _ _ _ hbare hk11 hkids]; simp_all [andT, andS, z18]; done)
      rw [h2]
      refine rOk rfl ?_ (po2 rfl rfl)
      clear h2
      rw [z0b _ _ _ _ _ _ hbare hk11 hkids]
      simp_all [andT, andS, z18]
      done)
    refine wI rfl rfl (fun k (h : _) => by (simp at h ⊢; omega)) (z1n rfl) (fun _ _ => aLc (k := 113) rfl tZ90 rfl rfl rfl rfl) <| wO 7 kR0 <| wI rfl rfl (fun k (h : _) => by (simp at h ⊢; omega)) (nAp rfl) (fun _ _ => ocr (z6t u f set x.outs hbo) z9c rfl (po2 rfl rfl) rfl (fun k (h : _) => by (simp only [List.mem_cons, List.not_mem_nil, or_false] at h; rcases h with rfl | rfl <;> first | exact .inl rfl | exact .inr rfl | exact .inr dC0)) rfl rfl) <| wR 1 [8] kR0 h30 <| rV rfl rfl (bPu rfl rfl tZ90 tP90 rfl (fbk rfl) rfl) <| nR <| wO 10 kR0 <| wI rfl rfl (fun k (h : _) => by (simp at h ⊢; omega)) (nOl rfl) (fun _ _ => sBA rfl rfl rfl rfl rfl sI0 tS90 (flk rfl) (lb rfl)) <| wDn kR0 <| tQ <| tQ <| tDr z1t (fun k => k ∈ ([3] : List Nat)) ?_
    refine wR 14 [0, 1, 2, 3, 4, 5, 6] kR0 h30 <| smR 7 rfl <| nR <| wO 7 kR0 <| wI rfl rfl (fun k (h : _) => by (simp at h ⊢; omega)) (nAp rfl) (fun _ _ => ocr (z6t u f set x.params hbp) z9c rfl (po2 rfl rfl) rfl (fun k (h : _) => by (simp only [List.mem_cons, List.not_mem_nil, or_false] at h; rcases h with rfl <;> first | exact .inl rfl | exact .inr rfl | exact .inr dC0)) rfl rfl) <| wO 8 kR0 <| wI rfl rfl (fun k (h : _) => by (simp at h ⊢; omega)) (nAp rfl) (fun _ _ => ocr (z1d u f set x.args seen (r8of f.types x.params)) z4v rfl (po2 rfl rfl) rfl (fun k (h : _) => .inr trivial) rfl rfl) <| wR 4 [9, 10, 11, 12, 13, 14, 15, 16] kR0 h30 <| smR 2 rfl ?_
    refine WR.split (t := 106) rfl (fun hb106 => ?_) (fun hb106 => ?_)
    ·refine smR 6 rfl <| nR <| wN 17 kR0 h30 rfl rfl rfl <| wN 18 kR0 h30 rfl rfl rfl <| wR 0 [19, 20] kR0 h30 <| smR 2 rfl <| nR <| wDn kR0 <| Tr.condT rfl <| tQ <| tG <| sm 1 rfl ?_
     refine nL <| tRt ?_
     (have h2 : (z0x u f deep wh seen set x).2 = set := (by rw [z0b _ _ _ _ _ _ hbare hk11 hkids]; simp_all [andT, andS, z18]; done)
      rw [h2]
      refine rOk rfl ?_ (po2 rfl rfl)
      clear h2
      rw [z0b _ _ _ _ _ _ hbare hk11 hkids]
      simp_all [andT, andS, z18]
      done)
    refine smR 5 rfl <| ryV rfl rfl rfl (oSm uT35 rfl) <| nR <| wO 17 kR0 <| wY rfl rfl rfl (fun k (h : _) => by (simp at h ⊢; omega)) (z1n rfl) (fun _ _ => z0w (k := 213) (s := ⟨3, 1⟩) rfl rfl rfl uT35 tZ3 tC3 rfl dC0 oM0 oM0 rfl rfl rfl rfl) <| wO 18 kR0 <| wY rfl rfl rfl (fun k (h : _) => by (simp at h ⊢; omega)) (nAp rfl) (fun _ _ => z3a (fun k => k = 213) (z1e u f set x.params (List.replicate x.params.length 0) hs) z46 rfl rfl (sRf _ _) (And.intro LendOf.same (And.intro LendOf.same (And.intro (LendOf.row rfl rfl (by (simp; done)) (by (simp only [List.map_replicate]; rfl))) (trivial)))) (fun k h => by subst h; rfl) (po2 rfl rfl) rfl (fun k (h : _) => by (simp only [List.mem_cons, List.not_mem_nil, or_false] at h; rcases h with rfl <;> first | exact .inl rfl | exact .inr rfl | exact .inr dC0)) ⟨_, rfl⟩ (z3h (z0u ..))) <| wR 0 [19, 20] kR0 h30 <| smR 2 rfl <| nR <| wDn kR0 ?_
    refine tC rfl (fun hc116 => ?_) fun hc116 => ?_
    ·refine tQ <| tG <| sm 1 rfl <| nL <| tRt ?_
     (have h2 : (z0x u f deep wh seen set x).2 = (z0i f.types set x.params (List.replicate x.params.length 0)).2 := (by rw [z0b _ _ _ _ _ _ hbare hk11 hkids]; simp_all [andT, andS, z18]; done)
      rw [h2]
      refine rOk rfl ?_ (po2 rfl rfl)
      clear h2
      rw [z0b _ _ _ _ _ _ hbare hk11 hkids]
      simp_all [andT, andS, z18]
      done)
    refine tSk <| tQ <| tG <| sm 1 rfl <| nL <| tQ <| Tr.grow (t := 14) (k := 114) ⟨3, 1⟩ rfl rfl rfl rfl rfl <| tG <| sm 2 rfl ?_
    refine cE rfl (aPp rfl rfl rfl rfl (by rfl) sI0 uT35 tB3 dC0 (z56) (z39) (by simp [maxLen, z01]; omega) (by simp [z01]; omega)) ?_
    refine sm 1 rfl <| nL <| tQ <| tG <| sm 3 rfl ?_
    refine cE rfl (aPp rfl rfl rfl rfl (by (simp; done)) sI0 uT35 tB3 dC0 (z56) (z39) (by simp [maxLen, z01]; omega) (by simp [z01]; omega)) ?_
    refine sm 1 rfl <| nL <| tQ <| tDr z1t (fun k => k ∈ ([3, 113] : List Nat)) <| wR 23 [0, 1, 2, 3, 4, 5, 6, 7, 8] kR0 h30 <| smR 3 rfl <| rV rfl rfl (iSq rfl rfl rfl uT40 hi0 tS43 rfl (by rfl)) <| smR 2 rfl <| rV rfl rfl (lBP rfl rfl rfl Tryz.underlying90 rfl tS90 (lb rfl) rfl dC0) <| smR 1 rfl <| rV rfl rfl (oB rfl rfl (z05 rfl oM0)) <| nR ?_
    refine wO 9 kR0 <| wI rfl rfl (fun k (h : _) => by (simp at h ⊢; omega)) (nAp rfl) (fun _ _ => z3a (fun k => k = 114) (ih ka hm0 (deep + 1) ⟨false, true, [], r8of f.types x.params, r8of f.types x.outs⟩ (seen ++ x.params) (z0i f.types set x.params (List.replicate x.params.length 0)).2 ⟨by omega, by omega⟩ hs1 hb0) y06 rfl rfl (sSm rfl (sSm rfl (sSm rfl (Subs.cons (fun _ _ _ _ h => z42 (q := whv ⟨false, true, [], r8of f.types x.params, r8of f.types x.outs⟩) (PSub.agg (ps := [vBool false, vBool true, .val (.slice none 0 0), ints (r8of f.types x.params), ints (r8of f.types x.outs)]) (And.intro (PSub.refl _) (And.intro (PSub.refl _) (And.intro PSub.nil (And.intro (PSub.refl _) (And.intro (PSub.refl _) trivial)))))) h) (sSm rfl Subs.nil))))) (And.intro LendOf.same (And.intro LendOf.same (And.intro (LendOf.row rfl rfl (by (simp; done)) (by (simp; done))) (And.intro LendOf.same (And.intro LendOf.same (trivial)))))) (fun k h => by subst h; rfl) (po2 rfl rfl) rfl (fun k (h : _) => by (simp only [List.mem_cons, List.not_mem_nil, or_false] at h; rcases h with rfl | rfl <;> first | exact .inl rfl | exact .inr rfl | exact .inr dC0)) ⟨_, rfl⟩ (z3h (z3b ..))) <| wR 15 [10, 11, 12, 13, 14, 15, 16] kR0 h30 <| smR 1 rfl ?_
    refine WR.split (t := 134) rfl (fun hb134 => ?_) (fun hb134 => ?_)
    ·refine smR 2 rfl <| ryV rfl rfl rfl (oSm uT35 rfl) <| smR 2 rfl ?_
     refine WR.split (t := 139) rfl (fun hb139 => ?_) (fun hb139 => ?_)
     ·refine smR 1 rfl <| nR <| wN 17 kR0 h30 rfl rfl rfl <| wR 4 [18, 19, 20, 21, 22, 23, 24, 25, 26, 27] kR0 h30 <| smR 9 rfl <| ryV rfl rfl rfl (oSm uT35 rfl) <| nR <| wO 28 kR0 <| wY rfl rfl rfl (fun k (h : _) => by (simp at h ⊢; omega)) (z1n rfl) (fun _ _ => z0w (k := 252) (s := ⟨3, 1⟩) rfl rfl rfl uT35 tZ3 tC3 rfl dC0 oM0 oM0 rfl rfl rfl rfl) <| wO 29 kR0 <| wY rfl rfl rfl (fun k (h : _) => by (simp at h ⊢; omega)) (nAp rfl) (fun _ _ => z3a (fun k => k = 252) (z1e u f (z0g u f (deep + 1) ⟨false, true, [], r8of f.types x.params, r8of f.types x.outs⟩ (seen ++ x.params) (z0i f.types set x.params (List.replicate x.params.length 0)).2 ka).2 x.outs (List.replicate x.outs.length 0) hs2) z46 rfl rfl (sRf _ _) (And.intro LendOf.same (And.intro LendOf.same (And.intro (LendOf.row rfl rfl (by (simp; done)) (by (simp only [List.map_replicate]; rfl))) (trivial)))) (fun k h => by subst h; rfl) (po2 rfl rfl) rfl (fun k (h : _) => by (simp only [List.mem_cons, List.not_mem_nil, or_false] at h; rcases h with rfl | rfl <;> first | exact .inl rfl | exact .inr rfl | exact .inr dC0)) ⟨_, rfl⟩ (z3h (z0u ..))) <| wR 0 [30, 31] kR0 h30 ?_
      refine smR 2 rfl <| nR <| wDn kR0 <| tRt ?_
      (have h2 : (z0x u f deep wh seen set x).2 = (z0i f.types (z0g u f (deep + 1) ⟨false, true, [], r8of f.types x.params, r8of f.types x.outs⟩ (seen ++ x.params) (z0i f.types set x.params (List.replicate x.params.length 0)).2 ka).2 x.outs (List.replicate x.outs.length 0)).2 := (by rw [z0b _ _ _ _ _ _ hbare hk11 hkids]; simp_all [andT, andS, z18]; done)
       rw [h2]
       refine rOk rfl ?_ (po2 rfl rfl)
       clear h2
       rw [z0b _ _ _ _ _ _ hbare hk11 hkids]
       simp_all [andT, andS, z18]
       done)
     refine ryV rfl rfl rfl (lEA rfl rfl uT42 rfl tS42 (lb rfl)) <| nR <| wO 17 kR0 <| wY rfl rfl rfl (fun k (h : _) => by (simp at h ⊢; omega)) nw (fun _ _ => ocq (z2r _) zq5 rfl rfl) <| wR 4 [18, 19, 20, 21, 22, 23, 24, 25, 26, 27] kR0 h30 <| smR 4 rfl ?_
     refine WR.split (t := 145) rfl (fun hb145 => ?_) (fun hb145 => ?_)
     ·refine smR 5 rfl <| ryV rfl rfl rfl (oSm uT35 rfl) <| nR <| wO 28 kR0 <| wY rfl rfl rfl (fun k (h : _) => by (simp at h ⊢; omega)) (z1n rfl) (fun _ _ => z0w (k := 252) (s := ⟨3, 1⟩) rfl rfl rfl uT35 tZ3 tC3 rfl dC0 oM0 oM0 rfl rfl rfl rfl) <| wO 29 kR0 <| wY rfl rfl rfl (fun k (h : _) => by (simp at h ⊢; omega)) (nAp rfl) (fun _ _ => z3a (fun k => k = 252) (z1e u f (z0g u f (deep + 1) ⟨false, true, [], r8of f.types x.params, r8of f.types x.outs⟩ (seen ++ x.params) (z0i f.types set x.params (List.replicate x.params.length 0)).2 ka).2 x.outs (List.replicate x.outs.length 0) hs2) z46 rfl rfl (sRf _ _) (And.intro LendOf.same (And.intro LendOf.same (And.intro (LendOf.row rfl rfl (by (simp; done)) (by (simp only [List.map_replicate]; rfl))) (trivial)))) (fun k h => by subst h; rfl) (po2 rfl rfl) rfl (fun k (h : _) => by (simp only [List.mem_cons, List.not_mem_nil, or_false] at h; rcases h with rfl | rfl <;> first | exact .inl rfl | exact .inr rfl | exact .inr dC0)) ⟨_, rfl⟩ (z3h (z0u ..))) <| wR 0 [30, 31] kR0 h30 <| smR 2 rfl <| nR <| wDn kR0 <| tRt ?_
      (have h2 : (z0x u f deep wh seen set x).2 = (z0i f.types (z0g u f (deep + 1) ⟨false, true, [], r8of f.types x.params, r8of f.types x.outs⟩ (seen ++ x.params) (z0i f.types set x.params (List.replicate x.params.length 0)).2 ka).2 x.outs (List.replicate x.outs.length 0)).2 := (by rw [z0b _ _ _ _ _ _ hbare hk11 hkids]; simp_all [andT, andS, z18]; done)
       rw [h2]
       refine rOk rfl ?_ (po2 rfl rfl)
       clear h2
       rw [z0b _ _ _ _ _ _ hbare hk11 hkids]
       simp_all [andT, andS, z18]
       done)
     refine smR 6 rfl <| nR <| wN 28 kR0 h30 rfl rfl rfl <| wN 29 kR0 h30 rfl rfl rfl <| wR 0 [30, 31] kR0 h30 <| smR 2 rfl <| nR <| wDn kR0 <| tRt ?_
     (have h2 : (z0x u f deep wh seen set x).2 = (z0g u f (deep + 1) ⟨false, true, [], r8of f.types x.params, r8of f.types x.outs⟩ (seen ++ x.params) (z0i f.types set x.params (List.replicate x.params.length 0)).2 ka).2 := (by rw [z0b _ _ _ _ _ _ hbare hk11 hkids]; simp_all [andT, andS, z18]; done)
      rw [h2]
      refine rOk rfl ?_ (po2 rfl rfl)
      clear h2
      rw [z0b _ _ _ _ _ _ hbare hk11 hkids]
      simp_all [andT, andS, z18]
      done)
    refine smR 5 rfl <| nUr rfl rfl rfl rfl rfl rfl rfl <| nR <| WA.takeNoU (i := 17) rfl kR0 kR0 kR0 h30 rfl rfl rfl rfl rfl rfl <| wR 4 [18, 19, 20, 21, 22, 23, 24, 25, 26, 27] kR0 h30 <| nUr rfl rfl rfl rfl rfl rfl rfl <| smR 9 rfl <| nR <| wN 28 kR0 h30 rfl rfl rfl <| wN 29 kR0 h30 rfl rfl rfl <| wR 0 [30, 31] kR0 h30 <| smR 2 rfl ?_
    refine nR <| wDn kR0 <| tRt ?_
    (have h2 : (z0x u f deep wh seen set x).2 = (z0g u f (deep + 1) ⟨false, true, [], r8of f.types x.params, r8of f.types x.outs⟩ (seen ++ x.params) (z0i f.types set x.params (List.replicate x.params.length 0)).2 ka).2 := (by rw [z0b _ _ _ _ _ _ hbare hk11 hkids]; simp_all [andT, andS, z18]; done)
     rw [h2]
     refine rOk rfl ?_ (po2 rfl rfl)
     clear h2
     rw [z0b _ _ _ _ _ _ hbare hk11 hkids]
     simp_all [andT, andS, z18]
     done)
   refine wI rfl rfl (fun k (h : _) => by (simp at h ⊢; omega)) (z1n rfl) (fun _ _ => aLc (k := 113) rfl tZ90 rfl rfl rfl rfl) <| wO 3 kR0 <| wI rfl rfl (fun k (h : _) => by (simp at h ⊢; omega)) (nAp rfl) (fun _ _ => ocr (z6t u f set x.params hbp) z9c rfl (po2 rfl rfl) rfl (fun k (h : _) => by (simp only [List.mem_cons, List.not_mem_nil, or_false] at h; rcases h with rfl | rfl <;> first | exact .inl rfl | exact .inr rfl | exact .inr dC0)) rfl rfl) <| wO 7 kR0 <| wI rfl rfl (fun k (h : _) => by (simp at h ⊢; omega)) (nAp rfl) (fun _ _ => ocr (z6t u f set x.outs hbo) z9c rfl (po2 rfl rfl) rfl (fun k (h : _) => by (simp only [List.mem_cons, List.not_mem_nil, or_false] at h; rcases h with rfl | rfl <;> first | exact .inl rfl | exact .inr rfl | exact .inr dC0)) rfl rfl) <| wR 1 [8] kR0 h30 <| rV rfl rfl (bPu rfl rfl tZ90 tP90 rfl (fbk rfl) rfl) <| nR <| wO 10 kR0 <| wI rfl rfl (fun k (h : _) => by (simp at h ⊢; omega)) (nOl rfl) (fun _ _ => sBA rfl rfl rfl rfl rfl sI0 tS90 (flk rfl) (lb rfl)) <| wDn kR0 <| tQ ?_
   refine tQ <| tDr z1t (fun k => k ∈ ([3] : List Nat)) <| wR 14 [0, 1, 2, 3, 4, 5, 6] kR0 h30 <| smR 7 rfl <| nR <| wO 7 kR0 <| wI rfl rfl (fun k (h : _) => by (simp at h ⊢; omega)) (nAp rfl) (fun _ _ => ocr (z6t u f set x.params hbp) z9c rfl (po2 rfl rfl) rfl (fun k (h : _) => by (simp only [List.mem_cons, List.not_mem_nil, or_false] at h; rcases h with rfl <;> first | exact .inl rfl | exact .inr rfl | exact .inr dC0)) rfl rfl) <| wO 8 kR0 <| wI rfl rfl (fun k (h : _) => by (simp at h ⊢; omega)) (nAp rfl) (fun _ _ => ocr (z1d u f set x.args seen (r8of f.types x.params)) z4v rfl (po2 rfl rfl) rfl (fun k (h : _) => .inr trivial) rfl rfl) <| wR 4 [9, 10, 11, 12, 13, 14, 15, 16] kR0 h30 <| smR 2 rfl ?_
   refine WR.split (t := 106) rfl (fun hb106 => ?_) (fun hb106 => ?_)
   ·refine smR 6 rfl <| nR <| wN 17 kR0 h30 rfl rfl rfl <| wN 18 kR0 h30 rfl rfl rfl <| wR 0 [19, 20] kR0 h30 <| smR 2 rfl <| nR <| wDn kR0 <| Tr.condT rfl <| tQ <| tG <| sm 1 rfl ?_
    refine nL <| tRt ?_
    (have h2 : (z0x u f deep wh seen set x).2 = set := (by rw [z0b _ _ _ _ _ _ hbare hk11 hkids]; simp_all [andT, andS, z18]; done)
     rw [h2]
     refine rOk rfl ?_ (po2 rfl rfl)
     clear h2
     rw [z0b _ _ _ _ _ _ hbare hk11 hkids]
     simp_all [andT, andS, z18]
     done)
   refine smR 5 rfl <| ryV rfl rfl rfl (oSm uT35 rfl) <| nR <| wO 17 kR0 <| wY rfl rfl rfl (fun k (h : _) => by (simp at h ⊢; omega)) (z1n rfl) (fun _ _ => z0w (k := 213) (s := ⟨3, 1⟩) rfl rfl rfl uT35 tZ3 tC3 rfl dC0 oM0 oM0 rfl rfl rfl rfl) <| wO 18 kR0 <| wY rfl rfl rfl (fun k (h : _) => by (simp at h ⊢; omega)) (nAp rfl) (fun _ _ => z3a (fun k => k = 213) (z1e u f set x.params (List.replicate x.params.length 0) hs) z46 rfl rfl (sRf _ _) (And.intro LendOf.same (And.intro LendOf.same (And.intro (LendOf.row rfl rfl (by (simp; done)) (by (simp only [List.map_replicate]; rfl))) (trivial)))) (fun k h => by subst h; rfl) (po2 rfl rfl) rfl (fun k (h : _) => by (simp only [List.mem_cons, List.not_mem_nil, or_false] at h; rcases h with rfl <;> first | exact .inl rfl | exact .inr rfl | exact .inr dC0)) ⟨_, rfl⟩ (z3h (z0u ..))) <| wR 0 [19, 20] kR0 h30 <| smR 2 rfl <| nR <| wDn kR0 ?_
   refine tC rfl (fun hc116 => ?_) fun hc116 => ?_
   ·refine tQ <| tG <| sm 1 rfl <| nL <| tRt ?_
    (have h2 : (z0x u f deep wh seen set x).2 = (z0i f.types set x.params (List.replicate x.params.length 0)).2 := (by rw [z0b _ _ _ _ _ _ hbare hk11 hkids]; simp_all [andT, andS, z18]; done)
     rw [h2]
     refine rOk rfl ?_ (po2 rfl rfl)
     clear h2
     rw [z0b _ _ _ _ _ _ hbare hk11 hkids]
     simp_all [andT, andS, z18]
     done)
   refine tSk <| tQ <| tG <| sm 1 rfl <| nL <| tQ <| Tr.grow (t := 14) (k := 114) ⟨3, 1⟩ rfl rfl rfl rfl rfl <| tG <| sm 2 rfl ?_
   refine cE rfl (aPp rfl rfl rfl rfl (by rfl) sI0 uT35 tB3 dC0 (z56) (z39) (by simp [maxLen, z01]; omega) (by simp [z01]; omega)) ?_
   refine sm 1 rfl <| nL <| tQ <| tG <| sm 3 rfl ?_
   refine cE rfl (aPp rfl rfl rfl rfl (by (simp; done)) sI0 uT35 tB3 dC0 (z56) (z39) (by simp [maxLen, z01]; omega) (by simp [z01]; omega)) ?_
   refine sm 1 rfl <| nL <| tQ <| tDr z1t (fun k => k ∈ ([3, 113] : List Nat)) <| wR 23 [0, 1, 2, 3, 4, 5, 6, 7, 8] kR0 h30 <| smR 3 rfl <| rV rfl rfl (iSq rfl rfl rfl uT40 hi0 tS43 rfl (by rfl)) <| smR 2 rfl <| rV rfl rfl (lBP rfl rfl rfl Tryz.underlying90 rfl tS90 (lb rfl) rfl dC0) <| smR 1 rfl <| rV rfl rfl (oB rfl rfl (z05 rfl oM0)) <| nR ?_
   refine wO 9 kR0 <| wI rfl rfl (fun k (h : _) => by (simp at h ⊢; omega)) (nAp rfl) (fun _ _ => z3a (fun k => k = 114) (ih ka hm0 (deep + 1) ⟨false, true, [], r8of f.types x.params, r8of f.types x.outs⟩ (seen ++ x.params) (z0i f.types set x.params (List.replicate x.params.length 0)).2 ⟨by omega, by omega⟩ hs1 hb0) y06 rfl rfl (sSm rfl (sSm rfl (sSm rfl (Subs.cons (fun _ _ _ _ h => z42 (q := whv ⟨false, true, [], r8of f.types x.params, r8of f.types x.outs⟩) (PSub.agg (ps := [vBool false, vBool true, .val (.slice none 0 0), ints (r8of f.types x.params), ints (r8of f.types x.outs)]) (And.intro (PSub.refl _) (And.intro (PSub.refl _) (And.intro PSub.nil (And.intro (PSub.refl _) (And.intro (PSub.refl _) trivial)))))) h) (sSm rfl Subs.nil))))) (And.intro LendOf.same (And.intro LendOf.same (And.intro (LendOf.row rfl rfl (by (simp; done)) (by (simp; done))) (And.intro LendOf.same (And.intro LendOf.same (trivial)))))) (fun k h => by subst h; rfl) (po2 rfl rfl) rfl (fun k (h : _) => by (simp only [List.mem_cons, List.not_mem_nil, or_false] at h; rcases h with rfl | rfl <;> first | exact .inl rfl | exact .inr rfl | exact .inr dC0)) ⟨_, rfl⟩ (z3h (z3b ..))) <| wR 15 [10, 11, 12, 13, 14, 15, 16] kR0 h30 <| smR 1 rfl ?_
   refine WR.split (t := 134) rfl (fun hb134 => ?_) (fun hb134 => ?_)
   ·refine smR 2 rfl <| ryV rfl rfl rfl (oSm uT35 rfl) <| smR 2 rfl ?_
    refine WR.split (t := 139) rfl (fun hb139 => ?_) (fun hb139 => ?_)
    ·refine smR 1 rfl <| nR <| wN 17 kR0 h30 rfl rfl rfl <| wR 4 [18, 19, 20, 21, 22, 23, 24, 25, 26, 27] kR0 h30 <| smR 9 rfl <| ryV rfl rfl rfl (oSm uT35 rfl) <| nR <| wO 28 kR0 <| wY rfl rfl rfl (fun k (h : _) => by (simp at h ⊢; omega)) (z1n rfl) (fun _ _ => z0w (k := 252) (s := ⟨3, 1⟩) rfl rfl rfl uT35 tZ3 tC3 rfl dC0 oM0 oM0 rfl rfl rfl rfl) <| wO 29 kR0 <| wY rfl rfl rfl (fun k (h : _) => by (simp at h ⊢; omega)) (nAp rfl) (fun _ _ => z3a (fun k => k = 252) (z1e u f (z0g u f (deep + 1) ⟨false, true, [], r8of f.types x.params, r8of f.types x.outs⟩ (seen ++ x.params) (z0i f.types set x.params (List.replicate x.params.length 0)).2 ka).2 x.outs (List.replicate x.outs.length 0) hs2) z46 rfl rfl (sRf _ _) (And.intro LendOf.same (And.intro LendOf.same (And.intro (LendOf.row rfl rfl (by (simp; done)) (by (simp only [List.map_replicate]; rfl))) (trivial)))) (fun k h => by subst h; rfl) (po2 rfl rfl) rfl (fun k (h : _) => by (simp only [List.mem_cons, List.not_mem_nil, or_false] at h; rcases h with rfl | rfl <;> first | exact .inl rfl | exact .inr rfl | exact .inr dC0)) ⟨_, rfl⟩ (z3h (z0u ..))) <| wR 0 [30, 31] kR0 h30 ?_
     refine smR 2 rfl <| nR <| wDn kR0 <| tRt ?_
     (have h2 : (z0x u f deep wh seen set x).2 = (z0i f.types (z0g u f (deep + 1) ⟨false, true, [], r8of f.types x.params, r8of f.types x.outs⟩ (seen ++ x.params) (z0i f.types set x.params (List.replicate x.params.length 0)).2 ka).2 x.outs (List.replicate x.outs.length 0)).2 := (by rw [z0b _ _ _ _ _ _ hbare hk11 hkids]; simp_all [andT, andS, z18]; done)
      rw [h2]
      refine rOk rfl ?_ (po2 rfl rfl)
      clear h2
      rw [z0b _ _ _ _ _ _ hbare hk11 hkids]
      simp_all [andT, andS, z18]
      done)
    refine ryV rfl rfl rfl (lEA rfl rfl uT42 rfl tS42 (lb rfl)) <| nR <| wO 17 kR0 <| wY rfl rfl rfl (fun k (h : _) => by (simp at h ⊢; omega)) nw (fun _ _ => ocq (z2r _) zq5 rfl rfl) <| wR 4 [18, 19, 20, 21, 22, 23, 24, 25, 26, 27] kR0 h30 <| smR 4 rfl ?_
    refine WR.split (t := 145) rfl (fun hb145 => ?_) (fun hb145 => ?_)
    ·refine smR 5 rfl <| ryV rfl rfl rfl (oSm uT35 rfl) <| nR <| wO 28 kR0 <| wY rfl rfl rfl (fun k (h : _) => by (simp at h ⊢; omega)) (z1n rfl) (fun _ _ => z0w (k := 252) (s := ⟨3, 1⟩) rfl rfl rfl uT35 tZ3 tC3 rfl dC0 oM0 oM0 rfl rfl rfl rfl) <| wO 29 kR0 <| wY rfl rfl rfl (fun k (h : _) => by (simp at h ⊢; omega)) (nAp rfl) (fun _ _ => z3a (fun k => k = 252) (z1e u f (z0g u f (deep + 1) ⟨false, true, [], r8of f.types x.params, r8of f.types x.outs⟩ (seen ++ x.params) (z0i f.types set x.params (List.replicate x.params.length 0)).2 ka).2 x.outs (List.replicate x.outs.length 0) hs2) z46 rfl rfl (sRf _ _) (And.intro LendOf.same (And.intro LendOf.same (And.intro (LendOf.row rfl rfl (by (simp; done)) (by (simp only [List.map_replicate]; rfl))) (trivial)))) (fun k h => by subst h; rfl) (po2 rfl rfl) rfl (fun k (h : _) => by (simp only [List.mem_cons, List.not_mem_nil, or_false] at h; rcases h with rfl | rfl <;> first | exact .inl rfl | exact .inr rfl | exact .inr dC0)) ⟨_, rfl⟩ (z3h (z0u ..))) <| wR 0 [30, 31] kR0 h30 <| smR 2 rfl <| nR <| wDn kR0 <| tRt ?_
     (have h2 : (z0x u f deep wh seen set x).2 = (z0i f.types (z0g u f (deep + 1) ⟨false, true, [], r8of f.types x.params, r8of f.types x.outs⟩ (seen ++ x.params) (z0i f.types set x.params (List.replicate x.params.length 0)).2 ka).2 x.outs (List.replicate x.outs.length 0)).2 := (by rw [z0b _ _ _ _ _ _ hbare hk11 hkids]; simp_all [andT, andS, z18]; done)
      rw [h2]
      refine rOk rfl ?_ (po2 rfl rfl)
      clear h2
      rw [z0b _ _ _ _ _ _ hbare hk11 hkids]
      simp_all [andT, andS, z18]
      done)
    refine smR 6 rfl <| nR <| wN 28 kR0 h30 rfl rfl rfl <| wN 29 kR0 h30 rfl rfl rfl <| wR 0 [30, 31] kR0 h30 <| smR 2 rfl <| nR <| wDn kR0 <| tRt ?_
    (have h2 : (z0x u f deep wh seen set x).2 = (z0g u f (deep + 1) ⟨false, true, [], r8of f.types x.params, r8of f.types x.outs⟩ (seen ++ x.params) (z0i f.types set x.params (List.replicate x.params.length 0)).2 ka).2 := (by rw [z0b _ _ _ _ _ _ hbare hk11 hkids]; simp_all [andT, andS, z18]; done)
     rw [h2]
     refine rOk rfl ?_ (po2 rfl rfl)
     clear h2
     rw [z0b _ _ _ _ _ _ hbare hk11 hkids]
     simp_all [andT, andS, z18]
     done)
   refine smR 5 rfl <| nUr rfl rfl rfl rfl rfl rfl rfl <| nR <| WA.takeNoU (i := 17) rfl kR0 kR0 kR0 h30 rfl rfl rfl rfl rfl rfl <| wR 4 [18, 19, 20, 21, 22, 23, 24, 25, 26, 27] kR0 h30 <| nUr rfl rfl rfl rfl rfl rfl rfl <| smR 9 rfl <| nR <| wN 28 kR0 h30 rfl rfl rfl <| wN 29 kR0 h30 rfl rfl rfl <| wR 0 [30, 31] kR0 h30 <| smR 2 rfl ?_
   refine nR <| wDn kR0 <| tRt ?_
   (have h2 : (z0x u f deep wh seen set x).2 = (z0g u f (deep + 1) ⟨false, true, [], r8of f.types x.params, r8of f.types x.outs⟩ (seen ++ x.params) (z0i f.types set x.params (List.replicate x.params.length 0)).2 ka).2 := (by rw [z0b _ _ _ _ _ _ hbare hk11 hkids]; simp_all [andT, andS, z18]; done)
    rw [h2]
    refine rOk rfl ?_ (po2 rfl rfl)
    clear h2
    rw [z0b _ _ _ _ _ _ hbare hk11 hkids]
    simp_all [andT, andS, z18]
    done)
  refine tSk <| tQ <| tG <| sm 1 rfl <| cV rfl (lEA rfl rfl uT42 rfl tS42 (lb rfl)) <| sm 1 rfl <| cV rfl (lEA rfl rfl Tryz.underlying90 rfl tS90 (lb rfl)) <| cE rfl (ocr (y3a u f set hs hg x seen wh) ent104 rfl (po2 rfl rfl) rfl (fun k (h : _) => .inr h) rfl rfl) <| sm 1 rfl <| nL <| tRt ?_
  rw [z7g _ _ _ _ _ _ hbare hc20 hc85]
  exact rOk rfl rfl (po2 rfl rfl)
theorem zx3 (N : Nat) : ∀ (u : Un) (f : Fl) (hg : ∀ g ∈ u.flows, 0 <= g.params /\ g.params <= g.types.length) (l : List Nd) (deep : Int) (wh : Wh) (all : List Int) (set : List Bool) (hd : 0 <= deep /\ deep <= 101) (hs : set.length = f.types.length) (hb : all.length + lsW l <= 1073741824), SizeOf.sizeOf l < N -> SC Tryz.prog 52 [.ptr 3 0, .pv (z0f l), .pv (ints all), .pv (whv wh), iInt deep] (ckHp u f 4 set) (fun k => k = 3) (iBool (z0g u f deep wh all set l).1) (ckHp u f 4 (z0g u f deep wh all set l).2) := by
  induction N with
  | zero => intro u f hg l deep wh all set hd hs hb hN; exact absurd hN (Nat.not_lt_zero _)
  | succ N ih =>
    intro u f hg l deep wh all set hd hs hb hN
    refine SC.of Tryz.func52 rfl (lb rfl) fun F ρ w => ?_
    refine Tr.lenOf (t := 1) rfl (fun hl => ?_)
    simp only [List.length_map] at hl
    refine tQ <| tG <| cE rfl (z1y rfl rfl) <| sm 1 rfl <| nL <| tQ <| tG <| sm 1 rfl <| nL <| tQ <| Tr.grow (t := 11) (k := 111) ⟨3, 1⟩ rfl rfl rfl rfl rfl <| tG ?_
    refine sm 2 rfl ?_
    refine cE rfl (aPp rfl rfl rfl rfl (by rfl) sI0 uT35 tB3 dC0 (z56) (z39) (by simp [maxLen, z01]; omega) (by simp [z01]; omega)) ?_
    refine sm 1 rfl <| nL <| tQ <| tQ <| tG <| sm 1 rfl <| nL <| tBk <| Tr.sub (Sub.of (fr' := [(12, iInt 0), (11, .sl 111 all.length), (8, .pv (.ept [vBool wh.If, vBool wh.Loop, ints wh.Yield, ints wh.Next, ints wh.Left] 0)), (0, .ptr 3 0), (1, .pv (z0f l)), (4, iInt deep)]) ⟨rfl, congrArg (fun z => some (IV.sl 111 z)) sI0, rfl, rfl, rfl, rfl, trivial⟩) <| Tr.heap (σ' := look ((111, some (.row ⟨3, 1⟩ (all.map eInt))) :: up (ckHp u f 4 set))) (fun _ => congrFun z9p _) ?_
    refine Tr.loop (fun fr σ m => ∃ (k : Nat) (al : List Int) (st : List Bool), (k <= l.length) /\ (r8go u f deep wh all set l = r8go u f deep wh al st (l.drop k)) /\ (st.length = f.types.length) /\ (al.length + lsW (l.drop k) <= 1073741824) /\ fr = [(12, iInt k), (11, .sl 111 al.length), (8, .pv (.ept [vBool wh.If, vBool wh.Loop, ints wh.Yield, ints wh.Next, ints wh.Left] 0)), (0, .ptr 3 0), (1, .pv (z0f l)), (4, iInt deep)] /\ σ = look ((111, some (.row ⟨3, 1⟩ (al.map eInt))) :: up (ckHp u f 4 st)) /\ m = l.length - k) (n := l.length - 0) ?_ ?_
    ·exact ⟨0, all, set, Nat.zero_le _, rfl, hs, hb, rfl, rfl, rfl⟩
    rintro fr σ m ⟨k, al, st, hI0, hI1, hI2, hI3, rfl, rfl, rfl⟩
    refine tQ <| tQ <| tG <| sm 2 rfl <| cV rfl (oSm uT43 rfl) <| sm 1 rfl <| nL ?_
    refine tC rfl (fun hc19 => ?_) fun hc19 => ?_
    ·have hlt : k < l.length := by simpa using hc19
     have hd2 := List.drop_eq_getElem_cons hlt
     have hm := List.getElem_mem hlt
     have hi := z0t (List.getElem?_eq_getElem hlt)
     generalize l[k] = x at hd2 hm hi
     have hxo : x.outs.length <= ndW x := by have := zg0 x; omega
     have hbn : al.length + ndW x <= 1073741824 := by rw [hd2] at hI3; simp only [lsW] at hI3; omega
     refine tSk <| tQ <| tBk <| tQ <| tQ <| tDr z1t (fun k => k ∈ ([3] : List Nat)) <| wR 16 [0, 1, 2, 3, 4, 5, 6, 7, 8, 9, 10] kR0 h30 <| smR 3 rfl ?_
     refine WR.split (t := 24) rfl (fun hb24 => ?_) (fun hb24 => ?_)
     ·refine smR 8 rfl <| nR <| wN 11 kR0 h30 rfl rfl rfl <| wR 3 [12, 13, 14, 15, 16, 17, 18, 20, 21, 22, 23, 24] kR0 h30 <| smR 12 rfl <| nR <| wN 19 kR0 h30 rfl rfl rfl <| wR 0 [25, 26] kR0 h30 <| smR 2 rfl <| nR <| wDn kR0 <| Tr.condT rfl ?_
      refine tQ <| tG <| sm 1 rfl <| nL <| tRt ?_
      (have h2 : z0g u f deep wh all set l = (false, st) := by
         rw [zn3 hlt, hI1, hd2]
         unfold r8go
         rw [if_pos (by simpa using hb24)]
       rw [h2]
       exact rOk rfl rfl (po2 rfl rfl))
     refine smR 3 rfl <| ryV rfl rfl rfl (iSq rfl rfl rfl uT43 hi tS42 rfl (by rfl)) <| ryV rfl rfl rfl (lEA rfl rfl uT42 rfl tS42 (lb rfl)) <| smR 1 rfl <| ryV rfl rfl rfl (lEA rfl rfl Tryz.underlying90 rfl tS90 (lb rfl)) <| smR 1 rfl <| nR <| wO 11 kR0 <| wY rfl rfl rfl (fun k (h : _) => by (simp at h ⊢; omega)) (nAp rfl) (fun _ _ => z3a (fun k => k = 111) (y9u u f hg x deep ⟨hd.1, by simp at hb24; omega⟩ wh al st hI2 hbn (fun q hq deep w all set hd hs hb => ih u f hg q deep w all set hd hs hb (Nat.lt_of_lt_of_le (z61 hm rfl hq) (Nat.le_of_lt_succ hN)))) ent79 rfl rfl (sRf _ _) (And.intro LendOf.same (And.intro LendOf.same (And.intro (LendOf.row rfl rfl (by (simp; done)) (by rfl)) (And.intro LendOf.same (And.intro LendOf.same (trivial)))))) (fun k h => by subst h; rfl) (po2 rfl rfl) rfl (fun k (h : _) => by (simp only [List.mem_cons, List.not_mem_nil, or_false] at h; rcases h with rfl <;> first | exact .inl rfl | exact .inr rfl | exact .inr dC0)) ⟨_, rfl⟩ (z3h (z7f ..))) <| wR 3 [12, 13, 14, 15, 16, 17, 18, 20, 21, 22, 23, 24] kR0 h30 <| smR 3 rfl ?_
     refine WR.split (t := 36) rfl (fun hb36 => ?_) (fun hb36 => ?_)
     ·refine smR 9 rfl <| nR <| wN 19 kR0 h30 rfl rfl rfl <| wR 0 [25, 26] kR0 h30 <| smR 2 rfl <| nR <| wDn kR0 <| Tr.condT rfl <| tQ <| tG <| sm 1 rfl <| nL ?_
      refine tRt ?_
      (have h2 : z0g u f deep wh all set l = (false, (z0x u f deep wh al st x).2) := by
         rw [zn3 hlt, hI1, hd2]
         unfold r8go
         rw [if_neg (by simpa using hb24)]
         have hn1 : (z0x u f deep wh al st x).1 = false := by simpa using hb36
         simp [andT, hn1]
       rw [h2]
       exact rOk rfl rfl (po2 rfl rfl))
     refine smR 2 rfl <| ryV rfl rfl rfl (iSq rfl rfl rfl uT43 hi tS42 rfl (by rfl)) <| ryV rfl rfl rfl (lEA rfl rfl uT42 rfl tS42 (lb rfl)) <| smR 2 rfl <| ryV rfl rfl rfl (oSm uT43 rfl) <| ryV rfl rfl rfl (oB rfl rfl (z2o rfl oM0)) <| smR 1 rfl <| nR <| wO 19 kR0 <| wY rfl rfl rfl (fun k (h : _) => by (simp at h ⊢; omega)) nw (fun _ _ => ocq (z2r _) zq5 rfl rfl) <| wR 0 [25, 26] kR0 h30 <| ryV rfl rfl rfl (z9q rfl rfl rfl Tryz.underlying4) ?_
     refine smR 1 rfl <| nR <| wDn kR0 ?_
     refine tC rfl (fun hc48 => ?_) fun hc48 => ?_
     ·refine tQ <| tG <| sm 1 rfl <| nL <| tRt ?_
      (have h2 : z0g u f deep wh all set l = (false, (z0x u f deep wh al st x).2) := by
         rw [zn3 hlt, hI1, hd2]
         unfold r8go
         rw [if_neg (by simpa using hb24)]
         have hn1 : (z0x u f deep wh al st x).1 = true := by simpa using hb36
         have hcl : (z02 x != (l.drop (k + 1)).isEmpty) = true := by rw [z6k hlt]; simpa using hc48
         simp [andT, hn1, hcl]
       rw [h2]
       exact rOk rfl rfl (po2 rfl rfl))
     refine tSk <| tG <| sm 3 rfl <| cV rfl (iSq rfl rfl rfl uT43 hi tS42 rfl (by rfl)) <| sm 2 rfl ?_
     refine cE rfl (aPp rfl rfl rfl rfl (by (simp; done)) sI0 uT35 tB3 dC0 (z56) (z39) (by simp [maxLen, z01]; omega) (by simp [z01]; omega)) ?_
     refine sm 1 rfl <| nL <| tG <| sm 1 rfl <| cV rfl (oB rfl rfl (z05 rfl oM0)) <| sm 1 rfl <| nL ?_
     refine ⟨_, _, ?_, Sub.of (fr' := [(12, iInt (k + 1)), (11, .sl 111 (al ++ x.outs).length), (8, .pv (.ept [vBool wh.If, vBool wh.Loop, ints wh.Yield, ints wh.Next, ints wh.Left] 0)), (0, .ptr 3 0), (1, .pv (z0f l)), (4, iInt deep)]) ⟨rfl, congrArg (fun z => some (IV.sl 111 z)) sI0, rfl, rfl, rfl, rfl, trivial⟩, (k + 1), (al ++ x.outs), (z0x u f deep wh al st x).2, ?_, ?_, ?_, ?_, rfl, ck_row', rfl⟩
     ·omega
     ·omega
     ·rw [hI1, hd2]
      have hn1 : (z0x u f deep wh al st x).1 = true := by simpa using hb36
      have hcl : (z02 x != (l.drop (k + 1)).isEmpty) = false := by rw [z6k hlt]; simpa using hc48
      have hdp : ¬ deep > 100 := by simpa using hb24
      conv => lhs; unfold r8go
      simp only [if_neg hdp, andT, hn1, hcl, if_true]
      rfl
     ·exact (z7f ..).trans hI2
     rw [hd2] at hI3; have hWx := zg0 x; simp only [lsW] at hI3; simp only [List.length_append]; omega
    refine tEx <| tQ <| tG <| sm 1 rfl <| cV rfl (oSm uT43 rfl) <| sm 2 rfl <| nL <| tRt ?_
    have hge : l.length <= k := by simpa using hc19
    have hgo : r8go u f deep wh all set l = (true, st) := by rw [hI1, List.drop_eq_nil_of_le hge]; simp [r8go]
    have h2 : (z0g u f deep wh all set l) = (decide ((l.length : Int) > 0), st) := by
      unfold z0g ne
      rw [hgo]
      cases l <;> simp <;> omega
    rw [h2]
    exact rOk rfl rfl (po2 rfl rfl)
theorem y9t (u : Un) (f : Fl) (hg : ∀ g ∈ u.flows, 0 <= g.params /\ g.params <= g.types.length) (l : List Nd) (deep : Int) (wh : Wh) (all : List Int) (set : List Bool) (hd : 0 <= deep /\ deep <= 101) (hs : set.length = f.types.length) (hb : all.length + lsW l <= 1073741824) : SC Tryz.prog 52 [.ptr 3 0, .pv (z0f l), .pv (ints all), .pv (whv wh), iInt deep] (ckHp u f 4 set) (fun k => k = 3) (iBool (z0g u f deep wh all set l).1) (ckHp u f 4 (z0g u f deep wh all set l).2) := zx3 _ u f hg l deep wh all set hd hs hb (Nat.lt_succ_self _)
theorem zo4 (n : Int) : SC Tryz.prog 76 [.pv (vU8 n)] [] (fun _ => False) (iBool (z21 n)) [] := by
  refine SC.of Tryz.func76 rfl (lb rfl) fun F ρ w => ?_
  refine tQ <| tG <| sm 1 rfl <| nL <| tQ <| tG <| sm 3 rfl ?_
  refine wS 5 rfl (fun hb5 => ?_) fun hb5 => ?_
  ·refine sm 4 rfl ?_
   refine wS 9 rfl (fun hb9 => ?_) fun hb9 => ?_
   ·refine sm 3 rfl <| nUu rfl rfl rfl rfl rfl rfl <| nUu rfl rfl rfl rfl rfl rfl <| sm 7 rfl <| nL <| tRt <| rOk rfl ?_ nPo
    unfold z21
    first | (simp_all; done) | (simp_all <;> omega)
   refine sm 3 rfl ?_
   refine wS 12 rfl (fun hb12 => ?_) fun hb12 => ?_
   ·refine sm 5 rfl ?_
    refine wS 17 rfl (fun hb17 => ?_) fun hb17 => ?_
    ·refine sm 4 rfl <| nL <| tRt <| rOk rfl ?_ nPo
     unfold z21
     first | (simp_all; done) | (simp_all <;> omega)
    refine sm 4 rfl <| nL <| tRt <| rOk rfl ?_ nPo
    unfold z21
    first | (simp_all; done) | (simp_all <;> omega)
   refine sm 9 rfl <| nL <| tRt <| rOk rfl ?_ nPo
   unfold z21
   first | (simp_all; done) | (simp_all <;> omega)
  refine sm 7 rfl ?_
  refine wS 12 rfl (fun hb12 => ?_) fun hb12 => ?_
  ·refine sm 5 rfl ?_
   refine wS 17 rfl (fun hb17 => ?_) fun hb17 => ?_
   ·refine sm 4 rfl <| nL <| tRt <| rOk rfl ?_ nPo
    unfold z21
    first | (simp_all; done) | (simp_all <;> omega)
   refine sm 4 rfl <| nL <| tRt <| rOk rfl ?_ nPo
   unfold z21
   first | (simp_all; done) | (simp_all <;> omega)
  refine sm 9 rfl <| nL <| tRt <| rOk rfl ?_ nPo
  unfold z21
  first | (simp_all; done) | (simp_all <;> omega)
theorem y6h (n : Int) : SC Tryz.prog 78 [.pv (vU8 n)] [] (fun _ => False) (iBool (z7a n)) [] := by
  refine SC.of Tryz.func78 rfl (lb rfl) fun F ρ w => ?_
  refine tQ <| tG <| sm 1 rfl <| nL <| tQ <| tG <| sm 3 rfl ?_
  refine wS 5 rfl (fun hb5 => ?_) fun hb5 => ?_
  ·refine sm 4 rfl <| nL <| tRt <| rOk rfl ?_ nPo
   unfold z7a
   first | (simp_all; done) | (simp_all <;> omega)
  refine sm 4 rfl <| nL <| tRt <| rOk rfl ?_ nPo
  unfold z7a
  first | (simp_all; done) | (simp_all <;> omega)
theorem y9p (s : ByteArray) : SC Tryz.prog 77 [iStr s] [] (fun _ => False) (iBool (z0m s)) [] := by
  refine SC.of Tryz.func77 rfl (lb rfl) fun F ρ w => ?_
  refine tQ <| tG <| sm 1 rfl <| nL <| tQ <| tQ <| tG <| sm 1 rfl <| nL <| tBk <| tQ <| tQ ?_
  refine tG <| cV rfl (bSt rfl rfl rfl rfl) <| sm 1 rfl <| nL ?_
  refine tC rfl (fun hc4 => ?_) fun hc4 => ?_
  ·refine tSk ?_
   refine tC rfl (fun hc4 => ?_) fun hc4 => ?_
   ·refine tQ <| tG <| sm 1 rfl <| nL <| tRt <| rOk rfl ?_ nPo
    refine congrArg (fun b => iBool b) ?_
    simp_all [z0m]
   refine tSk <| tQ <| tG <| sm 1 rfl <| nL <| tRt <| rOk rfl ?_ nPo
   refine congrArg (fun b => iBool b) ?_
   simp_all [z0m]
  refine tQ <| tG <| cV rfl (bSt rfl rfl rfl rfl) <| sm 1 rfl <| nL ?_
  refine tC rfl (fun hc4 => ?_) fun hc4 => ?_
  ·refine tSk ?_
   refine tC rfl (fun hc4 => ?_) fun hc4 => ?_
   ·refine tQ <| tG <| sm 1 rfl <| nL <| tRt <| rOk rfl ?_ nPo
    refine congrArg (fun b => iBool b) ?_
    simp_all [z0m]
   refine tSk <| tQ <| tG <| sm 1 rfl <| nL <| tRt <| rOk rfl ?_ nPo
   refine congrArg (fun b => iBool b) ?_
   simp_all [z0m]
  refine tQ <| tG <| cV rfl (bSt rfl rfl rfl rfl) <| sm 1 rfl <| nL ?_
  refine tC rfl (fun hc4 => ?_) fun hc4 => ?_
  ·refine tSk ?_
   refine tC rfl (fun hc4 => ?_) fun hc4 => ?_
   ·refine tQ <| tG <| sm 1 rfl <| nL <| tRt <| rOk rfl ?_ nPo
    refine congrArg (fun b => iBool b) ?_
    simp_all [z0m]
   refine tSk <| tQ <| tG <| sm 1 rfl <| nL <| tRt <| rOk rfl ?_ nPo
   refine congrArg (fun b => iBool b) ?_
   simp_all [z0m]
  refine tQ <| tG <| cV rfl (bSt rfl rfl rfl rfl) <| sm 1 rfl <| nL ?_
  refine tC rfl (fun hc4 => ?_) fun hc4 => ?_
  ·refine tSk ?_
   refine tC rfl (fun hc4 => ?_) fun hc4 => ?_
   ·refine tQ <| tG <| sm 1 rfl <| nL <| tRt <| rOk rfl ?_ nPo
    refine congrArg (fun b => iBool b) ?_
    simp_all [z0m]
   refine tSk <| tQ <| tG <| sm 1 rfl <| nL <| tRt <| rOk rfl ?_ nPo
   refine congrArg (fun b => iBool b) ?_
   simp_all [z0m]
  refine tQ <| tG <| cV rfl (bSt rfl rfl rfl rfl) <| sm 1 rfl <| nL ?_
  refine tC rfl (fun hc4 => ?_) fun hc4 => ?_
  ·refine tSk ?_
   refine tC rfl (fun hc4 => ?_) fun hc4 => ?_
   ·refine tQ <| tG <| sm 1 rfl <| nL <| tRt <| rOk rfl ?_ nPo
    refine congrArg (fun b => iBool b) ?_
    simp_all [z0m]
   refine tSk <| tQ <| tG <| sm 1 rfl <| nL <| tRt <| rOk rfl ?_ nPo
   refine congrArg (fun b => iBool b) ?_
   simp_all [z0m]
  refine tQ <| tG <| cV rfl (bSt rfl rfl rfl rfl) <| sm 1 rfl <| nL ?_
  refine tC rfl (fun hc4 => ?_) fun hc4 => ?_
  ·refine tSk ?_
   refine tC rfl (fun hc4 => ?_) fun hc4 => ?_
   ·refine tQ <| tG <| sm 1 rfl <| nL <| tRt <| rOk rfl ?_ nPo
    refine congrArg (fun b => iBool b) ?_
    simp_all [z0m]
   refine tSk <| tQ <| tG <| sm 1 rfl <| nL <| tRt <| rOk rfl ?_ nPo
   refine congrArg (fun b => iBool b) ?_
   simp_all [z0m]
  refine tQ <| tG <| cV rfl (bSt rfl rfl rfl rfl) <| sm 1 rfl <| nL ?_
  refine tC rfl (fun hc4 => ?_) fun hc4 => ?_
  ·refine tSk ?_
   refine tC rfl (fun hc4 => ?_) fun hc4 => ?_
   ·refine tQ <| tG <| sm 1 rfl <| nL <| tRt <| rOk rfl ?_ nPo
    refine congrArg (fun b => iBool b) ?_
    simp_all [z0m]
   refine tSk <| tQ <| tG <| sm 1 rfl <| nL <| tRt <| rOk rfl ?_ nPo
   refine congrArg (fun b => iBool b) ?_
   simp_all [z0m]
  refine tQ <| tG <| cV rfl (bSt rfl rfl rfl rfl) <| sm 1 rfl <| nL ?_
  refine tC rfl (fun hc4 => ?_) fun hc4 => ?_
  ·refine tSk ?_
   refine tC rfl (fun hc4 => ?_) fun hc4 => ?_
   ·refine tQ <| tG <| sm 1 rfl <| nL <| tRt <| rOk rfl ?_ nPo
    refine congrArg (fun b => iBool b) ?_
    simp_all [z0m]
   refine tSk <| tQ <| tG <| sm 1 rfl <| nL <| tRt <| rOk rfl ?_ nPo
   refine congrArg (fun b => iBool b) ?_
   simp_all [z0m]
  refine tQ <| tG <| cV rfl (bSt rfl rfl rfl rfl) <| sm 1 rfl <| nL ?_
  refine tC rfl (fun hc4 => ?_) fun hc4 => ?_
  ·refine tSk ?_
   refine tC rfl (fun hc4 => ?_) fun hc4 => ?_
   ·refine tQ <| tG <| sm 1 rfl <| nL <| tRt <| rOk rfl ?_ nPo
    refine congrArg (fun b => iBool b) ?_
    simp_all [z0m]
   refine tSk <| tQ <| tG <| sm 1 rfl <| nL <| tRt <| rOk rfl ?_ nPo
   refine congrArg (fun b => iBool b) ?_
   simp_all [z0m]
  refine tQ <| tG <| cV rfl (bSt rfl rfl rfl rfl) <| sm 1 rfl <| nL ?_
  refine tC rfl (fun hc4 => ?_) fun hc4 => ?_
  ·refine tSk ?_
   refine tC rfl (fun hc4 => ?_) fun hc4 => ?_
   ·refine tQ <| tG <| sm 1 rfl <| nL <| tRt <| rOk rfl ?_ nPo
    refine congrArg (fun b => iBool b) ?_
    simp_all [z0m]
   refine tSk <| tQ <| tG <| sm 1 rfl <| nL <| tRt <| rOk rfl ?_ nPo
   refine congrArg (fun b => iBool b) ?_
   simp_all [z0m]
  refine tQ <| tG <| cV rfl (bSt rfl rfl rfl rfl) <| sm 1 rfl <| nL ?_
  refine tC rfl (fun hc4 => ?_) fun hc4 => ?_
  ·refine tSk ?_
   refine tC rfl (fun hc4 => ?_) fun hc4 => ?_
   ·refine tQ <| tG <| sm 1 rfl <| nL <| tRt <| rOk rfl ?_ nPo
    refine congrArg (fun b => iBool b) ?_
    simp_all [z0m]
   refine tSk <| tQ <| tG <| sm 1 rfl <| nL <| tRt <| rOk rfl ?_ nPo
   refine congrArg (fun b => iBool b) ?_
   simp_all [z0m]
  refine tQ <| tG <| cV rfl (bSt rfl rfl rfl rfl) <| sm 1 rfl <| nL ?_
  refine tC rfl (fun hc4 => ?_) fun hc4 => ?_
  ·refine tSk ?_
   refine tC rfl (fun hc4 => ?_) fun hc4 => ?_
   ·refine tQ <| tG <| sm 1 rfl <| nL <| tRt <| rOk rfl ?_ nPo
    refine congrArg (fun b => iBool b) ?_
    simp_all [z0m]
   refine tSk <| tQ <| tG <| sm 1 rfl <| nL <| tRt <| rOk rfl ?_ nPo
   refine congrArg (fun b => iBool b) ?_
   simp_all [z0m]
  refine tQ <| tG <| cV rfl (bSt rfl rfl rfl rfl) <| sm 1 rfl <| nL ?_
  refine tC rfl (fun hc4 => ?_) fun hc4 => ?_
  ·refine tSk ?_
   refine tC rfl (fun hc4 => ?_) fun hc4 => ?_
   ·refine tQ <| tG <| sm 1 rfl <| nL <| tRt <| rOk rfl ?_ nPo
    refine congrArg (fun b => iBool b) ?_
    simp_all [z0m]
   refine tSk <| tQ <| tG <| sm 1 rfl <| nL <| tRt <| rOk rfl ?_ nPo
   refine congrArg (fun b => iBool b) ?_
   simp_all [z0m]
  refine tQ <| tG <| cV rfl (bSt rfl rfl rfl rfl) <| sm 1 rfl <| nL ?_
  refine tC rfl (fun hc4 => ?_) fun hc4 => ?_
  ·refine tSk ?_
   refine tC rfl (fun hc4 => ?_) fun hc4 => ?_
   ·refine tQ <| tG <| sm 1 rfl <| nL <| tRt <| rOk rfl ?_ nPo
    refine congrArg (fun b => iBool b) ?_
    simp_all [z0m]
   refine tSk <| tQ <| tG <| sm 1 rfl <| nL <| tRt <| rOk rfl ?_ nPo
   refine congrArg (fun b => iBool b) ?_
   simp_all [z0m]
  refine tQ <| tG <| cV rfl (bSt rfl rfl rfl rfl) <| sm 1 rfl <| nL ?_
  refine tC rfl (fun hc4 => ?_) fun hc4 => ?_
  ·refine tSk ?_
   refine tC rfl (fun hc4 => ?_) fun hc4 => ?_
   ·refine tQ <| tG <| sm 1 rfl <| nL <| tRt <| rOk rfl ?_ nPo
    refine congrArg (fun b => iBool b) ?_
    simp_all [z0m]
   refine tSk <| tQ <| tG <| sm 1 rfl <| nL <| tRt <| rOk rfl ?_ nPo
   refine congrArg (fun b => iBool b) ?_
   simp_all [z0m]
  refine tQ <| tG <| cV rfl (bSt rfl rfl rfl rfl) <| sm 1 rfl <| nL ?_
  refine tC rfl (fun hc4 => ?_) fun hc4 => ?_
  ·refine tSk ?_
   refine tC rfl (fun hc4 => ?_) fun hc4 => ?_
   ·refine tQ <| tG <| sm 1 rfl <| nL <| tRt <| rOk rfl ?_ nPo
    refine congrArg (fun b => iBool b) ?_
    simp_all [z0m]
   refine tSk <| tQ <| tG <| sm 1 rfl <| nL <| tRt <| rOk rfl ?_ nPo
   refine congrArg (fun b => iBool b) ?_
   simp_all [z0m]
  refine tQ <| tG <| cV rfl (bSt rfl rfl rfl rfl) <| sm 1 rfl <| nL ?_
  refine tC rfl (fun hc4 => ?_) fun hc4 => ?_
  ·refine tSk ?_
   refine tC rfl (fun hc4 => ?_) fun hc4 => ?_
   ·refine tQ <| tG <| sm 1 rfl <| nL <| tRt <| rOk rfl ?_ nPo
    refine congrArg (fun b => iBool b) ?_
    simp_all [z0m]
   refine tSk <| tQ <| tG <| sm 1 rfl <| nL <| tRt <| rOk rfl ?_ nPo
   refine congrArg (fun b => iBool b) ?_
   simp_all [z0m]
  refine tG <| cV rfl (bSt rfl rfl rfl rfl) <| sm 1 rfl <| nL ?_
  refine tC rfl (fun hc4 => ?_) fun hc4 => ?_
  ·refine tQ <| tG <| sm 1 rfl <| nL <| tRt <| rOk rfl ?_ nPo
   refine congrArg (fun b => iBool b) ?_
   simp_all [z0m]
  refine tSk <| tQ <| tG <| sm 1 rfl <| nL <| tRt <| rOk rfl ?_ nPo
  refine congrArg (fun b => iBool b) ?_
  simp_all [z0m]
theorem y1d (s : ByteArray) : SC Tryz.prog 50 [iStr s] [] (fun _ => False) (iBool (z4d s)) [] := by
  refine SC.of Tryz.func50 rfl (lb rfl) fun F ρ w => ?_
  have hsz : s.size <= 9223372036854775807 ∨ 9223372036854775807 < s.size := by omega
  refine tQ <| tG <| sm 1 rfl <| nL <| tQ <| tQ <| tG <| sm 1 rfl <| cV rfl (bSt rfl rfl rfl rfl) <| sm 1 rfl ?_
  refine wS 6 rfl (fun hb6 => ?_) fun hb6 => ?_
  ·refine sm 14 rfl <| nL <| Tr.condT rfl <| tQ <| tG <| sm 1 rfl <| nL <| tRt <| rOk rfl ?_ nPo
   refine congrArg (fun b => iBool b) ?_
   simp_all [z4d]
  have hne : s.toList ≠ [] := by simpa using hb6
  obtain ⟨b0, r0, hs0⟩ := List.exists_cons_of_ne_nil hne
  have hi0 : s[0]? = some b0 := by rw [y3y (i := 0) (by rw [hs0]; simp)]; simp [hs0]
  refine sm 1 rfl <| yV rfl rfl (z8x rfl rfl uT9) <| sm 3 rfl ?_
  refine wS 11 rfl (fun hb11 => ?_) fun hb11 => ?_
  ·refine sm 9 rfl <| nL <| Tr.condT rfl <| tQ <| tG <| sm 1 rfl <| nL <| tRt <| rOk rfl ?_ nPo
   refine congrArg (fun b => iBool b) ?_
   (have h20 : ¬ ((s.size : Int) <= 20) := by simp at hb11; omega
    simp [z4d, h20]; done)
  refine sm 1 rfl <| yV rfl rfl (z59 rfl rfl rfl uT9 (by assumption) (by rfl)) <| WL.yes rfl rfl rfl rfl rfl rfl (z1q (zo4 _) ent76 rfl rfl (sRf _ _) rfl) <| sm 3 rfl ?_
  refine wS 17 rfl (fun hb17 => ?_) fun hb17 => ?_
  ·refine sm 3 rfl <| nL <| Tr.condT rfl <| tQ <| tG <| sm 1 rfl <| nL <| tRt <| rOk rfl ?_ nPo
   refine congrArg (fun b => iBool b) ?_
   simp_all [z4d]
  refine sm 1 rfl <| WL.yes rfl rfl rfl rfl rfl rfl (z1q (y9p _) ent77 rfl rfl (sRf _ _) rfl) <| sm 1 rfl <| nL ?_
  refine tC rfl (fun hc20 => ?_) fun hc20 => ?_
  ·refine tQ <| tG <| sm 1 rfl <| nL <| tRt <| rOk rfl ?_ nPo
   refine congrArg (fun b => iBool b) ?_
   simp_all [z4d]
  refine tSk <| tQ <| tQ <| tG <| sm 1 rfl <| nL <| tBk <| Tr.sub (Sub.of (fr' := [(3, iInt 0), (0, iStr s)]) ⟨rfl, rfl, trivial⟩) ?_
  refine Tr.loop (fun fr σ m => ∃ (k : Nat), (k <= s.toList.length) /\ (s.toList.all isLD = (s.toList.drop k).all isLD) /\ fr = [(3, iInt k), (0, iStr s)] /\ σ = look [] /\ m = s.toList.length - k) (n := s.toList.length - 0) ?_ ?_
  ·exact ⟨0, Nat.zero_le _, rfl, rfl, rfl, rfl⟩
  rintro fr σ m ⟨k, hI0, hI1, rfl, rfl, rfl⟩
  refine tQ <| tQ <| tG <| sm 2 rfl <| cV rfl (z8x rfl rfl uT9) <| sm 1 rfl <| nL ?_
  refine tC rfl (fun hc24 => ?_) fun hc24 => ?_
  ·have hlt : k < s.toList.length := by rw [z9b]; simpa using hc24
   have hd := List.drop_eq_getElem_cons hlt
   have hi := y3y hlt
   generalize s.toList[k] = b at hd hi
   have hl20 : s.toList.length <= 20 := by rw [z9b]; simp at hb11; omega
   refine tSk <| tQ <| tBk <| tQ <| tG <| sm 2 rfl <| cV rfl (z59 rfl rfl rfl uT9 (by assumption) (by rfl)) <| cE rfl (ocq (zo4 _) ent76 rfl rfl) <| sm 2 rfl ?_
   refine wS 32 rfl (fun hb32 => ?_) fun hb32 => ?_
   ·refine sm 2 rfl <| yV rfl rfl (z59 rfl rfl rfl uT9 (by assumption) (by rfl)) <| WL.yes rfl rfl rfl rfl rfl rfl (z1q (y6h _) ent78 rfl rfl (sRf _ _) rfl) <| sm 2 rfl <| nL ?_
    refine tC rfl (fun hc38 => ?_) fun hc38 => ?_
    ·refine tQ <| tG <| sm 1 rfl <| nL <| tRt <| rOk rfl ?_ nPo
     have hb : isLD b = false := by simp_all [isLD]
     have hall : s.toList.all isLD = false := by rw [hI1, hd]; simp [hb]
     simp [z4d, hall]
    refine tSk <| tG <| sm 1 rfl <| cV rfl (oB rfl rfl (z05 rfl oM0)) <| sm 1 rfl <| nL ?_
    refine ⟨_, _, ?_, Sub.of (fr' := [(3, iInt (k + 1)), (0, iStr s)]) ⟨rfl, rfl, trivial⟩, (k + 1), ?_, ?_, rfl, rfl, rfl⟩
    ·omega
    ·omega
    have hb : isLD b = true := by simp_all [isLD]
    rw [hI1, hd]; simp [hb]
   refine sm 6 rfl <| nL <| Tr.condF rfl <| tSk <| tG <| sm 1 rfl <| cV rfl (oB rfl rfl (z05 rfl oM0)) <| sm 1 rfl <| nL ?_
   refine ⟨_, _, ?_, Sub.of (fr' := [(3, iInt (k + 1)), (0, iStr s)]) ⟨rfl, rfl, trivial⟩, (k + 1), ?_, ?_, rfl, rfl, rfl⟩
   ·omega
   ·omega
   have hb : isLD b = true := by simp_all [isLD]
   rw [hI1, hd]; simp [hb]
  refine tEx <| tQ <| tG <| sm 1 rfl <| nL <| tRt <| rOk rfl ?_ nPo
  have hge : s.toList.length <= k := by rw [z9b]; simpa using hc24
  have hall : s.toList.all isLD = true := by rw [hI1, List.drop_eq_nil_of_le hge]; rfl
  refine congrArg (fun b => iBool b) ?_
  simp_all [z4d]
theorem z5p (a b : List Int) : SC Tryz.prog 27 [.pv (ints a), .pv (ints b)] [] (fun _ => False) (iBool (a == b)) [] := by
  refine SC.of Tryz.func27 rfl (lb rfl) fun F ρ w => ?_
  refine Tr.lenOf (t := 0) rfl (fun hl => ?_)
  simp only [List.length_map] at hl
  refine Tr.lenOf (t := 1) rfl (fun hl2 => ?_)
  simp only [List.length_map] at hl2
  refine tQ <| tG <| sm 1 rfl <| nL <| tQ <| tQ <| tG <| sm 1 rfl <| cV rfl (oSm uT35 rfl) <| sm 1 rfl <| cV rfl (oSm uT35 rfl) <| sm 1 rfl ?_
  refine nL ?_
  refine tC rfl (fun hc10 => ?_) fun hc10 => ?_
  ·refine tQ <| tG <| sm 1 rfl <| nL <| tRt <| rOk rfl ?_ nPo
   have hne : a ≠ b := by intro h; subst h; simp at hc10
   simp [hne]
  have hlen : a.length = b.length := by simp at hc10; omega
  refine tSk <| tQ <| tQ <| tG <| sm 1 rfl <| nL <| tBk <| Tr.sub (Sub.of (fr' := [(5, iInt 0), (0, .pv (ints a)), (1, .pv (ints b))]) ⟨rfl, rfl, rfl, trivial⟩) ?_
  refine Tr.loop (fun fr σ m => ∃ (k : Nat), (k <= a.length) /\ ((a == b) = (a.drop k == b.drop k)) /\ fr = [(5, iInt k), (0, .pv (ints a)), (1, .pv (ints b))] /\ σ = look [] /\ m = a.length - k) (n := a.length - 0) ?_ ?_
  ·exact ⟨0, Nat.zero_le _, rfl, rfl, rfl, rfl⟩
  rintro fr σ m ⟨k, hI0, hI1, rfl, rfl, rfl⟩
  refine tQ <| tQ <| tG <| sm 2 rfl <| cV rfl (oSm uT35 rfl) <| sm 1 rfl <| nL ?_
  refine tC rfl (fun hc14 => ?_) fun hc14 => ?_
  ·have hlt : k < a.length := by simpa using hc14
   have hd := List.drop_eq_getElem_cons hlt
   have hm := List.getElem_mem hlt
   have hi := z0d (f := eInt) (List.getElem?_eq_getElem hlt)
   generalize a[k] = x at hd hm hi
   have hltw : k < b.length := by omega
   have hdw := List.drop_eq_getElem_cons hltw
   have hw := z0d (f := eInt) (List.getElem?_eq_getElem hltw)
   generalize b[k] = y at hdw hw
   refine tSk <| tQ <| tBk <| tQ <| Tr.still z1t kR0 rfl <| smS 2 rfl <| sV rfl (iSq rfl rfl rfl uT35 hi tS3 rfl (by rfl)) <| smS 3 rfl <| sV rfl (iSq rfl rfl rfl uT35 hw tS3 rfl (by rfl)) <| smS 2 rfl <| WS.nil ?_
   refine tC rfl (fun hc25 => ?_) fun hc25 => ?_
   ·refine tQ <| tG <| sm 1 rfl <| nL <| tRt <| rOk rfl ?_ nPo
    have hxy : x ≠ y := by simpa using hc25
    rw [hI1, hd, hdw]
    simp [hxy]
   refine tSk <| tG <| sm 1 rfl <| cV rfl (oB rfl rfl (z05 rfl oM0)) <| sm 1 rfl <| nL ?_
   refine ⟨_, _, ?_, Sub.of (fr' := [(5, iInt (k + 1)), (0, .pv (ints a)), (1, .pv (ints b))]) ⟨rfl, rfl, rfl, trivial⟩, (k + 1), ?_, ?_, rfl, rfl, rfl⟩
   ·omega
   ·omega
   rw [hI1, hd, hdw]
   have : x = y := by simpa using hc25
   simp [this]
  refine tEx <| tQ <| tG <| sm 1 rfl <| nL <| tRt <| rOk rfl ?_ nPo
  have hge : a.length <= k := by simpa using hc14
  rw [hI1, List.drop_eq_nil_of_le hge, List.drop_eq_nil_of_le oM0]
  rfl
theorem zb7 (N : Nat) : ∀ (a b : List Nd), SizeOf.sizeOf a < N -> SC Tryz.prog 28 [.pv (z0f a), .pv (z0f b)] [] (fun _ => False) (iBool (z4n a b)) [] := by
  induction N with
  | zero => intro a b hN; exact absurd hN (Nat.not_lt_zero _)
  | succ N ih =>
    intro a b hN
    refine SC.of Tryz.func28 rfl (lb rfl) fun F ρ w => ?_
    refine Tr.lenOf (t := 0) rfl (fun hl => ?_)
    simp only [List.length_map] at hl
    refine Tr.lenOf (t := 1) rfl (fun hl2 => ?_)
    simp only [List.length_map] at hl2
    refine tQ <| tG <| sm 1 rfl <| nL <| tQ <| tQ <| tG <| sm 1 rfl <| cV rfl (oSm uT43 rfl) <| sm 1 rfl <| cV rfl (oSm uT43 rfl) <| sm 1 rfl ?_
    refine nL ?_
    refine tC rfl (fun hc13 => ?_) fun hc13 => ?_
    ·refine tQ <| tG <| sm 1 rfl <| nL <| tRt <| rOk rfl ?_ nPo
     rw [y1b (by intro h; simp [h] at hc13)]
    have hlen : a.length = b.length := by simp at hc13; omega
    refine tSk <| tQ <| tQ <| tG <| sm 1 rfl <| nL <| tBk <| Tr.sub (Sub.of (fr' := [(5, iInt 0), (0, .pv (z0f a)), (1, .pv (z0f b))]) ⟨rfl, rfl, rfl, trivial⟩) ?_
    refine Tr.loop (fun fr σ m => ∃ (k : Nat), (k <= a.length) /\ (z4n a b = z4n (a.drop k) (b.drop k)) /\ fr = [(5, iInt k), (0, .pv (z0f a)), (1, .pv (z0f b))] /\ σ = look [] /\ m = a.length - k) (n := a.length - 0) ?_ ?_
    ·exact ⟨0, Nat.zero_le _, rfl, rfl, rfl, rfl⟩
    rintro fr σ m ⟨k, hI0, hI1, rfl, rfl, rfl⟩
    refine tQ <| tQ <| tG <| sm 2 rfl <| cV rfl (oSm uT43 rfl) <| sm 1 rfl <| nL ?_
    refine tC rfl (fun hc17 => ?_) fun hc17 => ?_
    ·have hlt : k < a.length := by simpa using hc17
     have hd := List.drop_eq_getElem_cons hlt
     have hm := List.getElem_mem hlt
     have hi := z0t (List.getElem?_eq_getElem hlt)
     generalize a[k] = x at hd hm hi
     have hltw : k < b.length := by omega
     have hdw := List.drop_eq_getElem_cons hltw
     have hw := z0t (List.getElem?_eq_getElem hltw)
     generalize b[k] = y at hdw hw
     refine tSk <| tQ <| tBk <| tQ ?_
     refine Tr.cut (fr' := [(7, .ptr 107 0), (6, .ptr 106 0), (5, iInt k), (0, .pv (z0f a)), (1, .pv (z0f b))]) (σ' := look [(106, some (.box [iInt x.kind, iInt x.op, iInt x.n, iStr x.name, .pv (ints x.args), .pv (ints x.outs), .pv (ints x.params), .pv (kids x.kids)])), (107, some (.box [iInt y.kind, iInt y.op, iInt y.n, iStr y.name, .pv (ints y.args), .pv (ints y.outs), .pv (ints y.params), .pv (kids y.kids)]))]) ?_ ?_
     ·refine tDr z1t (fun k => k ∈ ([] : List Nat)) <| wR 4 [0, 1, 2, 3, 4, 5, 6, 7] kR0 (fun _ _ _ h => pn h.1) <| smR 2 rfl <| rV rfl rfl (iSq rfl rfl rfl uT43 hi tS42 rfl (by rfl)) <| rV rfl rfl (lEA rfl rfl uT42 rfl tS42 (lb rfl)) <| smR 2 rfl <| rV rfl rfl (iSq rfl rfl rfl uT43 hw tS42 rfl (by rfl)) <| rV rfl rfl (lEA rfl rfl uT42 rfl tS42 (lb rfl)) <| nR <| WA.all (rs := [8, 9]) kR0 sI0 ?_
      refine fmc ⟨?_, fmc ⟨?_, by simp⟩⟩
      ·refine wI rfl rfl nf (z1n rfl) (fun _ _ => aLc (k := 106) rfl tZ42 rfl rfl rfl rfl) <| wO 9 kR0 <| wI rfl rfl nf (z1n rfl) (fun _ _ => aLc (k := 107) rfl tZ42 rfl rfl rfl rfl) <| wO 10 kR0 <| wI rfl rfl nf (nOl rfl) (fun _ _ => sBA rfl rfl rfl rfl rfl sI0 tS42 (flk rfl) (lb rfl)) <| wO 11 kR0 <| wI rfl rfl nf (nOl rfl) (fun _ _ => sBA rfl rfl rfl rfl rfl sI0 tS42 (flk rfl) (lb rfl)) <| wDn kR0 ?_
       refine ⟨rfl, Sub.of ⟨rfl, rfl, rfl, rfl, rfl, trivial⟩, ?_⟩
       exact zh8 rfl rfl (fun k h1 h2 => by simp [look, z12 (Ne.symm h1), z12 (Ne.symm h2)]) dC0
      refine wI rfl rfl nf (z1n rfl) (fun _ _ => aLc (k := 107) rfl tZ42 rfl rfl rfl rfl) <| wO 8 kR0 <| wI rfl rfl nf (z1n rfl) (fun _ _ => aLc (k := 106) rfl tZ42 rfl rfl rfl rfl) <| wO 10 kR0 <| wI rfl rfl nf (nOl rfl) (fun _ _ => sBA rfl rfl rfl rfl rfl sI0 tS42 (flk rfl) (lb rfl)) <| wO 11 kR0 <| wI rfl rfl nf (nOl rfl) (fun _ _ => sBA rfl rfl rfl rfl rfl sI0 tS42 (flk rfl) (lb rfl)) <| wDn kR0 ?_
      refine ⟨rfl, Sub.of ⟨rfl, rfl, rfl, rfl, rfl, trivial⟩, ?_⟩
      exact zh8 rfl rfl (fun k h1 h2 => by simp [look, z12 (Ne.symm h1), z12 (Ne.symm h2)]) dC0
     refine Tr.freezeBox (t := 6) (k := 106) rfl rfl rfl <| Tr.freezeBox (t := 7) (k := 107) rfl rfl rfl <| Tr.heap (σ' := look []) (fun k => by simp only [look]; cases Nat.beq 107 k <;> cases Nat.beq 106 k <;> rfl) <| tQ <| tQ <| tG <| sm 6 rfl ?_
     refine wS 33 rfl (fun hb33 => ?_) fun hb33 => ?_
     ·refine sm 53 rfl <| nL <| Tr.condT rfl <| tQ <| tG <| sm 1 rfl <| nL <| tRt <| rOk rfl ?_ nPo
      have hsh : z6s x y = false := by
        clear hd hdw hm hi hw hI1
        simp_all [z6s]
      rw [hI1, hd, hdw]
      simp [z4n, z5o, hsh]
     refine sm 7 rfl ?_
     refine wS 40 rfl (fun hb40 => ?_) fun hb40 => ?_
     ·refine sm 46 rfl <| nL <| Tr.condT rfl <| tQ <| tG <| sm 1 rfl <| nL <| tRt <| rOk rfl ?_ nPo
      have hsh : z6s x y = false := by
        clear hd hdw hm hi hw hI1
        simp_all [z6s]
      rw [hI1, hd, hdw]
      simp [z4n, z5o, hsh]
     refine sm 7 rfl ?_
     refine wS 47 rfl (fun hb47 => ?_) fun hb47 => ?_
     ·refine sm 39 rfl <| nL <| Tr.condT rfl <| tQ <| tG <| sm 1 rfl <| nL <| tRt <| rOk rfl ?_ nPo
      have hsh : z6s x y = false := by
        clear hd hdw hm hi hw hI1
        simp_all [z6s]
      rw [hI1, hd, hdw]
      simp [z4n, z5o, hsh]
     refine sm 4 rfl <| yV rfl rfl (bSt rfl rfl rfl rfl) <| sm 2 rfl ?_
     refine wS 54 rfl (fun hb54 => ?_) fun hb54 => ?_
     ·refine sm 32 rfl <| nL <| Tr.condT rfl <| tQ <| tG <| sm 1 rfl <| nL <| tRt <| rOk rfl ?_ nPo
      have hsh : z6s x y = false := by
        clear hd hdw hm hi hw hI1
        simp_all [z6s]
      rw [hI1, hd, hdw]
      simp [z4n, z5o, hsh]
     refine sm 2 rfl <| yV rfl rfl (oSm uT40 rfl) <| sm 2 rfl <| yV rfl rfl (oSm uT40 rfl) <| sm 3 rfl ?_
     refine wS 63 rfl (fun hb63 => ?_) fun hb63 => ?_
     ·refine sm 23 rfl <| nL <| Tr.condT rfl <| tQ <| tG <| sm 1 rfl <| nL <| tRt <| rOk rfl ?_ nPo
      have hsh : z6s x y = false := by
        clear hd hdw hm hi hw hI1
        (simp_all [z6s] <;> omega)
      rw [hI1, hd, hdw]
      simp [z4n, z5o, hsh]
     refine sm 4 rfl <| WL.yes rfl rfl rfl rfl rfl rfl (z1q (z5p _ _) ent27 rfl rfl (sRf _ _) rfl) <| sm 3 rfl ?_
     refine wS 71 rfl (fun hb71 => ?_) fun hb71 => ?_
     ·refine sm 15 rfl <| nL <| Tr.condT rfl <| tQ <| tG <| sm 1 rfl <| nL <| tRt <| rOk rfl ?_ nPo
      have hsh : z6s x y = false := by
        clear hd hdw hm hi hw hI1
        simp_all [z6s]
      rw [hI1, hd, hdw]
      simp [z4n, z5o, hsh]
     refine sm 4 rfl <| WL.yes rfl rfl rfl rfl rfl rfl (z1q (z5p _ _) ent27 rfl rfl (sRf _ _) rfl) <| sm 3 rfl ?_
     refine wS 79 rfl (fun hb79 => ?_) fun hb79 => ?_
     ·refine sm 7 rfl <| nL <| Tr.condT rfl <| tQ <| tG <| sm 1 rfl <| nL <| tRt <| rOk rfl ?_ nPo
      have hsh : z6s x y = false := by
        clear hd hdw hm hi hw hI1
        simp_all [z6s]
      rw [hI1, hd, hdw]
      simp [z4n, z5o, hsh]
     refine sm 4 rfl <| WL.yes rfl rfl rfl rfl rfl rfl (z1q (z5p _ _) ent27 rfl rfl (sRf _ _) rfl) <| sm 2 rfl <| nL ?_
     refine tC rfl (fun hc86 => ?_) fun hc86 => ?_
     ·refine tQ <| tG <| sm 1 rfl <| nL <| tRt <| rOk rfl ?_ nPo
      have hsh : z6s x y = false := by
        clear hd hdw hm hi hw hI1
        simp_all [z6s]
      rw [hI1, hd, hdw]
      simp [z4n, z5o, hsh]
     refine tSk <| tQ <| tG <| sm 1 rfl <| nL <| tBk ?_
     have hsh : z6s x y = true := by
       clear hd hdw hm hi hw
       (simp_all [z6s] <;> omega)
     have hkl : x.kids.length = y.kids.length := by
       clear hd hdw hm hi hw
       simp_all [z6s]
     have hstart : z4n a b = (zo1 (x.kids.drop 0) (y.kids.drop 0) && z4n (a.drop (k + 1)) (b.drop (k + 1))) := by
       rw [hI1, hd, hdw]
       simp [z4n, z5o, hsh]
     refine Tr.sub (Sub.of (fr' := [(8, iInt 0), (7, .pv (.ept [vInt y.kind, vInt y.op, vInt y.n, vStr y.name, ints y.args, ints y.outs, ints y.params, kids y.kids] 0)), (6, .pv (.ept [vInt x.kind, vInt x.op, vInt x.n, vStr x.name, ints x.args, ints x.outs, ints x.params, kids x.kids] 0)), (5, iInt k), (0, .pv (z0f a)), (1, .pv (z0f b))]) ⟨rfl, rfl, rfl, rfl, rfl, rfl, trivial⟩) ?_
     refine Tr.loop (fun fr σ m => ∃ (i : Nat), (i <= x.kids.length) /\ (z4n a b = (zo1 (x.kids.drop i) (y.kids.drop i) && z4n (a.drop (k + 1)) (b.drop (k + 1)))) /\ fr = [(8, iInt i), (7, .pv (.ept [vInt y.kind, vInt y.op, vInt y.n, vStr y.name, ints y.args, ints y.outs, ints y.params, kids y.kids] 0)), (6, .pv (.ept [vInt x.kind, vInt x.op, vInt x.n, vStr x.name, ints x.args, ints x.outs, ints x.params, kids x.kids] 0)), (5, iInt k), (0, .pv (z0f a)), (1, .pv (z0f b))] /\ σ = look [] /\ m = x.kids.length - i) (n := x.kids.length - 0) ?_ ?_
     ·exact ⟨0, Nat.zero_le _, hstart, rfl, rfl, rfl⟩
     rintro fr σ m ⟨i, hJ0, hJ1, rfl, rfl, rfl⟩
     refine tQ <| tQ <| tG <| sm 3 rfl ?_
     refine WL.lenOf (t := 89) rfl (fun hl3 => ?_)
     simp only [List.length_map] at hl3
     refine cV rfl (oSm uT40 rfl) <| sm 1 rfl <| nL ?_
     refine tC rfl (fun hc91 => ?_) fun hc91 => ?_
     ·have hlt2 : i < x.kids.length := by simpa using hc91
      have hd2 := List.drop_eq_getElem_cons hlt2
      have hm2 := List.getElem_mem hlt2
      have hi2 := z0d (f := eKid) (List.getElem?_eq_getElem hlt2)
      generalize x.kids[i] = p at hd2 hm2 hi2
      have hdec : SizeOf.sizeOf p < N := Nat.lt_of_lt_of_le (z61 hm rfl hm2) (Nat.le_of_lt_succ hN)
      have hltw2 : i < y.kids.length := by omega
      have hdw2 := List.drop_eq_getElem_cons hltw2
      have hw2 := z0d (f := eKid) (List.getElem?_eq_getElem hltw2)
      generalize y.kids[i] = q at hdw2 hw2
      refine tSk <| tQ <| tBk <| tQ <| tDr z1t (fun k => k ∈ ([] : List Nat)) <| wR 2 [0, 1, 2, 3, 4, 5, 6, 7, 8, 9] kR0 h30 <| smR 3 rfl <| rV rfl rfl (iSq rfl rfl rfl uT40 hi2 tS43 rfl (by rfl)) <| smR 4 rfl <| rV rfl rfl (iSq rfl rfl rfl uT40 hw2 tS43 rfl (by rfl)) <| smR 1 rfl <| nR ?_
      refine wO 10 kR0 <| wI rfl rfl nf nw (fun _ _ => ocq (ih p q hdec) ent28 rfl rfl) <| wR 0 [11] kR0 h30 <| smR 1 rfl <| nR <| wDn kR0 ?_
      refine tC rfl (fun hc105 => ?_) fun hc105 => ?_
      ·refine tQ <| tG <| sm 1 rfl <| nL <| tRt <| rOk rfl ?_ nPo
       have hpq : z4n p q = false := by simpa using hc105
       rw [hJ1, hd2, hdw2]
       simp [zo1, hpq]
      refine tSk <| tG <| sm 1 rfl <| cV rfl (oB rfl rfl (z05 rfl oM0)) <| sm 1 rfl <| nL ?_
      refine ⟨_, _, ?_, Sub.of (fr' := [(8, iInt (i + 1)), (7, .pv (.ept [vInt y.kind, vInt y.op, vInt y.n, vStr y.name, ints y.args, ints y.outs, ints y.params, kids y.kids] 0)), (6, .pv (.ept [vInt x.kind, vInt x.op, vInt x.n, vStr x.name, ints x.args, ints x.outs, ints x.params, kids x.kids] 0)), (5, iInt k), (0, .pv (z0f a)), (1, .pv (z0f b))]) ⟨rfl, rfl, rfl, rfl, rfl, rfl, trivial⟩, (i + 1), ?_, ?_, rfl, rfl, rfl⟩
      ·omega
      ·omega
      rw [hJ1, hd2, hdw2]
      have : z4n p q = true := by simpa using hc105
      simp [zo1, this]
     refine tEx <| tG <| sm 1 rfl <| cV rfl (oB rfl rfl (z05 rfl oM0)) <| sm 1 rfl <| nL ?_
     refine ⟨_, _, ?_, Sub.of (fr' := [(5, iInt (k + 1)), (0, .pv (z0f a)), (1, .pv (z0f b))]) ⟨rfl, rfl, rfl, trivial⟩, (k + 1), ?_, ?_, rfl, rfl, rfl⟩
     ·omega
     ·omega
     have hz1 : x.kids.drop i = [] := List.drop_eq_nil_of_le (by simpa using hc91)
     have hz2 : y.kids.drop i = [] := List.drop_eq_nil_of_le (by rw [<- hkl]; simpa using hc91)
     rw [hJ1, hz1, hz2]
     simp [zo1]
    refine tEx <| tQ <| tG <| sm 1 rfl <| nL <| tRt <| rOk rfl ?_ nPo
    have hge : a.length <= k := by simpa using hc17
    rw [hI1, List.drop_eq_nil_of_le hge, List.drop_eq_nil_of_le oM0]
    rfl
theorem zr1 (a b : List Nd) : SC Tryz.prog 28 [.pv (z0f a), .pv (z0f b)] [] (fun _ => False) (iBool (z4n a b)) [] := zb7 _ a b (Nat.lt_succ_self _)
theorem y9r (u v : Un) : SC Tryz.prog 15 [.pv u.enc, .pv v.enc] [] (fun _ => False) (iBool (z7s u v)) [] := by
  refine SC.of Tryz.func15 rfl (lb rfl) fun F ρ w => ?_
  refine tQ <| tG <| cE rfl (z1y rfl rfl) <| cE rfl (z1y rfl rfl) <| sm 1 rfl <| nL <| tQ <| tQ <| tG <| sm 2 rfl <| cV rfl (oSm uT22 rfl) <| sm 2 rfl ?_
  refine cV rfl (oSm uT22 rfl) <| sm 2 rfl ?_
  refine wS 16 rfl (fun hb16 => ?_) fun hb16 => ?_
  ·refine sm 8 rfl <| nL <| Tr.condT rfl <| tQ <| tG <| sm 1 rfl <| nL <| tRt <| rOk rfl ?_ nPo
   refine congrArg (fun b => iBool b) ?_
   have hne : ¬ (u.arrays.length = v.arrays.length /\ u.flows.length = v.flows.length) := by
     rintro ⟨h1, h2⟩
     simp_all
   unfold z7s
   by_cases h1 : u.arrays.length = v.arrays.length
   ·have h2 : ¬ u.flows.length = v.flows.length := fun h2 => hne ⟨h1, h2⟩
    simp [h2]
   simp [h1]
  refine sm 2 rfl <| yV rfl rfl (oSm uT23 rfl) <| sm 2 rfl <| yV rfl rfl (oSm uT23 rfl) <| sm 2 rfl <| nL ?_
  refine tC rfl (fun hc24 => ?_) fun hc24 => ?_
  ·refine tQ <| tG <| sm 1 rfl <| nL <| tRt <| rOk rfl ?_ nPo
   refine congrArg (fun b => iBool b) ?_
   have hne : ¬ (u.arrays.length = v.arrays.length /\ u.flows.length = v.flows.length) := by
     rintro ⟨h1, h2⟩
     simp_all
   unfold z7s
   by_cases h1 : u.arrays.length = v.arrays.length
   ·have h2 : ¬ u.flows.length = v.flows.length := fun h2 => hne ⟨h1, h2⟩
    simp [h2]
   simp [h1]
  have hlen : u.arrays.length = v.arrays.length /\ u.flows.length = v.flows.length := by
    (simp_all <;> omega)
  refine tSk <| tQ <| tQ <| tG <| sm 1 rfl <| nL <| tBk <| Tr.sub (Sub.of (fr' := [(5, iInt 0), (2, .pv (.ept [arrs u.arrays, flws u.flows] 0)), (3, .pv (.ept [arrs v.arrays, flws v.flows] 0))]) ⟨rfl, rfl, rfl, trivial⟩) ?_
  refine Tr.loop (fun fr σ m => ∃ (k : Nat), (k <= u.arrays.length) /\ (z9f u.arrays v.arrays = z9f (u.arrays.drop k) (v.arrays.drop k)) /\ fr = [(5, iInt k), (2, .pv (.ept [arrs u.arrays, flws u.flows] 0)), (3, .pv (.ept [arrs v.arrays, flws v.flows] 0))] /\ σ = look [] /\ m = u.arrays.length - k) (n := u.arrays.length - 0) ?_ ?_
  ·exact ⟨0, Nat.zero_le _, rfl, rfl, rfl, rfl⟩
  rintro fr σ m ⟨k, hI0, hI1, rfl, rfl, rfl⟩
  refine tQ <| tQ <| tG <| sm 3 rfl ?_
  refine WL.lenOf (t := 27) rfl (fun hl1 => ?_)
  simp only [List.length_map] at hl1
  refine cV rfl (oSm uT22 rfl) <| sm 1 rfl <| nL ?_
  refine tC rfl (fun hc29 => ?_) fun hc29 => ?_
  ·have hlt : k < u.arrays.length := by simpa using hc29
   have hd := List.drop_eq_getElem_cons hlt
   have hm := List.getElem_mem hlt
   have hi := z0d (f := Ar.enc) (List.getElem?_eq_getElem hlt)
   generalize u.arrays[k] = x at hd hm hi
   have hltw : k < v.arrays.length := by omega
   have hdw := List.drop_eq_getElem_cons hltw
   have hw := z0d (f := Ar.enc) (List.getElem?_eq_getElem hltw)
   generalize v.arrays[k] = y at hdw hw
   refine tSk <| tQ <| tBk <| tQ <| Tr.still z1t kR0 rfl <| smS 3 rfl <| sV rfl (iSq rfl rfl rfl uT22 hi tS49 rfl (by rfl)) <| sV rfl (lEA rfl rfl Tryz.underlying49 rfl tS49 (lb rfl)) <| smS 3 rfl <| sV rfl (iSq rfl rfl rfl uT22 hw tS49 rfl (by rfl)) <| sV rfl (lEA rfl rfl Tryz.underlying49 rfl tS49 (lb rfl)) <| sV rfl (zw6 rfl rfl rfl Tryz.underlying49 uT9 uT3 rfl rfl dC0 dC0 kR0 kR0) ?_
   refine WS.nil ?_
   refine tC rfl (fun hc42 => ?_) fun hc42 => ?_
   ·refine tQ <| tG <| sm 1 rfl <| nL <| tRt <| rOk rfl ?_ nPo
    have hxy : y66 x y = false := by
      clear hd hdw hm hi hw hI1
      cases hb1 : (x.name.toList == y.name.toList) <;> cases hb2 : (x.size == y.size) <;> simp_all [y66]
    have hA : z9f u.arrays v.arrays = false := by rw [hI1, hd, hdw]; simp [z9f, hxy]
    simp [z7s, hA]
   refine tSk <| tG <| sm 1 rfl <| cV rfl (oB rfl rfl (z05 rfl oM0)) <| sm 1 rfl <| nL ?_
   refine ⟨_, _, ?_, Sub.of (fr' := [(5, iInt (k + 1)), (2, .pv (.ept [arrs u.arrays, flws u.flows] 0)), (3, .pv (.ept [arrs v.arrays, flws v.flows] 0))]) ⟨rfl, rfl, rfl, trivial⟩, (k + 1), ?_, ?_, rfl, rfl, rfl⟩
   ·omega
   ·omega
   rw [hI1, hd, hdw]
   have hxy : y66 x y = true := by
     clear hd hdw hm hi hw
     simp_all [y66]
   simp [z9f, hxy]
  refine tEx <| tQ <| tQ ?_
  have hAs : z9f u.arrays v.arrays = true := by
    have hge : u.arrays.length <= k := by simpa using hc29
    rw [hI1, List.drop_eq_nil_of_le hge, List.drop_eq_nil_of_le oM0]
    rfl
  refine tG <| sm 1 rfl <| nL <| tBk <| Tr.sub (Sub.of (fr' := [(6, iInt 0), (2, .pv (.ept [arrs u.arrays, flws u.flows] 0)), (3, .pv (.ept [arrs v.arrays, flws v.flows] 0))]) ⟨rfl, rfl, rfl, trivial⟩) ?_
  refine Tr.loop (fun fr σ m => ∃ (k : Nat), (k <= u.flows.length) /\ (z4w u.flows v.flows = z4w (u.flows.drop k) (v.flows.drop k)) /\ fr = [(6, iInt k), (2, .pv (.ept [arrs u.arrays, flws u.flows] 0)), (3, .pv (.ept [arrs v.arrays, flws v.flows] 0))] /\ σ = look [] /\ m = u.flows.length - k) (n := u.flows.length - 0) ?_ ?_
  ·exact ⟨0, Nat.zero_le _, rfl, rfl, rfl, rfl⟩
  rintro fr σ m ⟨k, hI0, hI1, rfl, rfl, rfl⟩
  refine tQ <| tQ <| tG <| sm 3 rfl ?_
  refine WL.lenOf (t := 45) rfl (fun hl1 => ?_)
  simp only [List.length_map] at hl1
  refine cV rfl (oSm uT23 rfl) <| sm 1 rfl <| nL ?_
  refine tC rfl (fun hc47 => ?_) fun hc47 => ?_
  ·have hlt : k < u.flows.length := by simpa using hc47
   have hd := List.drop_eq_getElem_cons hlt
   have hm := List.getElem_mem hlt
   have hi := z0d (f := Fl.enc) (List.getElem?_eq_getElem hlt)
   generalize u.flows[k] = x at hd hm hi
   have hltw : k < v.flows.length := by omega
   have hdw := List.drop_eq_getElem_cons hltw
   have hw := z0d (f := Fl.enc) (List.getElem?_eq_getElem hltw)
   generalize v.flows[k] = y at hdw hw
   refine tSk <| tQ <| tBk <| tQ ?_
   refine Tr.cut (fr' := [(8, .ptr 108 0), (7, .ptr 107 0), (6, iInt k), (2, .pv (.ept [arrs u.arrays, flws u.flows] 0)), (3, .pv (.ept [arrs v.arrays, flws v.flows] 0))]) (σ' := look [(107, some (.box [iStr x.name, iInt x.ty, iInt x.params, .pv (ints x.types), .pv (z0f x.body)])), (108, some (.box [iStr y.name, iInt y.ty, iInt y.params, .pv (ints y.types), .pv (z0f y.body)]))]) ?_ ?_
   ·refine tDr z1t (fun k => k ∈ ([] : List Nat)) <| wR 4 [0, 1, 2, 3, 4, 5, 6, 7, 8, 9] kR0 (fun _ _ _ h => pn h.1) <| smR 3 rfl <| rV rfl rfl (iSq rfl rfl rfl uT23 hi tS51 rfl (by rfl)) <| rV rfl rfl (lEA rfl rfl Tryz.underlying51 rfl tS51 (lb rfl)) <| smR 3 rfl <| rV rfl rfl (iSq rfl rfl rfl uT23 hw tS51 rfl (by rfl)) <| rV rfl rfl (lEA rfl rfl Tryz.underlying51 rfl tS51 (lb rfl)) <| nR <| WA.all (rs := [10, 11]) kR0 sI0 ?_
    refine fmc ⟨?_, fmc ⟨?_, by simp⟩⟩
    ·refine wI rfl rfl nf (z1n rfl) (fun _ _ => aLc (k := 107) rfl tZ51 rfl rfl rfl rfl) <| wO 11 kR0 <| wI rfl rfl nf (z1n rfl) (fun _ _ => aLc (k := 108) rfl tZ51 rfl rfl rfl rfl) <| wO 12 kR0 <| wI rfl rfl nf (nOl rfl) (fun _ _ => sBA rfl rfl rfl rfl rfl sI0 tS51 (flk rfl) (lb rfl)) <| wO 13 kR0 <| wI rfl rfl nf (nOl rfl) (fun _ _ => sBA rfl rfl rfl rfl rfl sI0 tS51 (flk rfl) (lb rfl)) <| wDn kR0 ?_
     refine ⟨rfl, Sub.of ⟨rfl, rfl, rfl, rfl, rfl, trivial⟩, ?_⟩
     exact zh8 rfl rfl (fun k h1 h2 => by simp [look, z12 (Ne.symm h1), z12 (Ne.symm h2)]) dC0
    refine wI rfl rfl nf (z1n rfl) (fun _ _ => aLc (k := 108) rfl tZ51 rfl rfl rfl rfl) <| wO 10 kR0 <| wI rfl rfl nf (z1n rfl) (fun _ _ => aLc (k := 107) rfl tZ51 rfl rfl rfl rfl) <| wO 12 kR0 <| wI rfl rfl nf (nOl rfl) (fun _ _ => sBA rfl rfl rfl rfl rfl sI0 tS51 (flk rfl) (lb rfl)) <| wO 13 kR0 <| wI rfl rfl nf (nOl rfl) (fun _ _ => sBA rfl rfl rfl rfl rfl sI0 tS51 (flk rfl) (lb rfl)) <| wDn kR0 ?_
    refine ⟨rfl, Sub.of ⟨rfl, rfl, rfl, rfl, rfl, trivial⟩, ?_⟩
    exact zh8 rfl rfl (fun k h1 h2 => by simp [look, z12 (Ne.symm h1), z12 (Ne.symm h2)]) dC0
   refine Tr.freezeBox (t := 7) (k := 107) rfl rfl rfl <| Tr.freezeBox (t := 8) (k := 108) rfl rfl rfl <| Tr.heap (σ' := look []) (fun k => by simp only [look]; cases Nat.beq 107 k <;> cases Nat.beq 108 k <;> rfl) <| tQ <| tG <| sm 4 rfl <| cV rfl (bSt rfl rfl rfl rfl) <| sm 1 rfl ?_
   refine wS 65 rfl (fun hb65 => ?_) fun hb65 => ?_
   ·refine sm 29 rfl <| nL <| Tr.condT rfl <| tQ <| tG <| sm 1 rfl <| nL <| tRt <| rOk rfl ?_ nPo
    have hxy : zb5 x y = false := by
      clear hd hdw hm hi hw hI1
      simp_all [zb5]
    have hF : z4w u.flows v.flows = false := by rw [hI1, hd, hdw]; simp [z4w, hxy]
    simp [z7s, hF]
   refine sm 7 rfl ?_
   refine wS 72 rfl (fun hb72 => ?_) fun hb72 => ?_
   ·refine sm 22 rfl <| nL <| Tr.condT rfl <| tQ <| tG <| sm 1 rfl <| nL <| tRt <| rOk rfl ?_ nPo
    have hxy : zb5 x y = false := by
      clear hd hdw hm hi hw hI1
      simp_all [zb5]
    have hF : z4w u.flows v.flows = false := by rw [hI1, hd, hdw]; simp [z4w, hxy]
    simp [z7s, hF]
   refine sm 7 rfl ?_
   refine wS 79 rfl (fun hb79 => ?_) fun hb79 => ?_
   ·refine sm 15 rfl <| nL <| Tr.condT rfl <| tQ <| tG <| sm 1 rfl <| nL <| tRt <| rOk rfl ?_ nPo
    have hxy : zb5 x y = false := by
      clear hd hdw hm hi hw hI1
      simp_all [zb5]
    have hF : z4w u.flows v.flows = false := by rw [hI1, hd, hdw]; simp [z4w, hxy]
    simp [z7s, hF]
   refine sm 4 rfl <| WL.yes rfl rfl rfl rfl rfl rfl (z1q (z5p _ _) ent27 rfl rfl (sRf _ _) rfl) <| sm 3 rfl ?_
   refine wS 87 rfl (fun hb87 => ?_) fun hb87 => ?_
   ·refine sm 7 rfl <| nL <| Tr.condT rfl <| tQ <| tG <| sm 1 rfl <| nL <| tRt <| rOk rfl ?_ nPo
    have hxy : zb5 x y = false := by
      clear hd hdw hm hi hw hI1
      simp_all [zb5]
    have hF : z4w u.flows v.flows = false := by rw [hI1, hd, hdw]; simp [z4w, hxy]
    simp [z7s, hF]
   refine sm 4 rfl <| WL.yes rfl rfl rfl rfl rfl rfl (z1q (zr1 _ _) ent28 rfl rfl (sRf _ _) rfl) <| sm 2 rfl <| nL ?_
   refine tC rfl (fun hc94 => ?_) fun hc94 => ?_
   ·refine tQ <| tG <| sm 1 rfl <| nL <| tRt <| rOk rfl ?_ nPo
    have hxy : zb5 x y = false := by
      clear hd hdw hm hi hw hI1
      simp_all [zb5]
    have hF : z4w u.flows v.flows = false := by rw [hI1, hd, hdw]; simp [z4w, hxy]
    simp [z7s, hF]
   refine tSk <| tG <| sm 1 rfl <| cV rfl (oB rfl rfl (z05 rfl oM0)) <| sm 1 rfl <| nL ?_
   refine ⟨_, _, ?_, Sub.of (fr' := [(6, iInt (k + 1)), (2, .pv (.ept [arrs u.arrays, flws u.flows] 0)), (3, .pv (.ept [arrs v.arrays, flws v.flows] 0))]) ⟨rfl, rfl, rfl, trivial⟩, (k + 1), ?_, ?_, rfl, rfl, rfl⟩
   ·omega
   ·omega
   rw [hI1, hd, hdw]
   have hxy : zb5 x y = true := by
     clear hd hdw hm hi hw
     simp_all [zb5]
   simp [z4w, hxy]
  refine tEx <| tQ <| tG <| sm 1 rfl <| nL <| tRt <| rOk rfl ?_ nPo
  have hge : u.flows.length <= k := by simpa using hc47
  have hF : z4w u.flows v.flows = true := by rw [hI1, List.drop_eq_nil_of_le hge, List.drop_eq_nil_of_le oM0]; rfl
  simp [z7s, hAs, hF, hlen.1, hlen.2]
theorem y9q (u : Un) (f : Fl) (hg : ∀ g ∈ u.flows, 0 <= g.params /\ g.params <= g.types.length) (hb : lsW f.body <= 536870912) : SC Tryz.prog 33 [.pv u.enc, .pv (.agg f.enc)] [] (fun _ => False) (iBool (z2s u f)) [] := by
  refine SC.of Tryz.func33 rfl (lb rfl) fun F ρ w => ?_
  refine tQ <| tG <| cE rfl (z1y rfl rfl) <| cE rfl (z1y rfl rfl) <| sm 1 rfl <| nL <| tQ <| tQ <| tG <| sm 4 rfl ?_
  refine wS 12 rfl (fun hb12 => ?_) fun hb12 => ?_
  ·refine sm 18 rfl <| nL <| Tr.condT rfl <| tQ <| tG <| sm 1 rfl <| nL <| tRt <| rOk rfl ?_ nPo
   refine congrArg (fun b => iBool b) ?_
   have hno : (!decide (f.params < 0) && !decide (f.params > 8) && !decide (f.params > f.types.length) && !decide ((f.types.length : Int) > 20000)) = false := by
     simp_all
   simp only [z2s, hno, Bool.false_and]
  refine sm 5 rfl ?_
  refine wS 17 rfl (fun hb17 => ?_) fun hb17 => ?_
  ·refine sm 13 rfl <| nL <| Tr.condT rfl <| tQ <| tG <| sm 1 rfl <| nL <| tRt <| rOk rfl ?_ nPo
   refine congrArg (fun b => iBool b) ?_
   have hno : (!decide (f.params < 0) && !decide (f.params > 8) && !decide (f.params > f.types.length) && !decide ((f.types.length : Int) > 20000)) = false := by
     simp_all
   simp only [z2s, hno, Bool.false_and]
  refine sm 4 rfl <| yV rfl rfl (oSm uT35 rfl) <| sm 3 rfl ?_
  refine wS 25 rfl (fun hb25 => ?_) fun hb25 => ?_
  ·refine sm 5 rfl <| nL <| Tr.condT rfl <| tQ <| tG <| sm 1 rfl <| nL <| tRt <| rOk rfl ?_ nPo
   refine congrArg (fun b => iBool b) ?_
   have hno : (!decide (f.params < 0) && !decide (f.params > 8) && !decide (f.params > f.types.length) && !decide ((f.types.length : Int) > 20000)) = false := by
     simp_all
   simp only [z2s, hno, Bool.false_and]
  ·refine sm 2 rfl <| yV rfl rfl (oSm uT35 rfl) <| sm 2 rfl <| nL ?_
   refine tC rfl (fun hc30 => ?_) fun hc30 => ?_
   ·refine tQ <| tG <| sm 1 rfl <| nL <| tRt <| rOk rfl ?_ nPo
    refine congrArg (fun b => iBool b) ?_
    have hno : (!decide (f.params < 0) && !decide (f.params > 8) && !decide (f.params > f.types.length) && !decide ((f.types.length : Int) > 20000)) = false := by
      simp_all
    simp only [z2s, hno, Bool.false_and]
   ·have hpar : 0 <= f.params /\ f.params <= 8 /\ f.params <= f.types.length /\ f.types.length <= 20000 := by
      (simp_all <;> omega)
    refine tSk <| tQ <| tQ <| tG <| sm 1 rfl <| nL <| tBk <| Tr.sub (Sub.of (fr' := [(5, iInt 0), (2, .pv (.ept [arrs u.arrays, flws u.flows] 0)), (3, .pv (.ept [vStr f.name, vInt f.ty, vInt f.params, ints f.types, z0f f.body] 0))]) ⟨rfl, rfl, rfl, trivial⟩) ?_
    refine Tr.loop (fun fr σ m => ∃ (k : Nat), (k <= f.types.length) /\ (f.types.all (fun t => t == 1 || t == 2) = (f.types.drop k).all (fun t => t == 1 || t == 2)) /\ fr = [(5, iInt k), (2, .pv (.ept [arrs u.arrays, flws u.flows] 0)), (3, .pv (.ept [vStr f.name, vInt f.ty, vInt f.params, ints f.types, z0f f.body] 0))] /\ σ = look [] /\ m = f.types.length - k) (n := f.types.length - 0) ?_ ?_
    ·exact ⟨0, Nat.zero_le _, rfl, rfl, rfl, rfl⟩
    rintro fr σ m ⟨k, hI0, hI1, rfl, rfl, rfl⟩
    refine tQ <| tQ <| tG <| sm 3 rfl <| cV rfl (oSm uT35 rfl) <| sm 1 rfl <| nL ?_
    refine tC rfl (fun hc35 => ?_) fun hc35 => ?_
    ·have hlt : k < f.types.length := by simpa using hc35
     have hd := List.drop_eq_getElem_cons hlt
     have hm := List.getElem_mem hlt
     have hi := z0d (f := eInt) (List.getElem?_eq_getElem hlt)
     generalize f.types[k] = x at hd hm hi
     refine tSk <| tQ <| tBk <| tQ <| tG <| sm 3 rfl <| cV rfl (iSq rfl rfl rfl uT35 hi tS3 rfl (by rfl)) <| sm 3 rfl ?_
     refine wS 44 rfl (fun hb44 => ?_) fun hb44 => ?_
     ·refine sm 3 rfl <| yV rfl rfl (iSq rfl rfl rfl uT35 hi tS3 rfl (by rfl)) <| sm 3 rfl <| nL ?_
      refine tC rfl (fun hc51 => ?_) fun hc51 => ?_
      ·refine tQ <| tG <| sm 1 rfl <| nL <| tRt <| rOk rfl ?_ nPo
       have hx : (x == 1 || x == 2) = false := by
         clear hd hm hi hI1
         simp_all
       have hty : f.types.all (fun t => t == 1 || t == 2) = false := by rw [hI1, hd]; simp only [List.all_cons, hx, Bool.false_and]
       simp only [z2s, hty, Bool.and_false, Bool.false_and]
      refine tSk <| tG <| sm 1 rfl <| cV rfl (oB rfl rfl (z05 rfl oM0)) <| sm 1 rfl <| nL ?_
      refine ⟨_, _, ?_, Sub.of (fr' := [(5, iInt (k + 1)), (2, .pv (.ept [arrs u.arrays, flws u.flows] 0)), (3, .pv (.ept [vStr f.name, vInt f.ty, vInt f.params, ints f.types, z0f f.body] 0))]) ⟨rfl, rfl, rfl, trivial⟩, (k + 1), ?_, ?_, rfl, rfl, rfl⟩
      ·omega
      ·omega
      rw [hI1, hd]
      have hx : (x == 1 || x == 2) = true := by
        clear hd hm hi hI1
        simp_all
      simp only [List.all_cons, hx, Bool.true_and]
     refine sm 7 rfl <| nL <| Tr.condF rfl <| tSk <| tG <| sm 1 rfl <| cV rfl (oB rfl rfl (z05 rfl oM0)) <| sm 1 rfl <| nL ?_
     refine ⟨_, _, ?_, Sub.of (fr' := [(5, iInt (k + 1)), (2, .pv (.ept [arrs u.arrays, flws u.flows] 0)), (3, .pv (.ept [vStr f.name, vInt f.ty, vInt f.params, ints f.types, z0f f.body] 0))]) ⟨rfl, rfl, rfl, trivial⟩, (k + 1), ?_, ?_, rfl, rfl, rfl⟩
     ·omega
     ·omega
     rw [hI1, hd]
     have hx : (x == 1 || x == 2) = true := by
       clear hd hm hi hI1
       simp_all
     simp only [List.all_cons, hx, Bool.true_and]
    refine tEx <| tQ ?_
    have hty : f.types.all (fun t => t == 1 || t == 2) = true := by
      rw [hI1, List.drop_eq_nil_of_le (by simpa using hc35)]; rfl
    have hpt : f.params.toNat <= f.types.length := by omega
    have hpi : f.params = (f.params.toNat : Int) := by omega
    refine tDr z1t (fun k => k < 3) <| wR 4 [0, 1, 2, 3, 4] kR0 h30 <| rV rfl rfl (lEA rfl rfl uT25 rfl tS25 (lb rfl)) <| rV rfl rfl (lEA rfl rfl Tryz.underlying51 rfl tS51 (lb rfl)) <| smR 2 rfl <| rV rfl rfl (oSm uT35 rfl) <| nR <| wO 5 kR0 <| wI rfl rfl nf (z1n rfl) (fun _ _ => z0w (k := 4) (s := ⟨4, 1⟩) rfl rfl rfl Tryz.underlying86 tZ4 tC4 rfl dC0 oM0 oM0 rfl rfl rfl rfl) <| wR 2 [6] kR0 h30 <| rV rfl rfl (by exact zi0 rfl rfl tZ88 tP88 rfl (zk3 (by (simp [y44, firm1, look, PV.one]; exact ⟨_, _, ⟨rfl, rfl⟩, by simp⟩)))) <| nR ?_
    refine wO 7 kR0 <| wI rfl rfl nf (z1n rfl) (fun _ _ => zm1 (k := 3) rfl rfl rfl rfl rfl rfl rfl) <| wR 0 [8] kR0 h30 <| smR 1 rfl <| nR <| wDn kR0 <| tQ <| tG <| sm 1 rfl <| nL <| tQ <| tQ ?_
    refine Tr.grow (t := 7) (k := 107) ⟨3, 1⟩ rfl rfl rfl rfl rfl <| tG <| sm 1 rfl <| nL <| tBk <| Tr.sub (Sub.of (fr' := [(8, iInt 0), (7, .sl 107 (iota 0).length), (6, .ptr 3 0), (2, .pv (.ept [arrs u.arrays, flws u.flows] 0)), (3, .pv (.ept [vStr f.name, vInt f.ty, vInt f.params, ints f.types, z0f f.body] 0))]) ⟨rfl, rfl, rfl, rfl, rfl, trivial⟩) ?_
    refine Tr.heap (σ' := look ((107, some (.row ⟨3, 1⟩ ((iota 0).map eInt))) :: up (ckHp u f 4 (z3e 0 f.types.length)))) (fun k => by
  rw [show (z3e 0 f.types.length) = List.replicate f.types.length false by simp [z3e]]
  simp only [ckHp, up, List.map_cons, List.map_nil, look, List.length_map, List.length_replicate, List.map_replicate, iota, List.range_zero]
  by_cases h3 : 3 = k
  · subst h3; rfl
  · by_cases h4 : 4 = k
    · subst h4; rfl
    · simp [z12 h3, z12 h4]) ?_
    refine Tr.loop (fun fr σ m => ∃ (k : Nat), (k <= f.params.toNat) /\ fr = [(8, iInt k), (7, .sl 107 (iota k).length), (6, .ptr 3 0), (2, .pv (.ept [arrs u.arrays, flws u.flows] 0)), (3, .pv (.ept [vStr f.name, vInt f.ty, vInt f.params, ints f.types, z0f f.body] 0))] /\ σ = look ((107, some (.row ⟨3, 1⟩ ((iota k).map eInt))) :: up (ckHp u f 4 (z3e k f.types.length))) /\ m = f.params.toNat - k) (n := f.params.toNat - 0) ?_ ?_
    ·exact ⟨0, Nat.zero_le _, rfl, rfl, rfl⟩
    rintro fr σ m ⟨k, hJ0, rfl, rfl, rfl⟩
    refine tQ <| tQ <| tG <| sm 4 rfl <| nL ?_
    refine tC rfl (fun hc63 => ?_) fun hc63 => ?_
    ·have hkp : k < f.params.toNat := by simp at hc63; omega
     have hkt : k < f.types.length := by omega
     have hil := z9o k
     have hst : ((z3e k f.types.length).map zg9)[k]? = some [vBool false] := by
       rw [List.getElem?_map]
       simp only [z3e]
       rw [List.getElem?_append_right sI0]
       simp [List.getElem?_replicate, zg9]
       omega
     have hstl : k < ((z3e k f.types.length).map zg9).length := by rw [List.length_map, z3x oM0]; exact hkt
     refine tSk <| tQ <| tBk <| tQ <| tG <| sm 1 rfl <| cV rfl (nCk rfl rfl rfl) <| sm 3 rfl <| cV rfl (iRw rfl rfl rfl rfl rfl Tryz.underlying86 tS4 (by assumption) (by rfl)) <| c0 (z1s rfl rfl rfl rfl rfl (Nat.add_zero _).symm (by assumption) sI0 tS4 rfl ((fun h => h))) <| nL <| tG ?_
     refine sm 2 rfl <| cE rfl (bSl rfl rfl uT35 tZ3 tS3 rfl rfl rfl rfl (fbk rfl) rfl) ?_
     refine cE rfl (aPp rfl rfl rfl rfl (by (simp; done)) ((fun h => h)) uT35 tB3 dC0 (by (simp [z01]; done)) (by (simp [z01, PV.one]; rfl)) (by simp [maxLen, z01]; omega) (by simp [z01]; omega)) ?_
     refine sm 1 rfl <| nL <| tG <| sm 1 rfl <| cV rfl (oB rfl rfl (z05 rfl oM0)) <| sm 1 rfl <| nL ?_
     refine ⟨_, _, ?_, Sub.of (fr' := [(8, iInt (k + 1)), (7, .sl 107 (iota (k + 1)).length), (6, .ptr 3 0), (2, .pv (.ept [arrs u.arrays, flws u.flows] 0)), (3, .pv (.ept [vStr f.name, vInt f.ty, vInt f.params, ints f.types, z0f f.body] 0))]) ⟨rfl, congrArg (fun z => some (IV.sl 107 z)) (by (simp [z9o, z01]; done)), rfl, rfl, rfl, trivial⟩, (k + 1), ?_, rfl, (funext fun j => by
  rw [<- y5b hkt, <- y8j, List.map_append]
  simp only [ckHp, up, List.map_cons, List.map_nil, look, List.length_map, List.length_set]
  by_cases h7 : 107 = j
  · subst h7; rfl
  · by_cases h4 : 4 = j
    · subst h4; simp [List.map_set, zg9, show Nat.beq 3 4 = false from rfl, show Nat.beq 107 4 = false from rfl]
    · by_cases h3 : 3 = j
      · subst h3; simp [show Nat.beq 4 3 = false from rfl, show Nat.beq 107 3 = false from rfl]
      · simp [z12 h3, z12 h4, z12 h7]), rfl⟩
     all_goals omega
    refine tEx <| tQ ?_
    have hkp : k = f.params.toNat := by simp at hc63; omega
    subst hkp
    have hbl : (iota f.params.toNat).length + lsW f.body <= 1073741824 := by rw [z9o]; omega
    refine tG <| sm 4 rfl <| cV rfl (bPu rfl rfl tZ90 tP90 rfl (fbk rfl) rfl) <| cE rfl (z3a (fun k => k = 107) (y9t u f hg f.body 1 z1z (iota f.params.toNat) (z3e f.params.toNat f.types.length) ⟨by omega, by omega⟩ (z3x hpt) hbl) y06 rfl rfl (sSm rfl (sSm rfl (sSm rfl (Subs.cons (fun _ _ _ _ h => z42 (q := whv z1z) (PSub.agg (ps := [vBool false, vBool false, .val (.slice none 0 0), .val (.slice none 0 0), .val (.slice none 0 0)]) (And.intro (PSub.refl _) (And.intro (PSub.refl _) (And.intro PSub.nil (And.intro PSub.nil (And.intro PSub.nil trivial)))))) h) (sSm rfl Subs.nil))))) (And.intro LendOf.same (And.intro LendOf.same (And.intro (LendOf.row rfl rfl (by (simp; done)) (by rfl)) (And.intro LendOf.same (And.intro LendOf.same (trivial)))))) (fun k h => by subst h; rfl) (po2 rfl rfl) rfl (fun k (h : _) => (show False from h).elim) ⟨_, rfl⟩ (z3h (z3b ..))) <| sm 1 rfl <| nL <| tRt <| rOk rfl ?_ nPo
    have hno : (!decide (f.params < 0) && !decide (f.params > 8) && !decide (f.params > f.types.length) && !decide ((f.types.length : Int) > 20000)) = true := by
      simp
      omega
    simp only [z2s, hno, hty, Bool.true_and]
theorem y1e (u : Un) : SC Tryz.prog 32 [.pv u.enc] [] (fun _ => False) (iBool (z0r u)) [] := by
  refine SC.of Tryz.func32 rfl (lb rfl) fun F ρ w => ?_
  refine tQ <| tG <| cE rfl (z1y rfl rfl) <| sm 1 rfl <| nL <| tQ <| tQ <| tG <| sm 1 rfl <| nL <| tBk <| Tr.sub (Sub.of (fr' := [(3, iInt 0), (1, .pv (.ept [arrs u.arrays, flws u.flows] 0))]) ⟨rfl, rfl, trivial⟩) ?_
  refine Tr.loop (fun fr σ m => ∃ (k : Nat), (k <= u.arrays.length) /\ (r8gA u u.arrays 0 = r8gA u (u.arrays.drop k) k) /\ fr = [(3, iInt k), (1, .pv (.ept [arrs u.arrays, flws u.flows] 0))] /\ σ = look [] /\ m = u.arrays.length - k) (n := u.arrays.length - 0) ?_ ?_
  ·exact ⟨0, Nat.zero_le _, rfl, rfl, rfl, rfl⟩
  rintro fr σ m ⟨k, hI0, hI1, rfl, rfl, rfl⟩
  refine tQ <| tQ <| tG <| sm 3 rfl ?_
  refine WL.lenOf (t := 10) rfl (fun hl1 => ?_)
  simp only [List.length_map] at hl1
  refine cV rfl (oSm uT22 rfl) <| sm 1 rfl <| nL ?_
  refine tC rfl (fun hc12 => ?_) fun hc12 => ?_
  ·have hlt : k < u.arrays.length := by simpa using hc12
   have hd := List.drop_eq_getElem_cons hlt
   have hm := List.getElem_mem hlt
   have hi := z0d (f := Ar.enc) (List.getElem?_eq_getElem hlt)
   generalize u.arrays[k] = x at hd hm hi
   refine tSk <| tQ <| tBk <| tQ <| tG <| sm 3 rfl <| cV rfl (iSq rfl rfl rfl uT22 hi tS49 rfl (by rfl)) <| cV rfl (lEA rfl rfl Tryz.underlying49 rfl tS49 (lb rfl)) <| cE rfl (aLc (k := 104) rfl tZ49 rfl rfl rfl rfl) <| c0 (sBA rfl rfl rfl rfl rfl ((fun h => h)) tS49 (flk rfl) (lb rfl)) <| nL <| tQ ?_
   refine Tr.freezeBox (t := 4) (k := 104) rfl rfl rfl <| Tr.heap (σ' := look []) (fun k => by simp only [look]; cases Nat.beq 104 k <;> rfl) <| tG <| sm 2 rfl <| cE rfl (ocq (y1d _) ent50 rfl rfl) <| sm 2 rfl ?_
   refine wS 24 rfl (fun hb24 => ?_) fun hb24 => ?_
   ·refine sm 24 rfl <| nL <| Tr.condT rfl <| tQ <| tG <| sm 1 rfl <| nL <| tRt <| rOk rfl ?_ nPo
    have hx : gArr u x k = false := by
      clear hd hm hi hI1
      simp_all [gArr]
    have hA : r8gA u u.arrays 0 = false := by rw [hI1, hd]; simp only [r8gA, hx, Bool.false_and]
    simp only [z0r, hA, Bool.false_and]
   refine sm 5 rfl ?_
   refine wS 29 rfl (fun hb29 => ?_) fun hb29 => ?_
   ·refine sm 19 rfl <| nL <| Tr.condT rfl <| tQ <| tG <| sm 1 rfl <| nL <| tRt <| rOk rfl ?_ nPo
    have hx : gArr u x k = false := by
      clear hd hm hi hI1
      simp_all [gArr]
    have hA : r8gA u u.arrays 0 = false := by rw [hI1, hd]; simp only [r8gA, hx, Bool.false_and]
    simp only [z0r, hA, Bool.false_and]
   refine sm 5 rfl ?_
   refine wS 34 rfl (fun hb34 => ?_) fun hb34 => ?_
   ·refine sm 14 rfl <| nL <| Tr.condT rfl <| tQ <| tG <| sm 1 rfl <| nL <| tRt <| rOk rfl ?_ nPo
    have hx : gArr u x k = false := by
      clear hd hm hi hI1
      simp_all [gArr]
    have hA : r8gA u u.arrays 0 = false := by rw [hI1, hd]; simp only [r8gA, hx, Bool.false_and]
    simp only [z0r, hA, Bool.false_and]
   refine yV rfl rfl (lEA rfl rfl uT25 rfl tS25 (lb rfl)) <| sm 2 rfl <| WL.yes rfl rfl rfl rfl rfl rfl (z1q (z91 _ _) ent51 rfl rfl (sRf _ _) rfl) <| sm 4 rfl ?_
   refine wS 42 rfl (fun hb42 => ?_) fun hb42 => ?_
   ·refine sm 6 rfl <| nL <| Tr.condT rfl <| tQ <| tG <| sm 1 rfl <| nL <| tRt <| rOk rfl ?_ nPo
    have hx : gArr u x k = false := by
      clear hd hm hi hI1
      simp_all [gArr]
    have hA : r8gA u u.arrays 0 = false := by rw [hI1, hd]; simp only [r8gA, hx, Bool.false_and]
    simp only [z0r, hA, Bool.false_and]
   refine yV rfl rfl (lEA rfl rfl uT25 rfl tS25 (lb rfl)) <| sm 2 rfl <| WL.yes rfl rfl rfl rfl rfl rfl (z1q (z5v _ _) y59 rfl rfl (sRf _ _) rfl) <| sm 2 rfl <| nL ?_
   refine tC rfl (fun hc48 => ?_) fun hc48 => ?_
   ·refine tQ <| tG <| sm 1 rfl <| nL <| tRt <| rOk rfl ?_ nPo
    have hx : gArr u x k = false := by
      clear hd hm hi hI1
      simp_all [gArr]
    have hA : r8gA u u.arrays 0 = false := by rw [hI1, hd]; simp only [r8gA, hx, Bool.false_and]
    simp only [z0r, hA, Bool.false_and]
   refine tSk <| tG <| sm 1 rfl <| cV rfl (oB rfl rfl (z05 rfl oM0)) <| sm 1 rfl <| nL ?_
   refine ⟨_, _, ?_, Sub.of (fr' := [(3, iInt (k + 1)), (1, .pv (.ept [arrs u.arrays, flws u.flows] 0))]) ⟨rfl, rfl, trivial⟩, (k + 1), ?_, ?_, rfl, rfl, rfl⟩
   ·omega
   ·omega
   rw [hI1, hd]
   have hx : gArr u x k = true := by
     clear hd hm hi hI1
     simp_all [gArr]
   simp only [r8gA, hx, Bool.true_and]
   rfl
  refine tEx <| tQ <| tQ ?_
  have hA : r8gA u u.arrays 0 = true := by
    rw [hI1, List.drop_eq_nil_of_le (by simpa using hc12)]; rfl
  refine tG <| sm 1 rfl <| nL <| tBk <| Tr.sub (Sub.of (fr' := [(5, iInt 0), (1, .pv (.ept [arrs u.arrays, flws u.flows] 0))]) ⟨rfl, rfl, trivial⟩) ?_
  refine Tr.loop (fun fr σ m => ∃ (k : Nat), (k <= u.flows.length) /\ (r8gF u u.flows 0 = r8gF u (u.flows.drop k) k) /\ fr = [(5, iInt k), (1, .pv (.ept [arrs u.arrays, flws u.flows] 0))] /\ σ = look [] /\ m = u.flows.length - k) (n := u.flows.length - 0) ?_ ?_
  ·exact ⟨0, Nat.zero_le _, rfl, rfl, rfl, rfl⟩
  rintro fr σ m ⟨k, hJ0, hJ1, rfl, rfl, rfl⟩
  refine tQ <| tQ <| tG <| sm 3 rfl ?_
  refine WL.lenOf (t := 51) rfl (fun hl2 => ?_)
  simp only [List.length_map] at hl2
  refine cV rfl (oSm uT23 rfl) <| sm 1 rfl <| nL ?_
  refine tC rfl (fun hc53 => ?_) fun hc53 => ?_
  ·have hlt : k < u.flows.length := by simpa using hc53
   have hd := List.drop_eq_getElem_cons hlt
   have hm := List.getElem_mem hlt
   have hi := z0d (f := Fl.enc) (List.getElem?_eq_getElem hlt)
   generalize u.flows[k] = x at hd hm hi
   refine tSk <| tQ <| tBk <| tQ <| tG <| sm 3 rfl <| cV rfl (iSq rfl rfl rfl uT23 hi tS51 rfl (by rfl)) <| cV rfl (lEA rfl rfl Tryz.underlying51 rfl tS51 (lb rfl)) <| cE rfl (aLc (k := 106) rfl tZ51 rfl rfl rfl rfl) <| c0 (sBA rfl rfl rfl rfl rfl ((fun h => h)) tS51 (flk rfl) (lb rfl)) <| nL <| tQ ?_
   refine Tr.freezeBox (t := 6) (k := 106) rfl rfl rfl <| Tr.heap (σ' := look []) (fun k => by simp only [look]; cases Nat.beq 106 k <;> rfl) <| tG <| sm 2 rfl <| cE rfl (ocq (y1d _) ent50 rfl rfl) <| sm 2 rfl ?_
   refine wS 65 rfl (fun hb65 => ?_) fun hb65 => ?_
   ·refine sm 12 rfl <| nUu rfl rfl rfl rfl rfl rfl <| nUu rfl rfl rfl rfl rfl rfl <| nUu rfl rfl rfl rfl rfl rfl <| sm 15 rfl <| nL <| Tr.condT rfl <| tQ <| tG <| sm 1 rfl <| nL <| tRt <| rOk rfl ?_ nPo
    have hx : gFlw u x k = false := by
      clear hd hm hi hJ1
      simp_all [gFlw]
    have hF : r8gF u u.flows 0 = false := by rw [hJ1, hd]; simp only [r8gF, hx, Bool.false_and]
    simp only [z0r, hF, Bool.false_and, Bool.and_false]
   refine yV rfl rfl (lEA rfl rfl uT25 rfl tS25 (lb rfl)) <| sm 2 rfl <| WL.yes rfl rfl rfl rfl rfl rfl (z1q (z5v _ _) y59 rfl rfl (sRf _ _) rfl) <| sm 4 rfl ?_
   refine wS 73 rfl (fun hb73 => ?_) fun hb73 => ?_
   ·refine sm 4 rfl <| nUu rfl rfl rfl rfl rfl rfl <| nUu rfl rfl rfl rfl rfl rfl <| nUu rfl rfl rfl rfl rfl rfl <| sm 15 rfl <| nL <| Tr.condT rfl <| tQ <| tG <| sm 1 rfl <| nL <| tRt <| rOk rfl ?_ nPo
    have hx : gFlw u x k = false := by
      clear hd hm hi hJ1
      simp_all [gFlw]
    have hF : r8gF u u.flows 0 = false := by rw [hJ1, hd]; simp only [r8gF, hx, Bool.false_and]
    simp only [z0r, hF, Bool.false_and, Bool.and_false]
   refine sm 4 rfl ?_
   refine wS 77 rfl (fun hb77 => ?_) fun hb77 => ?_
   ·refine sm 6 rfl ?_
    refine wS 83 rfl (fun hb83 => ?_) fun hb83 => ?_
    ·refine sm 12 rfl <| nL <| Tr.condT rfl <| tQ <| tG <| sm 1 rfl <| nL <| tRt <| rOk rfl ?_ nPo
     have hx : gFlw u x k = false := by
       clear hd hm hi hJ1
       simp_all [gFlw]
     have hF : r8gF u u.flows 0 = false := by rw [hJ1, hd]; simp only [r8gF, hx, Bool.false_and]
     simp only [z0r, hF, Bool.false_and, Bool.and_false]
    refine sm 5 rfl ?_
    refine wS 88 rfl (fun hb88 => ?_) fun hb88 => ?_
    ·refine sm 7 rfl <| nL <| Tr.condT rfl <| tQ <| tG <| sm 1 rfl <| nL <| tRt <| rOk rfl ?_ nPo
     have hx : gFlw u x k = false := by
       clear hd hm hi hJ1
       simp_all [gFlw]
     have hF : r8gF u u.flows 0 = false := by rw [hJ1, hd]; simp only [r8gF, hx, Bool.false_and]
     simp only [z0r, hF, Bool.false_and, Bool.and_false]
    refine sm 4 rfl <| yV rfl rfl (oSm uT35 rfl) <| sm 2 rfl <| nL ?_
    refine tC rfl (fun hc95 => ?_) fun hc95 => ?_
    ·refine tQ <| tG <| sm 1 rfl <| nL <| tRt <| rOk rfl ?_ nPo
     have hx : gFlw u x k = false := by
       clear hd hm hi hJ1
       simp_all [gFlw]
     have hF : r8gF u u.flows 0 = false := by rw [hJ1, hd]; simp only [r8gF, hx, Bool.false_and]
     simp only [z0r, hF, Bool.false_and, Bool.and_false]
    refine tSk <| tG <| sm 1 rfl <| cV rfl (oB rfl rfl (z05 rfl oM0)) <| sm 1 rfl <| nL ?_
    refine ⟨_, _, ?_, Sub.of (fr' := [(5, iInt (k + 1)), (1, .pv (.ept [arrs u.arrays, flws u.flows] 0))]) ⟨rfl, rfl, trivial⟩, (k + 1), ?_, ?_, rfl, rfl, rfl⟩
    ·omega
    ·omega
    rw [hJ1, hd]
    have hx : gFlw u x k = true := by
      clear hd hm hi hJ1
      simp_all [gFlw]
    simp only [r8gF, hx, Bool.true_and]
    rfl
   refine sm 11 rfl ?_
   refine wS 88 rfl (fun hb88 => ?_) fun hb88 => ?_
   ·refine sm 7 rfl <| nL <| Tr.condT rfl <| tQ <| tG <| sm 1 rfl <| nL <| tRt <| rOk rfl ?_ nPo
    have hx : gFlw u x k = false := by
      clear hd hm hi hJ1
      simp_all [gFlw]
    have hF : r8gF u u.flows 0 = false := by rw [hJ1, hd]; simp only [r8gF, hx, Bool.false_and]
    simp only [z0r, hF, Bool.false_and, Bool.and_false]
   refine sm 4 rfl <| yV rfl rfl (oSm uT35 rfl) <| sm 2 rfl <| nL ?_
   refine tC rfl (fun hc95 => ?_) fun hc95 => ?_
   ·refine tQ <| tG <| sm 1 rfl <| nL <| tRt <| rOk rfl ?_ nPo
    have hx : gFlw u x k = false := by
      clear hd hm hi hJ1
      simp_all [gFlw]
    have hF : r8gF u u.flows 0 = false := by rw [hJ1, hd]; simp only [r8gF, hx, Bool.false_and]
    simp only [z0r, hF, Bool.false_and, Bool.and_false]
   refine tSk <| tG <| sm 1 rfl <| cV rfl (oB rfl rfl (z05 rfl oM0)) <| sm 1 rfl <| nL ?_
   refine ⟨_, _, ?_, Sub.of (fr' := [(5, iInt (k + 1)), (1, .pv (.ept [arrs u.arrays, flws u.flows] 0))]) ⟨rfl, rfl, trivial⟩, (k + 1), ?_, ?_, rfl, rfl, rfl⟩
   ·omega
   ·omega
   rw [hJ1, hd]
   have hx : gFlw u x k = true := by
     clear hd hm hi hJ1
     simp_all [gFlw]
   simp only [r8gF, hx, Bool.true_and]
   rfl
  refine tEx <| tQ ?_
  have hF : r8gF u u.flows 0 = true := by
    rw [hJ1, List.drop_eq_nil_of_le (by simpa using hc53)]; rfl
  refine tG <| cV rfl (lEA rfl rfl uT25 rfl tS25 (lb rfl)) <| cE rfl (ocq (z5v _ z0e) y59 rfl rfl) <| sm 1 rfl <| nL <| tQ <| tG <| sm 3 rfl ?_
  refine wS 100 rfl (fun hb100 => ?_) fun hb100 => ?_
  ·have hk0 : z08 z0e u.flows 0 ≥ 0 := by simpa using hb100
   obtain ⟨g, hgk, _⟩ := z8z hk0
   have hgi : (u.flows.map Fl.enc)[(z08 z0e u.flows 0).toNat]? = some g.enc := z0d hgk
   have hgd : u.flows.getD (z08 z0e u.flows 0).toNat y0b = g := by simp [List.getD, hgk]
   refine sm 3 rfl <| yV rfl rfl (iSq rfl rfl rfl uT23 hgi tS51 rfl oM0) <| sm 5 rfl ?_
   refine wS 109 rfl (fun hb109 => ?_) fun hb109 => ?_
   ·refine sm 3 rfl <| yV rfl rfl (iSq rfl rfl rfl uT23 hgi tS51 rfl oM0) <| sm 5 rfl <| nL <| tRt <| rOk rfl ?_ nPo
    refine congrArg (fun b => iBool b) ?_
    simp only [z0r, hA, hF, z7u, Bool.true_and]
    simp_all
   refine sm 9 rfl <| nL <| tRt <| rOk rfl ?_ nPo
   refine congrArg (fun b => iBool b) ?_
   simp only [z0r, hA, hF, z7u, Bool.true_and]
   simp_all
  refine sm 18 rfl <| nL <| tRt <| rOk rfl ?_ nPo
  refine congrArg (fun b => iBool b) ?_
  simp only [z0r, hA, hF, z7u, Bool.true_and]
  (simp_all; intro h; omega)
theorem y6i (u : Un) (hW : z1f u <= 536870912) : SC Tryz.prog 19 [.pv u.enc] [] (fun _ => False) (.tup [iInt (z2q u).1, iInt (z2q u).2]) [] := by
  refine SC.of Tryz.func19 rfl (lb rfl) fun F ρ w => ?_
  refine tQ <| tG <| cE rfl (z1y rfl rfl) <| sm 2 rfl <| nL <| tQ <| tQ <| tG <| cV rfl (lEA rfl rfl uT25 rfl tS25 (lb rfl)) <| cE rfl (ocq (y1e u) ent32 rfl rfl) <| sm 1 rfl <| nL ?_
  refine tC rfl (fun hc7 => ?_) fun hc7 => ?_
  ·refine tQ <| tG <| sm 2 rfl <| nL <| tRt <| rOk rfl ?_ nPo
   have hg : z0r u = false := by simpa using hc7
   simp [z2q, hg]
  have hg : z0r u = true := by simpa using hc7
  refine tSk <| tQ <| tQ <| tG <| sm 1 rfl <| nL <| tBk <| Tr.sub (Sub.of (fr' := [(4, iInt 0), (1, .pv (.ept [arrs u.arrays, flws u.flows] 0))]) ⟨rfl, rfl, trivial⟩) ?_
  refine Tr.loop (fun fr σ m => ∃ (k : Nat), (k <= u.flows.length) /\ (z4l u u.flows 0 = z4l u (u.flows.drop k) k) /\ fr = [(4, iInt k), (1, .pv (.ept [arrs u.arrays, flws u.flows] 0))] /\ σ = look [] /\ m = u.flows.length - k) (n := u.flows.length - 0) ?_ ?_
  ·exact ⟨0, Nat.zero_le _, rfl, rfl, rfl, rfl⟩
  rintro fr σ m ⟨k, hI0, hI1, rfl, rfl, rfl⟩
  refine tQ <| tQ <| tG <| sm 3 rfl ?_
  refine WL.lenOf (t := 10) rfl (fun hl1 => ?_)
  simp only [List.length_map] at hl1
  refine cV rfl (oSm uT23 rfl) <| sm 1 rfl <| nL ?_
  refine tC rfl (fun hc12 => ?_) fun hc12 => ?_
  ·have hlt : k < u.flows.length := by simpa using hc12
   have hd := List.drop_eq_getElem_cons hlt
   have hm := List.getElem_mem hlt
   have hi := z0d (f := Fl.enc) (List.getElem?_eq_getElem hlt)
   generalize u.flows[k] = x at hd hm hi
   refine tSk <| tQ <| tBk <| tQ <| tDr z1t (fun k => k ∈ ([] : List Nat)) <| wR 2 [0, 1, 2, 3, 4, 5] kR0 h30 <| rV rfl rfl (lEA rfl rfl uT25 rfl tS25 (lb rfl)) <| smR 3 rfl <| rV rfl rfl (iSq rfl rfl rfl uT23 hi tS51 rfl (by rfl)) <| rV rfl rfl (lEA rfl rfl Tryz.underlying51 rfl tS51 (lb rfl)) <| nR <| wO 6 kR0 ?_
   refine wI rfl rfl nf nw (fun _ _ => ocq (y9q u x (z7t hg) (y2g hW hm)) ent33 rfl rfl) <| wR 0 [7] kR0 h30 <| smR 1 rfl <| nR <| wDn kR0 ?_
   refine tC rfl (fun hc22 => ?_) fun hc22 => ?_
   ·refine tQ <| tG <| sm 3 rfl <| nL <| tRt <| rOk rfl ?_ nPo
    have hx : z2s u x = false := by simpa using hc22
    simp only [z2q, hg, if_true, hI1, hd, z4l, hx, Bool.false_eq_true, if_false]
   refine tSk <| tG <| sm 1 rfl <| cV rfl (oB rfl rfl (z05 rfl oM0)) <| sm 1 rfl <| nL ?_
   refine ⟨_, _, ?_, Sub.of (fr' := [(4, iInt (k + 1)), (1, .pv (.ept [arrs u.arrays, flws u.flows] 0))]) ⟨rfl, rfl, trivial⟩, (k + 1), ?_, ?_, rfl, rfl, rfl⟩
   ·omega
   ·omega
   rw [hI1, hd]
   have hx : z2s u x = true := by simpa using hc22
   simp only [z4l, hx, if_true]
   rfl
  refine tEx <| tQ <| tG <| sm 2 rfl <| nL <| tRt <| rOk rfl ?_ nPo
  have hge : u.flows.length <= k := by simpa using hc12
  simp only [z2q, hg, if_true, hI1, List.drop_eq_nil_of_le hge, z4l]
theorem y6d (fq : FuncId) (ws : List IV) (pre : List (Nat × HO)) (hon : z34 (pre.map (·.1)) pre = true) (hent : z07 Tryz.prog fq) (p : Int -> Bool) (l : List Int) (h : ∀ x ∈ l, SC Tryz.prog fq ((iInt x) :: ws) pre (fun _ => True) (iBool (p x)) pre) : SC Tryz.prog 89 [.pv (ints l), .fn (.func fq) [] ws] pre (fun _ => True) (iInt (idxP p l 0)) pre := by
  refine SC.of Tryz.func89 rfl (lb rfl) fun F ρ w => ?_
  refine Tr.lenOf (t := 0) rfl (fun hl => ?_)
  simp only [List.length_map] at hl
  refine tQ <| tG <| sm 1 rfl <| nL <| tQ <| tQ <| tG <| sm 1 rfl <| cV rfl (oSm uT35 rfl) <| sm 1 rfl <| nL <| tBk ?_
  refine Tr.sub (Sub.of (fr' := [(8, iInt 0), (7, iInt l.length), (0, .pv (ints l)), (1, .fn (.func fq) [] ws)]) ⟨rfl, rfl, rfl, rfl, trivial⟩) ?_
  refine Tr.loop (fun fr σ m => ∃ (k : Nat), (k <= l.length) /\ (idxP p l 0 = idxP p (l.drop k) k) /\ fr = [(8, iInt k), (7, iInt l.length), (0, .pv (ints l)), (1, .fn (.func fq) [] ws)] /\ σ = look (up pre) /\ m = l.length - k) (n := l.length - 0) ?_ ?_
  ·exact ⟨0, Nat.zero_le _, rfl, rfl, rfl, rfl⟩
  rintro fr σ m ⟨k, hI0, hI1, rfl, rfl, rfl⟩
  refine tQ <| tG <| sm 1 rfl <| nL <| tQ ?_
  refine tC rfl (fun hc9 => ?_) fun hc9 => ?_
  ·have hlt : k < l.length := by simpa using hc9
   have hd := List.drop_eq_getElem_cons hlt
   have hm := List.getElem_mem hlt
   have hi := z0d (f := eInt) (List.getElem?_eq_getElem hlt)
   generalize l[k] = x at hd hm hi
   refine tSk <| tQ <| tBk <| tQ <| tG <| sm 2 rfl <| nL <| tQ <| tG <| sm 3 rfl <| cV rfl (iSq rfl rfl rfl uT35 hi tS3 rfl (by rfl)) <| sm 1 rfl ?_
   refine cE rfl (z7b (h x hm) hent rfl rfl rfl (sRf _ _) (fun _ _ h => h) (by rfl) (fun k (h : _) => trivial) rfl (by assumption)) <| nL ?_
   refine tC rfl (fun hc16 => ?_) fun hc16 => ?_
   ·refine tQ <| tG <| sm 2 rfl <| nL <| tRt <| rOk rfl ?_ (fun k o h => z48 rfl k o h)
    have hx : p x = true := by simpa using hc16
    rw [hI1, hd]
    simp only [idxP, hx, if_true]
   refine tSk <| tG <| cV rfl (oB rfl rfl (z05 rfl oM0)) <| sm 1 rfl <| nL ?_
   refine ⟨_, _, ?_, Sub.of (fr' := [(8, iInt (k + 1)), (7, iInt l.length), (0, .pv (ints l)), (1, .fn (.func fq) [] ws)]) ⟨rfl, rfl, rfl, rfl, trivial⟩, (k + 1), ?_, ?_, rfl, (z27 rfl), rfl⟩
   ·omega
   ·omega
   rw [hI1, hd]
   have hx : p x = false := by simpa using hc16
   simp only [idxP, hx, Bool.false_eq_true, if_false]
   rfl
  refine tEx <| tQ <| tG <| sm 1 rfl <| nL <| tRt <| rOk rfl ?_ (fun _ _ h => h)
  have hge : l.length <= k := by simpa using hc9
  rw [hI1, List.drop_eq_nil_of_le hge]
  rfl
theorem y6a (fq : FuncId) (ws : List IV) (pre : List (Nat × HO)) (hon : z34 (pre.map (·.1)) pre = true) (hent : z07 Tryz.prog fq) (p : Int -> Bool) (l : List Int) (h : ∀ x ∈ l, SC Tryz.prog fq ((iInt x) :: ws) pre (fun _ => True) (iBool (p x)) pre) : SC Tryz.prog 62 [.pv (ints l), .fn (.func fq) [] ws] pre (fun _ => True) (iBool (l.any p)) pre := by
  refine SC.of Tryz.func62 rfl (lb rfl) fun F ρ w => ?_
  refine tQ <| tG <| sm 1 rfl <| nL <| tQ <| tG <| sm 2 rfl <| cE rfl (cRr (y6d fq ws pre hon hent p l h) ent89 rfl rfl (sRf _ _) (fun _ _ h => h) (by rfl) (fun k (h : _) => .inr trivial) rfl (by assumption)) <| sm 2 rfl <| nL <| tRt <| rOk rfl ?_ (fun k o h => z48 rfl k o h)
  exact congrArg (fun b => iBool b) (za5 p l 0 (Int.le_refl 0))
theorem y38 (fq : FuncId) (ws : List IV) (pre : List (Nat × HO)) (hon : z34 (pre.map (·.1)) pre = true) (hent : z07 Tryz.prog fq) (p : Nd -> Bool) (l : List Nd) (h : ∀ x ∈ l, SC Tryz.prog fq ((.pv (ndv x)) :: ws) pre (fun _ => True) (iBool (p x)) pre) : SC Tryz.prog 111 [.pv (z0f l), .fn (.func fq) [] ws] pre (fun _ => True) (iInt (idxP p l 0)) pre := by
  refine SC.of Tryz.func111 rfl (lb rfl) fun F ρ w => ?_
  refine Tr.lenOf (t := 0) rfl (fun hl => ?_)
  simp only [List.length_map] at hl
  refine tQ <| tG <| sm 1 rfl <| nL <| tQ <| tQ <| tG <| sm 1 rfl <| cV rfl (oSm uT43 rfl) <| sm 1 rfl <| nL <| tBk ?_
  refine Tr.sub (Sub.of (fr' := [(8, iInt 0), (7, iInt l.length), (0, .pv (z0f l)), (1, .fn (.func fq) [] ws)]) ⟨rfl, rfl, rfl, rfl, trivial⟩) ?_
  refine Tr.loop (fun fr σ m => ∃ (k : Nat), (k <= l.length) /\ (idxP p l 0 = idxP p (l.drop k) k) /\ fr = [(8, iInt k), (7, iInt l.length), (0, .pv (z0f l)), (1, .fn (.func fq) [] ws)] /\ σ = look (up pre) /\ m = l.length - k) (n := l.length - 0) ?_ ?_
  ·exact ⟨0, Nat.zero_le _, rfl, rfl, rfl, rfl⟩
  rintro fr σ m ⟨k, hI0, hI1, rfl, rfl, rfl⟩
  refine tQ <| tG <| sm 1 rfl <| nL <| tQ ?_
  refine tC rfl (fun hc9 => ?_) fun hc9 => ?_
  ·have hlt : k < l.length := by simpa using hc9
   have hd := List.drop_eq_getElem_cons hlt
   have hm := List.getElem_mem hlt
   have hi := z0t (List.getElem?_eq_getElem hlt)
   generalize l[k] = x at hd hm hi
   refine tSk <| tQ <| tBk <| tQ <| tG <| sm 2 rfl <| nL <| tQ <| tG <| sm 3 rfl <| cV rfl (iSq rfl rfl rfl uT43 hi tS42 rfl (by rfl)) <| cV rfl (lEA rfl rfl uT42 rfl tS42 (lb rfl)) ?_
   refine cE rfl (z7b (h x hm) hent rfl rfl rfl (sRf _ _) (fun _ _ h => h) (by rfl) (fun k (h : _) => trivial) rfl (by assumption)) <| nL ?_
   refine tC rfl (fun hc16 => ?_) fun hc16 => ?_
   ·refine tQ <| tG <| sm 2 rfl <| nL <| tRt <| rOk rfl ?_ (fun k o h => z48 rfl k o h)
    have hx : p x = true := by simpa using hc16
    rw [hI1, hd]
    simp only [idxP, hx, if_true]
   refine tSk <| tG <| cV rfl (oB rfl rfl (z05 rfl oM0)) <| sm 1 rfl <| nL ?_
   refine ⟨_, _, ?_, Sub.of (fr' := [(8, iInt (k + 1)), (7, iInt l.length), (0, .pv (z0f l)), (1, .fn (.func fq) [] ws)]) ⟨rfl, rfl, rfl, rfl, trivial⟩, (k + 1), ?_, ?_, rfl, (z27 rfl), rfl⟩
   ·omega
   ·omega
   rw [hI1, hd]
   have hx : p x = false := by simpa using hc16
   simp only [idxP, hx, Bool.false_eq_true, if_false]
   rfl
  refine tEx <| tQ <| tG <| sm 1 rfl <| nL <| tRt <| rOk rfl ?_ (fun _ _ h => h)
  have hge : l.length <= k := by simpa using hc9
  rw [hI1, List.drop_eq_nil_of_le hge]
  rfl
theorem y36 (fq : FuncId) (ws : List IV) (pre : List (Nat × HO)) (hon : z34 (pre.map (·.1)) pre = true) (hent : z07 Tryz.prog fq) (p : Nd -> Bool) (l : List Nd) (h : ∀ x ∈ l, SC Tryz.prog fq ((.pv (ndv x)) :: ws) pre (fun _ => True) (iBool (p x)) pre) : SC Tryz.prog 94 [.pv (z0f l), .fn (.func fq) [] ws] pre (fun _ => True) (iBool (l.any p)) pre := by
  refine SC.of Tryz.func94 rfl (lb rfl) fun F ρ w => ?_
  refine tQ <| tG <| sm 1 rfl <| nL <| tQ <| tG <| sm 2 rfl <| cE rfl (cRr (y38 fq ws pre hon hent p l h) ent111 rfl rfl (sRf _ _) (fun _ _ h => h) (by rfl) (fun k (h : _) => .inr trivial) rfl (by assumption)) <| sm 2 rfl <| nL <| tRt <| rOk rfl ?_ (fun k o h => z48 rfl k o h)
  exact congrArg (fun b => iBool b) (za5 p l 0 (Int.le_refl 0))
theorem y6e (fq : FuncId) (ws : List IV) (pre : List (Nat × HO)) (hon : z34 (pre.map (·.1)) pre = true) (hent : z07 Tryz.prog fq) (p : (List Nd) -> Bool) (l : List (List Nd)) (h : ∀ x ∈ l, SC Tryz.prog fq ((.pv (z0f x)) :: ws) pre (fun _ => True) (iBool (p x)) pre) : SC Tryz.prog 112 [.pv (kids l), .fn (.func fq) [] ws] pre (fun _ => True) (iInt (idxP p l 0)) pre := by
  refine SC.of Tryz.func112 rfl (lb rfl) fun F ρ w => ?_
  refine Tr.lenOf (t := 0) rfl (fun hl => ?_)
  simp only [List.length_map] at hl
  refine tQ <| tG <| sm 1 rfl <| nL <| tQ <| tQ <| tG <| sm 1 rfl <| cV rfl (oSm uT40 rfl) <| sm 1 rfl <| nL <| tBk ?_
  refine Tr.sub (Sub.of (fr' := [(8, iInt 0), (7, iInt l.length), (0, .pv (kids l)), (1, .fn (.func fq) [] ws)]) ⟨rfl, rfl, rfl, rfl, trivial⟩) ?_
  refine Tr.loop (fun fr σ m => ∃ (k : Nat), (k <= l.length) /\ (idxP p l 0 = idxP p (l.drop k) k) /\ fr = [(8, iInt k), (7, iInt l.length), (0, .pv (kids l)), (1, .fn (.func fq) [] ws)] /\ σ = look (up pre) /\ m = l.length - k) (n := l.length - 0) ?_ ?_
  ·exact ⟨0, Nat.zero_le _, rfl, rfl, rfl, rfl⟩
  rintro fr σ m ⟨k, hI0, hI1, rfl, rfl, rfl⟩
  refine tQ <| tG <| sm 1 rfl <| nL <| tQ ?_
  refine tC rfl (fun hc9 => ?_) fun hc9 => ?_
  ·have hlt : k < l.length := by simpa using hc9
   have hd := List.drop_eq_getElem_cons hlt
   have hm := List.getElem_mem hlt
   have hi := z0d (f := eKid) (List.getElem?_eq_getElem hlt)
   generalize l[k] = x at hd hm hi
   refine tSk <| tQ <| tBk <| tQ <| tG <| sm 2 rfl <| nL <| tQ <| tG <| sm 3 rfl <| cV rfl (iSq rfl rfl rfl uT40 hi tS43 rfl (by rfl)) <| sm 1 rfl ?_
   refine cE rfl (z7b (h x hm) hent rfl rfl rfl (sRf _ _) (fun _ _ h => h) (by rfl) (fun k (h : _) => trivial) rfl (by assumption)) <| nL ?_
   refine tC rfl (fun hc16 => ?_) fun hc16 => ?_
   ·refine tQ <| tG <| sm 2 rfl <| nL <| tRt <| rOk rfl ?_ (fun k o h => z48 rfl k o h)
    have hx : p x = true := by simpa using hc16
    rw [hI1, hd]
    simp only [idxP, hx, if_true]
   refine tSk <| tG <| cV rfl (oB rfl rfl (z05 rfl oM0)) <| sm 1 rfl <| nL ?_
   refine ⟨_, _, ?_, Sub.of (fr' := [(8, iInt (k + 1)), (7, iInt l.length), (0, .pv (kids l)), (1, .fn (.func fq) [] ws)]) ⟨rfl, rfl, rfl, rfl, trivial⟩, (k + 1), ?_, ?_, rfl, (z27 rfl), rfl⟩
   ·omega
   ·omega
   rw [hI1, hd]
   have hx : p x = false := by simpa using hc16
   simp only [idxP, hx, Bool.false_eq_true, if_false]
   rfl
  refine tEx <| tQ <| tG <| sm 1 rfl <| nL <| tRt <| rOk rfl ?_ (fun _ _ h => h)
  have hge : l.length <= k := by simpa using hc9
  rw [hI1, List.drop_eq_nil_of_le hge]
  rfl
theorem y6b (fq : FuncId) (ws : List IV) (pre : List (Nat × HO)) (hon : z34 (pre.map (·.1)) pre = true) (hent : z07 Tryz.prog fq) (p : (List Nd) -> Bool) (l : List (List Nd)) (h : ∀ x ∈ l, SC Tryz.prog fq ((.pv (z0f x)) :: ws) pre (fun _ => True) (iBool (p x)) pre) : SC Tryz.prog 96 [.pv (kids l), .fn (.func fq) [] ws] pre (fun _ => True) (iBool (l.any p)) pre := by
  refine SC.of Tryz.func96 rfl (lb rfl) fun F ρ w => ?_
  refine tQ <| tG <| sm 1 rfl <| nL <| tQ <| tG <| sm 2 rfl <| cE rfl (cRr (y6e fq ws pre hon hent p l h) ent112 rfl rfl (sRf _ _) (fun _ _ h => h) (by rfl) (fun k (h : _) => .inr trivial) rfl (by assumption)) <| sm 2 rfl <| nL <| tRt <| rOk rfl ?_ (fun k o h => z48 rfl k o h)
  exact congrArg (fun b => iBool b) (za5 p l 0 (Int.le_refl 0))
theorem y6c (fq : FuncId) (ws : List IV) (pre : List (Nat × HO)) (hon : z34 (pre.map (·.1)) pre = true) (hent : z07 Tryz.prog fq) (p : Ar -> Bool) (l : List Ar) (h : ∀ x ∈ l, SC Tryz.prog fq ((.pv (.agg x.enc)) :: ws) pre (fun _ => True) (iBool (p x)) pre) : SC Tryz.prog 133 [.pv (arrs l), .fn (.func fq) [] ws] pre (fun _ => True) (iInt (idxP p l 0)) pre := by
  refine SC.of Tryz.func133 rfl (lb rfl) fun F ρ w => ?_
  refine Tr.lenOf (t := 0) rfl (fun hl => ?_)
  simp only [List.length_map] at hl
  refine tQ <| tG <| sm 1 rfl <| nL <| tQ <| tQ <| tG <| sm 1 rfl <| cV rfl (oSm uT22 rfl) <| sm 1 rfl <| nL <| tBk ?_
  refine Tr.sub (Sub.of (fr' := [(8, iInt 0), (7, iInt l.length), (0, .pv (arrs l)), (1, .fn (.func fq) [] ws)]) ⟨rfl, rfl, rfl, rfl, trivial⟩) ?_
  refine Tr.loop (fun fr σ m => ∃ (k : Nat), (k <= l.length) /\ (idxP p l 0 = idxP p (l.drop k) k) /\ fr = [(8, iInt k), (7, iInt l.length), (0, .pv (arrs l)), (1, .fn (.func fq) [] ws)] /\ σ = look (up pre) /\ m = l.length - k) (n := l.length - 0) ?_ ?_
  ·exact ⟨0, Nat.zero_le _, rfl, rfl, rfl, rfl⟩
  rintro fr σ m ⟨k, hI0, hI1, rfl, rfl, rfl⟩
  refine tQ <| tG <| sm 1 rfl <| nL <| tQ ?_
  refine tC rfl (fun hc9 => ?_) fun hc9 => ?_
  ·have hlt : k < l.length := by simpa using hc9
   have hd := List.drop_eq_getElem_cons hlt
   have hm := List.getElem_mem hlt
   have hi := z0d (f := Ar.enc) (List.getElem?_eq_getElem hlt)
   generalize l[k] = x at hd hm hi
   refine tSk <| tQ <| tBk <| tQ <| tG <| sm 2 rfl <| nL <| tQ <| tG <| sm 3 rfl <| cV rfl (iSq rfl rfl rfl uT22 hi tS49 rfl (by rfl)) <| cV rfl (lEA rfl rfl Tryz.underlying49 rfl tS49 (lb rfl)) ?_
   refine cE rfl (z7b (h x hm) hent rfl rfl rfl (sRf _ _) (fun _ _ h => h) (by rfl) (fun k (h : _) => trivial) rfl (by assumption)) <| nL ?_
   refine tC rfl (fun hc16 => ?_) fun hc16 => ?_
   ·refine tQ <| tG <| sm 2 rfl <| nL <| tRt <| rOk rfl ?_ (fun k o h => z48 rfl k o h)
    have hx : p x = true := by simpa using hc16
    rw [hI1, hd]
    simp only [idxP, hx, if_true]
   refine tSk <| tG <| cV rfl (oB rfl rfl (z05 rfl oM0)) <| sm 1 rfl <| nL ?_
   refine ⟨_, _, ?_, Sub.of (fr' := [(8, iInt (k + 1)), (7, iInt l.length), (0, .pv (arrs l)), (1, .fn (.func fq) [] ws)]) ⟨rfl, rfl, rfl, rfl, trivial⟩, (k + 1), ?_, ?_, rfl, (z27 rfl), rfl⟩
   ·omega
   ·omega
   rw [hI1, hd]
   have hx : p x = false := by simpa using hc16
   simp only [idxP, hx, Bool.false_eq_true, if_false]
   rfl
  refine tEx <| tQ <| tG <| sm 1 rfl <| nL <| tRt <| rOk rfl ?_ (fun _ _ h => h)
  have hge : l.length <= k := by simpa using hc9
  rw [hI1, List.drop_eq_nil_of_le hge]
  rfl
theorem y69 (fq : FuncId) (ws : List IV) (pre : List (Nat × HO)) (hon : z34 (pre.map (·.1)) pre = true) (hent : z07 Tryz.prog fq) (p : Ar -> Bool) (l : List Ar) (h : ∀ x ∈ l, SC Tryz.prog fq ((.pv (.agg x.enc)) :: ws) pre (fun _ => True) (iBool (p x)) pre) : SC Tryz.prog 130 [.pv (arrs l), .fn (.func fq) [] ws] pre (fun _ => True) (iBool (l.any p)) pre := by
  refine SC.of Tryz.func130 rfl (lb rfl) fun F ρ w => ?_
  refine tQ <| tG <| sm 1 rfl <| nL <| tQ <| tG <| sm 2 rfl <| cE rfl (cRr (y6c fq ws pre hon hent p l h) ent133 rfl rfl (sRf _ _) (fun _ _ h => h) (by rfl) (fun k (h : _) => .inr trivial) rfl (by assumption)) <| sm 2 rfl <| nL <| tRt <| rOk rfl ?_ (fun k o h => z48 rfl k o h)
  exact congrArg (fun b => iBool b) (za5 p l 0 (Int.le_refl 0))
theorem y37 (fq : FuncId) (ws : List IV) (pre : List (Nat × HO)) (hon : z34 (pre.map (·.1)) pre = true) (hent : z07 Tryz.prog fq) (p : Fl -> Bool) (l : List Fl) (h : ∀ x ∈ l, SC Tryz.prog fq ((.pv (.agg x.enc)) :: ws) pre (fun _ => True) (iBool (p x)) pre) : SC Tryz.prog 87 [.pv (flws l), .fn (.func fq) [] ws] pre (fun _ => True) (iInt (idxP p l 0)) pre := by
  refine SC.of Tryz.func87 rfl (lb rfl) fun F ρ w => ?_
  refine Tr.lenOf (t := 0) rfl (fun hl => ?_)
  simp only [List.length_map] at hl
  refine tQ <| tG <| sm 1 rfl <| nL <| tQ <| tQ <| tG <| sm 1 rfl <| cV rfl (oSm uT23 rfl) <| sm 1 rfl <| nL <| tBk ?_
  refine Tr.sub (Sub.of (fr' := [(8, iInt 0), (7, iInt l.length), (0, .pv (flws l)), (1, .fn (.func fq) [] ws)]) ⟨rfl, rfl, rfl, rfl, trivial⟩) ?_
  refine Tr.loop (fun fr σ m => ∃ (k : Nat), (k <= l.length) /\ (idxP p l 0 = idxP p (l.drop k) k) /\ fr = [(8, iInt k), (7, iInt l.length), (0, .pv (flws l)), (1, .fn (.func fq) [] ws)] /\ σ = look (up pre) /\ m = l.length - k) (n := l.length - 0) ?_ ?_
  ·exact ⟨0, Nat.zero_le _, rfl, rfl, rfl, rfl⟩
  rintro fr σ m ⟨k, hI0, hI1, rfl, rfl, rfl⟩
  refine tQ <| tG <| sm 1 rfl <| nL <| tQ ?_
  refine tC rfl (fun hc9 => ?_) fun hc9 => ?_
  ·have hlt : k < l.length := by simpa using hc9
   have hd := List.drop_eq_getElem_cons hlt
   have hm := List.getElem_mem hlt
   have hi := z0d (f := Fl.enc) (List.getElem?_eq_getElem hlt)
   generalize l[k] = x at hd hm hi
   refine tSk <| tQ <| tBk <| tQ <| tG <| sm 2 rfl <| nL <| tQ <| tG <| sm 3 rfl <| cV rfl (iSq rfl rfl rfl uT23 hi tS51 rfl (by rfl)) <| cV rfl (lEA rfl rfl Tryz.underlying51 rfl tS51 (lb rfl)) ?_
   refine cE rfl (z7b (h x hm) hent rfl rfl rfl (sRf _ _) (fun _ _ h => h) (by rfl) (fun k (h : _) => trivial) rfl (by assumption)) <| nL ?_
   refine tC rfl (fun hc16 => ?_) fun hc16 => ?_
   ·refine tQ <| tG <| sm 2 rfl <| nL <| tRt <| rOk rfl ?_ (fun k o h => z48 rfl k o h)
    have hx : p x = true := by simpa using hc16
    rw [hI1, hd]
    simp only [idxP, hx, if_true]
   refine tSk <| tG <| cV rfl (oB rfl rfl (z05 rfl oM0)) <| sm 1 rfl <| nL ?_
   refine ⟨_, _, ?_, Sub.of (fr' := [(8, iInt (k + 1)), (7, iInt l.length), (0, .pv (flws l)), (1, .fn (.func fq) [] ws)]) ⟨rfl, rfl, rfl, rfl, trivial⟩, (k + 1), ?_, ?_, rfl, (z27 rfl), rfl⟩
   ·omega
   ·omega
   rw [hI1, hd]
   have hx : p x = false := by simpa using hc16
   simp only [idxP, hx, Bool.false_eq_true, if_false]
   rfl
  refine tEx <| tQ <| tG <| sm 1 rfl <| nL <| tRt <| rOk rfl ?_ (fun _ _ h => h)
  have hge : l.length <= k := by simpa using hc9
  rw [hI1, List.drop_eq_nil_of_le hge]
  rfl
theorem sc_eqf (fq : FuncId) (ws : List IV) (S : Type) (H : S -> List (Nat × HO)) (ks : List Nat) (hks : ∀ s, (H s).map (·.1) = ks) (hon : ∀ s, z34 ((H s).map (·.1)) (H s) = true) (hent : z07 Tryz.prog fq) (p : S -> Int -> Int -> Bool × S) (R : Nat -> Prop) (G : S -> Prop) (hG : ∀ s x y, G s -> G (p s x y).2) (h : ∀ s x y, G s -> SC Tryz.prog fq (iInt x :: iInt y :: ws) (H s) R (iBool (p s x y).1) (H (p s x y).2)) (s : S) (hs : G s) (a b : List Int) : SC Tryz.prog 125 [.pv (ints a), .pv (ints b), .fn (.func fq) [] ws] (H s) (R) (iBool (eqf p s a b).1) (H (eqf p s a b).2) := by
  refine SC.of Tryz.func125 rfl (lb rfl) fun F ρ w => ?_
  refine Tr.lenOf (t := 0) rfl (fun hl => ?_)
  simp only [List.length_map] at hl
  refine Tr.lenOf (t := 1) rfl (fun hl2 => ?_)
  simp only [List.length_map] at hl2
  refine tQ <| tG <| sm 1 rfl <| nL <| tQ <| tQ <| tG <| sm 1 rfl <| cV rfl (oSm uT35 rfl) <| sm 1 rfl <| cV rfl (oSm uT35 rfl) <| sm 1 rfl ?_
  refine nL ?_
  refine tC rfl (fun hc14 => ?_) fun hc14 => ?_
  ·refine tQ <| tG <| sm 1 rfl <| nL <| tRt ?_
   have hne : ¬ (a.length : Int) = b.length := by simpa using hc14
   have he : eqf p s a b = (false, s) := by simp only [eqf, hne, if_false]
   rw [he]
   exact rOk rfl rfl (fun _ _ h => h)
  have hlen : a.length = b.length := by simp at hc14; omega
  have hlz : (a.length : Int) = b.length := by omega
  refine tSk <| tQ <| tQ <| tG <| sm 1 rfl <| cV rfl (oSm uT35 rfl) <| sm 1 rfl <| nL <| tBk <| Tr.sub (Sub.of (fr' := [(17, iInt 0), (16, iInt a.length), (15, .pv (ints a)), (0, .pv (ints a)), (1, .pv (ints b)), (2, .fn (.func fq) [] ws)]) ⟨rfl, rfl, rfl, rfl, rfl, rfl, trivial⟩) ?_
  refine Tr.loop (fun fr σ m => ∃ (k : Nat) (st : S), (k <= a.length) /\ (eqGo p s a b = eqGo p st (a.drop k) (b.drop k)) /\ (G st) /\ fr = [(17, iInt k), (16, iInt a.length), (15, .pv (ints a)), (0, .pv (ints a)), (1, .pv (ints b)), (2, .fn (.func fq) [] ws)] /\ σ = look (up (H st)) /\ m = a.length - k) (n := a.length - 0) ?_ ?_
  ·exact ⟨0, s, Nat.zero_le _, rfl, hs, rfl, rfl, rfl⟩
  rintro fr σ m ⟨k, st, hI0, hI1, hI2, rfl, rfl, rfl⟩
  refine tQ <| tG <| sm 1 rfl <| nL <| tQ ?_
  refine tC rfl (fun hc18 => ?_) fun hc18 => ?_
  ·have hlt : k < a.length := by simpa using hc18
   have hd := List.drop_eq_getElem_cons hlt
   have hm := List.getElem_mem hlt
   have hi := z0d (f := eInt) (List.getElem?_eq_getElem hlt)
   generalize a[k] = x at hd hm hi
   have hltw : k < b.length := by omega
   have hdw := List.drop_eq_getElem_cons hltw
   have hw := z0d (f := eInt) (List.getElem?_eq_getElem hltw)
   generalize b[k] = y at hdw hw
   have hdom := (hks st).trans (hks (p st x y).2).symm
   have hon2 := hon (p st x y).2
   refine tSk <| tQ <| tBk <| tQ <| tG <| sm 1 rfl <| cV rfl (iSq rfl rfl rfl uT35 hi tS3 rfl (by rfl)) <| sm 3 rfl <| nL <| tQ <| tG <| sm 2 rfl ?_
   refine cV rfl (iSq rfl rfl rfl uT35 hw tS3 rfl (by rfl)) <| sm 2 rfl <| nL <| tQ <| tG <| sm 3 rfl <| cE rfl (z7b (h st x y hI2) hent rfl rfl rfl (sRf _ _) (fun _ _ h => h) (by assumption) (fun k (h : _) => h) rfl (by assumption)) <| sm 1 rfl <| nL ?_
   refine tC rfl (fun hc30 => ?_) fun hc30 => ?_
   ·refine tQ <| tG <| sm 1 rfl <| nL <| tRt ?_
    have hx : (p st x y).1 = false := by simpa using hc30
    have he : eqf p s a b = (false, (p st x y).2) := by simp only [eqf, hlz, if_true, hI1, hd, hdw, eqGo, hx, Bool.false_eq_true, if_false]
    rw [he]
    exact rOk rfl rfl (fun k o h => z48 ((hks _).trans (hks _).symm) k o h)
   refine tSk <| tG <| cV rfl (oB rfl rfl (z05 rfl oM0)) <| sm 1 rfl <| nL ?_
   refine ⟨_, _, ?_, Sub.of (fr' := [(17, iInt (k + 1)), (16, iInt a.length), (15, .pv (ints a)), (0, .pv (ints a)), (1, .pv (ints b)), (2, .fn (.func fq) [] ws)]) ⟨rfl, rfl, rfl, rfl, rfl, rfl, trivial⟩, (k + 1), (p st x y).2, ?_, ?_, ?_, rfl, (z27 ((hks _).trans (hks _).symm)), rfl⟩
   ·omega
   ·omega
   ·rw [hI1, hd, hdw]
    have hx : (p st x y).1 = true := by simpa using hc30
    simp only [eqGo, hx, if_true]
   exact hG _ _ _ hI2
  refine tEx <| tQ <| tG <| sm 1 rfl <| nL <| tRt ?_
  have hge : a.length <= k := by simpa using hc18
  have he : eqf p s a b = (true, st) := by simp only [eqf, hlz, if_true, hI1, List.drop_eq_nil_of_le hge, eqGo]
  rw [he]
  exact rOk rfl rfl (fun _ _ h => h)
theorem y9o (t : Int) : SC Tryz.prog 60 [iInt t] [] (fun _ => False) (iBool (isTy t)) [] := by
  refine SC.of Tryz.func60 rfl (lb rfl) fun F ρ w => ?_
  refine tQ <| tG <| sm 1 rfl <| nL <| tQ <| tG <| sm 3 rfl ?_
  refine wS 5 rfl (fun hb5 => ?_) fun hb5 => ?_
  ·refine sm 4 rfl <| nL <| tRt <| rOk rfl ?_ nPo
   simp_all [isTy]
  refine sm 4 rfl <| nL <| tRt <| rOk rfl ?_ nPo
  simp_all [isTy]
theorem sc_flow1 (t : Int) : SC Tryz.prog 63 [iInt t] [] (fun _ => False) (iBool (!isTy t)) [] := by
  refine SC.of Tryz.func63 rfl (lb rfl) fun F ρ w => ?_
  refine tQ <| tG <| sm 1 rfl <| nL <| tQ <| tG <| sm 1 rfl <| cE rfl (ocq (y9o _) ent60 rfl rfl) <| sm 2 rfl <| nL <| tRt <| rOk rfl ?_ nPo
  rfl
theorem z8m (x : Nd) : SC Tryz.prog 70 [.pv (ndv x)] [] (fun _ => False) (iBool (z0y x.kind)) [] := by
  refine SC.of Tryz.func70 rfl (lb rfl) fun F ρ w => ?_
  refine tQ <| tG <| cE rfl (z1y rfl rfl) <| sm 1 rfl <| nL <| tQ <| tG <| sm 4 rfl ?_
  refine wS 6 rfl (fun hb6 => ?_) fun hb6 => ?_
  ·refine sm 5 rfl <| nL <| tRt <| rOk rfl ?_ nPo
   unfold z0y
   simp_all <;> omega
  refine sm 5 rfl <| nL <| tRt <| rOk rfl ?_ nPo
  unfold z0y
  simp_all <;> omega
theorem zo8 (l : List Nd) : SC Tryz.prog 68 [.pv (z0f l)] [] (fun _ => False) (iBool (zi4 l)) [] := by
  refine SC.of Tryz.func68 rfl (lb rfl) fun F ρ w => ?_
  refine Tr.lenOf (t := 0) rfl (fun hl => ?_)
  simp only [List.length_map] at hl
  refine tQ <| tG <| sm 1 rfl <| nL <| tQ <| tG <| sm 1 rfl <| cV rfl (oSm uT43 rfl) <| sm 2 rfl ?_
  refine wS 6 rfl (fun hb6 => ?_) fun hb6 => ?_
  ·have hpos : 0 < l.length := by simp at hb6; omega
   have hlt : l.length - 1 < l.length := by omega
   have hi := z0t (List.getElem?_eq_getElem hlt)
   have hlast : l.getLast? = some l[l.length - 1] := by rw [List.getLast?_eq_getElem?]; exact List.getElem?_eq_getElem hlt
   generalize l[l.length - 1] = x at hi hlast
   have hsub : (l.length : Int) - 1 = ((l.length - 1 : Nat) : Int) := by omega
   refine sm 2 rfl <| yV rfl rfl (oSm uT43 rfl) <| yV rfl rfl (oB rfl rfl (z2o rfl oM0)) <| WL.sub (Sub.of (fr' := [(10, iInt ((l.length - 1 : Nat) : Int)), (7, .pv (z0f l)), (6, iBool true)]) ⟨by rw [<- hsub]; rfl, rfl, rfl, trivial⟩) <| yV rfl rfl (iSq rfl rfl rfl uT43 (by assumption) tS42 rfl (by rfl)) <| sm 5 rfl <| nL <| tRt <| rOk rfl ?_ nPo
   refine congrArg (fun b => iBool b) ?_
   simp [zi4, hlast]
  refine sm 10 rfl <| nL <| tRt <| rOk rfl ?_ nPo
  refine congrArg (fun b => iBool b) ?_
  (have h0 : l = [] := by cases l <;> simp_all <;> omega
   subst h0; rfl)
theorem y1i (op : Int) : SC Tryz.prog 128 [iInt op] [] (fun _ => False) (.tup [iInt (z09 op).1, iInt (z09 op).2]) [] := by
  refine SC.of Tryz.func128 rfl (lb rfl) fun F ρ w => ?_
  refine tQ <| tG <| sm 2 rfl <| nL <| tQ <| tQ <| tG <| sm 1 rfl <| nL <| tBk <| tQ <| tG ?_
  refine sm 2 rfl <| nL ?_
  refine tC rfl (fun hc5 => ?_) fun hc5 => ?_
  ·refine tQ <| tG <| sm 2 rfl <| nL <| tRt <| rOk rfl ?_ nPo
   first | (simp_all [z09]; done) | (simp_all [z09]; split <;> first | omega | (simp; done))
  refine tQ <| tQ <| tG <| sm 2 rfl <| nL ?_
  refine tC rfl (fun hc7 => ?_) fun hc7 => ?_
  ·refine tSk ?_
   refine tC rfl (fun hc7 => ?_) fun hc7 => ?_
   ·refine tQ <| tG <| sm 2 rfl <| nL <| tRt <| rOk rfl ?_ nPo
    first | (simp_all [z09]; done) | (simp_all [z09]; split <;> first | omega | (simp; done))
   refine tQ <| tQ <| tG <| sm 2 rfl <| nL ?_
   refine tC rfl (fun hc10 => ?_) fun hc10 => ?_
   ·refine tSk ?_
    refine tC rfl (fun hc10 => ?_) fun hc10 => ?_
    ·refine tQ <| tG <| sm 2 rfl <| nL <| tRt <| rOk rfl ?_ nPo
     first | (simp_all [z09]; done) | (simp_all [z09]; split <;> first | omega | (simp; done))
    refine tSk <| tQ <| tG <| sm 2 rfl <| nL <| tRt <| rOk rfl ?_ nPo
    first | (simp_all [z09]; done) | (simp_all [z09]; split <;> first | omega | (simp; done))
   refine tQ <| tG <| sm 2 rfl <| nL ?_
   refine tC rfl (fun hc10 => ?_) fun hc10 => ?_
   ·refine tSk ?_
    refine tC rfl (fun hc10 => ?_) fun hc10 => ?_
    ·refine tQ <| tG <| sm 2 rfl <| nL <| tRt <| rOk rfl ?_ nPo
     first | (simp_all [z09]; done) | (simp_all [z09]; split <;> first | omega | (simp; done))
    refine tSk <| tQ <| tG <| sm 2 rfl <| nL <| tRt <| rOk rfl ?_ nPo
    first | (simp_all [z09]; done) | (simp_all [z09]; split <;> first | omega | (simp; done))
   refine tQ <| tG <| sm 2 rfl <| nL ?_
   refine tC rfl (fun hc10 => ?_) fun hc10 => ?_
   ·refine tSk ?_
    refine tC rfl (fun hc10 => ?_) fun hc10 => ?_
    ·refine tQ <| tG <| sm 2 rfl <| nL <| tRt <| rOk rfl ?_ nPo
     first | (simp_all [z09]; done) | (simp_all [z09]; split <;> first | omega | (simp; done))
    refine tSk <| tQ <| tG <| sm 2 rfl <| nL <| tRt <| rOk rfl ?_ nPo
    first | (simp_all [z09]; done) | (simp_all [z09]; split <;> first | omega | (simp; done))
   refine tG <| sm 2 rfl <| nL ?_
   refine tC rfl (fun hc10 => ?_) fun hc10 => ?_
   ·refine tQ <| tG <| sm 2 rfl <| nL <| tRt <| rOk rfl ?_ nPo
    first | (simp_all [z09]; done) | (simp_all [z09]; split <;> first | omega | (simp; done))
   refine tSk <| tQ <| tG <| sm 2 rfl <| nL <| tRt <| rOk rfl ?_ nPo
   first | (simp_all [z09]; done) | (simp_all [z09]; split <;> first | omega | (simp; done))
  refine tG <| sm 2 rfl <| nL ?_
  refine tC rfl (fun hc7 => ?_) fun hc7 => ?_
  ·refine tQ <| tG <| sm 2 rfl <| nL <| tRt <| rOk rfl ?_ nPo
   first | (simp_all [z09]; done) | (simp_all [z09]; split <;> first | omega | (simp; done))
  refine tQ <| tQ <| tG <| sm 2 rfl <| nL ?_
  refine tC rfl (fun hc10 => ?_) fun hc10 => ?_
  ·refine tSk ?_
   refine tC rfl (fun hc10 => ?_) fun hc10 => ?_
   ·refine tQ <| tG <| sm 2 rfl <| nL <| tRt <| rOk rfl ?_ nPo
    first | (simp_all [z09]; done) | (simp_all [z09]; split <;> first | omega | (simp; done))
   refine tSk <| tQ <| tG <| sm 2 rfl <| nL <| tRt <| rOk rfl ?_ nPo
   first | (simp_all [z09]; done) | (simp_all [z09]; split <;> first | omega | (simp; done))
  refine tQ <| tG <| sm 2 rfl <| nL ?_
  refine tC rfl (fun hc10 => ?_) fun hc10 => ?_
  ·refine tSk ?_
   refine tC rfl (fun hc10 => ?_) fun hc10 => ?_
   ·refine tQ <| tG <| sm 2 rfl <| nL <| tRt <| rOk rfl ?_ nPo
    first | (simp_all [z09]; done) | (simp_all [z09]; split <;> first | omega | (simp; done))
   refine tSk <| tQ <| tG <| sm 2 rfl <| nL <| tRt <| rOk rfl ?_ nPo
   first | (simp_all [z09]; done) | (simp_all [z09]; split <;> first | omega | (simp; done))
  refine tQ <| tG <| sm 2 rfl <| nL ?_
  refine tC rfl (fun hc10 => ?_) fun hc10 => ?_
  ·refine tSk ?_
   refine tC rfl (fun hc10 => ?_) fun hc10 => ?_
   ·refine tQ <| tG <| sm 2 rfl <| nL <| tRt <| rOk rfl ?_ nPo
    first | (simp_all [z09]; done) | (simp_all [z09]; split <;> first | omega | (simp; done))
   refine tSk <| tQ <| tG <| sm 2 rfl <| nL <| tRt <| rOk rfl ?_ nPo
   first | (simp_all [z09]; done) | (simp_all [z09]; split <;> first | omega | (simp; done))
  refine tG <| sm 2 rfl <| nL ?_
  refine tC rfl (fun hc10 => ?_) fun hc10 => ?_
  ·refine tQ <| tG <| sm 2 rfl <| nL <| tRt <| rOk rfl ?_ nPo
   first | (simp_all [z09]; done) | (simp_all [z09]; split <;> first | omega | (simp; done))
  refine tSk <| tQ <| tG <| sm 2 rfl <| nL <| tRt <| rOk rfl ?_ nPo
  first | (simp_all [z09]; done) | (simp_all [z09]; split <;> first | omega | (simp; done))
theorem y1h (x : Nd) (ih : ∀ q ∈ x.kids, SC Tryz.prog 69 [.pv (z0f q)] [] (fun _ => False) (iBool (z10 q)) []) : SC Tryz.prog 95 [.pv (ndv x)] [] (fun _ => False) (iBool (z3f x)) [] := by
  refine SC.of Tryz.func95 rfl (lb rfl) fun F ρ w => ?_
  refine tQ <| tG <| cE rfl (z1y rfl rfl) <| sm 1 rfl <| nL <| tQ <| tG <| sm 4 rfl ?_
  refine wS 6 rfl (fun hb6 => ?_) fun hb6 => ?_
  ·refine sm 4 rfl <| nUu rfl rfl rfl rfl rfl rfl <| nUu rfl rfl rfl rfl rfl rfl <| nUu rfl rfl rfl rfl rfl rfl <| sm 3 rfl <| nL <| tRt <| rOk rfl ?_ nPo
   rw [z5b, z5n]
   simp_all
  refine sm 4 rfl ?_
  refine wS 10 rfl (fun hb10 => ?_) fun hb10 => ?_
  ·refine sm 2 rfl <| WL.yes rfl rfl rfl rfl rfl rfl (z1q (y6b 69 [] [] rfl ent69 z10 x.kids (fun q hq => (ih q hq).anyR)) ent96 rfl rfl (sSm rfl (Subs.cons (fun _ _ _ _ h => zy2 h) Subs.nil)) rfl) <| sm 3 rfl <| nL <| tRt <| rOk rfl ?_ nPo
   rw [z5b, z5n]
   simp_all
  refine sm 6 rfl <| nL <| tRt <| rOk rfl ?_ nPo
  rw [z5b, z5n]
  simp_all
theorem zo7 (N : Nat) : ∀ (l : List Nd), SizeOf.sizeOf l < N -> SC Tryz.prog 69 [.pv (z0f l)] [] (fun _ => False) (iBool (z10 l)) [] := by
  induction N with
  | zero => intro l hN; exact absurd hN (Nat.not_lt_zero _)
  | succ N ih =>
    intro l hN
    refine SC.of Tryz.func69 rfl (lb rfl) fun F ρ w => ?_
    refine tQ <| tG <| sm 1 rfl <| nL <| tQ <| tG <| sm 1 rfl <| cE rfl (z1q (y36 95 [] [] rfl ent95 z3f l (fun x hm => (y1h x (fun q hq => ih q (Nat.lt_of_lt_of_le (z61 hm rfl hq) (Nat.le_of_lt_succ hN)))).anyR)) ent94 rfl rfl (sSm rfl (Subs.cons (fun _ _ _ _ h => zy2 h) Subs.nil)) rfl) <| sm 1 rfl <| nL <| tRt <| rOk rfl ?_ nPo
    rw [zg4]
theorem zo6 (l : List Nd) : SC Tryz.prog 69 [.pv (z0f l)] [] (fun _ => False) (iBool (z10 l)) [] := zo7 _ l (Nat.lt_succ_self _)
theorem z68 (x : Nd) : SC Tryz.prog 42 [.pv (ndv x)] [] (fun _ => False) (iBool (z02 x)) [] := by
  refine SC.of Tryz.func42 rfl (lb rfl) fun F ρ w => ?_
  refine tQ <| tG <| cE rfl (z1y rfl rfl) <| sm 1 rfl <| nL <| tQ <| tBk <| tQ <| tG <| sm 4 rfl ?_
  refine wS 7 rfl (fun hb7 => ?_) fun hb7 => ?_
  ·refine sm 2 rfl <| yV rfl rfl (oSm uT40 rfl) <| sm 3 rfl <| nL ?_
   refine tC rfl (fun hc3 => ?_) fun hc3 => ?_
   ·have hl : x.kids.length = 2 := by first | (simp_all; done) | (simp_all; omega)
    have h10 : x.kind = 10 := by simp_all
    have hi0 : (x.kids.map eKid)[0]? = some [z0f (kid0 x.kids)] := by rw [List.getElem?_map]; simp [kid0, eKid, hl]
    have hi1 : (x.kids.map eKid)[1]? = some [z0f (kid1 x.kids)] := by rw [List.getElem?_map]; simp [kid1, eKid, hl]
    refine tQ <| tG <| sm 2 rfl <| cV rfl (iSq rfl rfl rfl uT40 hi0 tS43 rfl (by rfl)) <| sm 1 rfl <| cE rfl (ocq (zo8 _) ent68 rfl rfl) <| sm 2 rfl ?_
    refine wS 19 rfl (fun hb19 => ?_) fun hb19 => ?_
    ·refine sm 2 rfl <| yV rfl rfl (iSq rfl rfl rfl uT40 hi1 tS43 rfl (by rfl)) <| sm 1 rfl <| WL.yes rfl rfl rfl rfl rfl rfl (z1q (zo8 _) ent68 rfl rfl (sRf _ _) rfl) <| sm 3 rfl <| nL <| tRt <| rOk rfl ?_ nPo
     simp_all [z02, z3v]
    refine sm 8 rfl <| nL <| tRt <| rOk rfl ?_ nPo
    simp_all [z02, z3v]
   refine tQ <| tG <| sm 4 rfl ?_
   refine wS 31 rfl (fun hb31 => ?_) fun hb31 => ?_
   ·refine sm 2 rfl <| yV rfl rfl (oSm uT40 rfl) <| sm 3 rfl <| nL ?_
    refine tC rfl (fun hc27 => ?_) fun hc27 => ?_
    ·have hl : x.kids.length = 1 := by first | (simp_all; done) | (simp_all; omega)
     have h11 : x.kind = 11 := by simp_all
     have hi0 : (x.kids.map eKid)[0]? = some [z0f (kid0 x.kids)] := by rw [List.getElem?_map]; simp [kid0, eKid, hl]
     refine tQ <| tG <| sm 2 rfl <| cV rfl (iSq rfl rfl rfl uT40 hi0 tS43 rfl (by rfl)) <| sm 1 rfl <| cE rfl (ocq (zo6 _) ent69 rfl rfl) <| sm 2 rfl <| nL <| tRt <| rOk rfl ?_ nPo
     simp_all [z02, z3v]
    refine tSk <| tQ <| tG <| cV rfl (lEA rfl rfl uT42 rfl tS42 (lb rfl)) <| cE rfl (ocq (z8m x) y80 rfl rfl) <| sm 1 rfl <| nL <| tRt <| rOk rfl ?_ nPo
    simp_all [z02, z3v]
   refine sm 6 rfl <| nL <| Tr.condF rfl <| tSk <| tQ <| tG <| cV rfl (lEA rfl rfl uT42 rfl tS42 (lb rfl)) <| cE rfl (ocq (z8m x) y80 rfl rfl) <| sm 1 rfl <| nL <| tRt <| rOk rfl ?_ nPo
   simp_all [z02, z3v]
  refine sm 6 rfl <| nL <| Tr.condF rfl <| tQ <| tG <| sm 4 rfl ?_
  refine wS 31 rfl (fun hb31 => ?_) fun hb31 => ?_
  ·refine sm 2 rfl <| yV rfl rfl (oSm uT40 rfl) <| sm 3 rfl <| nL ?_
   refine tC rfl (fun hc27 => ?_) fun hc27 => ?_
   ·have hl : x.kids.length = 1 := by first | (simp_all; done) | (simp_all; omega)
    have h11 : x.kind = 11 := by simp_all
    have hi0 : (x.kids.map eKid)[0]? = some [z0f (kid0 x.kids)] := by rw [List.getElem?_map]; simp [kid0, eKid, hl]
    refine tQ <| tG <| sm 2 rfl <| cV rfl (iSq rfl rfl rfl uT40 hi0 tS43 rfl (by rfl)) <| sm 1 rfl <| cE rfl (ocq (zo6 _) ent69 rfl rfl) <| sm 2 rfl <| nL <| tRt <| rOk rfl ?_ nPo
    simp_all [z02, z3v]
   refine tSk <| tQ <| tG <| cV rfl (lEA rfl rfl uT42 rfl tS42 (lb rfl)) <| cE rfl (ocq (z8m x) y80 rfl rfl) <| sm 1 rfl <| nL <| tRt <| rOk rfl ?_ nPo
   simp_all [z02, z3v]
  refine sm 6 rfl <| nL <| Tr.condF rfl <| tSk <| tQ <| tG <| cV rfl (lEA rfl rfl uT42 rfl tS42 (lb rfl)) <| cE rfl (ocq (z8m x) y80 rfl rfl) <| sm 1 rfl <| nL <| tRt <| rOk rfl ?_ nPo
  simp_all [z02, z3v]
theorem y3c (x : Fl) (s : ByteArray) : SC Tryz.prog 88 [.pv (.agg x.enc), .pv (.ept [vStr s] 0)] [] (fun _ => False) (iBool (x.name.toList == s.toList)) [] := by
  refine SC.of Tryz.func88 rfl (lb rfl) fun F ρ w => ?_
  refine tQ <| tG <| cE rfl (z1y rfl rfl) <| sm 1 rfl <| nL <| tQ <| tG <| sm 3 rfl <| cV rfl (bSt rfl rfl rfl rfl) <| sm 1 rfl <| nL <| tRt <| rOk rfl ?_ nPo
  rfl
theorem zt4 (u : Un) (s : ByteArray) : SC Tryz.prog 61 [.pv u.enc, iStr s] [] (fun _ => False) (iInt (z08 s u.flows 0)) [] := by
  refine SC.of Tryz.func61 rfl (lb rfl) fun F ρ w => ?_
  refine tQ <| tG <| cE rfl (z1y rfl rfl) <| cE rfl (y2v rfl rfl rfl) <| sm 1 rfl <| nL <| tQ <| tG <| sm 2 rfl <| cV rfl (z63 rfl rfl rfl) <| cE rfl (ocq (y37 88 [.pv (.ept [vStr s] 0)] [] rfl ent88 (fun f : Fl => f.name.toList == s.toList) u.flows (fun x hm => (y3c x s).anyR)) ent87 rfl rfl) <| sm 1 rfl ?_
  refine nL <| tRt <| rOk rfl ?_ nPo
  rw [zs5]
theorem y9x (x : Ar) (s : ByteArray) : SC Tryz.prog 131 [.pv (.agg x.enc), .pv (.ept [vStr s] 0)] [] (fun _ => False) (iBool (x.name.toList == s.toList)) [] := by
  refine SC.of Tryz.func131 rfl (lb rfl) fun F ρ w => ?_
  refine tQ <| tG <| cE rfl (z1y rfl rfl) <| sm 1 rfl <| nL <| tQ <| tG <| sm 3 rfl <| cV rfl (bSt rfl rfl rfl rfl) <| sm 1 rfl <| nL <| tRt <| rOk rfl ?_ nPo
  rfl
theorem y4u (u : Un) (s : ByteArray) : SC Tryz.prog 123 [.pv u.enc, iStr s] [] (fun _ => False) (iBool (decide (z19 s u.arrays 0 ≥ 0))) [] := by
  refine SC.of Tryz.func123 rfl (lb rfl) fun F ρ w => ?_
  refine tQ <| tG <| cE rfl (z1y rfl rfl) <| cE rfl (y2v rfl rfl rfl) <| sm 1 rfl <| nL <| tQ <| tG <| sm 2 rfl <| cV rfl (z63 rfl rfl rfl) <| cE rfl (ocq (y69 131 [.pv (.ept [vStr s] 0)] [] rfl ent131 (fun f : Ar => f.name.toList == s.toList) u.arrays (fun x hm => (y9x x s).anyR)) ent130 rfl rfl) <| sm 1 rfl ?_
  refine nL <| tRt <| rOk rfl ?_ nPo
  rw [zn2 _ _ _ (Int.le_refl 0)]
theorem zx6 (u : Un) (f : Fl) (st : List Int) (v t : Int) : SC Tryz.prog 124 [.ptr 3 0, iInt v, iInt t] (ckS u f 3 st) (fun _ => True) (iBool (z4s f.types v t)) (ckS u f 3 st) := by
  refine SC.of Tryz.func124 rfl (lb rfl) fun F ρ w => ?_
  refine tQ <| tG <| sm 1 rfl <| nL <| tQ <| tG <| sm 3 rfl ?_
  refine wS 9 rfl (fun hb9 => ?_) fun hb9 => ?_
  ·refine sm 2 rfl <| yV rfl rfl (nCk rfl rfl rfl) <| sm 3 rfl <| yV rfl rfl (oSm uT35 rfl) <| sm 3 rfl ?_
   refine wS 19 rfl (fun hb19 => ?_) fun hb19 => ?_
   ·refine sm 3 rfl ?_
    refine wS 22 rfl (fun hb22 => ?_) fun hb22 => ?_
    ·refine sm 13 rfl <| nL <| tRt <| rOk rfl ?_ (fun _ _ h => h)
     refine congrArg (fun b => iBool b) ?_
     try clear hvx
     simp_all [z4s]
    have hv0 : v.toNat < f.types.length := by simp at hb9 hb19; omega
    have hvx : v = ((v.toNat : Nat) : Int) := by simp at hb9; omega
    have hty : (f.types.map eInt)[v.toNat]? = some [vInt (f.types.getD v.toNat 0)] := by rw [List.getElem?_map]; simp [eInt, List.getD, hv0]
    refine sm 1 rfl <| yV rfl rfl (nCk rfl rfl rfl) <| sm 4 rfl <| yV rfl rfl (iSq rfl rfl rfl uT35 hty tS3 rfl oM0) <| sm 6 rfl <| nL <| tRt <| rOk rfl ?_ (fun _ _ h => h)
    refine congrArg (fun b => iBool b) ?_
    try clear hvx
    simp_all [z4s]
   refine sm 3 rfl <| nUu rfl rfl rfl rfl rfl rfl <| nUu rfl rfl rfl rfl rfl rfl <| nUu rfl rfl rfl rfl rfl rfl <| nUu rfl rfl rfl rfl rfl rfl <| nUu rfl rfl rfl rfl rfl rfl <| nUu rfl rfl rfl rfl rfl rfl <| nUu rfl rfl rfl rfl rfl rfl <| nUu rfl rfl rfl rfl rfl rfl <| nUu rfl rfl rfl rfl rfl rfl <| nUu rfl rfl rfl rfl rfl rfl <| sm 3 rfl ?_
   refine nL <| tRt <| rOk rfl ?_ (fun _ _ h => h)
   refine congrArg (fun b => iBool b) ?_
   try clear hvx
   (simp_all [z4s] <;> omega)
  refine sm 13 rfl <| nUu rfl rfl rfl rfl rfl rfl <| nUu rfl rfl rfl rfl rfl rfl <| nUu rfl rfl rfl rfl rfl rfl <| nUu rfl rfl rfl rfl rfl rfl <| nUu rfl rfl rfl rfl rfl rfl <| nUu rfl rfl rfl rfl rfl rfl <| nUu rfl rfl rfl rfl rfl rfl <| nUu rfl rfl rfl rfl rfl rfl <| nUu rfl rfl rfl rfl rfl rfl <| nUu rfl rfl rfl rfl rfl rfl <| sm 3 rfl ?_
  refine nL <| tRt <| rOk rfl ?_ (fun _ _ h => h)
  refine congrArg (fun b => iBool b) ?_
  try clear hvx
  (simp_all [z4s] <;> omega)
theorem ya3 (u : Un) (f : Fl) (st : List Int) (hs : st.length = f.types.length) (v t : Int) : SC Tryz.prog 126 [iInt v, iInt t, .ptr 5 0] (ckSp u f 3 5 st) (fun _ => True) (iBool (zf2 f.types st v t).1) (ckSp u f 3 5 st) := by
  refine SC.of Tryz.func126 rfl (lb rfl) fun F ρ w => ?_
  refine tQ <| tG <| sm 1 rfl <| nL <| tQ <| tG <| sm 3 rfl <| cE rfl (ocr (zx6 u f st v t) y7w rfl (po2 rfl rfl) rfl (fun k (h : _) => .inr trivial) rfl rfl) <| sm 1 rfl ?_
  refine wS 10 rfl (fun hb10 => ?_) fun hb10 => ?_
  ·have hrg : 0 <= v /\ v < f.types.length := by
     have hvv : z4s f.types v t = true := by simpa using hb10
     simp only [z4s, Bool.and_eq_true, decide_eq_true_eq] at hvv
     exact ⟨hvv.1.1, hvv.1.2⟩
   have hv0 : v.toNat < f.types.length := by omega
   have hvx : v = ((v.toNat : Nat) : Int) := by omega
   have hst : (st.map eInt)[v.toNat]? = some [vInt (st.getD v.toNat 0)] := by rw [List.getElem?_map]; simp [eInt, List.getD, hs, hv0]
   have hstl : v.toNat < (st.map eInt).length := by simpa [hs] using hv0
   refine sm 1 rfl <| yV rfl rfl (nCk rfl rfl rfl) <| sm 3 rfl <| yV rfl rfl (iRw rfl rfl rfl rfl rfl uT35 tS3 (by assumption) oM0) <| yV rfl rfl (lRw rfl rfl rfl rfl (Nat.add_zero _).symm (by assumption) rfl uT3 rfl trivial) <| sm 3 rfl <| nL <| tRt <| rOk rfl ?_ (z2d (And.intro rfl (And.intro rfl (And.intro rfl (trivial)))))
   refine congrArg (fun b => iBool b) ?_
   try clear hvx
   simp_all [zf2]
  refine sm 10 rfl <| nL <| tRt <| rOk rfl ?_ (z2d (And.intro rfl (And.intro rfl (And.intro rfl (trivial)))))
  refine congrArg (fun b => iBool b) ?_
  try clear hvx
  simp_all [zf2]
theorem z2g (u : Un) (f : Fl) (st : List Int) (hs : st.length = f.types.length) (l want : List Int) : SC Tryz.prog 119 [.ptr 3 0, .pv (ints l), .pv (ints want)] (ckS u f 3 st) (fun _ => True) (iBool (z17 f.types st l want)) (ckS u f 3 st) := by
  refine SC.of Tryz.func119 rfl (lb rfl) fun F ρ w => ?_
  refine tQ <| tG <| cE rfl (zd9 (k := 5) rfl rfl ⟨_, rfl⟩ rfl rfl rfl rfl rfl) <| sm 1 rfl <| nL <| tQ <| tG <| sm 2 rfl <| cV rfl (z63 rfl rfl rfl) <| cE rfl (ocr (sc_eqf 126 [.ptr 5 0] (List Int) (fun s => ckSp u f 3 5 s) [5, 3, 4] (fun _ => rfl) (fun _ => rfl) ent126 (zf2 f.types) (fun _ => True) (fun s => s.length = f.types.length) (fun s x y h => h) (fun s x y h => ya3 u f s h x y) st hs l want) ent125 rfl (po3 rfl rfl rfl) rfl (fun k (h : _) => .inr trivial) rfl rfl) <| sm 1 rfl <| nL ?_
  refine tRt ?_
  have h2 := y6n f.types st l want
  rw [h2]
  exact rOk rfl rfl (po2 rfl rfl)
theorem ya2 (u : Un) (f : Fl) (st : List Int) (hs : st.length = f.types.length) (v t : Int) : SC Tryz.prog 127 [iInt v, iInt t, .ptr 5 0] (ckSp u f 3 5 st) (fun k => k = 3 ∨ k = 5) (iBool (z3u f.types st v t).1) (ckSp u f 3 5 (z3u f.types st v t).2) := by
  refine SC.of Tryz.func127 rfl (lb rfl) fun F ρ w => ?_
  refine tQ <| tG <| sm 1 rfl <| nL <| tQ <| tQ <| tG <| sm 3 rfl <| cE rfl (ocr (zx6 u f st v t) y7w rfl (po2 rfl rfl) rfl (fun k (h : _) => .inr trivial) rfl rfl) <| sm 2 rfl ?_
  refine wS 11 rfl (fun hb11 => ?_) fun hb11 => ?_
  ·refine sm 9 rfl <| nL <| Tr.condT rfl <| tQ <| tG <| sm 1 rfl <| nL <| tRt ?_
   have h2 : z3u f.types st v t = (false, st) := by
     try clear hvx
     simp_all [z3u]
   rw [h2]
   exact rOk rfl rfl (po3 rfl rfl rfl)
  have hrg : 0 <= v /\ v < f.types.length := by
    have hvv : z4s f.types v t = true := by simpa using hb11
    simp only [z4s, Bool.and_eq_true, decide_eq_true_eq] at hvv
    exact ⟨hvv.1.1, hvv.1.2⟩
  have hv0 : v.toNat < f.types.length := by omega
  have hvx : v = ((v.toNat : Nat) : Int) := by omega
  have hst : (st.map eInt)[v.toNat]? = some [vInt (st.getD v.toNat 0)] := by rw [List.getElem?_map]; simp [eInt, List.getD, hs, hv0]
  have hstl : v.toNat < (st.map eInt).length := by simpa [hs] using hv0
  refine sm 1 rfl <| yV rfl rfl (nCk rfl rfl rfl) <| sm 3 rfl <| yV rfl rfl (iRw rfl rfl rfl rfl rfl uT35 tS3 (by assumption) oM0) <| yV rfl rfl (lRw rfl rfl rfl rfl (Nat.add_zero _).symm (by assumption) rfl uT3 rfl trivial) <| sm 2 rfl <| nL ?_
  refine tC rfl (fun hc20 => ?_) fun hc20 => ?_
  ·refine tQ <| tG <| sm 1 rfl <| nL <| tRt ?_
   have h2 : z3u f.types st v t = (false, st) := by
     try clear hvx
     simp_all [z3u]
   rw [h2]
   exact rOk rfl rfl (po3 rfl rfl rfl)
  refine tSk <| tQ <| tG <| sm 1 rfl <| cV rfl (nCk rfl rfl rfl) <| sm 3 rfl <| cV rfl (iRw rfl rfl rfl rfl rfl uT35 tS3 (by assumption) oM0) <| c0 (z1s rfl rfl rfl rfl rfl (Nat.add_zero _).symm (by assumption) sI0 tS3 rfl sI0) <| nL <| tQ <| tG <| sm 1 rfl ?_
  refine nL <| tRt ?_
  have h2 : z3u f.types st v t = (true, st.set v.toNat 1) := by
    try clear hvx
    simp_all [z3u]
  rw [h2]
  exact rOk rfl rfl (z2d (And.intro rfl (And.intro (set3 rfl) (And.intro (set4 rfl) trivial))))
theorem z3s (u : Un) (f : Fl) (st : List Int) (hs : st.length = f.types.length) (l want : List Int) : SC Tryz.prog 121 [.ptr 3 0, .pv (ints l), .pv (ints want)] (ckS u f 3 st) (fun k => k = 3) (iBool (z1k f.types st l want).1) (ckS u f 3 (z1k f.types st l want).2) := by
  refine SC.of Tryz.func121 rfl (lb rfl) fun F ρ w => ?_
  refine tQ <| tG <| cE rfl (zd9 (k := 5) rfl rfl ⟨_, rfl⟩ rfl rfl rfl rfl rfl) <| sm 1 rfl <| nL <| tQ <| tG <| sm 2 rfl <| cV rfl (z63 rfl rfl rfl) <| cE rfl (ocr (sc_eqf 127 [.ptr 5 0] (List Int) (fun s => ckSp u f 3 5 s) [5, 3, 4] (fun _ => rfl) (fun _ => rfl) ent127 (z3u f.types) (fun k => k = 3 ∨ k = 5) (fun s => s.length = f.types.length) (fun s x y h => (z7j f.types s x y).trans h) (fun s x y h => ya2 u f s h x y) st hs l want) ent125 rfl (po3 rfl rfl rfl) rfl (fun k (h : _) => by (subst h; first | exact .inl rfl | exact .inr rfl | exact .inr dC0)) rfl rfl) <| sm 1 rfl <| nL ?_
  refine tRt <| rOk rfl ?_ (z2d (And.intro rfl (And.intro rfl (trivial))))
  rfl
theorem zx4 (u : Un) (f : Fl) (st : List Int) (hs : st.length = f.types.length) (l : List Int) (hb : l.length <= 1073741824) : SC Tryz.prog 120 [.ptr 3 0, .pv (ints l)] (ckS u f 3 st) (fun k => k = 3) (iBool (z1k f.types st l (List.replicate l.length 0)).1) (ckS u f 3 (z1k f.types st l (List.replicate l.length 0)).2) := by
  refine SC.of Tryz.func120 rfl (lb rfl) fun F ρ w => ?_
  refine tQ <| tG <| sm 1 rfl <| nL <| tQ <| tG <| sm 3 rfl <| cV rfl (oSm uT35 rfl) <| cE rfl (z0w (k := 109) (s := ⟨3, 1⟩) rfl rfl rfl uT35 tZ3 tC3 rfl dC0 oM0 oM0 rfl rfl rfl rfl) <| cE rfl (z3a (fun k => k = 109) (z3s u f st hs l (List.replicate l.length 0)) y7v rfl rfl (sRf _ _) (And.intro LendOf.same (And.intro LendOf.same (And.intro (LendOf.row rfl rfl (by (simp; done)) (by (simp only [List.map_replicate]; rfl))) (trivial)))) (fun k h => by subst h; rfl) (po2 rfl rfl) rfl (fun k (h : _) => .inr h) ⟨_, rfl⟩ (ckS_lend (z3c ..))) <| sm 1 rfl <| nL ?_
  refine tRt <| rOk rfl ?_ (z2d (And.intro rfl (And.intro rfl (trivial))))
  rfl
theorem y1g (u : Un) (f : Fl) (st : List Int) (hs : st.length = f.types.length) (l : List Int) (hin : ∀ v ∈ l, 0 <= v /\ v < f.types.length) : SC Tryz.prog 91 [.ptr 3 0, .pv (ints l)] (ckS u f 3 st) (fun k => k = 3) (.tup []) (ckS u f 3 (z3j st l)) := by
  refine SC.of Tryz.func91 rfl (lb rfl) fun F ρ w => ?_
  refine Tr.lenOf (t := 1) rfl (fun hl => ?_)
  simp only [List.length_map] at hl
  refine tQ <| tG <| sm 1 rfl <| cV rfl (oSm uT35 rfl) <| sm 1 rfl <| nL <| tBk <| Tr.sub (Sub.of (fr' := [(8, iInt 0), (7, iInt l.length), (6, .pv (ints l)), (0, .ptr 3 0)]) ⟨rfl, rfl, rfl, rfl, trivial⟩) ?_
  refine Tr.loop (fun fr σ m => ∃ (k : Nat) (s : List Int), (k <= l.length) /\ (z3j st l = z3j s (l.drop k)) /\ (s.length = f.types.length) /\ fr = [(8, iInt k), (7, iInt l.length), (6, .pv (ints l)), (0, .ptr 3 0)] /\ σ = look (up (ckS u f 3 s)) /\ m = l.length - k) (n := l.length - 0) ?_ ?_
  ·exact ⟨0, st, Nat.zero_le _, rfl, hs, rfl, rfl, rfl⟩
  rintro fr σ m ⟨k, s, hI0, hI1, hI2, rfl, rfl, rfl⟩
  refine tQ <| tG <| sm 1 rfl <| nL <| tQ ?_
  refine tC rfl (fun hc9 => ?_) fun hc9 => ?_
  ·have hlt : k < l.length := by simpa using hc9
   have hd := List.drop_eq_getElem_cons hlt
   have hm := List.getElem_mem hlt
   have hi := z0d (f := eInt) (List.getElem?_eq_getElem hlt)
   generalize l[k] = x at hd hm hi
   obtain ⟨hx0, hx1⟩ := hin x hm
   have hv0 : x.toNat < f.types.length := by omega
   have hvx : x = ((x.toNat : Nat) : Int) := by omega
   have hst : (s.map eInt)[x.toNat]? = some [vInt (s.getD x.toNat 0)] := by rw [List.getElem?_map]; simp [eInt, List.getD, hI2, hv0]
   have hstl : x.toNat < (s.map eInt).length := by simpa [hI2] using hv0
   refine tSk <| tQ <| tBk <| tQ <| tG <| cV rfl (iSq rfl rfl rfl uT35 hi tS3 rfl (by rfl)) <| sm 2 rfl <| nL <| tG <| sm 1 rfl <| cV rfl (nCk rfl rfl rfl) <| sm 3 rfl ?_
   refine cV rfl (iRw rfl rfl rfl rfl rfl uT35 tS3 (by assumption) oM0) <| c0 (z1s rfl rfl rfl rfl rfl (Nat.add_zero _).symm (by assumption) sI0 tS3 rfl sI0) <| nL <| tG <| cV rfl (oB rfl rfl (z05 rfl oM0)) <| sm 1 rfl <| nL ?_
   refine ⟨_, _, ?_, Sub.of (fr' := [(8, iInt (k + 1)), (7, iInt l.length), (6, .pv (ints l)), (0, .ptr 3 0)]) ⟨rfl, rfl, rfl, rfl, trivial⟩, (k + 1), (s.set x.toNat 2), ?_, ?_, ?_, rfl, (funext y7l), rfl⟩
   ·omega
   ·omega
   ·rw [hI1, hd]; rfl
   simpa using hI2
  refine tEx ?_
  have hge : l.length <= k := by simpa using hc9
  have h2 : z3j st l = s := by rw [hI1, List.drop_eq_nil_of_le hge]; rfl
  rw [h2]
  exact end_ok rfl rfl (fun _ _ h => h)
theorem tZ145 : ((Tryz.prog.info? 145).bind (·.zero)) = some (.agg #[.string ⟨#[]⟩, .int .i64 0, .string ⟨#[]⟩, .int .i64 0, .string ⟨#[]⟩, .int .i64 0, .string ⟨#[]⟩, .int .i64 0, .string ⟨#[]⟩, .int .i64 0, .string ⟨#[]⟩, .int .i64 0, .string ⟨#[]⟩, .int .i64 0, .string ⟨#[]⟩, .int .i64 0, .string ⟨#[]⟩, .int .i64 0, .string ⟨#[]⟩, .int .i64 0, .string ⟨#[]⟩, .int .i64 0, .string ⟨#[]⟩, .int .i64 0, .string ⟨#[]⟩, .int .i64 0, .string ⟨#[]⟩, .int .i64 0, .string ⟨#[]⟩, .int .i64 0, .string ⟨#[]⟩, .int .i64 0, .string ⟨#[]⟩, .int .i64 0, .string ⟨#[]⟩, .int .i64 0, .string ⟨#[]⟩, .int .i64 0, .string ⟨#[]⟩, .int .i64 0, .string ⟨#[]⟩, .int .i64 0, .string ⟨#[]⟩, .int .i64 0, .string ⟨#[]⟩, .int .i64 0, .string ⟨#[]⟩, .int .i64 0, .string ⟨#[]⟩, .int .i64 0, .string ⟨#[]⟩, .int .i64 0, .string ⟨#[]⟩, .int .i64 0, .string ⟨#[]⟩, .int .i64 0, .string ⟨#[]⟩, .int .i64 0]) := by kernel_rfl
theorem tS145 : (Tryz.prog.info? 145).map (·.size) = some 58 := by kernel_rfl
theorem sc_rowOf (op : Int) : SC Tryz.prog 132 [iInt op] [] (fun _ => False) (.pv (.agg [vStr (wSign op), vInt (z9j op)])) [] := by
  refine SC.ofC Tryz.func132 rfl (lb rfl) rfl fun F ρ w => ?_
  refine tQ ?_
  refine tG ?_
  refine cE rfl (aLc (k := 102) rfl z4c rfl rfl rfl rfl) ?_
  refine nL ?_
  refine tQ ?_
  refine tG ?_
  refine cV rfl (bPu rfl rfl z4c z4f rfl (fbk rfl) rfl) ?_
  refine cV rfl (bPu rfl rfl z4c z4f rfl (fbk rfl) rfl) ?_
  refine cV rfl (bPu rfl rfl z4c z4f rfl (fbk rfl) rfl) ?_
  refine cV rfl (bPu rfl rfl z4c z4f rfl (fbk rfl) rfl) ?_
  refine cV rfl (bPu rfl rfl z4c z4f rfl (fbk rfl) rfl) ?_
  refine cV rfl (bPu rfl rfl z4c z4f rfl (fbk rfl) rfl) ?_
  refine cV rfl (bPu rfl rfl z4c z4f rfl (fbk rfl) rfl) ?_
  refine cV rfl (bPu rfl rfl z4c z4f rfl (fbk rfl) rfl) ?_
  refine cV rfl (bPu rfl rfl z4c z4f rfl (fbk rfl) rfl) ?_
  refine cV rfl (bPu rfl rfl z4c z4f rfl (fbk rfl) rfl) ?_
  refine cV rfl (bPu rfl rfl z4c z4f rfl (fbk rfl) rfl) ?_
  refine cV rfl (bPu rfl rfl z4c z4f rfl (fbk rfl) rfl) ?_
  refine cV rfl (bPu rfl rfl z4c z4f rfl (fbk rfl) rfl) ?_
  refine cV rfl (bPu rfl rfl z4c z4f rfl (fbk rfl) rfl) ?_
  refine cV rfl (bPu rfl rfl z4c z4f rfl (fbk rfl) rfl) ?_
  refine cV rfl (bPu rfl rfl z4c z4f rfl (fbk rfl) rfl) ?_
  refine cV rfl (bPu rfl rfl z4c z4f rfl (fbk rfl) rfl) ?_
  refine cV rfl (bPu rfl rfl z4c z4f rfl (fbk rfl) rfl) ?_
  refine cV rfl (bPu rfl rfl z4c z4f rfl (fbk rfl) rfl) ?_
  refine cV rfl (bPu rfl rfl z4c z4f rfl (fbk rfl) rfl) ?_
  refine cV rfl (bPu rfl rfl z4c z4f rfl (fbk rfl) rfl) ?_
  refine cV rfl (bPu rfl rfl z4c z4f rfl (fbk rfl) rfl) ?_
  refine cV rfl (bPu rfl rfl z4c z4f rfl (fbk rfl) rfl) ?_
  refine cV rfl (bPu rfl rfl z4c z4f rfl (fbk rfl) rfl) ?_
  refine cV rfl (bPu rfl rfl z4c z4f rfl (fbk rfl) rfl) ?_
  refine cV rfl (bPu rfl rfl z4c z4f rfl (fbk rfl) rfl) ?_
  refine cV rfl (bPu rfl rfl z4c z4f rfl (fbk rfl) rfl) ?_
  refine cV rfl (bPu rfl rfl z4c z4f rfl (fbk rfl) rfl) ?_
  refine cV rfl (zg1 rfl rfl tZ145 Tryz.underlying145 zy3 rfl (fbk rfl)) ?_
  refine cE rfl (aLc (k := 103) rfl tZ145 rfl rfl rfl rfl) ?_
  refine c0 (sBA rfl rfl rfl rfl rfl ((fun h => h)) tS145 (flk rfl) (lb rfl)) ?_
  refine nL ?_
  refine tQ ?_
  refine tQ ?_
  refine tG ?_
  refine sm 3 rfl ?_
  refine wS 35 rfl (fun hb35 => ?_) fun hb35 => ?_
  ·refine sm 3 rfl ?_
   refine nL ?_
   refine Tr.condT rfl ?_
   refine tQ ?_
   refine tG ?_
   refine cV rfl (bPu rfl rfl z4c z4f rfl (fbk rfl) rfl) ?_
   refine c0 (sBA rfl rfl rfl rfl rfl ((fun h => h)) zy3 (flk rfl) (lb rfl)) ?_
   refine nL ?_
   refine tRt ?_
   have hop : op < 0 ∨ op ≥ 29 := by
     simp_all
   refine rCk (.inl rfl) (fun _ _ ho => lBP ho rfl rfl Tryz.underlying142 rfl zy3 (lb rfl) rfl trivial) ?_ nPo
   rcases hop with h | h <;> simp [wSign, z9j, h] <;> rfl
  refine sm 3 rfl ?_
  refine nL ?_
  refine tC rfl (fun hc38 => ?_) fun hc38 => ?_
  ·refine tQ ?_
   refine tG ?_
   refine cV rfl (bPu rfl rfl z4c z4f rfl (fbk rfl) rfl) ?_
   refine c0 (sBA rfl rfl rfl rfl rfl ((fun h => h)) zy3 (flk rfl) (lb rfl)) ?_
   refine nL ?_
   refine tRt ?_
   have hop : op < 0 ∨ op ≥ 29 := by
     simp_all
   refine rCk (.inl rfl) (fun _ _ ho => lBP ho rfl rfl Tryz.underlying142 rfl zy3 (lb rfl) rfl trivial) ?_ nPo
   rcases hop with h | h <;> simp [wSign, z9j, h] <;> rfl
  refine tSk ?_
  refine tQ ?_
  have hop : 0 <= op /\ op < 29 := by
    simp_all
  rcases y7h hop.1 hop.2 with rfl | rfl | rfl | rfl | rfl | rfl | rfl | rfl | rfl | rfl | rfl | rfl | rfl | rfl | rfl | rfl | rfl | rfl | rfl | rfl | rfl | rfl | rfl | rfl | rfl | rfl | rfl | rfl | rfl
  all_goals
    refine tG ?_
    refine sm 1 rfl ?_
    refine cV rfl (zg2 rfl rfl rfl rfl Tryz.underlying145 zy3 (by rfl) dC0) ?_
    refine cV rfl (lBP rfl rfl rfl Tryz.underlying142 rfl zy3 (lb rfl) rfl trivial) ?_
    refine c0 (sBA rfl rfl rfl rfl rfl ((fun h => h)) zy3 (flk rfl) (lb rfl)) ?_
    refine nL ?_
    refine tRt <| rCk (.inl rfl) (fun _ _ ho => lBP ho rfl rfl Tryz.underlying142 rfl zy3 (lb rfl) rfl trivial) ?_ nPo
    rfl
theorem ya9 (op : Int) : SC Tryz.prog 129 [iInt op] [] (fun _ => False) (iInt (z9j op)) [] := by
  refine SC.of Tryz.func129 rfl (lb rfl) fun F ρ w => ?_
  refine tQ ?_
  refine tG ?_
  refine sm 1 rfl ?_
  refine nL ?_
  refine tQ ?_
  refine tG ?_
  refine sm 1 rfl ?_
  refine cE rfl (ocq (sc_rowOf op) ent132 rfl rfl) ?_
  refine cV rfl (zb3 rfl rfl Tryz.underlying142 rfl uT3 rfl rfl) ?_
  refine sm 1 rfl ?_
  refine nL ?_
  refine tRt <| rOk rfl ?_ nPo
  rfl
set_option maxRecDepth 20000
theorem ky {d : TypeDesc} {es : List (Value × PV)} (h : (es.all fun e => z2h d e.1) = true) : ∀ e ∈ es, z2h d e.1 = true := List.all_eq_true.1 h
set_option maxHeartbeats 2000000
attribute [local simp] z1a r8op y60 zt1 r8kn Nd.kind Nd.op Nd.n Nd.name Nd.kids Nd.params z5x in
theorem y9v (x : Nd) : SC Tryz.prog 106 [.pv (ndv x)] [] (fun _ => False) (iBool (z1a x)) [] := by
  refine SC.anyR (SC.vc tb {} [] Tryz.func106 rfl rfl ?_)
  obtain ⟨kind, op, n, name, args, outs, params, kids⟩ := x
  rcases (show kind = 3 ∨ kind = 4 ∨ kind = 1 ∨ kind = 2 ∨ kind = 5 ∨ kind = 6 ∨ kind = 7 ∨ kind = 11 ∨ kind = 10 ∨ (kind ≠ 1 /\ kind ≠ 2 /\ kind ≠ 3 /\ kind ≠ 4 /\ kind ≠ 5 /\ kind ≠ 6 /\ kind ≠ 7 /\ kind ≠ 11 /\ kind ≠ 10) by omega) with rfl | rfl | rfl | rfl | rfl | rfl | rfl | rfl | rfl | h
  · exact ⟨rfl, ky rfl, rfl, ky rfl, rfl, ky rfl, rfl, z0a (fun h3 => z0a (fun h2 => z0a (fun h1 => ⟨sE (congrArg iBool (by simp_all)), trivial⟩) fun h1 => ⟨sE (congrArg iBool (by simp_all)), trivial⟩) fun h2 => ⟨sE (congrArg iBool (by simp_all)), trivial⟩) fun h3 => ⟨sE (congrArg iBool (by simp_all)), trivial⟩⟩
  · exact ⟨rfl, ky rfl, rfl, ky rfl, rfl, ky rfl, rfl, z0a (fun h3 => z0a (fun h2 => z0a (fun h1 => ⟨sE (congrArg iBool (by simp_all)), trivial⟩) fun h1 => ⟨sE (congrArg iBool (by simp_all)), trivial⟩) fun h2 => ⟨sE (congrArg iBool (by simp_all)), trivial⟩) fun h3 => ⟨sE (congrArg iBool (by simp_all)), trivial⟩⟩
  · exact ⟨rfl, ky rfl, rfl, ky rfl, rfl, ky rfl, rfl, z0a (fun h3 => z0a (fun h2 => z0a (fun h1 => ⟨sE (congrArg iBool (by simp_all)), trivial⟩) fun h1 => ⟨sE (congrArg iBool (by simp_all)), trivial⟩) fun h2 => ⟨sE (congrArg iBool (by simp_all)), trivial⟩) fun h3 => ⟨sE (congrArg iBool (by simp_all)), trivial⟩⟩
  · exact ⟨rfl, ky rfl, rfl, ky rfl, rfl, ky rfl, rfl, z0a (fun h3 => z0a (fun h2 => z0a (fun h1 => ⟨sE (congrArg iBool (by simp_all)), trivial⟩) fun h1 => ⟨sE (congrArg iBool (by simp_all)), trivial⟩) fun h2 => ⟨sE (congrArg iBool (by simp_all)), trivial⟩) fun h3 => ⟨sE (congrArg iBool (by simp_all)), trivial⟩⟩
  · exact ⟨rfl, ky rfl, rfl, ky rfl, rfl, ky rfl, rfl, z0a (fun h4 => z0a (fun h3 => z0a (fun h2 => z0a (fun h1 => ⟨sE (congrArg iBool (by simp_all)), trivial⟩) fun h1 => ⟨sE (congrArg iBool (by simp_all)), trivial⟩) fun h2 => ⟨sE (congrArg iBool (by simp_all)), trivial⟩) fun h3 => ⟨sE (congrArg iBool (by simp_all)), trivial⟩) fun h4 => ⟨sE (congrArg iBool (by simp_all)), trivial⟩⟩
  · exact ⟨rfl, ky rfl, rfl, ky rfl, rfl, ky rfl, rfl, z0a (fun h4 => z0a (fun h3 => z0a (fun h2 => z0a (fun h1 => ⟨sE (congrArg iBool (by simp_all)), trivial⟩) fun h1 => ⟨sE (congrArg iBool (by simp_all)), trivial⟩) fun h2 => ⟨sE (congrArg iBool (by simp_all)), trivial⟩) fun h3 => ⟨sE (congrArg iBool (by simp_all)), trivial⟩) fun h4 => ⟨sE (congrArg iBool (by simp_all)), trivial⟩⟩
  · exact ⟨rfl, ky rfl, rfl, ky rfl, rfl, ky rfl, rfl, z0a (fun h4 => z0a (fun h3 => z0a (fun h2 => z0a (fun h1 => ⟨sE (congrArg iBool (by simp_all)), trivial⟩) fun h1 => ⟨sE (congrArg iBool (by simp_all)), trivial⟩) fun h2 => ⟨sE (congrArg iBool (by simp_all)), trivial⟩) fun h3 => ⟨sE (congrArg iBool (by simp_all)), trivial⟩) fun h4 => ⟨sE (congrArg iBool (by simp_all)), trivial⟩⟩
  · exact ⟨rfl, ky rfl, rfl, ky rfl, rfl, ky rfl, rfl, z0a (fun h3 => z0a (fun h2 => z0a (fun h1 => ⟨sE (congrArg iBool (by simp_all)), trivial⟩) fun h1 => ⟨sE (congrArg iBool (by simp_all)), trivial⟩) fun h2 => ⟨sE (congrArg iBool (by simp_all)), trivial⟩) fun h3 => ⟨sE (congrArg iBool (by simp_all)), trivial⟩⟩
  · exact ⟨rfl, ky rfl, rfl, ky rfl, rfl, ky rfl, rfl, z0a (fun h4 => z0a (fun h3 => z0a (fun h2 => z0a (fun h1 => ⟨sE (congrArg iBool (by simp_all)), trivial⟩) fun h1 => ⟨sE (congrArg iBool (by simp_all)), trivial⟩) fun h2 => ⟨sE (congrArg iBool (by simp_all)), trivial⟩) fun h3 => ⟨sE (congrArg iBool (by simp_all)), trivial⟩) fun h4 => ⟨sE (congrArg iBool (by simp_all)), trivial⟩⟩
  · obtain ⟨k1, k2, k3, k4, k5, k6, k7, k8, k9⟩ := h
    have no : ∀ {i : Int}, kind ≠ i -> (kind == i) = true -> False := fun h e => h (eq_of_beq e)
    exact ⟨rfl, ky rfl, rfl, ky rfl, VAsk.mk (p := vInt 0) (b := false) rfl (ky rfl) (by simp [Nd.kind, k8, k9, mput, keyB, z5f] <;> rfl) (z0a (fun h => (no k3 h).elim) fun _ => z0a (fun h => (no k4 h).elim) fun _ => z0a (fun h => (no k1 h).elim) fun _ => z0a (fun h => (no k2 h).elim) fun _ => z0a (fun h => (no k5 h).elim) fun _ => z0a (fun h => (no k6 h).elim) fun _ => z0a (fun h => (no k7 h).elim) fun _ => z0a (fun h => (no k8 h).elim) fun _ => z0a (fun h4 => z0a (fun h3 => z0a (fun h2 => z0a (fun h1 => ⟨sE (congrArg iBool (by simp_all)), trivial⟩) fun h1 => ⟨sE (congrArg iBool (by simp_all)), trivial⟩) fun h2 => ⟨sE (congrArg iBool (by simp_all)), trivial⟩) fun h3 => ⟨sE (congrArg iBool (by simp_all)), trivial⟩) fun h4 => ⟨sE (congrArg iBool (by simp_all)), trivial⟩)⟩
theorem ze9 (u : Un) (f : Fl) (st : List Int) (hs : st.length = f.types.length) (l : List Int) (hb : l.length <= 1073741824) : SC Tryz.prog 118 [.ptr 3 0, .pv (ints l)] (ckS u f 3 st) (fun k => k < 100) (.pv (ints (r8of f.types l))) (ckS u f 3 st) := by
  refine SC.of Tryz.func118 rfl (lb rfl) fun F ρ w => ?_
  refine Tr.lenOf (t := 1) rfl (fun hl => ?_)
  simp only [List.length_map] at hl
  rw [y9b]
  refine tQ <| tG <| sm 1 rfl <| nL <| tQ <| tQ <| Tr.grow (t := 4) (k := 104) ⟨3, 1⟩ rfl rfl rfl rfl rfl <| tG <| sm 1 rfl <| cV rfl (oSm uT35 rfl) <| sm 1 rfl <| nL ?_
  refine tBk <| Tr.sub (Sub.of (fr' := [(9, iInt 0), (8, iInt l.length), (7, .pv (ints l)), (4, .sl 104 0), (0, .ptr 3 0)]) ⟨rfl, rfl, rfl, rfl, rfl, trivial⟩) ?_
  refine Tr.loop (fun fr σ m => ∃ (k : Nat) (acc : List Int), (k <= l.length) /\ (acc.length = k) /\ (z6n f.types [] l = z6n f.types acc (l.drop k)) /\ fr = [(9, iInt k), (8, iInt l.length), (7, .pv (ints l)), (4, .sl 104 k), (0, .ptr 3 0)] /\ σ = look ((104, some (.row ⟨3, 1⟩ (acc.map eInt))) :: up (ckS u f 3 st)) /\ m = l.length - k) (n := l.length - 0) ?_ ?_
  ·exact ⟨0, [], Nat.zero_le _, rfl, rfl, rfl, rfl, rfl⟩
  rintro fr σ m ⟨k, acc, hI0, hI1, hI2, rfl, rfl, rfl⟩
  refine tQ <| tG <| sm 1 rfl <| nL <| tQ ?_
  refine tC rfl (fun hc10 => ?_) fun hc10 => ?_
  ·have hlt : k < l.length := by simpa using hc10
   have hd := List.drop_eq_getElem_cons hlt
   have hm := List.getElem_mem hlt
   have hi := z0d (f := eInt) (List.getElem?_eq_getElem hlt)
   generalize l[k] = x at hd hm hi
   refine tSk <| tQ <| tBk <| tQ <| tG <| cV rfl (iSq rfl rfl rfl uT35 hi tS3 rfl (by rfl)) <| sm 2 rfl <| nL <| tQ <| tQ <| tG <| sm 2 rfl ?_
   refine cE rfl (ocr (zx6 u f st x 0) y7w rfl (po2 rfl rfl) rfl (fun k (h : _) => .inr trivial) rfl rfl) <| sm 1 rfl <| nL ?_
   refine tC rfl (fun hc16 => ?_) fun hc16 => ?_
   ·refine tQ <| tG <| sm 1 rfl <| nL <| tRt ?_
    have hin : z6y f.types x = false := by
      cases hr : z6y f.types x with
      | false => rfl
      | true => simp [z6y] at hr; simp [z4s] at hc16; omega
    rw [hI2, hd]
    simp only [z6n, hin]
    exact ⟨⟨_, rfl, fun _ _ _ _ h => zf4 h⟩, (po2 rfl rfl)⟩
   have hin : z6y f.types x = true := by simp [z4s] at hc16; simp [z6y]; omega
   have hv0 : x.toNat < f.types.length := by simp [z6y] at hin; omega
   have hvx : x = ((x.toNat : Nat) : Int) := by simp [z6y] at hin; omega
   have hty : (f.types.map eInt)[x.toNat]? = some [vInt (f.types.getD x.toNat 0)] := by rw [List.getElem?_map]; simp [eInt, List.getD, hv0]
   refine tSk <| tG <| sm 2 rfl <| cV rfl (nCk rfl rfl rfl) <| sm 4 rfl <| cV rfl (iSq rfl rfl rfl uT35 hty tS3 rfl oM0) <| sm 1 rfl <| cE rfl (bSl rfl rfl uT35 tZ3 tS3 rfl rfl rfl rfl (fbk rfl) rfl) ?_
   refine cE rfl (aPp rfl rfl rfl rfl (by (simp; omega)) sI0 uT35 tB3 dC0 (by (simp [z01]; done)) (by (simp [z01, PV.one]; rfl)) (by simp [maxLen, z01]; omega) (by simp [z01]; omega)) ?_
   refine sm 1 rfl <| nL <| tG <| cV rfl (oB rfl rfl (z05 rfl oM0)) <| sm 1 rfl <| nL ?_
   refine ⟨_, _, ?_, Sub.of (fr' := [(9, iInt (k + 1)), (8, iInt l.length), (7, .pv (ints l)), (4, .sl 104 (k + 1)), (0, .ptr 3 0)]) ⟨rfl, rfl, rfl, rfl, rfl, trivial⟩, (k + 1), (acc ++ [f.types.getD x.toNat 0]), ?_, ?_, ?_, rfl, zq8, rfl⟩
   ·omega
   ·omega
   ·simp [hI1]
   rw [hI2, hd]
   simp [z6n, hin]
  refine tEx <| tQ ?_
  refine Tr.freeze (t := 4) (k := 104) rfl rfl (by simpa using hI1) ?_
  refine tG <| sm 2 rfl <| nL <| tRt <| rOk rfl ?_ (po2 rfl rfl)
  have hge : l.length <= k := by simpa using hc10
  rw [hI2, List.drop_eq_nil_of_le hge]
  rfl
theorem y4v (u : Un) (f : Fl) (st : List Int) (hs : st.length = f.types.length) (x : Nd) : SC Tryz.prog 122 [.ptr 3 0, .pv (ndv x)] (ckS u f 3 st) (fun k => k = 3) (iBool (z40 f st x).1) (ckS u f 3 (z40 f st x).2) := by
  refine SC.of Tryz.func122 rfl (lb rfl) fun F ρ w => ?_
  refine tQ <| tG <| cE rfl (z1y rfl rfl) <| sm 1 rfl <| nL <| tQ <| tG <| sm 2 rfl <| cE rfl (ocq (y1i _) ent128 rfl rfl) <| sm 1 rfl <| cV rfl (z1w rfl rfl rfl) <| cV rfl (z1w rfl rfl rfl) ?_
  refine sm 2 rfl <| nL <| tQ <| tQ <| tG <| sm 3 rfl <| nL ?_
  refine tC rfl (fun hc16 => ?_) fun hc16 => ?_
  ·refine tQ <| tG <| sm 4 rfl ?_
   refine wS 20 rfl (fun hb20 => ?_) fun hb20 => ?_
   ·refine sm 5 rfl ?_
    refine wS 25 rfl (fun hb25 => ?_) fun hb25 => ?_
    ·refine sm 4 rfl <| WL.yes rfl rfl rfl rfl rfl rfl (bSl rfl rfl uT35 tZ3 tS3 rfl rfl rfl rfl (fbk rfl) rfl) <| WL.yes rfl rfl rfl rfl rfl rfl (cRr (z2g u f st hs x.args [(z09 x.op).1]) zr7 rfl rfl (sRf _ _) (po2 rfl rfl) (by rfl) (fun k (h : _) => .inr trivial) rfl (by rfl)) <| sm 2 rfl ?_
     refine wS 33 rfl (fun hb33 => ?_) fun hb33 => ?_
     ·refine sm 4 rfl <| WL.yes rfl rfl rfl rfl rfl rfl (bSl rfl rfl uT35 tZ3 tS3 rfl rfl rfl rfl (fbk rfl) rfl) <| WL.yes rfl rfl rfl rfl rfl rfl (cRr (z3s u f st hs x.outs [(z09 x.op).2]) y7v rfl rfl (sRf _ _) (po2 rfl rfl) (by rfl) (fun k (h : _) => .inr h) rfl (by rfl)) <| sm 2 rfl <| nL <| tRt ?_
      (have h2 : (z40 f st x).2 = (z1k f.types st x.outs [(z09 x.op).2]).2 := (by simp_all [z40, z2p, andP]; done)
       rw [h2]
       refine rOk rfl ?_ (po2 rfl rfl)
       clear h2
       skip
       simp_all [z40, z2p, andP]
       done)
     refine sm 8 rfl <| nL <| tRt ?_
     (have h2 : (z40 f st x).2 = st := (by simp_all [z40, z2p, andP]; done)
      rw [h2]
      refine rOk rfl ?_ (po2 rfl rfl)
      clear h2
      skip
      simp_all [z40, z2p, andP]
      done)
    refine sm 16 rfl <| nL <| tRt ?_
    (have h2 : z40 f st x = (false, st) := (by (first | (simp_all [z40, z2p, andP]; done) | (simp_all [z40, z2p, andP] <;> omega)))
     rw [h2]
     exact rOk rfl rfl (po2 rfl rfl))
   refine sm 21 rfl <| nL <| tRt ?_
   (have h2 : z40 f st x = (false, st) := (by (first | (simp_all [z40, z2p, andP]; done) | (simp_all [z40, z2p, andP] <;> omega)))
    rw [h2]
    exact rOk rfl rfl (po2 rfl rfl))
  refine tSk <| tQ <| tG <| sm 2 rfl <| cE rfl (ocq (ya9 _) ent129 rfl rfl) <| sm 2 rfl ?_
  refine wS 45 rfl (fun hb45 => ?_) fun hb45 => ?_
  ·refine sm 5 rfl ?_
   refine wS 50 rfl (fun hb50 => ?_) fun hb50 => ?_
   ·refine sm 5 rfl <| WL.yes rfl rfl rfl rfl rfl rfl (bSl rfl rfl uT35 tZ3 tS3 rfl rfl rfl rfl (fbk rfl) rfl) <| WL.yes rfl rfl rfl rfl rfl rfl (cRr (z2g u f st hs x.args [(z09 x.op).1, (z09 x.op).1]) zr7 rfl rfl (sRf _ _) (po2 rfl rfl) (by rfl) (fun k (h : _) => .inr trivial) rfl (by rfl)) <| sm 2 rfl <| nL <| tQ <| tDr z1t (fun k => k ∈ ([3] : List Nat)) <| wR 4 [0, 1, 2, 3, 4, 5, 6, 7, 8, 9, 10, 11, 12, 13, 14, 15, 16, 17, 18, 19, 20, 21, 22, 23, 24, 25, 26, 27, 28, 29, 30] kR0 h30 <| smR 2 rfl ?_
    refine WR.split (t := 60) rfl (fun hb60 => ?_) (fun hb60 => ?_)
    ·obtain ⟨a, b, hab, ha0, hal, hb0, hbl⟩ := y6o (by simpa using hb60)
     have hi0 : (x.args.map eInt)[0]? = some [vInt a] := by rw [hab]; rfl
     have hi1 : (x.args.map eInt)[1]? = some [vInt b] := by rw [hab]; rfl
     have hta : (f.types.map eInt)[a.toNat]? = some [vInt (f.types.getD a.toNat 0)] := by rw [List.getElem?_map]; simp [eInt, List.getD, hal]
     have htb : (f.types.map eInt)[b.toNat]? = some [vInt (f.types.getD b.toNat 0)] := by rw [List.getElem?_map]; simp [eInt, List.getD, hbl]
     refine smR 1 rfl <| ryV rfl rfl rfl (nCk rfl rfl rfl) <| smR 2 rfl <| ryV rfl rfl rfl (oLb uT35 rfl rfl rfl dC0) <| smR 2 rfl <| ryV rfl rfl rfl (iSq rfl rfl rfl uT35 hi0 tS3 rfl (by rfl)) <| smR 1 rfl <| ryV rfl rfl rfl (iSq rfl rfl rfl uT35 hta tS3 rfl oM0) <| smR 2 rfl <| ryV rfl rfl rfl (nCk rfl rfl rfl) <| smR 2 rfl <| ryV rfl rfl rfl (oLb uT35 rfl rfl rfl dC0) ?_
     refine smR 2 rfl <| ryV rfl rfl rfl (iSq rfl rfl rfl uT35 hi1 tS3 rfl (by rfl)) <| smR 1 rfl <| ryV rfl rfl rfl (iSq rfl rfl rfl uT35 htb tS3 rfl oM0) <| smR 4 rfl ?_
     refine WR.split (t := 85) rfl (fun hb85 => ?_) (fun hb85 => ?_)
     ·refine smR 4 rfl <| nR <| wO 31 kR0 <| wY rfl rfl rfl (fun k (h : _) => by (simp at h ⊢; omega)) nw (fun _ _ => bSl rfl rfl uT35 tZ3 tS3 rfl rfl rfl rfl (fbk rfl) rfl) <| wO 32 kR0 <| wY rfl rfl rfl (fun k (h : _) => by (simp at h ⊢; omega)) (nAp rfl) (fun _ _ => ocr (z3s u f st hs x.outs [(z09 x.op).2]) y7v rfl (po2 rfl rfl) rfl (fun k (h : _) => by (simp only [List.mem_cons, List.not_mem_nil, or_false] at h; rcases h with rfl <;> first | exact .inl rfl | exact .inr rfl | exact .inr dC0)) rfl rfl) <| wR 0 [33, 34] kR0 h30 <| smR 2 rfl <| nR <| wDn kR0 <| tRt ?_
      (have h2 : (z40 f st x).2 = (z1k f.types st x.outs [(z09 x.op).2]).2 := (by (try (clear ha0 hb0)); simp_all [z40, andP]; done)
       rw [h2]
       refine rOk rfl ?_ (po2 rfl rfl)
       clear h2
       try (clear ha0 hb0)
       simp_all [z40, andP]
       done)
     refine smR 4 rfl <| nR <| wN 31 kR0 h30 rfl rfl rfl <| wN 32 kR0 h30 rfl rfl rfl <| wR 0 [33, 34] kR0 h30 <| smR 2 rfl <| nR <| wDn kR0 <| tRt ?_
     (have h2 : (z40 f st x).2 = st := (by (try (clear ha0 hb0)); simp_all [z40, andP]; done)
      rw [h2]
      refine rOk rfl ?_ (po2 rfl rfl)
      clear h2
      try (clear ha0 hb0)
      simp_all [z40, andP]
      done)
    refine smR 29 rfl <| nR <| wN 31 kR0 h30 rfl rfl rfl <| wN 32 kR0 h30 rfl rfl rfl <| wR 0 [33, 34] kR0 h30 <| smR 2 rfl <| nR <| wDn kR0 <| tRt ?_
    (have h2 : (z40 f st x).2 = st := (by (try (clear ha0 hb0)); simp_all [z40, andP]; done)
     rw [h2]
     refine rOk rfl ?_ (po2 rfl rfl)
     clear h2
     try (clear ha0 hb0)
     simp_all [z40, andP]
     done)
   refine sm 9 rfl <| nL <| tQ <| tDr z1t (fun k => k ∈ ([3] : List Nat)) <| wR 4 [0, 1, 2, 3, 4, 5, 6, 7, 8, 9, 10, 11, 12, 13, 14, 15, 16, 17, 18, 19, 20, 21, 22, 23, 24, 25, 26, 27, 28, 29, 30] kR0 h30 <| smR 31 rfl <| nR <| wN 31 kR0 h30 rfl rfl rfl <| wN 32 kR0 h30 rfl rfl rfl <| wR 0 [33, 34] kR0 h30 <| smR 2 rfl <| nR ?_
   refine wDn kR0 <| tRt ?_
   (have h2 : z40 f st x = (false, st) := (by (try (clear ha0 hb0)); (first | (simp_all [z40, andP]; done) | (simp_all [z40, andP] <;> omega)))
    rw [h2]
    exact rOk rfl rfl (po2 rfl rfl))
  refine sm 14 rfl <| nL <| tQ <| tDr z1t (fun k => k ∈ ([3] : List Nat)) <| wR 4 [0, 1, 2, 3, 4, 5, 6, 7, 8, 9, 10, 11, 12, 13, 14, 15, 16, 17, 18, 19, 20, 21, 22, 23, 24, 25, 26, 27, 28, 29, 30] kR0 h30 <| smR 31 rfl <| nR <| wN 31 kR0 h30 rfl rfl rfl <| wN 32 kR0 h30 rfl rfl rfl <| wR 0 [33, 34] kR0 h30 <| smR 2 rfl <| nR ?_
  refine wDn kR0 <| tRt ?_
  (have h2 : z40 f st x = (false, st) := (by (try (clear ha0 hb0)); (first | (simp_all [z40, andP]; done) | (simp_all [z40, andP] <;> omega)))
   rw [h2]
   exact rOk rfl rfl (po2 rfl rfl))
theorem sc_shEnd (u : Un) (f : Fl) (st : List Int) (hs : st.length = f.types.length) (x : Nd) (wh : Wh) : SC Tryz.prog 109 [.ptr 3 0, .pv (ndv x), .pv (whv wh)] (ckS u f 3 st) (fun k => k = 3) (iBool (z7z f st x wh)) (ckS u f 3 st) := by
  refine SC.of Tryz.func109 rfl (lb rfl) fun F ρ w => ?_
  refine tQ <| tG <| cE rfl (z1y rfl rfl) <| cE rfl (z1y rfl rfl) <| sm 1 rfl <| nL <| tQ <| tG <| sm 2 rfl <| cV rfl (oSm uT35 rfl) <| sm 2 rfl <| nL ?_
  refine tQ <| tQ <| tG <| sm 2 rfl <| nL <| tBk <| tQ <| tG <| sm 2 rfl <| nL ?_
  refine tC rfl (fun hc14 => ?_) fun hc14 => ?_
  ·refine tQ <| tG <| sm 2 rfl ?_
   refine wS 17 rfl (fun hb17 => ?_) fun hb17 => ?_
   ·refine sm 4 rfl ?_
    refine wS 21 rfl (fun hb21 => ?_) fun hb21 => ?_
    ·refine sm 5 rfl <| WL.yes rfl rfl rfl rfl rfl rfl (cRr (z2g u f st hs x.args wh.Yield) zr7 rfl rfl (sRf _ _) (po2 rfl rfl) (by rfl) (fun k (h : _) => .inr trivial) rfl (by rfl)) <| sm 2 rfl <| nL <| tRt <| rOk rfl ?_ (z2d (And.intro rfl (And.intro rfl (trivial))))
     refine congrArg (fun b => iBool b) ?_
     simp_all [z7z]
    refine sm 8 rfl <| nL <| tRt <| rOk rfl ?_ (z2d (And.intro rfl (And.intro rfl (trivial))))
    refine congrArg (fun b => iBool b) ?_
    simp_all [z7z]
   refine sm 12 rfl <| nL <| tRt <| rOk rfl ?_ (z2d (And.intro rfl (And.intro rfl (trivial))))
   refine congrArg (fun b => iBool b) ?_
   simp_all [z7z]
  refine tQ <| tG <| sm 2 rfl <| nL ?_
  refine tC rfl (fun hc29 => ?_) fun hc29 => ?_
  ·refine tQ <| tG <| sm 2 rfl ?_
   refine wS 32 rfl (fun hb32 => ?_) fun hb32 => ?_
   ·refine sm 4 rfl ?_
    refine wS 36 rfl (fun hb36 => ?_) fun hb36 => ?_
    ·refine sm 5 rfl <| WL.yes rfl rfl rfl rfl rfl rfl (cRr (z2g u f st hs x.args wh.Next) zr7 rfl rfl (sRf _ _) (po2 rfl rfl) (by rfl) (fun k (h : _) => .inr trivial) rfl (by rfl)) <| sm 2 rfl <| nL <| tRt <| rOk rfl ?_ (z2d (And.intro rfl (And.intro rfl (trivial))))
     refine congrArg (fun b => iBool b) ?_
     simp_all [z7z]
    refine sm 8 rfl <| nL <| tRt <| rOk rfl ?_ (z2d (And.intro rfl (And.intro rfl (trivial))))
    refine congrArg (fun b => iBool b) ?_
    simp_all [z7z]
   refine sm 12 rfl <| nL <| tRt <| rOk rfl ?_ (z2d (And.intro rfl (And.intro rfl (trivial))))
   refine congrArg (fun b => iBool b) ?_
   simp_all [z7z]
  refine tQ <| tG <| sm 2 rfl <| nL ?_
  refine tC rfl (fun hc44 => ?_) fun hc44 => ?_
  ·refine tQ <| tG <| sm 2 rfl ?_
   refine wS 47 rfl (fun hb47 => ?_) fun hb47 => ?_
   ·refine sm 4 rfl ?_
    refine wS 51 rfl (fun hb51 => ?_) fun hb51 => ?_
    ·refine sm 5 rfl <| WL.yes rfl rfl rfl rfl rfl rfl (cRr (z2g u f st hs x.args wh.Left) zr7 rfl rfl (sRf _ _) (po2 rfl rfl) (by rfl) (fun k (h : _) => .inr trivial) rfl (by rfl)) <| sm 2 rfl <| nL <| tRt <| rOk rfl ?_ (z2d (And.intro rfl (And.intro rfl (trivial))))
     refine congrArg (fun b => iBool b) ?_
     simp_all [z7z]
    refine sm 8 rfl <| nL <| tRt <| rOk rfl ?_ (z2d (And.intro rfl (And.intro rfl (trivial))))
    refine congrArg (fun b => iBool b) ?_
    simp_all [z7z]
   refine sm 12 rfl <| nL <| tRt <| rOk rfl ?_ (z2d (And.intro rfl (And.intro rfl (trivial))))
   refine congrArg (fun b => iBool b) ?_
   simp_all [z7z]
  refine tSk <| tQ <| tDr z1t (fun k => k ∈ ([3, 4] : List Nat)) <| wR 4 [0, 1, 2, 3, 4, 5, 6, 7, 8, 9] kR0 h30 <| smR 2 rfl ?_
  refine WR.split (t := 60) rfl (fun hb60 => ?_) (fun hb60 => ?_)
  ·refine smR 4 rfl <| ryV rfl rfl rfl (nCk rfl rfl rfl) <| smR 2 rfl <| ryV rfl rfl rfl (oLb uT3 rfl rfl rfl dC0) <| nR <| wO 10 kR0 <| wY rfl rfl rfl (fun k (h : _) => by (simp at h ⊢; omega)) nw (fun _ _ => bSl rfl rfl uT35 tZ3 tS3 rfl rfl rfl rfl (fbk rfl) rfl) <| wO 11 kR0 <| wY rfl rfl rfl (fun k (h : _) => by (simp at h ⊢; omega)) (nAp rfl) (fun _ _ => ocr (z2g u f st hs x.args [f.ty]) zr7 rfl (po2 rfl rfl) rfl (fun k (h : _) => .inr trivial) rfl rfl) <| wR 0 [12, 13] kR0 h30 <| smR 2 rfl <| nR ?_
   refine wDn kR0 <| tRt <| rOk rfl ?_ (z2d (And.intro rfl (And.intro rfl (trivial))))
   refine congrArg (fun b => iBool b) ?_
   simp_all [z7z]
  refine smR 8 rfl <| nR <| wN 10 kR0 h30 rfl rfl rfl <| wN 11 kR0 h30 rfl rfl rfl <| wR 0 [12, 13] kR0 h30 <| smR 2 rfl <| nR <| wDn kR0 <| tRt <| rOk rfl ?_ (z2d (And.intro rfl (And.intro rfl (trivial))))
  refine congrArg (fun b => iBool b) ?_
  simp_all [z7z]
set_option maxRecDepth 20000
theorem y3d (u : Un) (f : Fl) (st : List Int) (hs : st.length = f.types.length) (hg : ∀ g ∈ u.flows, 0 <= g.params /\ g.params <= g.types.length) (x : Nd) : SC Tryz.prog 110 [.ptr 3 0, .pv (ndv x)] (ckS u f 3 st) (fun k => k = 3) (iBool (z28 u f st x).1) (ckS u f 3 (z28 u f st x).2) := by
  refine SC.sameR (SC.vc tb {} [3] Tryz.func110 rfl rfl ?_) fun k _ h => List.mem_singleton.2 h
  obtain ⟨kind, op, n, name, args, outs, params, kids⟩ := x
  rcases (show kind = 1 ∨ kind = 2 ∨ kind = 3 ∨ kind = 4 ∨ kind = 5 ∨ kind = 6 ∨ kind = 8 ∨ kind = 9 ∨ kind = 7 ∨ (kind ≠ 1 /\ kind ≠ 2 /\ kind ≠ 3 /\ kind ≠ 4 /\ kind ≠ 5 /\ kind ≠ 6 /\ kind ≠ 8 /\ kind ≠ 9 /\ kind ≠ 7) by omega) with rfl | rfl | rfl | rfl | rfl | rfl | rfl | rfl | rfl | h
  · have e : z28 u f st (.mk 1 op n name args outs params kids) = andP (z17 f.types st args []) st (z1k f.types st outs [1]) := rfl
    rw [e]
    have h1 := z2g u f st hs args []
    generalize z17 f.types st args [] = b at h1 ⊢
    cases b
    · exact ⟨[], h1, SubA.same (SubA.same (SubA.cons sN SubA.nil)), ⟨rfl, trivial, rfl, trivial⟩, rfl, sI, rfl, rfl, trivial⟩
    · exact ⟨[], h1, SubA.same (SubA.same (SubA.cons sN SubA.nil)), ⟨rfl, trivial, rfl, trivial⟩, rfl, [], z3s u f st hs outs [1], sR, ⟨rfl, rfl, rfl, trivial⟩, rfl, sI, rfl, rfl, trivial⟩
  · have e : z28 u f st (.mk 2 op n name args outs params kids) = andP ((n == 0 || n == 1) && z17 f.types st args []) st (z1k f.types st outs [2]) := rfl
    rw [e]
    have h1 := z2g u f st hs args []
    generalize z17 f.types st args [] = b at h1 ⊢
    rcases (show n = 0 ∨ n = 1 ∨ ((n == 0) = false /\ (n == 1) = false) by simp; omega) with rfl | rfl | ⟨h2, h3⟩
    · cases b
      · exact ⟨[], h1, SubA.same (SubA.same (SubA.cons sN SubA.nil)), ⟨rfl, trivial, rfl, trivial⟩, rfl, sI, rfl, rfl, trivial⟩
      · exact ⟨[], h1, SubA.same (SubA.same (SubA.cons sN SubA.nil)), ⟨rfl, trivial, rfl, trivial⟩, rfl, [], z3s u f st hs outs [2], sR, ⟨rfl, rfl, rfl, trivial⟩, rfl, sI, rfl, rfl, trivial⟩
    · cases b
      · exact ⟨[], h1, SubA.same (SubA.same (SubA.cons sN SubA.nil)), ⟨rfl, trivial, rfl, trivial⟩, rfl, sI, rfl, rfl, trivial⟩
      · exact ⟨[], h1, SubA.same (SubA.same (SubA.cons sN SubA.nil)), ⟨rfl, trivial, rfl, trivial⟩, rfl, [], z3s u f st hs outs [2], sR, ⟨rfl, rfl, rfl, trivial⟩, rfl, sI, rfl, rfl, trivial⟩
    · rw [show ((n == 0 || n == 1) && b) = false by rw [h2, h3]; rfl]
      refine z0a (fun h => absurd (h.symm.trans h2) dC0) fun _ => z0a (fun h => absurd (h.symm.trans h3) dC0) fun _ => ?_
      exact ⟨sI, rfl, rfl, trivial⟩
  · exact ⟨[], y4v u f st hs (.mk 3 op n name args outs params kids), sR, ⟨rfl, rfl, rfl, trivial⟩, rfl, sI, rfl, rfl, trivial⟩
  · exact ⟨[], y4v u f st hs (.mk 4 op n name args outs params kids), sR, ⟨rfl, rfl, rfl, trivial⟩, rfl, sI, rfl, rfl, trivial⟩
  · have e : z28 u f st (.mk 5 op n name args outs params kids) = andP (decide (z19 name u.arrays 0 ≥ 0) && z17 f.types st args [1]) st (z1k f.types st outs [1]) := rfl
    rw [e]
    have h0 := y4u u name
    have h1 := z2g u f st hs args [1]
    generalize z17 f.types st args [1] = b at h1 ⊢
    generalize decide (z19 name u.arrays 0 ≥ 0) = c at h0 ⊢
    cases c
    · exact ⟨[], h0, sR, trivial, rfl, sI, rfl, rfl, trivial⟩
    · cases b
      · exact ⟨[], h0, sR, trivial, rfl, [], h1, sR, ⟨rfl, trivial, rfl, trivial⟩, rfl, sI, rfl, rfl, trivial⟩
      · exact ⟨[], h0, sR, trivial, rfl, [], h1, sR, ⟨rfl, trivial, rfl, trivial⟩, rfl, [], z3s u f st hs outs [1], sR, ⟨rfl, rfl, rfl, trivial⟩, rfl, sI, rfl, rfl, trivial⟩
  · have e : z28 u f st (.mk 6 op n name args outs params kids) = andP (decide (z19 name u.arrays 0 ≥ 0) && z17 f.types st args [1, 1]) st (z1k f.types st outs []) := rfl
    rw [e]
    have h0 := y4u u name
    have h1 := z2g u f st hs args [1, 1]
    generalize z17 f.types st args [1, 1] = b at h1 ⊢
    generalize decide (z19 name u.arrays 0 ≥ 0) = c at h0 ⊢
    cases c
    · exact ⟨[], h0, sR, trivial, rfl, sI, rfl, rfl, trivial⟩
    · cases b
      · exact ⟨[], h0, sR, trivial, rfl, [], h1, sR, ⟨rfl, trivial, rfl, trivial⟩, rfl, sI, rfl, rfl, trivial⟩
      · exact ⟨[], h0, sR, trivial, rfl, [], h1, sR, ⟨rfl, trivial, rfl, trivial⟩, rfl, [], z3s u f st hs outs [], SubA.same (SubA.same (SubA.cons sN SubA.nil)), ⟨rfl, rfl, rfl, trivial⟩, rfl, sI, rfl, rfl, trivial⟩
  · have e : z28 u f st (.mk 8 op n name args outs params kids) = andP (z17 f.types st args []) st (z1k f.types st outs [1]) := rfl
    rw [e]
    have h1 := z2g u f st hs args []
    generalize z17 f.types st args [] = b at h1 ⊢
    cases b
    · exact ⟨[], h1, SubA.same (SubA.same (SubA.cons sN SubA.nil)), ⟨rfl, trivial, rfl, trivial⟩, rfl, sI, rfl, rfl, trivial⟩
    · exact ⟨[], h1, SubA.same (SubA.same (SubA.cons sN SubA.nil)), ⟨rfl, trivial, rfl, trivial⟩, rfl, [], z3s u f st hs outs [1], sR, ⟨rfl, rfl, rfl, trivial⟩, rfl, sI, rfl, rfl, trivial⟩
  · have e : z28 u f st (.mk 9 op n name args outs params kids) = andP (z17 f.types st args [1]) st (z1k f.types st outs []) := rfl
    rw [e]
    have h1 := z2g u f st hs args [1]
    generalize z17 f.types st args [1] = b at h1 ⊢
    cases b
    · exact ⟨[], h1, sR, ⟨rfl, trivial, rfl, trivial⟩, rfl, sI, rfl, rfl, trivial⟩
    · exact ⟨[], h1, sR, ⟨rfl, trivial, rfl, trivial⟩, rfl, [], z3s u f st hs outs [], SubA.same (SubA.same (SubA.cons sN SubA.nil)), ⟨rfl, rfl, rfl, trivial⟩, rfl, sI, rfl, rfl, trivial⟩
  · have e : z28 u f st (.mk 7 op n name args outs params kids) = zg8 u f st (.mk 7 op n name args outs params kids) := rfl
    rw [e]
    refine ⟨[], zt4 u name, sR, trivial, rfl, z0a (fun hc => ?_) fun hc => ?_⟩
    · rw [show zg8 u f st (.mk 7 op n name args outs params kids) = (false, st) from if_pos (of_decide_eq_true hc)]
      exact ⟨sI, rfl, rfl, trivial⟩
    · have hl : ¬ z08 name u.flows 0 < 0 := of_decide_eq_false hc
      have hk0 : z08 name u.flows 0 ≥ 0 := by omega
      obtain ⟨g, hgk, _⟩ := z8z hk0
      obtain ⟨hgp0, hgpl⟩ := hg g (List.mem_of_getElem? hgk)
      have e2 : zg8 u f st (.mk 7 op n name args outs params kids) = andP (z17 f.types st args (g.types.take g.params.toNat)) st (z1k f.types st outs [g.ty]) := by
        show (if z08 name u.flows 0 < 0 then _ else match u.flows[(z08 name u.flows 0).toNat]? with | some g => _ | none => _) = _
        rw [if_neg hl, hgk]
        rfl
      rw [e2]
      have h1 := z2g u f st hs args (g.types.take g.params.toNat)
      generalize z17 f.types st args (g.types.take g.params.toNat) = b at h1 ⊢
      have hi := z0d (f := Fl.enc) hgk
      have hkn : (((z08 name u.flows 0).toNat : Nat) : Int) = z08 name u.flows 0 := by omega
      have hpn : ((g.params.toNat : Nat) : Int) = g.params := by omega
      have hle : 0 <= g.params.toNat := Nat.zero_le _
      have hge : g.params.toNat <= (g.types.map eInt).length := by simp; omega
      cases b
      · exact ⟨hi, hkn.symm, _, hpn.symm, hle, hge, z56, [], h1, SubA.same (SubA.same (SubA.cons (sP (by simp only [ints, List.map_take]; exact PSub.refl _)) SubA.nil)), ⟨rfl, trivial, rfl, trivial⟩, rfl, sI, rfl, rfl, trivial⟩
      · exact ⟨hi, hkn.symm, _, hpn.symm, hle, hge, z56, [], h1, SubA.same (SubA.same (SubA.cons (sP (by simp only [ints, List.map_take]; exact PSub.refl _)) SubA.nil)), ⟨rfl, trivial, rfl, trivial⟩, rfl, [], z3s u f st hs outs [g.ty], sR, ⟨rfl, rfl, rfl, trivial⟩, rfl, sI, rfl, rfl, trivial⟩
  · obtain ⟨h1, h2, h3, h4, h5, h6, h8, h9, h7⟩ := h
    rw [show z28 u f st (.mk kind op n name args outs params kids) = (false, st) by unfold z28; simp [Nd.kind, h1, h2, h3, h4, h5, h6, h7, h8, h9]]
    have no : ∀ {i : Int}, kind ≠ i -> (kind == i) = true -> False := fun h e => h (eq_of_beq e)
    exact z0a (fun h => (no h1 h).elim) fun _ => z0a (fun h => (no h2 h).elim) fun _ => z0a (fun h => (no h3 h).elim) fun _ => z0a (fun h => (no h4 h).elim) fun _ => z0a (fun h => (no h5 h).elim) fun _ => z0a (fun h => (no h6 h).elim) fun _ => z0a (fun h => (no h8 h).elim) fun _ => z0a (fun h => (no h9 h).elim) fun _ => z0a (fun h => (no h7 h).elim) fun _ => ⟨sI, rfl, rfl, trivial⟩
set_option maxRecDepth 20000
set_option maxHeartbeats 2000000
theorem zi3 (f : Fl) {x : Nd} (st : List Int) {c : Bool} (h : ((x.outs.length : Int) == 0 || !z02 x) = c) : z49 f x st = andP c st (z1k f.types st x.outs (List.replicate x.outs.length 0)) := by rw [z49, h]
theorem y3b (u : Un) (f : Fl) (st : List Int) (hs : st.length = f.types.length) (x : Nd) (ka kb : List Nd) (hkids : x.kids = [ka, kb]) (wh : Wh) (deep : Int) (hbo : x.outs.length <= 1073741824) (ih : ∀ q ∈ x.kids, ∀ (w : Wh) (st : List Int), st.length = f.types.length -> SC Tryz.prog 64 [.ptr 3 0, .pv (z0f q), .pv (whv w), iInt deep] (ckS u f 3 st) (fun k => k = 3) (iBool (z1j u f deep w st q).1) (ckS u f 3 (z1j u f deep w st q).2)) : SC Tryz.prog 107 [.ptr 3 0, .pv (ndv x), .pv (whv wh), iInt deep] (ckS u f 3 st) (fun k => k = 3) (iBool (if z17 f.types st x.args [2] then andQ (z1j u f deep ⟨true, wh.Loop, r8of f.types x.outs, wh.Next, wh.Left⟩ st ka) (fun s1 => andQ (z1j u f deep ⟨true, wh.Loop, r8of f.types x.outs, wh.Next, wh.Left⟩ s1 kb) fun s2 => z49 f x s2) else (false, st)).1) (ckS u f 3 (if z17 f.types st x.args [2] then andQ (z1j u f deep ⟨true, wh.Loop, r8of f.types x.outs, wh.Next, wh.Left⟩ st ka) (fun s1 => andQ (z1j u f deep ⟨true, wh.Loop, r8of f.types x.outs, wh.Next, wh.Left⟩ s1 kb) fun s2 => z49 f x s2) else (false, st)).2) := by
  refine SC.sameR (SC.vc tb {} [3] Tryz.func107 rfl rfl ?_) fun k _ h => List.mem_singleton.2 h
  have hi0 : (x.kids.map eKid)[0]? = some [z0f ka] := by rw [hkids]; rfl
  have hi1 : (x.kids.map eKid)[1]? = some [z0f kb] := by rw [hkids]; rfl
  have hm0 : ka ∈ x.kids := by rw [hkids]; exact .head _
  have hm1 : kb ∈ x.kids := by rw [hkids]; exact .tail _ (.head _)
  have hT := ze9 u f st hs x.outs hbo
  have h1 := z2g u f st hs x.args [2]
  have h2 := ih ka hm0 ⟨true, wh.Loop, r8of f.types x.outs, wh.Next, wh.Left⟩ st hs
  have l2 := (z7h u f deep ⟨true, wh.Loop, r8of f.types x.outs, wh.Next, wh.Left⟩ st ka).trans hs
  have hC := z68 x
  generalize z17 f.types st x.args [2] = b1 at h1 ⊢
  generalize z1j u f deep ⟨true, wh.Loop, r8of f.types x.outs, wh.Next, wh.Left⟩ st ka = R2 at h2 l2 ⊢
  obtain ⟨b2, st2⟩ := R2
  have h3 := ih kb hm1 ⟨true, wh.Loop, r8of f.types x.outs, wh.Next, wh.Left⟩ st2 l2
  have l3 := (z7h u f deep ⟨true, wh.Loop, r8of f.types x.outs, wh.Next, wh.Left⟩ st2 kb).trans l2
  cases b1
  · exact ⟨[], hT, sR, ⟨rfl, by decide, rfl, trivial⟩, rfl, [], h1, sR, ⟨rfl, trivial, rfl, trivial⟩, rfl, sI, rfl, rfl, trivial⟩
  cases b2
  · exact ⟨[], hT, sR, ⟨rfl, by decide, rfl, trivial⟩, rfl, [], h1, sR, ⟨rfl, trivial, rfl, trivial⟩, rfl, hi0, rfl, [], h2, sR, ⟨rfl, rfl, rfl, trivial⟩, rfl, sI, rfl, rfl, trivial⟩
  rw [show andQ (true, st2) (fun s1 => andQ (z1j u f deep ⟨true, wh.Loop, r8of f.types x.outs, wh.Next, wh.Left⟩ s1 kb) fun s2 => z49 f x s2) = andQ (z1j u f deep ⟨true, wh.Loop, r8of f.types x.outs, wh.Next, wh.Left⟩ st2 kb) (fun s2 => z49 f x s2) from rfl]
  generalize z1j u f deep ⟨true, wh.Loop, r8of f.types x.outs, wh.Next, wh.Left⟩ st2 kb = R3 at h3 l3 ⊢
  obtain ⟨b3, st3⟩ := R3
  cases b3
  · exact ⟨[], hT, sR, ⟨rfl, by decide, rfl, trivial⟩, rfl, [], h1, sR, ⟨rfl, trivial, rfl, trivial⟩, rfl, hi0, rfl, [], h2, sR, ⟨rfl, rfl, rfl, trivial⟩, rfl, hi1, rfl, [], h3, sR, ⟨rfl, rfl, rfl, trivial⟩, rfl, sI, rfl, rfl, trivial⟩
  rw [show andQ (true, st3) (fun s2 => z49 f x s2) = z49 f x st3 from rfl]
  have hA := zx4 u f st3 l3 x.outs hbo
  refine ⟨[], hT, sR, ⟨rfl, by decide, rfl, trivial⟩, rfl, [], h1, sR, ⟨rfl, trivial, rfl, trivial⟩, rfl, hi0, rfl, [], h2, sR, ⟨rfl, rfl, rfl, trivial⟩, rfl, hi1, rfl, [], h3, sR, ⟨rfl, rfl, rfl, trivial⟩, rfl, z0a (fun h => ?_) fun h => ?_⟩
  · rw [zi3 f st3 (c := true) (by rw [List.length_map] at h; rw [h, Bool.true_or])]
    exact ⟨[], hA, sR, ⟨rfl, rfl, rfl, trivial⟩, rfl, sI, rfl, rfl, trivial⟩
  · rw [List.length_map] at h
    have hq : ((x.outs.length : Int) == 0 || !z02 x) = !z02 x := by rw [h, Bool.false_or]
    rw [zi3 f st3 hq]
    generalize z02 x = c at hC ⊢
    cases c
    · exact ⟨[], hC, sR, trivial, rfl, [], hA, sR, ⟨rfl, rfl, rfl, trivial⟩, rfl, sI, rfl, rfl, trivial⟩
    · exact ⟨[], hC, sR, trivial, rfl, sI, rfl, rfl, trivial⟩
theorem ya0 (u : Un) (f : Fl) (st : List Int) (hs : st.length = f.types.length) (x : Nd) (ka : List Nd) (hkids : x.kids = [ka]) (deep : Int) (hbo : x.outs.length <= 1073741824) (hbp : x.params.length <= 1073741824) (ih : ∀ q ∈ x.kids, ∀ (w : Wh) (st : List Int), st.length = f.types.length -> SC Tryz.prog 64 [.ptr 3 0, .pv (z0f q), .pv (whv w), iInt deep] (ckS u f 3 st) (fun k => k = 3) (iBool (z1j u f deep w st q).1) (ckS u f 3 (z1j u f deep w st q).2)) : SC Tryz.prog 108 [.ptr 3 0, .pv (ndv x), iInt deep] (ckS u f 3 st) (fun k => k = 3) (iBool (if z17 f.types st x.args (r8of f.types x.params) then andQ (z1k f.types st x.params (List.replicate x.params.length 0)) (fun s1 => andQ (z1j u f deep ⟨false, true, [], r8of f.types x.params, r8of f.types x.outs⟩ s1 ka) fun s2 => z49 f x (z3j s2 x.params)) else (false, st)).1) (ckS u f 3 (if z17 f.types st x.args (r8of f.types x.params) then andQ (z1k f.types st x.params (List.replicate x.params.length 0)) (fun s1 => andQ (z1j u f deep ⟨false, true, [], r8of f.types x.params, r8of f.types x.outs⟩ s1 ka) fun s2 => z49 f x (z3j s2 x.params)) else (false, st)).2) := by
  refine SC.sameR (SC.vc tb {} [3] Tryz.func108 rfl rfl ?_) fun k _ h => List.mem_singleton.2 h
  have hi0 : (x.kids.map eKid)[0]? = some [z0f ka] := by rw [hkids]; rfl
  have hm0 : ka ∈ x.kids := by rw [hkids]; exact .head _
  have hT := ze9 u f st hs x.params hbp
  have hT2 := ze9 u f st hs x.outs hbo
  have h1 := z2g u f st hs x.args (r8of f.types x.params)
  have hA1 := zx4 u f st hs x.params hbp
  have l1 := (z3c f.types st x.params (List.replicate x.params.length 0)).trans hs
  have hC := z68 x
  generalize z17 f.types st x.args (r8of f.types x.params) = b1 at h1 ⊢
  cases b1
  · exact ⟨[], hT, sR, ⟨rfl, by decide, rfl, trivial⟩, rfl, [], hT2, sR, ⟨rfl, by decide, rfl, trivial⟩, rfl, [], h1, sR, ⟨rfl, trivial, rfl, trivial⟩, rfl, sI, rfl, rfl, trivial⟩
  have hpin : (z1k f.types st x.params (List.replicate x.params.length 0)).1 = true -> ∀ v ∈ x.params, 0 <= v /\ v < f.types.length := fun h => zp1 h
  generalize z1k f.types st x.params (List.replicate x.params.length 0) = R2 at hA1 l1 hpin ⊢
  obtain ⟨b2, st1⟩ := R2
  cases b2
  · exact ⟨[], hT, sR, ⟨rfl, by decide, rfl, trivial⟩, rfl, [], hT2, sR, ⟨rfl, by decide, rfl, trivial⟩, rfl, [], h1, sR, ⟨rfl, trivial, rfl, trivial⟩, rfl, [], hA1, sR, ⟨rfl, rfl, rfl, trivial⟩, rfl, sI, rfl, rfl, trivial⟩
  have hpin := hpin rfl
  have h2 := ih ka hm0 ⟨false, true, [], r8of f.types x.params, r8of f.types x.outs⟩ st1 l1
  have l2 := (z7h u f deep ⟨false, true, [], r8of f.types x.params, r8of f.types x.outs⟩ st1 ka).trans l1
  rw [show andQ (true, st1) (fun s1 => andQ (z1j u f deep ⟨false, true, [], r8of f.types x.params, r8of f.types x.outs⟩ s1 ka) fun s2 => z49 f x (z3j s2 x.params)) = andQ (z1j u f deep ⟨false, true, [], r8of f.types x.params, r8of f.types x.outs⟩ st1 ka) (fun s2 => z49 f x (z3j s2 x.params)) from rfl]
  generalize z1j u f deep ⟨false, true, [], r8of f.types x.params, r8of f.types x.outs⟩ st1 ka = R3 at h2 l2 ⊢
  obtain ⟨b3, st2⟩ := R3
  cases b3
  · exact ⟨[], hT, sR, ⟨rfl, by decide, rfl, trivial⟩, rfl, [], hT2, sR, ⟨rfl, by decide, rfl, trivial⟩, rfl, [], h1, sR, ⟨rfl, trivial, rfl, trivial⟩, rfl, [], hA1, sR, ⟨rfl, rfl, rfl, trivial⟩, rfl, hi0, rfl, [], h2, SubA.same (SubA.same (SubA.cons (sP (z1b _)) sR)), ⟨rfl, rfl, rfl, trivial⟩, rfl, sI, rfl, rfl, trivial⟩
  have hH := y1g u f st2 l2 x.params hpin
  have l3 := (z4r x.params st2).trans l2
  rw [show andQ (true, st2) (fun s2 => z49 f x (z3j s2 x.params)) = z49 f x (z3j st2 x.params) from rfl]
  generalize z3j st2 x.params = st3 at hH l3 ⊢
  have hA := zx4 u f st3 l3 x.outs hbo
  refine ⟨[], hT, sR, ⟨rfl, by decide, rfl, trivial⟩, rfl, [], hT2, sR, ⟨rfl, by decide, rfl, trivial⟩, rfl, [], h1, sR, ⟨rfl, trivial, rfl, trivial⟩, rfl, [], hA1, sR, ⟨rfl, rfl, rfl, trivial⟩, rfl, hi0, rfl, [], h2, SubA.same (SubA.same (SubA.cons (sP (z1b _)) sR)), ⟨rfl, rfl, rfl, trivial⟩, rfl, [], hH, sR, ⟨rfl, rfl, rfl, trivial⟩, rfl, z0a (fun h => ?_) fun h => ?_⟩
  · rw [zi3 f st3 (c := true) (by rw [List.length_map] at h; rw [h, Bool.true_or])]
    exact ⟨[], hA, sR, ⟨rfl, rfl, rfl, trivial⟩, rfl, sI, rfl, rfl, trivial⟩
  · rw [List.length_map] at h
    have hq : ((x.outs.length : Int) == 0 || !z02 x) = !z02 x := by rw [h, Bool.false_or]
    rw [zi3 f st3 hq]
    generalize z02 x = c at hC ⊢
    cases c
    · exact ⟨[], hC, sR, trivial, rfl, [], hA, sR, ⟨rfl, rfl, rfl, trivial⟩, rfl, sI, rfl, rfl, trivial⟩
    · exact ⟨[], hC, sR, trivial, rfl, sI, rfl, rfl, trivial⟩
theorem ya1 (u : Un) (f : Fl) (hg : ∀ g ∈ u.flows, 0 <= g.params /\ g.params <= g.types.length) (x : Nd) (deep : Int) (hd : 0 <= deep /\ deep <= 100) (wh : Wh) (st : List Int) (hs : st.length = f.types.length) (hbo : x.outs.length <= 1073741824) (hbp : x.params.length <= 1073741824) (ih : ∀ q ∈ x.kids, ∀ (w : Wh) (st : List Int), st.length = f.types.length -> SC Tryz.prog 64 [.ptr 3 0, .pv (z0f q), .pv (whv w), iInt (deep + 1)] (ckS u f 3 st) (fun k => k = 3) (iBool (z1j u f (deep + 1) w st q).1) (ckS u f 3 (z1j u f (deep + 1) w st q).2)) : SC Tryz.prog 90 [.ptr 3 0, .pv (ndv x), .pv (whv wh), iInt deep] (ckS u f 3 st) (fun k => k = 3) (iBool (z3t u f deep wh st x).1) (ckS u f 3 (z3t u f deep wh st x).2) := by
  refine SC.of Tryz.func90 rfl (lb rfl) fun F ρ w => ?_
  refine tQ <| tG <| cE rfl (z1y rfl rfl) <| cE rfl (z1y rfl rfl) <| sm 1 rfl <| nL <| tQ <| tBk <| tQ <| tG <| cV rfl (lEA rfl rfl uT42 rfl tS42 (lb rfl)) <| cE rfl (ocq (y9v _) ent106 rfl rfl) ?_
  refine sm 2 rfl <| nL ?_
  refine tC rfl (fun hc9 => ?_) fun hc9 => ?_
  ·refine tQ <| tG <| sm 1 rfl <| nL <| tRt ?_
   have hbare : z1a x = false := by simpa using hc9
   rw [z9v _ _ _ _ _ hbare]
   exact rOk rfl rfl (po2 rfl rfl)
  have hbare : z1a x = true := by simpa using hc9
  refine tQ <| tG <| sm 4 rfl <| nL ?_
  refine tC rfl (fun hc13 => ?_) fun hc13 => ?_
  ·have hk10 : x.kind = 10 := by simpa using hc13
   obtain ⟨ka, kb, hkids⟩ := z3q hbare hk10
   refine tQ <| tG <| sm 1 rfl <| cV rfl (lEA rfl rfl uT42 rfl tS42 (lb rfl)) <| cV rfl (lEA rfl rfl Tryz.underlying103 rfl tS103 (lb rfl)) <| sm 1 rfl <| cV rfl (oB rfl rfl (z05 rfl oM0)) <| cE rfl (ocr (y3b u f st hs x ka kb hkids wh (deep + 1) hbo ih) ent107 rfl (po2 rfl rfl) rfl (fun k (h : _) => .inr h) rfl rfl) <| sm 1 rfl <| nL <| tRt ?_
   rw [zp0 _ _ _ _ _ hbare hk10 hkids]
   exact rOk rfl rfl (po2 rfl rfl)
  refine tQ <| tG <| sm 4 rfl <| nL ?_
  refine tC rfl (fun hc23 => ?_) fun hc23 => ?_
  ·have hk11 : x.kind = 11 := by simpa using hc23
   obtain ⟨ka, hkids⟩ := z2e hbare hk11
   refine tQ <| tG <| sm 1 rfl <| cV rfl (lEA rfl rfl uT42 rfl tS42 (lb rfl)) <| sm 1 rfl <| cV rfl (oB rfl rfl (z05 rfl oM0)) <| cE rfl (ocr (ya0 u f st hs x ka hkids (deep + 1) hbo hbp ih) ent108 rfl (po2 rfl rfl) rfl (fun k (h : _) => .inr h) rfl rfl) <| sm 1 rfl <| nL <| tRt ?_
   rw [z9w _ _ _ _ _ hbare hk11 hkids]
   exact rOk rfl rfl (po2 rfl rfl)
  refine tQ <| tG <| cV rfl (lEA rfl rfl uT42 rfl tS42 (lb rfl)) <| cE rfl (ocq (z8m _) y80 rfl rfl) <| sm 1 rfl <| nL ?_
  refine tC rfl (fun hc32 => ?_) fun hc32 => ?_
  ·refine tQ <| tG <| sm 1 rfl <| cV rfl (lEA rfl rfl uT42 rfl tS42 (lb rfl)) <| cV rfl (lEA rfl rfl Tryz.underlying103 rfl tS103 (lb rfl)) <| cE rfl (ocr (sc_shEnd u f st hs x wh) ent109 rfl (po2 rfl rfl) rfl (fun k (h : _) => .inr h) rfl rfl) <| sm 1 rfl <| nL <| tRt ?_
   rw [zf1 _ _ _ _ _ hbare hc13 hc23 hc32]
   exact rOk rfl rfl (po2 rfl rfl)
  refine tSk <| tQ <| tG <| sm 1 rfl <| cV rfl (lEA rfl rfl uT42 rfl tS42 (lb rfl)) <| cE rfl (ocr (y3d u f st hs hg x) ent110 rfl (po2 rfl rfl) rfl (fun k (h : _) => .inr h) rfl rfl) <| sm 1 rfl <| nL <| tRt ?_
  rw [z7i _ _ _ _ _ hbare hc13 hc23 hc32]
  exact rOk rfl rfl (po2 rfl rfl)
theorem zx5 (N : Nat) : ∀ (u : Un) (f : Fl) (hg : ∀ g ∈ u.flows, 0 <= g.params /\ g.params <= g.types.length) (l : List Nd) (deep : Int) (hd : 0 <= deep /\ deep <= 101) (wh : Wh) (st : List Int) (hs : st.length = f.types.length) (hb : lsW l <= 1073741824), SizeOf.sizeOf l < N -> SC Tryz.prog 64 [.ptr 3 0, .pv (z0f l), .pv (whv wh), iInt deep] (ckS u f 3 st) (fun k => k = 3) (iBool (z1j u f deep wh st l).1) (ckS u f 3 (z1j u f deep wh st l).2) := by
  induction N with
  | zero => intro u f hg l deep hd wh st hs hb hN; exact absurd hN (Nat.not_lt_zero _)
  | succ N ih =>
    intro u f hg l deep hd wh st hs hb hN
    refine SC.of Tryz.func64 rfl (lb rfl) fun F ρ w => ?_
    refine Tr.lenOf (t := 1) rfl (fun hl => ?_)
    simp only [List.length_map] at hl
    refine tQ <| tG <| cE rfl (z1y rfl rfl) <| sm 1 rfl <| nL <| tQ <| tQ <| tG <| sm 1 rfl <| cV rfl (oSm uT43 rfl) <| sm 1 rfl <| nL ?_
    refine tBk <| Tr.sub (Sub.of (fr' := [(15, iInt 0), (14, iInt l.length), (13, .pv (z0f l)), (6, .pv (.ept [vBool wh.If, vBool wh.Loop, ints wh.Yield, ints wh.Next, ints wh.Left] 0)), (0, .ptr 3 0), (1, .pv (z0f l)), (3, iInt deep)]) ⟨rfl, rfl, rfl, rfl, rfl, rfl, rfl, trivial⟩) ?_
    refine Tr.loop (fun fr σ m => ∃ (k : Nat) (s : List Int), (k <= l.length) /\ (shGo u f deep wh st l = shGo u f deep wh s (l.drop k)) /\ (s.length = f.types.length) /\ fr = [(15, iInt k), (14, iInt l.length), (13, .pv (z0f l)), (6, .pv (.ept [vBool wh.If, vBool wh.Loop, ints wh.Yield, ints wh.Next, ints wh.Left] 0)), (0, .ptr 3 0), (1, .pv (z0f l)), (3, iInt deep)] /\ σ = look (up (ckS u f 3 s)) /\ m = l.length - k) (n := l.length - 0) ?_ ?_
    ·exact ⟨0, st, Nat.zero_le _, rfl, hs, rfl, rfl, rfl⟩
    rintro fr σ m ⟨k, s, hI0, hI1, hI2, rfl, rfl, rfl⟩
    refine tQ <| tG <| sm 1 rfl <| nL <| tQ ?_
    refine tC rfl (fun hc16 => ?_) fun hc16 => ?_
    ·have hlt : k < l.length := by simpa using hc16
     have hd2 := List.drop_eq_getElem_cons hlt
     have hm := List.getElem_mem hlt
     have hi := z0t (List.getElem?_eq_getElem hlt)
     generalize l[k] = x at hd2 hm hi
     have hWx := zg0 x
     have hWl := y2q hm
     have hxo : x.outs.length <= 1073741824 := by omega
     have hxp : x.params.length <= 1073741824 := by omega
     refine tSk <| tQ <| tBk <| tQ <| tG <| sm 1 rfl <| cV rfl (iSq rfl rfl rfl uT43 hi tS42 rfl (by rfl)) <| cV rfl (lEA rfl rfl uT42 rfl tS42 (lb rfl)) <| cE rfl (aLc (k := 110) rfl tZ42 rfl rfl rfl rfl) <| sm 1 rfl <| c0 (sBA rfl rfl rfl rfl rfl sI0 tS42 (flk rfl) (lb rfl)) <| nL ?_
     refine tQ <| Tr.freezeBox (t := 10) (k := 110) rfl rfl rfl ?_
     refine Tr.heap (σ' := look (up (ckS u f 3 s))) (fun k => by
       simp only [look]
       by_cases h : 110 = k
       · subst h; rfl
       · simp [z12 h]) ?_
     refine tG <| sm 3 rfl ?_
     refine wS 22 rfl (fun hb22 => ?_) fun hb22 => ?_
     ·refine sm 17 rfl <| nL <| Tr.condT rfl <| tQ <| tG <| sm 1 rfl <| nL <| tRt ?_
      (have h2 : z1j u f deep wh st l = (false, s) := by
         unfold z1j
         rw [hI1, hd2]
         unfold shGo
         rw [if_pos (by simpa using hb22)]
         simp [andQ]
       rw [h2]
       exact rOk rfl rfl (po2 rfl rfl))
     refine sm 1 rfl <| yV rfl rfl (lEA rfl rfl uT42 rfl tS42 (lb rfl)) <| yV rfl rfl (lEA rfl rfl Tryz.underlying103 rfl tS103 (lb rfl)) <| sm 1 rfl <| WL.yes rfl rfl rfl rfl rfl rfl (cRr (ya1 u f hg x deep ⟨hd.1, by simp at hb22; omega⟩ wh s hI2 hxo hxp (fun q hq w st hst => ih u f hg q (deep + 1) ⟨by omega, by simp at hb22; omega⟩ w st hst (by have := zl1 hq; omega) (Nat.lt_of_lt_of_le (z61 hm rfl hq) (Nat.le_of_lt_succ hN)))) ent90 rfl rfl (sRf _ _) (po2 rfl rfl) (by rfl) (fun k (h : _) => .inr h) rfl (by rfl)) <| sm 3 rfl ?_
     refine wS 30 rfl (fun hb30 => ?_) fun hb30 => ?_
     ·refine sm 9 rfl <| nL <| Tr.condT rfl <| tQ <| tG <| sm 1 rfl <| nL <| tRt ?_
      (have h2 : z1j u f deep wh st l = (false, (z3t u f deep wh s x).2) := by
         unfold z1j
         rw [hI1, hd2]
         unfold shGo
         rw [if_neg (by simpa using hb22)]
         have hn1 : (z3t u f deep wh s x).1 = false := by simpa using hb30
         simp [andQ, hn1]
       rw [h2]
       exact rOk rfl rfl (po2 rfl rfl))
     refine yV rfl rfl (lEA rfl rfl uT42 rfl tS42 (lb rfl)) <| WL.yes rfl rfl rfl rfl rfl rfl (z1q (z68 x) ent42 rfl rfl (sRf _ _) rfl) <| sm 2 rfl <| yV rfl rfl (oSm uT43 rfl) <| yV rfl rfl (oB rfl rfl (z2o rfl oM0)) <| sm 1 rfl <| yV rfl rfl (z9q rfl rfl rfl Tryz.underlying4) <| sm 1 rfl <| nL ?_
     refine tC rfl (fun hc39 => ?_) fun hc39 => ?_
     ·refine tQ <| tG <| sm 1 rfl <| nL <| tRt ?_
      (have h2 : z1j u f deep wh st l = (false, (z3t u f deep wh s x).2) := by
         unfold z1j
         rw [hI1, hd2]
         unfold shGo
         rw [if_neg (by simpa using hb22)]
         have hn1 : (z3t u f deep wh s x).1 = true := by simpa using hb30
         have hcl : (z02 x != (l.drop (k + 1)).isEmpty) = true := by rw [z6k hlt]; simpa using hc39
         simp [andQ, hn1, hcl]
       rw [h2]
       exact rOk rfl rfl (po2 rfl rfl))
     refine tSk <| tG <| cV rfl (oB rfl rfl (z05 rfl oM0)) <| sm 1 rfl <| nL ?_
     refine ⟨_, _, ?_, Sub.of (fr' := [(15, iInt (k + 1)), (14, iInt l.length), (13, .pv (z0f l)), (6, .pv (.ept [vBool wh.If, vBool wh.Loop, ints wh.Yield, ints wh.Next, ints wh.Left] 0)), (0, .ptr 3 0), (1, .pv (z0f l)), (3, iInt deep)]) ⟨rfl, rfl, rfl, rfl, rfl, rfl, rfl, trivial⟩, (k + 1), (z3t u f deep wh s x).2, ?_, ?_, ?_, rfl, (z27 rfl), rfl⟩
     ·omega
     ·omega
     ·rw [hI1, hd2]
      have hn1 : (z3t u f deep wh s x).1 = true := by simpa using hb30
      have hcl : (z02 x != (l.drop (k + 1)).isEmpty) = false := by rw [z6k hlt]; simpa using hc39
      have hdp : ¬ deep > 100 := by simpa using hb22
      conv => lhs; unfold shGo
      simp only [if_neg hdp, andQ, hn1, hcl, if_true]
      rfl
     exact (zb9 ..).trans hI2
    refine tEx <| tQ <| tQ ?_
    have hgo2 : shGo u f deep wh st l = (true, s) := by rw [hI1, List.drop_eq_nil_of_le (by simpa using hc16)]; simp [shGo]
    have hgo : (shGo u f deep wh st l).1 = true := by rw [hgo2]
    have hs0 := hI2
    generalize s = s0 at hgo2 hs0 ⊢
    refine tG <| sm 1 rfl <| cV rfl (oSm uT43 rfl) <| sm 1 rfl <| nL <| tBk <| Tr.sub (Sub.of (fr' := [(43, iInt 0), (42, iInt l.length), (41, .pv (z0f l)), (0, .ptr 3 0), (1, .pv (z0f l))]) ⟨rfl, rfl, rfl, rfl, rfl, trivial⟩) ?_
    refine Tr.loop (fun fr σ m => ∃ (k : Nat) (s : List Int), (k <= l.length) /\ (z6a s0 l = z6a s (l.drop k)) /\ (s.length = f.types.length) /\ fr = [(43, iInt k), (42, iInt l.length), (41, .pv (z0f l)), (0, .ptr 3 0), (1, .pv (z0f l))] /\ σ = look (up (ckS u f 3 s)) /\ m = l.length - k) (n := l.length - 0) ?_ ?_
    ·exact ⟨0, s0, Nat.zero_le _, rfl, hs0, rfl, rfl, rfl⟩
    rintro fr σ m ⟨k, s, hJ0, hJ1, hJ2, rfl, rfl, rfl⟩
    refine tQ <| tG <| sm 1 rfl <| nL <| tQ ?_
    refine tC rfl (fun hc44 => ?_) fun hc44 => ?_
    ·have hlt : k < l.length := by simpa using hc44
     have hd2 := List.drop_eq_getElem_cons hlt
     have hm := List.getElem_mem hlt
     have hi := z0t (List.getElem?_eq_getElem hlt)
     generalize l[k] = x at hd2 hm hi
     refine tSk <| tQ <| tBk <| tQ <| tG <| cV rfl (iSq rfl rfl rfl uT43 hi tS42 rfl (by rfl)) <| cV rfl (lEA rfl rfl uT42 rfl tS42 (lb rfl)) <| cE rfl (aLc (k := 112) rfl tZ42 rfl rfl rfl rfl) <| c0 (sBA rfl rfl rfl rfl rfl sI0 tS42 (flk rfl) (lb rfl)) <| nL <| Tr.freezeBox (t := 12) (k := 112) rfl rfl rfl ?_
     refine Tr.heap (σ' := look (up (ckS u f 3 s))) (fun k => by
       simp only [look]
       by_cases h : 112 = k
       · subst h; rfl
       · simp [z12 h]) ?_
     refine tG <| sm 3 rfl <| cE rfl (ocr (y1g u f s hJ2 x.outs (y1n hgo x hm)) ent91 rfl (po2 rfl rfl) rfl (fun k (h : _) => .inr h) rfl rfl) <| nL <| tG <| cV rfl (oB rfl rfl (z05 rfl oM0)) <| sm 1 rfl <| nL ?_
     refine ⟨_, _, ?_, Sub.of (fr' := [(43, iInt (k + 1)), (42, iInt l.length), (41, .pv (z0f l)), (0, .ptr 3 0), (1, .pv (z0f l))]) ⟨rfl, rfl, rfl, rfl, rfl, trivial⟩, (k + 1), (z3j s x.outs), ?_, ?_, ?_, rfl, (z27 rfl), rfl⟩
     ·omega
     ·omega
     ·rw [hJ1, hd2]; rfl
     exact (z4r ..).trans hJ2
    refine tEx <| tQ <| tG <| sm 1 rfl <| cV rfl (oSm uT43 rfl) <| sm 2 rfl <| nL <| tRt ?_
    have hge : l.length <= k := by simpa using hc44
    have h2 : z1j u f deep wh st l = (decide ((l.length : Int) > 0), s) := by
      unfold z1j
      rw [hgo2]
      simp only [andQ, if_true, y1m, hJ1, List.drop_eq_nil_of_le hge]
      rfl
    rw [h2]
    exact rOk rfl rfl (po2 rfl rfl)
theorem y9z (u : Un) (f : Fl) (hg : ∀ g ∈ u.flows, 0 <= g.params /\ g.params <= g.types.length) (l : List Nd) (deep : Int) (hd : 0 <= deep /\ deep <= 101) (wh : Wh) (st : List Int) (hs : st.length = f.types.length) (hb : lsW l <= 1073741824) : SC Tryz.prog 64 [.ptr 3 0, .pv (z0f l), .pv (whv wh), iInt deep] (ckS u f 3 st) (fun k => k = 3) (iBool (z1j u f deep wh st l).1) (ckS u f 3 (z1j u f deep wh st l).2) := zx5 _ u f hg l deep hd wh st hs hb (Nat.lt_succ_self _)
theorem y9w (u : Un) (f : Fl) (hg : ∀ g ∈ u.flows, 0 <= g.params /\ g.params <= g.types.length) (hp : 0 <= f.params /\ f.params <= f.types.length) (hb : lsW f.body <= 536870912) : SC Tryz.prog 38 [.pv u.enc, .pv (.agg f.enc)] [] (fun _ => False) (iBool (z9g u f)) [] := by
  refine SC.of Tryz.func38 rfl (lb rfl) fun F ρ w => ?_
  refine tQ <| tG <| cE rfl (z1y rfl rfl) <| cE rfl (z1y rfl rfl) <| sm 1 rfl <| nL <| tQ <| tQ <| tG <| sm 4 rfl ?_
  refine wS 10 rfl (fun hb10 => ?_) fun hb10 => ?_
  ·refine sm 10 rfl <| nL <| Tr.condT rfl <| tQ <| tG <| sm 1 rfl <| nL <| tRt <| rOk rfl ?_ nPo
   have hno : (decide (f.params > 8) || decide ((f.types.length : Int) > 20000) || f.types.any (fun t => !isTy t)) = true := by
     simp_all
   simp only [z9g, hno, Bool.not_true, Bool.false_and]
  refine sm 2 rfl <| yV rfl rfl (oSm uT35 rfl) <| sm 3 rfl ?_
  refine wS 16 rfl (fun hb16 => ?_) fun hb16 => ?_
  ·refine sm 4 rfl <| nL <| Tr.condT rfl <| tQ <| tG <| sm 1 rfl <| nL <| tRt <| rOk rfl ?_ nPo
   have hno : (decide (f.params > 8) || decide ((f.types.length : Int) > 20000) || f.types.any (fun t => !isTy t)) = true := by
     simp_all
   simp only [z9g, hno, Bool.not_true, Bool.false_and]
  refine sm 2 rfl <| WL.yes rfl rfl rfl rfl rfl rfl (z1q (y6a 63 [] [] rfl ent63 (fun t => !isTy t) f.types (fun x hm => (sc_flow1 x).anyR)) ent62 rfl rfl (sSm rfl (Subs.cons (fun _ _ _ _ h => zy2 h) Subs.nil)) rfl) <| sm 1 rfl <| nL ?_
  refine tC rfl (fun hc20 => ?_) fun hc20 => ?_
  ·refine tQ <| tG <| sm 1 rfl <| nL <| tRt <| rOk rfl ?_ nPo
   have hno : (decide (f.params > 8) || decide ((f.types.length : Int) > 20000) || f.types.any (fun t => !isTy t)) = true := by
     simp_all
   simp only [z9g, hno, Bool.not_true, Bool.false_and]
  ·have hpar : f.params <= 8 /\ f.types.length <= 20000 := by
     (simp_all <;> omega)
   have hpt : f.params.toNat <= f.types.length := by omega
   have hpi : f.params = (f.params.toNat : Int) := by omega
   have hno : (decide (f.params > 8) || decide ((f.types.length : Int) > 20000) || f.types.any (fun t => !isTy t)) = false := by
     clear hpi
     simp_all
   refine tSk <| tQ <| tDr z1t (fun k => k < 3) <| wR 4 [0, 1, 2, 3, 4] kR0 h30 <| rV rfl rfl (lEA rfl rfl uT25 rfl tS25 (lb rfl)) <| rV rfl rfl (lEA rfl rfl Tryz.underlying51 rfl tS51 (lb rfl)) <| smR 2 rfl <| rV rfl rfl (oSm uT35 rfl) <| nR <| wO 5 kR0 <| wI rfl rfl nf (z1n rfl) (fun _ _ => z0w (k := 4) (s := ⟨3, 1⟩) rfl rfl rfl uT35 tZ3 tC3 rfl dC0 oM0 oM0 rfl rfl rfl rfl) <| wR 2 [6] kR0 h30 ?_
   refine rV rfl rfl (by exact zi0 rfl rfl tZ100 tP100 rfl (zk3 (by (simp [y44, firm1, look, PV.one]; exact ⟨_, _, ⟨rfl, rfl⟩, by simp⟩)))) <| nR <| wO 7 kR0 <| wI rfl rfl nf (z1n rfl) (fun _ _ => zm1 (k := 3) rfl rfl rfl rfl rfl rfl rfl) <| wR 0 [8] kR0 h30 <| smR 1 rfl <| nR <| wDn kR0 <| tQ <| tQ <| tG <| sm 3 rfl ?_
   refine nL <| tBk <| Tr.sub (Sub.of (fr' := [(31, iInt 0), (30, iInt f.params), (5, .ptr 3 0), (2, .pv (.ept [arrs u.arrays, flws u.flows] 0)), (3, .pv (.ept [vStr f.name, vInt f.ty, vInt f.params, ints f.types, z0f f.body] 0))]) ⟨rfl, rfl, rfl, rfl, rfl, trivial⟩) ?_
   refine Tr.heap (σ' := look (up (ckS u f 3 (z8n 0 f.types.length)))) (fun k => by
  rw [show (z8n 0 f.types.length) = List.replicate f.types.length 0 by simp [z8n]]
  simp only [ckS, up, List.map_cons, List.map_nil, look, List.length_map, List.length_replicate, List.map_replicate]
  by_cases h3 : 3 = k
  · subst h3; rfl
  · by_cases h4 : 4 = k
    · subst h4; rfl
    · simp [z12 h3, z12 h4]) ?_
   refine Tr.loop (fun fr σ m => ∃ (k : Nat), (k <= f.params.toNat) /\ fr = [(31, iInt k), (30, iInt f.params), (5, .ptr 3 0), (2, .pv (.ept [arrs u.arrays, flws u.flows] 0)), (3, .pv (.ept [vStr f.name, vInt f.ty, vInt f.params, ints f.types, z0f f.body] 0))] /\ σ = look (up (ckS u f 3 (z8n k f.types.length))) /\ m = f.params.toNat - k) (n := f.params.toNat - 0) ?_ ?_
   ·exact ⟨0, Nat.zero_le _, rfl, rfl, rfl⟩
   rintro fr σ m ⟨k, hI0, rfl, rfl, rfl⟩
   refine tQ <| tG <| sm 1 rfl <| nL <| tQ ?_
   refine tC rfl (fun hc32 => ?_) fun hc32 => ?_
   ·have hkp : k < f.params.toNat := by simp at hc32; omega
    have hkt : k < f.types.length := by omega
    have hst : ((z8n k f.types.length).map eInt)[k]? = some [vInt 0] := by
      rw [List.getElem?_map]
      simp only [z8n]
      rw [List.getElem?_append_right sI0]
      simp [List.getElem?_replicate, eInt]
      omega
    have hstl : k < ((z8n k f.types.length).map eInt).length := by rw [List.length_map, z8o oM0]; exact hkt
    refine tSk <| tQ <| tBk <| tQ <| tG <| sm 2 rfl <| nL <| tG <| sm 1 rfl <| cV rfl (nCk rfl rfl rfl) <| sm 3 rfl <| cV rfl (iRw rfl rfl rfl rfl rfl uT35 tS3 (by assumption) (by rfl)) ?_
    refine c0 (z1s rfl rfl rfl rfl rfl (Nat.add_zero _).symm (by assumption) sI0 tS3 rfl ((fun h => h))) <| nL <| tG <| cV rfl (oB rfl rfl (z05 rfl oM0)) <| sm 1 rfl <| nL ?_
    refine ⟨_, _, ?_, Sub.of (fr' := [(31, iInt (k + 1)), (30, iInt f.params), (5, .ptr 3 0), (2, .pv (.ept [arrs u.arrays, flws u.flows] 0)), (3, .pv (.ept [vStr f.name, vInt f.ty, vInt f.params, ints f.types, z0f f.body] 0))]) ⟨rfl, rfl, rfl, rfl, rfl, trivial⟩, (k + 1), ?_, rfl, (by rw [<- yb0 hkt]; exact funext y7l), rfl⟩
    all_goals omega
   refine tEx <| tQ ?_
   have hkp : k = f.params.toNat := by simp at hc32; omega
   subst hkp
   refine tG <| sm 3 rfl <| cV rfl (bPu rfl rfl tZ103 tP103 rfl (fbk rfl) rfl) <| cE rfl (cRr (y9z u f hg f.body 1 ⟨by omega, by omega⟩ z1z (z8n f.params.toNat f.types.length) (z8o hpt) oM0) ent64 rfl rfl (sSm rfl (sSm rfl (Subs.cons (fun _ _ _ _ h => z42 (q := whv z1z) (PSub.agg (ps := [vBool false, vBool false, .val (.slice none 0 0), .val (.slice none 0 0), .val (.slice none 0 0)]) (And.intro (PSub.refl _) (And.intro (PSub.refl _) (And.intro PSub.nil (And.intro PSub.nil (And.intro PSub.nil trivial)))))) h) (sSm rfl Subs.nil)))) (po2 rfl rfl) (by rfl) (fun k (h : _) => (show False from h).elim) rfl (by rfl)) <| sm 1 rfl <| nL <| tRt <| rOk rfl ?_ nPo
   simp only [z9g, hno, Bool.not_false, Bool.true_and]
theorem zo9 (n : Int) : SC Tryz.prog 84 [.pv (.val (.int .i32 n))] [] (fun _ => False) (iBool (z21 n)) [] := by
  refine SC.of Tryz.func84 rfl (lb rfl) fun F ρ w => ?_
  refine tQ <| tG <| sm 1 rfl <| nL <| tQ <| tG <| sm 3 rfl ?_
  refine wS 5 rfl (fun hb5 => ?_) fun hb5 => ?_
  ·refine sm 4 rfl ?_
   refine wS 9 rfl (fun hb9 => ?_) fun hb9 => ?_
   ·refine sm 3 rfl <| nUu rfl rfl rfl rfl rfl rfl <| nUu rfl rfl rfl rfl rfl rfl <| sm 7 rfl <| nL <| tRt <| rOk rfl ?_ nPo
    unfold z21
    first | (simp_all; done) | (simp_all <;> omega)
   refine sm 3 rfl ?_
   refine wS 12 rfl (fun hb12 => ?_) fun hb12 => ?_
   ·refine sm 5 rfl ?_
    refine wS 17 rfl (fun hb17 => ?_) fun hb17 => ?_
    ·refine sm 4 rfl <| nL <| tRt <| rOk rfl ?_ nPo
     unfold z21
     first | (simp_all; done) | (simp_all <;> omega)
    refine sm 4 rfl <| nL <| tRt <| rOk rfl ?_ nPo
    unfold z21
    first | (simp_all; done) | (simp_all <;> omega)
   refine sm 9 rfl <| nL <| tRt <| rOk rfl ?_ nPo
   unfold z21
   first | (simp_all; done) | (simp_all <;> omega)
  refine sm 7 rfl ?_
  refine wS 12 rfl (fun hb12 => ?_) fun hb12 => ?_
  ·refine sm 5 rfl ?_
   refine wS 17 rfl (fun hb17 => ?_) fun hb17 => ?_
   ·refine sm 4 rfl <| nL <| tRt <| rOk rfl ?_ nPo
    unfold z21
    first | (simp_all; done) | (simp_all <;> omega)
   refine sm 4 rfl <| nL <| tRt <| rOk rfl ?_ nPo
   unfold z21
   first | (simp_all; done) | (simp_all <;> omega)
  refine sm 9 rfl <| nL <| tRt <| rOk rfl ?_ nPo
  unfold z21
  first | (simp_all; done) | (simp_all <;> omega)
theorem y6k (n : Int) : SC Tryz.prog 105 [.pv (.val (.int .i32 n))] [] (fun _ => False) (iBool (z7a n)) [] := by
  refine SC.of Tryz.func105 rfl (lb rfl) fun F ρ w => ?_
  refine tQ <| tG <| sm 1 rfl <| nL <| tQ <| tG <| sm 3 rfl ?_
  refine wS 5 rfl (fun hb5 => ?_) fun hb5 => ?_
  ·refine sm 4 rfl <| nL <| tRt <| rOk rfl ?_ nPo
   unfold z7a
   first | (simp_all; done) | (simp_all <;> omega)
  refine sm 4 rfl <| nL <| tRt <| rOk rfl ?_ nPo
  unfold z7a
  first | (simp_all; done) | (simp_all <;> omega)
theorem ya4 (s : ByteArray) : SC Tryz.prog 86 [iStr s] [] (fun _ => False) (iBool (z0m s)) [] := by
  refine SC.of Tryz.func86 rfl (lb rfl) fun F ρ w => ?_
  refine tQ <| tG <| sm 1 rfl <| nL <| tQ <| tQ <| tG <| sm 1 rfl <| nL <| tBk <| tQ <| tQ ?_
  refine tG <| cV rfl (bSt rfl rfl rfl rfl) <| sm 1 rfl <| nL ?_
  refine tC rfl (fun hc4 => ?_) fun hc4 => ?_
  ·refine tSk ?_
   refine tC rfl (fun hc4 => ?_) fun hc4 => ?_
   ·refine tQ <| tG <| sm 1 rfl <| nL <| tRt <| rOk rfl ?_ nPo
    refine congrArg (fun b => iBool b) ?_
    simp_all [z0m]
   refine tSk <| tQ <| tG <| sm 1 rfl <| nL <| tRt <| rOk rfl ?_ nPo
   refine congrArg (fun b => iBool b) ?_
   simp_all [z0m]
  refine tQ <| tG <| cV rfl (bSt rfl rfl rfl rfl) <| sm 1 rfl <| nL ?_
  refine tC rfl (fun hc4 => ?_) fun hc4 => ?_
  ·refine tSk ?_
   refine tC rfl (fun hc4 => ?_) fun hc4 => ?_
   ·refine tQ <| tG <| sm 1 rfl <| nL <| tRt <| rOk rfl ?_ nPo
    refine congrArg (fun b => iBool b) ?_
    simp_all [z0m]
   refine tSk <| tQ <| tG <| sm 1 rfl <| nL <| tRt <| rOk rfl ?_ nPo
   refine congrArg (fun b => iBool b) ?_
   simp_all [z0m]
  refine tQ <| tG <| cV rfl (bSt rfl rfl rfl rfl) <| sm 1 rfl <| nL ?_
  refine tC rfl (fun hc4 => ?_) fun hc4 => ?_
  ·refine tSk ?_
   refine tC rfl (fun hc4 => ?_) fun hc4 => ?_
   ·refine tQ <| tG <| sm 1 rfl <| nL <| tRt <| rOk rfl ?_ nPo
    refine congrArg (fun b => iBool b) ?_
    simp_all [z0m]
   refine tSk <| tQ <| tG <| sm 1 rfl <| nL <| tRt <| rOk rfl ?_ nPo
   refine congrArg (fun b => iBool b) ?_
   simp_all [z0m]
  refine tQ <| tG <| cV rfl (bSt rfl rfl rfl rfl) <| sm 1 rfl <| nL ?_
  refine tC rfl (fun hc4 => ?_) fun hc4 => ?_
  ·refine tSk ?_
   refine tC rfl (fun hc4 => ?_) fun hc4 => ?_
   ·refine tQ <| tG <| sm 1 rfl <| nL <| tRt <| rOk rfl ?_ nPo
    refine congrArg (fun b => iBool b) ?_
    simp_all [z0m]
   refine tSk <| tQ <| tG <| sm 1 rfl <| nL <| tRt <| rOk rfl ?_ nPo
   refine congrArg (fun b => iBool b) ?_
   simp_all [z0m]
  refine tQ <| tG <| cV rfl (bSt rfl rfl rfl rfl) <| sm 1 rfl <| nL ?_
  refine tC rfl (fun hc4 => ?_) fun hc4 => ?_
  ·refine tSk ?_
   refine tC rfl (fun hc4 => ?_) fun hc4 => ?_
   ·refine tQ <| tG <| sm 1 rfl <| nL <| tRt <| rOk rfl ?_ nPo
    refine congrArg (fun b => iBool b) ?_
    simp_all [z0m]
   refine tSk <| tQ <| tG <| sm 1 rfl <| nL <| tRt <| rOk rfl ?_ nPo
   refine congrArg (fun b => iBool b) ?_
   simp_all [z0m]
  refine tQ <| tG <| cV rfl (bSt rfl rfl rfl rfl) <| sm 1 rfl <| nL ?_
  refine tC rfl (fun hc4 => ?_) fun hc4 => ?_
  ·refine tSk ?_
   refine tC rfl (fun hc4 => ?_) fun hc4 => ?_
   ·refine tQ <| tG <| sm 1 rfl <| nL <| tRt <| rOk rfl ?_ nPo
    refine congrArg (fun b => iBool b) ?_
    simp_all [z0m]
   refine tSk <| tQ <| tG <| sm 1 rfl <| nL <| tRt <| rOk rfl ?_ nPo
   refine congrArg (fun b => iBool b) ?_
   simp_all [z0m]
  refine tQ <| tG <| cV rfl (bSt rfl rfl rfl rfl) <| sm 1 rfl <| nL ?_
  refine tC rfl (fun hc4 => ?_) fun hc4 => ?_
  ·refine tSk ?_
   refine tC rfl (fun hc4 => ?_) fun hc4 => ?_
   ·refine tQ <| tG <| sm 1 rfl <| nL <| tRt <| rOk rfl ?_ nPo
    refine congrArg (fun b => iBool b) ?_
    simp_all [z0m]
   refine tSk <| tQ <| tG <| sm 1 rfl <| nL <| tRt <| rOk rfl ?_ nPo
   refine congrArg (fun b => iBool b) ?_
   simp_all [z0m]
  refine tQ <| tG <| cV rfl (bSt rfl rfl rfl rfl) <| sm 1 rfl <| nL ?_
  refine tC rfl (fun hc4 => ?_) fun hc4 => ?_
  ·refine tSk ?_
   refine tC rfl (fun hc4 => ?_) fun hc4 => ?_
   ·refine tQ <| tG <| sm 1 rfl <| nL <| tRt <| rOk rfl ?_ nPo
    refine congrArg (fun b => iBool b) ?_
    simp_all [z0m]
   refine tSk <| tQ <| tG <| sm 1 rfl <| nL <| tRt <| rOk rfl ?_ nPo
   refine congrArg (fun b => iBool b) ?_
   simp_all [z0m]
  refine tQ <| tG <| cV rfl (bSt rfl rfl rfl rfl) <| sm 1 rfl <| nL ?_
  refine tC rfl (fun hc4 => ?_) fun hc4 => ?_
  ·refine tSk ?_
   refine tC rfl (fun hc4 => ?_) fun hc4 => ?_
   ·refine tQ <| tG <| sm 1 rfl <| nL <| tRt <| rOk rfl ?_ nPo
    refine congrArg (fun b => iBool b) ?_
    simp_all [z0m]
   refine tSk <| tQ <| tG <| sm 1 rfl <| nL <| tRt <| rOk rfl ?_ nPo
   refine congrArg (fun b => iBool b) ?_
   simp_all [z0m]
  refine tQ <| tG <| cV rfl (bSt rfl rfl rfl rfl) <| sm 1 rfl <| nL ?_
  refine tC rfl (fun hc4 => ?_) fun hc4 => ?_
  ·refine tSk ?_
   refine tC rfl (fun hc4 => ?_) fun hc4 => ?_
   ·refine tQ <| tG <| sm 1 rfl <| nL <| tRt <| rOk rfl ?_ nPo
    refine congrArg (fun b => iBool b) ?_
    simp_all [z0m]
   refine tSk <| tQ <| tG <| sm 1 rfl <| nL <| tRt <| rOk rfl ?_ nPo
   refine congrArg (fun b => iBool b) ?_
   simp_all [z0m]
  refine tQ <| tG <| cV rfl (bSt rfl rfl rfl rfl) <| sm 1 rfl <| nL ?_
  refine tC rfl (fun hc4 => ?_) fun hc4 => ?_
  ·refine tSk ?_
   refine tC rfl (fun hc4 => ?_) fun hc4 => ?_
   ·refine tQ <| tG <| sm 1 rfl <| nL <| tRt <| rOk rfl ?_ nPo
    refine congrArg (fun b => iBool b) ?_
    simp_all [z0m]
   refine tSk <| tQ <| tG <| sm 1 rfl <| nL <| tRt <| rOk rfl ?_ nPo
   refine congrArg (fun b => iBool b) ?_
   simp_all [z0m]
  refine tQ <| tG <| cV rfl (bSt rfl rfl rfl rfl) <| sm 1 rfl <| nL ?_
  refine tC rfl (fun hc4 => ?_) fun hc4 => ?_
  ·refine tSk ?_
   refine tC rfl (fun hc4 => ?_) fun hc4 => ?_
   ·refine tQ <| tG <| sm 1 rfl <| nL <| tRt <| rOk rfl ?_ nPo
    refine congrArg (fun b => iBool b) ?_
    simp_all [z0m]
   refine tSk <| tQ <| tG <| sm 1 rfl <| nL <| tRt <| rOk rfl ?_ nPo
   refine congrArg (fun b => iBool b) ?_
   simp_all [z0m]
  refine tQ <| tG <| cV rfl (bSt rfl rfl rfl rfl) <| sm 1 rfl <| nL ?_
  refine tC rfl (fun hc4 => ?_) fun hc4 => ?_
  ·refine tSk ?_
   refine tC rfl (fun hc4 => ?_) fun hc4 => ?_
   ·refine tQ <| tG <| sm 1 rfl <| nL <| tRt <| rOk rfl ?_ nPo
    refine congrArg (fun b => iBool b) ?_
    simp_all [z0m]
   refine tSk <| tQ <| tG <| sm 1 rfl <| nL <| tRt <| rOk rfl ?_ nPo
   refine congrArg (fun b => iBool b) ?_
   simp_all [z0m]
  refine tQ <| tG <| cV rfl (bSt rfl rfl rfl rfl) <| sm 1 rfl <| nL ?_
  refine tC rfl (fun hc4 => ?_) fun hc4 => ?_
  ·refine tSk ?_
   refine tC rfl (fun hc4 => ?_) fun hc4 => ?_
   ·refine tQ <| tG <| sm 1 rfl <| nL <| tRt <| rOk rfl ?_ nPo
    refine congrArg (fun b => iBool b) ?_
    simp_all [z0m]
   refine tSk <| tQ <| tG <| sm 1 rfl <| nL <| tRt <| rOk rfl ?_ nPo
   refine congrArg (fun b => iBool b) ?_
   simp_all [z0m]
  refine tQ <| tG <| cV rfl (bSt rfl rfl rfl rfl) <| sm 1 rfl <| nL ?_
  refine tC rfl (fun hc4 => ?_) fun hc4 => ?_
  ·refine tSk ?_
   refine tC rfl (fun hc4 => ?_) fun hc4 => ?_
   ·refine tQ <| tG <| sm 1 rfl <| nL <| tRt <| rOk rfl ?_ nPo
    refine congrArg (fun b => iBool b) ?_
    simp_all [z0m]
   refine tSk <| tQ <| tG <| sm 1 rfl <| nL <| tRt <| rOk rfl ?_ nPo
   refine congrArg (fun b => iBool b) ?_
   simp_all [z0m]
  refine tQ <| tG <| cV rfl (bSt rfl rfl rfl rfl) <| sm 1 rfl <| nL ?_
  refine tC rfl (fun hc4 => ?_) fun hc4 => ?_
  ·refine tSk ?_
   refine tC rfl (fun hc4 => ?_) fun hc4 => ?_
   ·refine tQ <| tG <| sm 1 rfl <| nL <| tRt <| rOk rfl ?_ nPo
    refine congrArg (fun b => iBool b) ?_
    simp_all [z0m]
   refine tSk <| tQ <| tG <| sm 1 rfl <| nL <| tRt <| rOk rfl ?_ nPo
   refine congrArg (fun b => iBool b) ?_
   simp_all [z0m]
  refine tQ <| tG <| cV rfl (bSt rfl rfl rfl rfl) <| sm 1 rfl <| nL ?_
  refine tC rfl (fun hc4 => ?_) fun hc4 => ?_
  ·refine tSk ?_
   refine tC rfl (fun hc4 => ?_) fun hc4 => ?_
   ·refine tQ <| tG <| sm 1 rfl <| nL <| tRt <| rOk rfl ?_ nPo
    refine congrArg (fun b => iBool b) ?_
    simp_all [z0m]
   refine tSk <| tQ <| tG <| sm 1 rfl <| nL <| tRt <| rOk rfl ?_ nPo
   refine congrArg (fun b => iBool b) ?_
   simp_all [z0m]
  refine tG <| cV rfl (bSt rfl rfl rfl rfl) <| sm 1 rfl <| nL ?_
  refine tC rfl (fun hc4 => ?_) fun hc4 => ?_
  ·refine tQ <| tG <| sm 1 rfl <| nL <| tRt <| rOk rfl ?_ nPo
   refine congrArg (fun b => iBool b) ?_
   simp_all [z0m]
  refine tSk <| tQ <| tG <| sm 1 rfl <| nL <| tRt <| rOk rfl ?_ nPo
  refine congrArg (fun b => iBool b) ?_
  simp_all [z0m]
theorem sc_tkRun (s : ByteArray) : SC Tryz.prog 85 [iStr s] [] (fun _ => False) (iStr (y63 s)) [] := by
  refine SC.of Tryz.func85 rfl (lb rfl) fun F ρ w => ?_
  refine tQ <| tG <| sm 1 rfl <| nL <| tQ ?_
  refine Tr.strRange rfl rfl rfl rfl rfl rfl rfl rfl uT9 rfl rfl rfl rfl rfl rfl rfl rfl rfl rfl rfl (fun _ h => h) (fun k fr => (k <= s.toList.length /\ (s.toList.take k).all isLD = true) /\ fr = [(0, iStr s)]) ⟨[(0, iStr s)], Sub.of ⟨rfl, trivial⟩, ⟨Nat.zero_le _, rfl⟩, rfl⟩ ?_ ?_
  ·rintro b0 k _ hk ⟨hI, rfl⟩
   refine tQ <| tG <| sm 2 rfl <| nL <| tRt <| rOk rfl ?_ nPo
   have hall : s.toList.all isLD = true := by
     have := hI.2
     rwa [List.take_of_length_le (by rw [z9b]; exact hk)] at this
   simp [y63, hall]
  rintro ρ2 w2 b0 k _ hk ⟨hI, rfl⟩
  have hlt : k < s.toList.length := by rw [z9b]; exact hk
  refine tBk <| tQ <| tG <| cV rfl (z1w rfl rfl rfl) <| cV rfl (z1w rfl rfl rfl) <| sm 2 rfl <| nL <| tQ <| tG <| sm 1 rfl <| cE rfl (ocq (zo9 _) ent84 rfl rfl) <| sm 2 rfl ?_
  refine wS 14 rfl (fun hb14 => ?_) fun hb14 => ?_
  ·refine sm 1 rfl <| WL.yes rfl rfl rfl rfl rfl rfl (z1q (y6k _) ent105 rfl rfl (sRf _ _) rfl) <| sm 2 rfl <| nL ?_
   refine tC rfl (fun hc18 => ?_) fun hc18 => ?_
   ·refine tQ <| tG <| sm 2 rfl <| cV rfl (zg3 rfl rfl uT9 (.inl ⟨rfl, rfl⟩) (.inr ⟨_, _, rfl, rfl⟩) oM0 (Nat.le_of_lt (by assumption))) <| sm 1 rfl <| nL <| tRt <| rOk rfl ?_ nPo
    have hld : zq6 (Utf8.decode s k).1 = false := by
      simp only [zq6]
      simp_all
    rw [runOf_at hI.2 (List.getElem?_eq_getElem hlt) ((zj8 hlt).2 hld)]
   refine tSk ?_
   refine ⟨rfl, [(0, iStr s)], Sub.of ⟨rfl, rfl, trivial⟩, ?_, rfl⟩
   have hld : zq6 (Utf8.decode s k).1 = true := by
     simp only [zq6]
     simp_all
   obtain ⟨hw1, hb1⟩ := (zj8 hlt).1 hld
   rw [hw1]
   exact ⟨by omega, by rw [List.take_succ_eq_append_getElem hlt, List.all_append, hI.2]; simp [hb1]⟩
  refine sm 4 rfl <| nL <| Tr.condF rfl <| tSk ?_
  refine ⟨rfl, [(0, iStr s)], Sub.of ⟨rfl, rfl, trivial⟩, ?_, rfl⟩
  have hld : zq6 (Utf8.decode s k).1 = true := by
    simp only [zq6]
    simp_all
  obtain ⟨hw1, hb1⟩ := (zj8 hlt).1 hld
  rw [hw1]
  exact ⟨by omega, by rw [List.take_succ_eq_append_getElem hlt, List.all_append, hI.2]; simp [hb1]⟩
theorem y1j (s : ByteArray) : SC Tryz.prog 59 [iStr s] [] (fun _ => False) (iBool (z4d s)) [] := by
  refine SC.of Tryz.func59 rfl (lb rfl) fun F ρ w => ?_
  refine tQ <| tG <| sm 1 rfl <| nL <| tQ <| tG <| sm 1 rfl <| cV rfl (bSt rfl rfl rfl rfl) <| sm 1 rfl ?_
  refine wS 5 rfl (fun hb5 => ?_) fun hb5 => ?_
  ·have hne : s.toList ≠ [] := by simpa using hb5
   obtain ⟨b0, r0, hs0⟩ := List.exists_cons_of_ne_nil hne
   have hi0 : s[0]? = some b0 := by rw [y3y (i := 0) (by rw [hs0]; simp)]; simp [hs0]
   have hw0 : IntKind.i32.wrap (b0.toNat : Int) = b0.toNat := by
     have : b0.toNat < 256 := b0.toNat_lt
     simp [IntKind.wrap, IntKind.bits, IntKind.signed]
     omega
   have hre := runOf_eq s
   refine sm 1 rfl <| yV rfl rfl (z59 rfl rfl rfl uT9 (by assumption) (by rfl)) <| yV rfl rfl (z4b rfl rfl ⟨_, Tryz.underlying5⟩ Tryz.underlying21) <| WL.yes rfl rfl rfl rfl rfl rfl (z1q (zo9 _) ent84 rfl rfl (sRf _ _) rfl) <| sm 2 rfl ?_
   refine wS 11 rfl (fun hb11 => ?_) fun hb11 => ?_
   ·refine sm 1 rfl <| WL.yes rfl rfl rfl rfl rfl rfl (z1q (sc_tkRun s) ent85 rfl rfl (sRf _ _) rfl) <| sm 1 rfl <| yV rfl rfl (bSt rfl rfl rfl rfl) <| sm 2 rfl ?_
    refine wS 17 rfl (fun hb17 => ?_) fun hb17 => ?_
    ·refine sm 1 rfl <| yV rfl rfl (z8x rfl rfl uT9) <| sm 3 rfl ?_
     refine wS 22 rfl (fun hb22 => ?_) fun hb22 => ?_
     ·refine sm 1 rfl <| WL.yes rfl rfl rfl rfl rfl rfl (z1q (ya4 s) ent86 rfl rfl (sRf _ _) rfl) <| sm 3 rfl <| nL <| tRt <| rOk rfl ?_ nPo
      refine congrArg (fun b => iBool b) ?_
      simp_all [z4d]
     refine sm 5 rfl <| nL <| tRt <| rOk rfl ?_ nPo
     refine congrArg (fun b => iBool b) ?_
     (simp_all [z4d] <;> omega)
    refine sm 10 rfl <| nL <| tRt <| rOk rfl ?_ nPo
    refine congrArg (fun b => iBool b) ?_
    simp_all [z4d]
   refine sm 16 rfl <| nL <| tRt <| rOk rfl ?_ nPo
   refine congrArg (fun b => iBool b) ?_
   simp_all [z4d]
  refine sm 22 rfl <| nL <| tRt <| rOk rfl ?_ nPo
  refine congrArg (fun b => iBool b) ?_
  simp_all [z4d]
end Go.Proofs.YtekdhljpmflboaaGreat
