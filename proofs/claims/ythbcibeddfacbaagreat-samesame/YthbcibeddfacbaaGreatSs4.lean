/- PART 4 of 6 of a proof: see the last part. -/
import Derived.Test.YthbcibeddfacbaaGreatSs3
set_option maxRecDepth 8000
set_option maxHeartbeats 2000000
set_option linter.unusedSimpArgs false
set_option linter.unusedVariables false
set_option linter.unusedSectionVars false
namespace Go.Proofs.YthbcibeddfacbaaGreat
open Go
theorem y0c (u : Un) (f : Fl) (set : List Bool) (hs : set.length = f.types.length) (hg : ∀ g ∈ u.flows, 0 <= g.params /\ g.params <= g.types.length) (x : Nd) (seen : List Int) (wh : Wh) : SC Tryz.prog 98 [.ptr 3 0, .pv (ndv x), .pv (ints seen), .pv (whv wh)] (ckHp u f 4 set) (fun k => k = 3) (iBool (z02 u f set x seen wh).1) (ckHp u f 4 (z02 u f set x seen wh).2) := by
  refine SC.of Tryz.func98 rfl (lb rfl) fun F ρ w => ?_
  refine tQ <| tG <| cE rfl (z1d rfl rfl) <| cE rfl (z1d rfl rfl) <| sm 1 rfl <| nL <| tQ <| tG <| cE rfl (bSl rfl rfl uT35 tZ3 tS3 rfl rfl rfl rfl (fbk rfl) rfl) <| cE rfl (bSl rfl rfl uT35 tZ3 tS3 rfl rfl rfl rfl (fbk rfl) rfl) <| sm 2 rfl <| nL ?_
  refine tQ <| tQ <| tG <| sm 2 rfl <| nL <| tBk <| tQ <| tG <| sm 2 rfl <| nL ?_
  refine tC rfl (fun hc20 => ?_) fun hc20 => ?_
  ·refine tQ <| tG <| sm 4 rfl <| cE rfl (z2g (z1i u f set x.args seen []) z78 rfl rfl (sSm rfl (sSm rfl (sSm rfl (Subs.cons (fun _ _ _ _ h => z41 h) Subs.nil)))) (po2 rfl rfl) rfl (fun _ _ => trivial) rfl rfl) <| sm 1 rfl ?_
   refine wS 27 rfl (fun hb27 => ?_) fun hb27 => ?_
   ·refine sm 4 rfl <| WL.yes rfl rfl rfl rfl rfl rfl (z2g (z1k u f set x.outs [1] hs) z64 rfl rfl (sRf _ _) (po2 rfl rfl) rfl (fun k (h : _) => h) rfl rfl) <| sm 2 rfl <| nL <| tRt ?_
    (have h2 : (z02 u f set x seen wh).2 = (z0p f.types set x.outs [1]).2 := (by (try clear hkn hgp); simp_all [z02, andS, z0r]; done)
     rw [h2]
     refine rOk rfl ?_ (po2 rfl rfl)
     clear h2
     try (clear hkn hgp)
     simp_all [z02, andS, z0r]
     done)
   refine sm 7 rfl <| nL <| tRt ?_
   (have h2 : (z02 u f set x seen wh).2 = set := (by (try clear hkn hgp); simp_all [z02, andS, z0r]; done)
    rw [h2]
    refine rOk rfl ?_ (po2 rfl rfl)
    clear h2
    try (clear hkn hgp)
    simp_all [z02, andS, z0r]
    done)
  refine tQ <| tG <| sm 2 rfl <| nL ?_
  refine tC rfl (fun hc34 => ?_) fun hc34 => ?_
  ·refine tQ <| tG <| sm 4 rfl ?_
   refine wS 39 rfl (fun hb39 => ?_) fun hb39 => ?_
   ·refine sm 9 rfl <| WL.yes rfl rfl rfl rfl rfl rfl (z2g (z1i u f set x.args seen []) z78 rfl rfl (sSm rfl (sSm rfl (sSm rfl (Subs.cons (fun _ _ _ _ h => z41 h) Subs.nil)))) (po2 rfl rfl) rfl (fun _ _ => trivial) rfl rfl) <| sm 2 rfl ?_
    refine wS 51 rfl (fun hb51 => ?_) fun hb51 => ?_
    ·refine sm 4 rfl <| WL.yes rfl rfl rfl rfl rfl rfl (z2g (z1k u f set x.outs [2] hs) z64 rfl rfl (sRf _ _) (po2 rfl rfl) rfl (fun k (h : _) => h) rfl rfl) <| sm 2 rfl <| nL <| tRt ?_
     (have h2 : (z02 u f set x seen wh).2 = (z0p f.types set x.outs [2]).2 := (by (try clear hkn hgp); simp_all [z02, andS, z0r]; done)
      rw [h2]
      refine rOk rfl ?_ (po2 rfl rfl)
      clear h2
      try (clear hkn hgp)
      simp_all [z02, andS, z0r]
      done)
    refine sm 7 rfl <| nL <| tRt ?_
    (have h2 : (z02 u f set x seen wh).2 = set := (by (try clear hkn hgp); simp_all [z02, andS, z0r]; done)
     rw [h2]
     refine rOk rfl ?_ (po2 rfl rfl)
     clear h2
     try (clear hkn hgp)
     simp_all [z02, andS, z0r]
     done)
   refine sm 5 rfl ?_
   refine wS 44 rfl (fun hb44 => ?_) fun hb44 => ?_
   ·refine sm 4 rfl <| WL.yes rfl rfl rfl rfl rfl rfl (z2g (z1i u f set x.args seen []) z78 rfl rfl (sSm rfl (sSm rfl (sSm rfl (Subs.cons (fun _ _ _ _ h => z41 h) Subs.nil)))) (po2 rfl rfl) rfl (fun _ _ => trivial) rfl rfl) <| sm 2 rfl ?_
    refine wS 51 rfl (fun hb51 => ?_) fun hb51 => ?_
    ·refine sm 4 rfl <| WL.yes rfl rfl rfl rfl rfl rfl (z2g (z1k u f set x.outs [2] hs) z64 rfl rfl (sRf _ _) (po2 rfl rfl) rfl (fun k (h : _) => h) rfl rfl) <| sm 2 rfl <| nL <| tRt ?_
     (have h2 : (z02 u f set x seen wh).2 = (z0p f.types set x.outs [2]).2 := (by (try clear hkn hgp); simp_all [z02, andS, z0r]; done)
      rw [h2]
      refine rOk rfl ?_ (po2 rfl rfl)
      clear h2
      try (clear hkn hgp)
      simp_all [z02, andS, z0r]
      done)
    refine sm 7 rfl <| nL <| tRt ?_
    (have h2 : (z02 u f set x seen wh).2 = set := (by (try clear hkn hgp); simp_all [z02, andS, z0r]; done)
     rw [h2]
     refine rOk rfl ?_ (po2 rfl rfl)
     clear h2
     try (clear hkn hgp)
     simp_all [z02, andS, z0r]
     done)
   refine sm 14 rfl <| nL <| tRt ?_
   (have h2 : (z02 u f set x seen wh).2 = set := (by (try clear hkn hgp); simp_all [z02, andS, z0r]; done)
    rw [h2]
    refine rOk rfl ?_ (po2 rfl rfl)
    clear h2
    try (clear hkn hgp)
    simp_all [z02, andS, z0r]
    done)
  refine tQ <| tG <| sm 2 rfl <| nL ?_
  refine tC rfl (fun hc58 => ?_) fun hc58 => ?_
  ·refine tQ <| tG <| sm 2 rfl <| cE rfl (ocq (zc3 _) ent110 rfl rfl) <| sm 1 rfl <| cV rfl (z0h rfl rfl rfl) <| cV rfl (z0h rfl rfl rfl) <| sm 2 rfl <| nL <| tQ <| tG <| sm 2 rfl ?_
   refine cE rfl (ocq (y2l _) ent111 rfl rfl) <| sm 1 rfl ?_
   refine wS 69 rfl (fun hb69 => ?_) fun hb69 => ?_
   ·refine sm 5 rfl <| WL.yes rfl rfl rfl rfl rfl rfl (bSl rfl rfl uT35 tZ3 tS3 rfl rfl rfl rfl (fbk rfl) rfl) <| WL.yes rfl rfl rfl rfl rfl rfl (z2g (z1i u f set x.args seen [(z08 x.op).1]) z78 rfl rfl (sRf _ _) (po2 rfl rfl) rfl (fun _ _ => trivial) rfl rfl) <| sm 2 rfl ?_
    refine wS 78 rfl (fun hb78 => ?_) fun hb78 => ?_
    ·refine sm 4 rfl <| WL.yes rfl rfl rfl rfl rfl rfl (bSl rfl rfl uT35 tZ3 tS3 rfl rfl rfl rfl (fbk rfl) rfl) <| WL.yes rfl rfl rfl rfl rfl rfl (z2g (z1k u f set x.outs [(z08 x.op).2] hs) z64 rfl rfl (sRf _ _) (po2 rfl rfl) rfl (fun k (h : _) => h) rfl rfl) <| sm 2 rfl <| nL <| tRt ?_
     (have h2 : (z02 u f set x seen wh).2 = (z0p f.types set x.outs [(z08 x.op).2]).2 := (by (try clear hkn hgp); simp_all [z02, andS, z0r]; done)
      rw [h2]
      refine rOk rfl ?_ (po2 rfl rfl)
      clear h2
      try (clear hkn hgp)
      simp_all [z02, andS, z0r]
      done)
    refine sm 8 rfl <| nL <| tRt ?_
    (have h2 : (z02 u f set x seen wh).2 = set := (by (try clear hkn hgp); simp_all [z02, andS, z0r]; done)
     rw [h2]
     refine rOk rfl ?_ (po2 rfl rfl)
     clear h2
     try (clear hkn hgp)
     simp_all [z02, andS, z0r]
     done)
   refine sm 17 rfl <| nL <| tRt ?_
   (have h2 : (z02 u f set x seen wh).2 = set := (by (try clear hkn hgp); simp_all [z02, andS, z0r]; done)
    rw [h2]
    refine rOk rfl ?_ (po2 rfl rfl)
    clear h2
    try (clear hkn hgp)
    simp_all [z02, andS, z0r]
    done)
  refine tQ <| tG <| sm 2 rfl <| nL ?_
  refine tC rfl (fun hc86 => ?_) fun hc86 => ?_
  ·refine tQ <| tG <| sm 2 rfl <| cE rfl (ocq (zc3 _) ent110 rfl rfl) <| sm 1 rfl <| cV rfl (z0h rfl rfl rfl) <| cV rfl (z0h rfl rfl rfl) <| sm 2 rfl <| nL <| tQ <| tDr z1a (fun k => k ∈ ([3] : List Nat)) <| wR 45 [0, 1] kR0 h30 ?_
   refine smR 2 rfl <| nR <| wO 2 kR0 <| wI rfl rfl (fun k (h : _) => by (simp at h ⊢; omega)) nw (fun _ _ => ocq (y2m _) ent112 rfl rfl) <| wR 37 [3, 4, 5, 6, 7, 8, 9] kR0 h30 <| smR 1 rfl ?_
   refine WR.split (t := 97) rfl (fun hb97 => ?_) (fun hb97 => ?_)
   ·refine smR 6 rfl <| nR <| wO 10 kR0 <| wY rfl rfl rfl (fun k (h : _) => by (simp at h ⊢; omega)) nw (fun _ _ => bSl rfl rfl uT35 tZ3 tS3 rfl rfl rfl rfl (fbk rfl) rfl) <| wO 11 kR0 <| wY rfl rfl rfl (fun k (h : _) => by (simp at h ⊢; omega)) (nAp rfl) (fun _ _ => z2g (z1i u f set x.args seen [(z08 x.op).1, (z08 x.op).1]) z78 rfl rfl (sRf _ _) (po2 rfl rfl) rfl (fun _ _ => trivial) rfl rfl) <| wR 4 [12, 13, 14, 15, 16, 17, 18, 19, 20, 21, 22, 23, 24, 25, 26, 27, 28, 29, 30, 31, 32, 33, 34, 35, 36, 37, 38, 39, 40, 41, 42] kR0 h30 <| smR 2 rfl ?_
    refine WR.split (t := 107) rfl (fun hb107 => ?_) (fun hb107 => ?_)
    ·obtain ⟨a, b, hab, ha0, hal, hb0, hbl⟩ := y03 (by simpa using hb107)
     have hi0 : (x.args.map eInt)[0]? = some [vInt a] := by rw [hab]; rfl
     have hi1 : (x.args.map eInt)[1]? = some [vInt b] := by rw [hab]; rfl
     have hta : (f.types.map eInt)[a.toNat]? = some [vInt (f.types.getD a.toNat 0)] := by rw [List.getElem?_map]; simp [eInt, List.getD, hal]
     have htb : (f.types.map eInt)[b.toNat]? = some [vInt (f.types.getD b.toNat 0)] := by rw [List.getElem?_map]; simp [eInt, List.getD, hbl]
     refine smR 1 rfl <| ryV rfl rfl rfl (nCk rfl rfl rfl) <| smR 2 rfl <| ryV rfl rfl rfl (oLb uT35 rfl rfl rfl dC0) <| smR 2 rfl <| ryV rfl rfl rfl (iSq rfl rfl rfl uT35 hi0 tS3 rfl (by rfl)) <| smR 1 rfl <| ryV rfl rfl rfl (iSq rfl rfl rfl uT35 hta tS3 rfl oM0) <| smR 2 rfl <| ryV rfl rfl rfl (nCk rfl rfl rfl) <| smR 2 rfl <| ryV rfl rfl rfl (oLb uT35 rfl rfl rfl dC0) ?_
     refine smR 2 rfl <| ryV rfl rfl rfl (iSq rfl rfl rfl uT35 hi1 tS3 rfl (by rfl)) <| smR 1 rfl <| ryV rfl rfl rfl (iSq rfl rfl rfl uT35 htb tS3 rfl oM0) <| smR 4 rfl ?_
     refine WR.split (t := 132) rfl (fun hb132 => ?_) (fun hb132 => ?_)
     ·refine smR 4 rfl <| nR <| wO 43 kR0 <| wY rfl rfl rfl (fun k (h : _) => by (simp at h ⊢; omega)) nw (fun _ _ => bSl rfl rfl uT35 tZ3 tS3 rfl rfl rfl rfl (fbk rfl) rfl) <| wO 44 kR0 <| wY rfl rfl rfl (fun k (h : _) => by (simp at h ⊢; omega)) (nAp rfl) (fun _ _ => z2g (z1k u f set x.outs [(z08 x.op).2] hs) z64 rfl rfl (sRf _ _) (po2 rfl rfl) rfl (fun k (h : _) => by (simpa using h)) rfl rfl) <| wR 0 [45, 46] kR0 h30 <| smR 2 rfl <| nR <| wDn kR0 <| tRt ?_
      (have h2 : (z02 u f set x seen wh).2 = (z0p f.types set x.outs [(z08 x.op).2]).2 := (by (try clear hkn hgp); simp_all [z02, andS, z0r]; done)
       rw [h2]
       refine rOk rfl ?_ (po2 rfl rfl)
       clear h2
       try (clear hkn hgp)
       simp_all [z02, andS, z0r]
       done)
     refine smR 4 rfl <| nR <| wN 43 kR0 h30 rfl rfl rfl <| wN 44 kR0 h30 rfl rfl rfl <| wR 0 [45, 46] kR0 h30 <| smR 2 rfl <| nR <| wDn kR0 <| tRt ?_
     (have h2 : (z02 u f set x seen wh).2 = set := (by (try clear hkn hgp); simp_all [z02, andS, z0r]; done)
      rw [h2]
      refine rOk rfl ?_ (po2 rfl rfl)
      clear h2
      try (clear hkn hgp)
      simp_all [z02, andS, z0r]
      done)
    refine smR 29 rfl <| nR <| wN 43 kR0 h30 rfl rfl rfl <| wN 44 kR0 h30 rfl rfl rfl <| wR 0 [45, 46] kR0 h30 <| smR 2 rfl <| nR <| wDn kR0 <| tRt ?_
    (have h2 : (z02 u f set x seen wh).2 = set := (by (try clear hkn hgp); simp_all [z02, andS, z0r]; done)
     rw [h2]
     refine rOk rfl ?_ (po2 rfl rfl)
     clear h2
     try (clear hkn hgp)
     simp_all [z02, andS, z0r]
     done)
   refine smR 6 rfl <| nR <| wN 10 kR0 h30 rfl rfl rfl <| wN 11 kR0 h30 rfl rfl rfl <| wR 4 [12, 13, 14, 15, 16, 17, 18, 19, 20, 21, 22, 23, 24, 25, 26, 27, 28, 29, 30, 31, 32, 33, 34, 35, 36, 37, 38, 39, 40, 41, 42] kR0 h30 <| smR 31 rfl <| nR <| wN 43 kR0 h30 rfl rfl rfl <| wN 44 kR0 h30 rfl rfl rfl <| wR 0 [45, 46] kR0 h30 <| smR 2 rfl <| nR ?_
   refine wDn kR0 <| tRt ?_
   (have h2 : (z02 u f set x seen wh).2 = set := (by (try clear hkn hgp); simp_all [z02, andS, z0r]; done)
    rw [h2]
    refine rOk rfl ?_ (po2 rfl rfl)
    clear h2
    try (clear hkn hgp)
    simp_all [z02, andS, z0r]
    done)
  refine tQ <| tG <| sm 2 rfl <| nL ?_
  refine tC rfl (fun hc140 => ?_) fun hc140 => ?_
  ·refine tQ <| tDr z1a (fun k => k ∈ ([3] : List Nat)) <| wR 18 [0, 1, 2, 3, 4, 5] kR0 h30 <| smR 1 rfl <| rV rfl rfl (nCk rfl rfl rfl) <| smR 1 rfl <| rV rfl rfl (lBP rfl rfl rfl uT25 rfl tS25 (lb rfl) rfl dC0) <| smR 2 rfl <| nR <| wO 6 kR0 <| wI rfl rfl (fun k (h : _) => by (simp at h ⊢; omega)) nw (fun _ _ => ocq (z85 _ _) ent48 rfl rfl) <| wR 10 [7, 8, 9, 10, 11, 12, 13] kR0 h30 ?_
   refine smR 2 rfl ?_
   refine WR.split (t := 150) rfl (fun hb150 => ?_) (fun hb150 => ?_)
   ·refine smR 5 rfl <| nR <| wO 14 kR0 <| wY rfl rfl rfl (fun k (h : _) => by (simp at h ⊢; omega)) (nAp rfl) (fun _ _ => z2g (z1i u f set x.args seen [1]) z78 rfl rfl (sRf _ _) (po2 rfl rfl) rfl (fun _ _ => trivial) rfl rfl) <| wR 3 [15, 16, 17, 18, 19, 20] kR0 h30 <| smR 2 rfl ?_
    refine WR.split (t := 158) rfl (fun hb158 => ?_) (fun hb158 => ?_)
    ·refine smR 4 rfl <| nR <| wO 21 kR0 <| wY rfl rfl rfl (fun k (h : _) => by (simp at h ⊢; omega)) (nAp rfl) (fun _ _ => z2g (z1k u f set x.outs [1] hs) z64 rfl rfl (sRf _ _) (po2 rfl rfl) rfl (fun k (h : _) => by (simpa using h)) rfl rfl) <| wR 0 [22, 23] kR0 h30 <| smR 2 rfl <| nR <| wDn kR0 <| tRt ?_
     (have h2 : (z02 u f set x seen wh).2 = (z0p f.types set x.outs [1]).2 := (by (try clear hkn hgp); simp_all [z02, andS, z0r]; done)
      rw [h2]
      refine rOk rfl ?_ (po2 rfl rfl)
      clear h2
      try (clear hkn hgp)
      simp_all [z02, andS, z0r]
      done)
    refine smR 4 rfl <| nR <| wN 21 kR0 h30 rfl rfl rfl <| wR 0 [22, 23] kR0 h30 <| smR 2 rfl <| nR <| wDn kR0 <| tRt ?_
    (have h2 : (z02 u f set x seen wh).2 = set := (by (try clear hkn hgp); simp_all [z02, andS, z0r]; done)
     rw [h2]
     refine rOk rfl ?_ (po2 rfl rfl)
     clear h2
     try (clear hkn hgp)
     simp_all [z02, andS, z0r]
     done)
   refine smR 5 rfl <| nR <| wN 14 kR0 h30 rfl rfl rfl <| wR 3 [15, 16, 17, 18, 19, 20] kR0 h30 <| smR 6 rfl <| nR <| wN 21 kR0 h30 rfl rfl rfl <| wR 0 [22, 23] kR0 h30 <| smR 2 rfl <| nR <| wDn kR0 <| tRt ?_
   (have h2 : z02 u f set x seen wh = (false, set) := (by unfold z02 z0r andS; simp only [*]; simp)
    rw [h2]
    exact rOk rfl rfl (po2 rfl rfl))
  refine tQ <| tG <| sm 2 rfl <| nL ?_
  refine tC rfl (fun hc165 => ?_) fun hc165 => ?_
  ·refine tQ <| tDr z1a (fun k => k ∈ ([3] : List Nat)) <| wR 17 [0, 1, 2, 3, 4, 5] kR0 h30 <| smR 1 rfl <| rV rfl rfl (nCk rfl rfl rfl) <| smR 1 rfl <| rV rfl rfl (lBP rfl rfl rfl uT25 rfl tS25 (lb rfl) rfl dC0) <| smR 2 rfl <| nR <| wO 6 kR0 <| wI rfl rfl (fun k (h : _) => by (simp at h ⊢; omega)) nw (fun _ _ => ocq (z85 _ _) ent48 rfl rfl) <| wR 10 [7, 8, 9, 10, 11, 12] kR0 h30 ?_
   refine smR 2 rfl ?_
   refine WR.split (t := 175) rfl (fun hb175 => ?_) (fun hb175 => ?_)
   ·refine smR 4 rfl <| nR <| wO 13 kR0 <| wY rfl rfl rfl (fun k (h : _) => by (simp at h ⊢; omega)) nw (fun _ _ => bSl rfl rfl uT35 tZ3 tS3 rfl rfl rfl rfl (fbk rfl) rfl) <| wO 14 kR0 <| wY rfl rfl rfl (fun k (h : _) => by (simp at h ⊢; omega)) (nAp rfl) (fun _ _ => z2g (z1i u f set x.args seen [1, 1]) z78 rfl rfl (sRf _ _) (po2 rfl rfl) rfl (fun _ _ => trivial) rfl rfl) <| wR 0 [15, 16, 17, 18, 19, 20, 21, 22] kR0 h30 <| smR 2 rfl ?_
    refine WR.split (t := 183) rfl (fun hb183 => ?_) (fun hb183 => ?_)
    ·refine smR 2 rfl <| ryV rfl rfl rfl (oSm uT35 rfl) <| smR 3 rfl <| nR <| wDn kR0 <| tRt ?_
     (have h2 : (z02 u f set x seen wh).2 = set := (by (try clear hkn hgp); simp_all [z02, andS, z0r]; done)
      rw [h2]
      refine rOk rfl ?_ (po2 rfl rfl)
      clear h2
      try (clear hkn hgp)
      simp_all [z02, andS, z0r]
      done)
    refine smR 6 rfl <| nR <| wDn kR0 <| tRt ?_
    (have h2 : (z02 u f set x seen wh).2 = set := (by (try clear hkn hgp); simp_all [z02, andS, z0r]; done)
     rw [h2]
     refine rOk rfl ?_ (po2 rfl rfl)
     clear h2
     try (clear hkn hgp)
     simp_all [z02, andS, z0r]
     done)
   refine smR 4 rfl <| nR <| wN 13 kR0 h30 rfl rfl rfl <| wN 14 kR0 h30 rfl rfl rfl <| wR 0 [15, 16, 17, 18, 19, 20, 21, 22] kR0 h30 <| smR 8 rfl <| nR <| wDn kR0 <| tRt ?_
   (have h2 : z02 u f set x seen wh = (false, set) := (by unfold z02 z0r andS; simp only [*]; simp)
    rw [h2]
    exact rOk rfl rfl (po2 rfl rfl))
  refine tQ <| tG <| sm 2 rfl <| nL ?_
  refine tC rfl (fun hc189 => ?_) fun hc189 => ?_
  ·refine tQ <| tDr z1a (fun k => k ∈ ([3] : List Nat)) <| wR 2 [0, 1, 2, 3, 4, 5] kR0 h30 <| smR 1 rfl <| rV rfl rfl (nCk rfl rfl rfl) <| smR 1 rfl <| rV rfl rfl (lBP rfl rfl rfl uT25 rfl tS25 (lb rfl) rfl dC0) <| smR 2 rfl <| nR <| wO 6 kR0 <| wI rfl rfl (fun k (h : _) => by (simp at h ⊢; omega)) nw (fun _ _ => ocq (z5b _ _) y1q rfl rfl) <| wR 0 [7] kR0 h30 ?_
   refine smR 1 rfl <| nR <| wDn kR0 <| tQ <| tDr z1a (fun k => k ∈ ([3] : List Nat)) <| wR 19 [0, 1, 2, 3, 4, 5, 6, 7, 8, 9, 10, 11, 12, 13, 14, 15, 16, 17, 18, 19, 20, 21, 22, 23, 24, 25] kR0 h30 <| smR 3 rfl ?_
   refine WR.split (t := 200) rfl (fun hb200 => ?_) (fun hb200 => ?_)
   ·have hk0 : z0a x.name u.flows 0 ≥ 0 := by simpa using hb200
    obtain ⟨g, hgk, _⟩ := z6e hk0
    obtain ⟨hgp0, hgpl⟩ := hg g (List.mem_of_getElem? hgk)
    have hgp : g.params = (g.params.toNat : Int) := by omega
    have hgi : (u.flows.map Fl.enc)[(z0a x.name u.flows 0).toNat]? = some (Fl.enc g) := by rw [List.getElem?_map, hgk]; rfl
    have hkn : z0a x.name u.flows 0 = ((z0a x.name u.flows 0).toNat : Int) := by omega
    refine smR 5 rfl <| ryV rfl rfl rfl (nCk rfl rfl rfl) <| smR 2 rfl <| ryV rfl rfl rfl (oLb uT23 rfl rfl rfl dC0) <| smR 1 rfl <| ryV rfl rfl rfl (iSq rfl rfl rfl uT23 hgi tS51 rfl oM0) <| smR 3 rfl <| ryV rfl rfl rfl (nCk rfl rfl rfl) <| smR 2 rfl <| ryV rfl rfl rfl (oLb uT23 rfl rfl rfl dC0) <| smR 1 rfl <| ryV rfl rfl rfl (iSq rfl rfl rfl uT23 hgi tS51 rfl oM0) ?_
    refine smR 2 rfl ?_
    refine ryV rfl rfl rfl (z5z (j := g.params.toNat) rfl rfl uT35 tS3 (.inl ⟨rfl, rfl⟩) (.inr ⟨_, _, rfl, congrArg (fun z => some (IV.pv (.val (.int .i64 z)))) hgp⟩) (Nat.zero_le _) (by simp; omega) (by simp [eInt])) ?_
    refine nR <| wO 26 kR0 ?_
    refine wY rfl rfl rfl (fun k (h : _) => by (simp at h ⊢; omega)) (nAp rfl) (fun _ _ => z2g (z1i u f set x.args seen (g.types.take g.params.toNat)) z78 rfl rfl (sSm rfl (sSm rfl (sSm rfl (sSm (by simp [ints, List.map_take]) Subs.nil)))) (po2 rfl rfl) rfl (fun _ _ => trivial) rfl rfl) ?_
    refine wR 4 [27, 28, 29, 30, 31, 32, 33, 34, 35, 36, 37, 38, 39, 40] kR0 h30 <| smR 2 rfl ?_
    refine WR.split (t := 226) rfl (fun hb226 => ?_) (fun hb226 => ?_)
    ·refine smR 4 rfl <| ryV rfl rfl rfl (nCk rfl rfl rfl) <| smR 2 rfl <| ryV rfl rfl rfl (oLb uT23 rfl rfl rfl dC0) <| smR 1 rfl <| ryV rfl rfl rfl (iSq rfl rfl rfl uT23 hgi tS51 rfl oM0) <| smR 2 rfl <| nR <| wO 41 kR0 <| wY rfl rfl rfl (fun k (h : _) => by (simp at h ⊢; omega)) nw (fun _ _ => bSl rfl rfl uT35 tZ3 tS3 rfl rfl rfl rfl (fbk rfl) rfl) <| wO 42 kR0 <| wY rfl rfl rfl (fun k (h : _) => by (simp at h ⊢; omega)) (nAp rfl) (fun _ _ => z2g (z1k u f set x.outs [g.ty] hs) z64 rfl rfl (sRf _ _) (po2 rfl rfl) rfl (fun k (h : _) => by (simpa using h)) rfl rfl) ?_
     refine wR 0 [43, 44] kR0 h30 <| smR 2 rfl <| nR <| wDn kR0 <| tRt ?_
     (have h2 : (z02 u f set x seen wh).2 = (z0p f.types set x.outs [g.ty]).2 := (by (try clear hkn hgp); simp_all [z02, andS, z0r]; done)
      rw [h2]
      refine rOk rfl ?_ (po2 rfl rfl)
      clear h2
      try (clear hkn hgp)
      simp_all [z02, andS, z0r]
      done)
    refine smR 12 rfl <| nR <| wN 41 kR0 h30 rfl rfl rfl <| wN 42 kR0 h30 rfl rfl rfl <| wR 0 [43, 44] kR0 h30 <| smR 2 rfl <| nR <| wDn kR0 <| tRt ?_
    (have h2 : (z02 u f set x seen wh).2 = set := (by (try clear hkn hgp); simp_all [z02, andS, z0r]; done)
     rw [h2]
     refine rOk rfl ?_ (po2 rfl rfl)
     clear h2
     try (clear hkn hgp)
     simp_all [z02, andS, z0r]
     done)
   refine smR 23 rfl <| nR <| wN 26 kR0 h30 rfl rfl rfl <| wR 4 [27, 28, 29, 30, 31, 32, 33, 34, 35, 36, 37, 38, 39, 40] kR0 h30 <| smR 14 rfl <| nR <| wN 41 kR0 h30 rfl rfl rfl <| wN 42 kR0 h30 rfl rfl rfl <| wR 0 [43, 44] kR0 h30 <| smR 2 rfl <| nR <| wDn kR0 ?_
   refine tRt ?_
   (have h2 : z02 u f set x seen wh = (false, set) := (by unfold z02 z0r andS; simp only [*]; simp)
    rw [h2]
    exact rOk rfl rfl (po2 rfl rfl))
  refine tQ <| tG <| sm 2 rfl <| nL ?_
  refine tC rfl (fun hc242 => ?_) fun hc242 => ?_
  ·refine tQ <| tG <| sm 2 rfl <| cV rfl (oSm uT35 rfl) <| sm 2 rfl ?_
   refine wS 248 rfl (fun hb248 => ?_) fun hb248 => ?_
   ·refine sm 4 rfl <| WL.yes rfl rfl rfl rfl rfl rfl (z2g (z1k u f set x.outs [1] hs) z64 rfl rfl (sRf _ _) (po2 rfl rfl) rfl (fun k (h : _) => h) rfl rfl) <| sm 2 rfl <| nL <| tRt ?_
    (have h2 : (z02 u f set x seen wh).2 = (z0p f.types set x.outs [1]).2 := (by (try clear hkn hgp); simp_all [z02, andS, z0r]; done)
     rw [h2]
     refine rOk rfl ?_ (po2 rfl rfl)
     clear h2
     try (clear hkn hgp)
     simp_all [z02, andS, z0r]
     done)
   refine sm 7 rfl <| nL <| tRt ?_
   (have h2 : (z02 u f set x seen wh).2 = set := (by (try clear hkn hgp); simp_all [z02, andS, z0r]; done)
    rw [h2]
    refine rOk rfl ?_ (po2 rfl rfl)
    clear h2
    try (clear hkn hgp)
    simp_all [z02, andS, z0r]
    done)
  refine tQ <| tG <| sm 2 rfl <| nL ?_
  refine tC rfl (fun hc255 => ?_) fun hc255 => ?_
  ·refine tQ <| tG <| sm 5 rfl <| cE rfl (z2g (z1i u f set x.args seen [1]) z78 rfl rfl (sRf _ _) (po2 rfl rfl) rfl (fun _ _ => trivial) rfl rfl) <| sm 1 rfl ?_
   refine wS 263 rfl (fun hb263 => ?_) fun hb263 => ?_
   ·refine sm 2 rfl <| yV rfl rfl (oSm uT35 rfl) <| sm 3 rfl <| nL <| tRt ?_
    (have h2 : (z02 u f set x seen wh).2 = set := (by (try clear hkn hgp); simp_all [z02, andS, z0r]; done)
     rw [h2]
     refine rOk rfl ?_ (po2 rfl rfl)
     clear h2
     try (clear hkn hgp)
     simp_all [z02, andS, z0r]
     done)
   refine sm 6 rfl <| nL <| tRt ?_
   (have h2 : (z02 u f set x seen wh).2 = set := (by (try clear hkn hgp); simp_all [z02, andS, z0r]; done)
    rw [h2]
    refine rOk rfl ?_ (po2 rfl rfl)
    clear h2
    try (clear hkn hgp)
    simp_all [z02, andS, z0r]
    done)
  refine tQ <| tG <| sm 2 rfl <| nL ?_
  refine tC rfl (fun hc269 => ?_) fun hc269 => ?_
  ·refine tQ <| tG <| sm 3 rfl ?_
   refine wS 273 rfl (fun hb273 => ?_) fun hb273 => ?_
   ·refine sm 6 rfl <| WL.yes rfl rfl rfl rfl rfl rfl (z2g (z1i u f set x.args seen wh.Yield) z78 rfl rfl (sRf _ _) (po2 rfl rfl) rfl (fun _ _ => trivial) rfl rfl) <| sm 2 rfl ?_
    refine wS 282 rfl (fun hb282 => ?_) fun hb282 => ?_
    ·refine sm 2 rfl <| yV rfl rfl (oSm uT35 rfl) <| sm 3 rfl <| nL <| tRt ?_
     (have h2 : (z02 u f set x seen wh).2 = set := (by (try clear hkn hgp); simp_all [z02, andS, z0r]; done)
      rw [h2]
      refine rOk rfl ?_ (po2 rfl rfl)
      clear h2
      try (clear hkn hgp)
      simp_all [z02, andS, z0r]
      done)
    refine sm 6 rfl <| nL <| tRt ?_
    (have h2 : (z02 u f set x seen wh).2 = set := (by (try clear hkn hgp); simp_all [z02, andS, z0r]; done)
     rw [h2]
     refine rOk rfl ?_ (po2 rfl rfl)
     clear h2
     try (clear hkn hgp)
     simp_all [z02, andS, z0r]
     done)
   refine sm 15 rfl <| nL <| tRt ?_
   (have h2 : (z02 u f set x seen wh).2 = set := (by (try clear hkn hgp); simp_all [z02, andS, z0r]; done)
    rw [h2]
    refine rOk rfl ?_ (po2 rfl rfl)
    clear h2
    try (clear hkn hgp)
    simp_all [z02, andS, z0r]
    done)
  refine tQ <| tG <| sm 2 rfl <| nL ?_
  refine tC rfl (fun hc288 => ?_) fun hc288 => ?_
  ·refine tQ <| tG <| sm 3 rfl ?_
   refine wS 292 rfl (fun hb292 => ?_) fun hb292 => ?_
   ·refine sm 6 rfl <| WL.yes rfl rfl rfl rfl rfl rfl (z2g (z1i u f set x.args seen wh.Next) z78 rfl rfl (sRf _ _) (po2 rfl rfl) rfl (fun _ _ => trivial) rfl rfl) <| sm 2 rfl ?_
    refine wS 301 rfl (fun hb301 => ?_) fun hb301 => ?_
    ·refine sm 2 rfl <| yV rfl rfl (oSm uT35 rfl) <| sm 3 rfl <| nL <| tRt ?_
     (have h2 : (z02 u f set x seen wh).2 = set := (by (try clear hkn hgp); simp_all [z02, andS, z0r]; done)
      rw [h2]
      refine rOk rfl ?_ (po2 rfl rfl)
      clear h2
      try (clear hkn hgp)
      simp_all [z02, andS, z0r]
      done)
    refine sm 6 rfl <| nL <| tRt ?_
    (have h2 : (z02 u f set x seen wh).2 = set := (by (try clear hkn hgp); simp_all [z02, andS, z0r]; done)
     rw [h2]
     refine rOk rfl ?_ (po2 rfl rfl)
     clear h2
     try (clear hkn hgp)
     simp_all [z02, andS, z0r]
     done)
   refine sm 15 rfl <| nL <| tRt ?_
   (have h2 : (z02 u f set x seen wh).2 = set := (by (try clear hkn hgp); simp_all [z02, andS, z0r]; done)
    rw [h2]
    refine rOk rfl ?_ (po2 rfl rfl)
    clear h2
    try (clear hkn hgp)
    simp_all [z02, andS, z0r]
    done)
  refine tQ <| tG <| sm 2 rfl <| nL ?_
  refine tC rfl (fun hc307 => ?_) fun hc307 => ?_
  ·refine tQ <| tG <| sm 3 rfl ?_
   refine wS 311 rfl (fun hb311 => ?_) fun hb311 => ?_
   ·refine sm 6 rfl <| WL.yes rfl rfl rfl rfl rfl rfl (z2g (z1i u f set x.args seen wh.Left) z78 rfl rfl (sRf _ _) (po2 rfl rfl) rfl (fun _ _ => trivial) rfl rfl) <| sm 2 rfl ?_
    refine wS 320 rfl (fun hb320 => ?_) fun hb320 => ?_
    ·refine sm 2 rfl <| yV rfl rfl (oSm uT35 rfl) <| sm 3 rfl <| nL <| tRt ?_
     (have h2 : (z02 u f set x seen wh).2 = set := (by (try clear hkn hgp); simp_all [z02, andS, z0r]; done)
      rw [h2]
      refine rOk rfl ?_ (po2 rfl rfl)
      clear h2
      try (clear hkn hgp)
      simp_all [z02, andS, z0r]
      done)
    refine sm 6 rfl <| nL <| tRt ?_
    (have h2 : (z02 u f set x seen wh).2 = set := (by (try clear hkn hgp); simp_all [z02, andS, z0r]; done)
     rw [h2]
     refine rOk rfl ?_ (po2 rfl rfl)
     clear h2
     try (clear hkn hgp)
     simp_all [z02, andS, z0r]
     done)
   refine sm 15 rfl <| nL <| tRt ?_
   (have h2 : (z02 u f set x seen wh).2 = set := (by (try clear hkn hgp); simp_all [z02, andS, z0r]; done)
    rw [h2]
    refine rOk rfl ?_ (po2 rfl rfl)
    clear h2
    try (clear hkn hgp)
    simp_all [z02, andS, z0r]
    done)
  refine tQ <| tG <| sm 2 rfl <| nL ?_
  refine tC rfl (fun hc326 => ?_) fun hc326 => ?_
  ·refine tQ <| tDr z1a (fun k => k ∈ ([3] : List Nat)) <| wR 9 [0, 1, 2, 3, 4, 5, 6, 7, 8] kR0 h30 <| smR 5 rfl <| rV rfl rfl (nCk rfl rfl rfl) <| smR 2 rfl <| rV rfl rfl (oLb uT3 rfl rfl rfl dC0) <| nR <| wO 9 kR0 <| wI rfl rfl (fun k (h : _) => by (simp at h ⊢; omega)) nw (fun _ _ => bSl rfl rfl uT35 tZ3 tS3 rfl rfl rfl rfl (fbk rfl) rfl) <| wO 10 kR0 <| wI rfl rfl (fun k (h : _) => by (simp at h ⊢; omega)) (nAp rfl) (fun _ _ => z2g (z1i u f set x.args seen [f.ty]) z78 rfl rfl (sRf _ _) (po2 rfl rfl) rfl (fun _ _ => trivial) rfl rfl) ?_
   refine wR 0 [11, 12, 13, 14, 15, 16, 17] kR0 h30 <| smR 1 rfl ?_
   refine WR.split (t := 339) rfl (fun hb339 => ?_) (fun hb339 => ?_)
   ·refine smR 2 rfl <| ryV rfl rfl rfl (oSm uT35 rfl) <| smR 3 rfl <| nR <| wDn kR0 <| tRt ?_
    (have h2 : (z02 u f set x seen wh).2 = set := (by (try clear hkn hgp); simp_all [z02, andS, z0r]; done)
     rw [h2]
     refine rOk rfl ?_ (po2 rfl rfl)
     clear h2
     try (clear hkn hgp)
     simp_all [z02, andS, z0r]
     done)
   refine smR 6 rfl <| nR <| wDn kR0 <| tRt ?_
   (have h2 : (z02 u f set x seen wh).2 = set := (by (try clear hkn hgp); simp_all [z02, andS, z0r]; done)
    rw [h2]
    refine rOk rfl ?_ (po2 rfl rfl)
    clear h2
    try (clear hkn hgp)
    simp_all [z02, andS, z0r]
    done)
  refine tSk <| tQ <| tG <| sm 1 rfl <| nL <| tRt ?_
  (have h2 : (z02 u f set x seen wh).2 = set := (by (try clear hkn hgp); simp_all [z02, andS, z0r]; done)
   rw [h2]
   refine rOk rfl ?_ (po2 rfl rfl)
   clear h2
   try (clear hkn hgp)
   simp_all [z02, andS, z0r]
   done)
theorem y5e (u : Un) (f : Fl) (hg : ∀ g ∈ u.flows, 0 <= g.params /\ g.params <= g.types.length) (x : Nd) (deep : Int) (hd : 0 <= deep /\ deep <= 100) (wh : Wh) (seen : List Int) (set : List Bool) (hs : set.length = f.types.length) (hb : seen.length + ndW x <= 1073741824) (ih : ∀ q ∈ x.kids, ∀ (deep : Int) (w : Wh) (all : List Int) (set : List Bool), 0 <= deep /\ deep <= 101 -> set.length = f.types.length -> all.length + lsW q <= 1073741824 -> SC Tryz.prog 49 [.ptr 3 0, .pv (z0g q), .pv (ints all), .pv (whv w), iInt deep] (ckHp u f 4 set) (fun k => k = 3) (iBool (z0l u f deep w all set q).1) (ckHp u f 4 (z0l u f deep w all set q).2)) : SC Tryz.prog 74 [.ptr 3 0, .pv (ndv x), .pv (ints seen), .pv (whv wh), iInt deep] (ckHp u f 4 set) (fun k => k = 3) (iBool (z14 u f deep wh seen set x).1) (ckHp u f 4 (z14 u f deep wh seen set x).2) := by
  refine SC.of Tryz.func74 rfl (lb rfl) fun F ρ w => ?_
  have hbW := z96 x
  have hbo : x.outs.length <= 1073741824 := by omega
  have hbp : x.params.length <= 1073741824 := by omega
  refine tQ <| tG <| cE rfl (z1d rfl rfl) <| cE rfl (z1d rfl rfl) <| sm 1 rfl <| nL <| tQ <| tQ <| tG <| cV rfl (lEA rfl rfl uT43 rfl tS43 (lb rfl)) <| cE rfl (ocq (y5c _) ent94 rfl rfl) <| sm 1 rfl ?_
  refine nL ?_
  refine tC rfl (fun hc17 => ?_) fun hc17 => ?_
  ·refine tQ <| tG <| sm 1 rfl <| nL <| tRt ?_
   have hbare : z0k x = false := by simpa using hc17
   rw [z8o _ _ _ _ _ _ hbare]
   exact rOk rfl rfl (po2 rfl rfl)
  have hbare : z0k x = true := by simpa using hc17
  refine tSk <| tQ <| tQ <| tG <| sm 2 rfl <| nL <| tBk <| tQ <| tG <| sm 2 rfl <| nL ?_
  refine tC rfl (fun hc20 => ?_) fun hc20 => ?_
  ·have hk10 : x.kind = 10 := by simpa using hc20
   obtain ⟨ka, kb, hkids⟩ := z3t hbare hk10
   have hi0 : (x.kids.map eKid)[0]? = some [z0g ka] := by rw [hkids]; rfl
   have hi1 : (x.kids.map eKid)[1]? = some [z0g kb] := by rw [hkids]; rfl
   have hm0 : ka ∈ x.kids := by rw [hkids]; simp
   have hm1 : kb ∈ x.kids := by rw [hkids]; simp
   have hkW : kdW x.kids = 1 + lsW ka + (1 + lsW kb) := by rw [hkids]; simp [kdW] <;> omega
   have hb0 : seen.length + lsW ka <= 1073741824 := by omega
   have hb1 : seen.length + lsW kb <= 1073741824 := by omega
   have hs1 : (z0l u f (deep + 1) ⟨true, wh.Loop, r8of f.types x.outs, wh.Next, wh.Left⟩ seen set ka).2.length = f.types.length := (z31 ..).trans hs
   have hs2 : (z0l u f (deep + 1) ⟨true, wh.Loop, r8of f.types x.outs, wh.Next, wh.Left⟩ seen (z0l u f (deep + 1) ⟨true, wh.Loop, r8of f.types x.outs, wh.Next, wh.Left⟩ seen set ka).2 kb).2.length = f.types.length := (z31 ..).trans hs1
   refine tQ <| tDr z1a (fun k => k ∈ ([3] : List Nat)) <| wR 4 [0, 1, 2, 3, 4, 6, 7, 8, 9] kR0 h30 <| smR 9 rfl <| nR <| WA.all (rs := [5, 11]) kR0 sI0 ?_
   refine fmc ⟨?_, fmc ⟨?_, by simp⟩⟩
   ·refine wI rfl rfl (fun k (h : _) => by (simp at h ⊢; omega)) (nAp rfl) (fun _ _ => ocr (z68 u f set x.outs hbo) zk5 rfl (po2 rfl rfl) rfl (fun k (h : _) => by (simp only [List.mem_cons, List.not_mem_nil, or_false] at h; rcases h with rfl <;> first | exact .inl rfl | exact .inr rfl | exact .inr dC0)) rfl rfl) <| wR 2 [10] kR0 h30 <| rV rfl rfl (bPu rfl rfl tZ91 tP91 rfl (fbk rfl) rfl) <| nR <| wO 11 kR0 <| wI rfl rfl (fun k (h : _) => by (simp at h ⊢; omega)) (z1g rfl) (fun _ _ => aLc (k := 111) rfl tZ91 rfl rfl rfl rfl) <| wO 12 kR0 <| wI rfl rfl (fun k (h : _) => by (simp at h ⊢; omega)) (nOl rfl) (fun _ _ => sBA rfl rfl rfl rfl rfl sI0 tS91 (flk rfl) (lb rfl)) <| wDn kR0 <| tQ <| tDr z1a (fun k => k ∈ ([3, 111] : List Nat)) <| wR 27 [0, 1, 2, 3] kR0 h30 ?_
    refine smR 4 rfl <| nR <| wO 4 kR0 <| wI rfl rfl (fun k (h : _) => by (simp at h ⊢; omega)) nw (fun _ _ => bSl rfl rfl uT35 tZ3 tS3 rfl rfl rfl rfl (fbk rfl) rfl) <| wO 5 kR0 <| wI rfl rfl (fun k (h : _) => by (simp at h ⊢; omega)) (nAp rfl) (fun _ _ => ocr (z1i u f set x.args seen [2]) z78 rfl (po2 rfl rfl) rfl (fun k (h : _) => .inr trivial) rfl rfl) <| wR 15 [6, 7, 8, 9, 10, 11, 12, 13, 14, 15] kR0 h30 <| smR 1 rfl ?_
    refine WR.split (t := 39) rfl (fun hb39 => ?_) (fun hb39 => ?_)
    ·refine smR 3 rfl <| ryV rfl rfl rfl (iSq rfl rfl rfl uT41 hi0 tS44 rfl (by rfl)) <| smR 2 rfl <| ryV rfl rfl rfl (lBP rfl rfl rfl Tryz.underlying91 rfl tS91 (lb rfl) rfl dC0) <| smR 1 rfl <| ryV rfl rfl rfl (oB rfl rfl (z0b rfl oM0)) <| nR <| wO 16 kR0 <| wY rfl rfl rfl (fun k (h : _) => by (simp at h ⊢; omega)) (nAp rfl) (fun _ _ => ocr (ih ka hm0 (deep + 1) ⟨true, wh.Loop, r8of f.types x.outs, wh.Next, wh.Left⟩ seen set ⟨by omega, by omega⟩ hs hb0) zs4 rfl (po2 rfl rfl) rfl (fun k (h : _) => by (simp only [List.mem_cons, List.not_mem_nil, or_false] at h; rcases h with rfl | rfl <;> first | exact .inl rfl | exact .inr rfl | exact .inr dC0)) rfl rfl) <| wR 3 [17, 18, 19, 20, 21, 22, 23, 24, 25, 26, 27] kR0 h30 <| smR 2 rfl ?_
     refine WR.split (t := 51) rfl (fun hb51 => ?_) (fun hb51 => ?_)
     ·refine smR 3 rfl <| ryV rfl rfl rfl (iSq rfl rfl rfl uT41 hi1 tS44 rfl (by rfl)) <| smR 2 rfl <| ryV rfl rfl rfl (lBP rfl rfl rfl Tryz.underlying91 rfl tS91 (lb rfl) rfl dC0) <| smR 1 rfl <| ryV rfl rfl rfl (oB rfl rfl (z0b rfl oM0)) <| nR <| wO 28 kR0 <| wY rfl rfl rfl (fun k (h : _) => by (simp at h ⊢; omega)) (nAp rfl) (fun _ _ => ocr (ih kb hm1 (deep + 1) ⟨true, wh.Loop, r8of f.types x.outs, wh.Next, wh.Left⟩ seen (z0l u f (deep + 1) ⟨true, wh.Loop, r8of f.types x.outs, wh.Next, wh.Left⟩ seen set ka).2 ⟨by omega, by omega⟩ hs1 hb1) zs4 rfl (po2 rfl rfl) rfl (fun k (h : _) => by (simp only [List.mem_cons, List.not_mem_nil, or_false] at h; rcases h with rfl | rfl <;> first | exact .inl rfl | exact .inr rfl | exact .inr dC0)) rfl rfl) <| wR 0 [29, 30] kR0 h30 <| smR 2 rfl <| nR ?_
      refine wDn kR0 <| tQ <| tDr z1a (fun k => k ∈ ([3] : List Nat)) <| wR 15 [0, 1, 2, 3, 4, 5, 6, 7] kR0 h30 <| smR 2 rfl ?_
      refine WR.split (t := 64) rfl (fun hb64 => ?_) (fun hb64 => ?_)
      ·refine smR 2 rfl <| ryV rfl rfl rfl (oSm uT35 rfl) <| smR 2 rfl ?_
       refine WR.split (t := 69) rfl (fun hb69 => ?_) (fun hb69 => ?_)
       ·refine smR 1 rfl <| nR <| wN 8 kR0 h30 rfl rfl rfl <| wR 4 [9, 10, 11, 12, 13, 14, 15, 16, 17, 18] kR0 h30 <| smR 9 rfl <| ryV rfl rfl rfl (oSm uT35 rfl) <| nR <| wO 19 kR0 <| wY rfl rfl rfl (fun k (h : _) => by (simp at h ⊢; omega)) (z1g rfl) (fun _ _ => z15 (k := 182) (s := ⟨3, 1⟩) rfl rfl rfl uT35 tZ3 tC3 rfl dC0 oM0 oM0 rfl rfl rfl rfl) <| wO 20 kR0 <| wY rfl rfl rfl (fun k (h : _) => by (simp at h ⊢; omega)) (nAp rfl) (fun _ _ => z30 (fun k => k = 182) (z1k u f (z0l u f (deep + 1) ⟨true, wh.Loop, r8of f.types x.outs, wh.Next, wh.Left⟩ seen (z0l u f (deep + 1) ⟨true, wh.Loop, r8of f.types x.outs, wh.Next, wh.Left⟩ seen set ka).2 kb).2 x.outs (List.replicate x.outs.length 0) hs2) z64 rfl rfl (sRf _ _) (And.intro LendOf.same (And.intro LendOf.same (And.intro (LendOf.row rfl rfl (by (simp; done)) (by (simp only [List.map_replicate]; rfl))) (trivial)))) (fun k h => by subst h; rfl) (po2 rfl rfl) rfl (fun k (h : _) => by (simp only [List.mem_cons, List.not_mem_nil, or_false] at h; rcases h with rfl <;> first | exact .inl rfl | exact .inr rfl | exact .inr dC0)) ⟨_, rfl⟩ (z35 (z11 ..))) <| wR 0 [21, 22] kR0 h30 ?_
        refine smR 2 rfl <| nR <| wDn kR0 <| tRt ?_
        (have h2 : (z14 u f deep wh seen set x).2 = (z0p f.types (z0l u f (deep + 1) ⟨true, wh.Loop, r8of f.types x.outs, wh.Next, wh.Left⟩ seen (z0l u f (deep + 1) ⟨true, wh.Loop, r8of f.types x.outs, wh.Next, wh.Left⟩ seen set ka).2 kb).2 x.outs (List.replicate x.outs.length 0)).2 := (by rw [z16 _ _ _ _ _ _ hbare hk10 hkids]; simp_all [andT, andS, z1c]; done)
         rw [h2]
         refine rOk rfl ?_ (po2 rfl rfl)
         clear h2
         rw [z16 _ _ _ _ _ _ hbare hk10 hkids]
         simp_all [andT, andS, z1c]
         done)
       refine ryV rfl rfl rfl (lEA rfl rfl uT43 rfl tS43 (lb rfl)) <| nR <| wO 8 kR0 <| wY rfl rfl rfl (fun k (h : _) => by (simp at h ⊢; omega)) nw (fun _ _ => ocq (z2o _) zk4 rfl rfl) <| wR 4 [9, 10, 11, 12, 13, 14, 15, 16, 17, 18] kR0 h30 <| smR 4 rfl ?_
       refine WR.split (t := 75) rfl (fun hb75 => ?_) (fun hb75 => ?_)
       ·refine smR 5 rfl <| ryV rfl rfl rfl (oSm uT35 rfl) <| nR <| wO 19 kR0 <| wY rfl rfl rfl (fun k (h : _) => by (simp at h ⊢; omega)) (z1g rfl) (fun _ _ => z15 (k := 182) (s := ⟨3, 1⟩) rfl rfl rfl uT35 tZ3 tC3 rfl dC0 oM0 oM0 rfl rfl rfl rfl) <| wO 20 kR0 <| wY rfl rfl rfl (fun k (h : _) => by (simp at h ⊢; omega)) (nAp rfl) (fun _ _ => z30 (fun k => k = 182) (z1k u f (z0l u f (deep + 1) ⟨true, wh.Loop, r8of f.types x.outs, wh.Next, wh.Left⟩ seen (z0l u f (deep + 1) ⟨true, wh.Loop, r8of f.types x.outs, wh.Next, wh.Left⟩ seen set ka).2 kb).2 x.outs (List.replicate x.outs.length 0) hs2) z64 rfl rfl (sRf _ _) (And.intro LendOf.same (And.intro LendOf.same (And.intro (LendOf.row rfl rfl (by (simp; done)) (by (simp only [List.map_replicate]; rfl))) (trivial)))) (fun k h => by subst h; rfl) (po2 rfl rfl) rfl (fun k (h : _) => by (simp only [List.mem_cons, List.not_mem_nil, or_false] at h; rcases h with rfl <;> first | exact .inl rfl | exact .inr rfl | exact .inr dC0)) ⟨_, rfl⟩ (z35 (z11 ..))) <| wR 0 [21, 22] kR0 h30 <| smR 2 rfl <| nR <| wDn kR0 <| tRt ?_
        (have h2 : (z14 u f deep wh seen set x).2 = (z0p f.types (z0l u f (deep + 1) ⟨true, wh.Loop, r8of f.types x.outs, wh.Next, wh.Left⟩ seen (z0l u f (deep + 1) ⟨true, wh.Loop, r8of f.types x.outs, wh.Next, wh.Left⟩ seen set ka).2 kb).2 x.outs (List.replicate x.outs.length 0)).2 := (by rw [z16 _ _ _ _ _ _ hbare hk10 hkids]; simp_all [andT, andS, z1c]; done)
         rw [h2]
         refine rOk rfl ?_ (po2 rfl rfl)
         clear h2
         rw [z16 _ _ _ _ _ _ hbare hk10 hkids]
         simp_all [andT, andS, z1c]
         done)
       refine smR 6 rfl <| nR <| wN 19 kR0 h30 rfl rfl rfl <| wN 20 kR0 h30 rfl rfl rfl <| wR 0 [21, 22] kR0 h30 <| smR 2 rfl <| nR <| wDn kR0 <| tRt ?_
       (have h2 : (z14 u f deep wh seen set x).2 = (z0l u f (deep + 1) ⟨true, wh.Loop, r8of f.types x.outs, wh.Next, wh.Left⟩ seen (z0l u f (deep + 1) ⟨true, wh.Loop, r8of f.types x.outs, wh.Next, wh.Left⟩ seen set ka).2 kb).2 := (by rw [z16 _ _ _ _ _ _ hbare hk10 hkids]; simp_all [andT, andS, z1c]; done)
        rw [h2]
        refine rOk rfl ?_ (po2 rfl rfl)
        clear h2
        rw [z16 _ _ _ _ _ _ hbare hk10 hkids]
        simp_all [andT, andS, z1c]
        done)
      refine smR 5 rfl <| nUr rfl rfl rfl rfl rfl rfl rfl <| nR <| WA.takeNoU (i := 8) rfl kR0 kR0 kR0 h30 rfl rfl rfl rfl rfl rfl <| wR 4 [9, 10, 11, 12, 13, 14, 15, 16, 17, 18] kR0 h30 <| nUr rfl rfl rfl rfl rfl rfl rfl <| smR 9 rfl <| nR <| wN 19 kR0 h30 rfl rfl rfl <| wN 20 kR0 h30 rfl rfl rfl <| wR 0 [21, 22] kR0 h30 <| smR 2 rfl ?_
      refine nR <| wDn kR0 <| tRt ?_
      (have h2 : (z14 u f deep wh seen set x).2 = (z0l u f (deep + 1) ⟨true, wh.Loop, r8of f.types x.outs, wh.Next, wh.Left⟩ seen (z0l u f (deep + 1) ⟨true, wh.Loop, r8of f.types x.outs, wh.Next, wh.Left⟩ seen set ka).2 kb).2 := (by rw [z16 _ _ _ _ _ _ hbare hk10 hkids]; simp_all [andT, andS, z1c]; done)
       rw [h2]
       refine rOk rfl ?_ (po2 rfl rfl)
       clear h2
       rw [z16 _ _ _ _ _ _ hbare hk10 hkids]
       simp_all [andT, andS, z1c]
       done)
     refine smR 9 rfl <| nR <| wN 28 kR0 h30 rfl rfl rfl <| wR 0 [29, 30] kR0 h30 <| smR 2 rfl <| nR <| wDn kR0 <| tQ <| tDr z1a (fun k => k ∈ ([3] : List Nat)) <| wR 15 [0, 1, 2, 3, 4, 5, 6, 7] kR0 h30 <| smR 7 rfl <| nUr rfl rfl rfl rfl rfl rfl rfl ?_
     refine nR <| WA.takeNoU (i := 8) rfl kR0 kR0 kR0 h30 rfl rfl rfl rfl rfl rfl <| wR 4 [9, 10, 11, 12, 13, 14, 15, 16, 17, 18] kR0 h30 <| nUr rfl rfl rfl rfl rfl rfl rfl <| smR 9 rfl <| nR <| wN 19 kR0 h30 rfl rfl rfl <| wN 20 kR0 h30 rfl rfl rfl <| wR 0 [21, 22] kR0 h30 <| smR 2 rfl <| nR <| wDn kR0 ?_
     refine tRt ?_
     (have h2 : (z14 u f deep wh seen set x).2 = (z0l u f (deep + 1) ⟨true, wh.Loop, r8of f.types x.outs, wh.Next, wh.Left⟩ seen set ka).2 := (by rw [z16 _ _ _ _ _ _ hbare hk10 hkids]; simp_all [andT, andS, z1c]; done)
      rw [h2]
      refine rOk rfl ?_ (po2 rfl rfl)
      clear h2
      rw [z16 _ _ _ _ _ _ hbare hk10 hkids]
      simp_all [andT, andS, z1c]
      done)
    refine smR 9 rfl <| nR <| wN 16 kR0 h30 rfl rfl rfl <| wR 3 [17, 18, 19, 20, 21, 22, 23, 24, 25, 26, 27] kR0 h30 <| smR 11 rfl <| nR <| wN 28 kR0 h30 rfl rfl rfl <| wR 0 [29, 30] kR0 h30 <| smR 2 rfl <| nR <| wDn kR0 <| tQ ?_
    refine tDr z1a (fun k => k ∈ ([3] : List Nat)) <| wR 15 [0, 1, 2, 3, 4, 5, 6, 7] kR0 h30 <| smR 7 rfl <| nUr rfl rfl rfl rfl rfl rfl rfl <| nR <| WA.takeNoU (i := 8) rfl kR0 kR0 kR0 h30 rfl rfl rfl rfl rfl rfl <| wR 4 [9, 10, 11, 12, 13, 14, 15, 16, 17, 18] kR0 h30 <| nUr rfl rfl rfl rfl rfl rfl rfl <| smR 9 rfl <| nR <| wN 19 kR0 h30 rfl rfl rfl <| wN 20 kR0 h30 rfl rfl rfl ?_
    refine wR 0 [21, 22] kR0 h30 <| smR 2 rfl <| nR <| wDn kR0 <| tRt ?_
    (have h2 : (z14 u f deep wh seen set x).2 = set := (by rw [z16 _ _ _ _ _ _ hbare hk10 hkids]; simp_all [andT, andS, z1c]; done)
     rw [h2]
     refine rOk rfl ?_ (po2 rfl rfl)
     clear h2
     rw [z16 _ _ _ _ _ _ hbare hk10 hkids]
     simp_all [andT, andS, z1c]
     done)
   refine wI rfl rfl (fun k (h : _) => by (simp at h ⊢; omega)) (z1g rfl) (fun _ _ => aLc (k := 111) rfl tZ91 rfl rfl rfl rfl) <| wO 5 kR0 <| wI rfl rfl (fun k (h : _) => by (simp at h ⊢; omega)) (nAp rfl) (fun _ _ => ocr (z68 u f set x.outs hbo) zk5 rfl (po2 rfl rfl) rfl (fun k (h : _) => by (simp only [List.mem_cons, List.not_mem_nil, or_false] at h; rcases h with rfl <;> first | exact .inl rfl | exact .inr rfl | exact .inr dC0)) rfl rfl) <| wR 1 [10] kR0 h30 <| rV rfl rfl (bPu rfl rfl tZ91 tP91 rfl (fbk rfl) rfl) <| nR <| wO 12 kR0 <| wI rfl rfl (fun k (h : _) => by (simp at h ⊢; omega)) (nOl rfl) (fun _ _ => sBA rfl rfl rfl rfl rfl sI0 tS91 (flk rfl) (lb rfl)) <| wDn kR0 <| tQ <| tDr z1a (fun k => k ∈ ([3, 111] : List Nat)) <| wR 27 [0, 1, 2, 3] kR0 h30 ?_
   refine smR 4 rfl <| nR <| wO 4 kR0 <| wI rfl rfl (fun k (h : _) => by (simp at h ⊢; omega)) nw (fun _ _ => bSl rfl rfl uT35 tZ3 tS3 rfl rfl rfl rfl (fbk rfl) rfl) <| wO 5 kR0 <| wI rfl rfl (fun k (h : _) => by (simp at h ⊢; omega)) (nAp rfl) (fun _ _ => ocr (z1i u f set x.args seen [2]) z78 rfl (po2 rfl rfl) rfl (fun k (h : _) => .inr trivial) rfl rfl) <| wR 15 [6, 7, 8, 9, 10, 11, 12, 13, 14, 15] kR0 h30 <| smR 1 rfl ?_
   refine WR.split (t := 39) rfl (fun hb39 => ?_) (fun hb39 => ?_)
   ·refine smR 3 rfl <| ryV rfl rfl rfl (iSq rfl rfl rfl uT41 hi0 tS44 rfl (by rfl)) <| smR 2 rfl <| ryV rfl rfl rfl (lBP rfl rfl rfl Tryz.underlying91 rfl tS91 (lb rfl) rfl dC0) <| smR 1 rfl <| ryV rfl rfl rfl (oB rfl rfl (z0b rfl oM0)) <| nR <| wO 16 kR0 <| wY rfl rfl rfl (fun k (h : _) => by (simp at h ⊢; omega)) (nAp rfl) (fun _ _ => ocr (ih ka hm0 (deep + 1) ⟨true, wh.Loop, r8of f.types x.outs, wh.Next, wh.Left⟩ seen set ⟨by omega, by omega⟩ hs hb0) zs4 rfl (po2 rfl rfl) rfl (fun k (h : _) => by (simp only [List.mem_cons, List.not_mem_nil, or_false] at h; rcases h with rfl | rfl <;> first | exact .inl rfl | exact .inr rfl | exact .inr dC0)) rfl rfl) <| wR 3 [17, 18, 19, 20, 21, 22, 23, 24, 25, 26, 27] kR0 h30 <| smR 2 rfl ?_
    refine WR.split (t := 51) rfl (fun hb51 => ?_) (fun hb51 => ?_)
    ·refine smR 3 rfl <| ryV rfl rfl rfl (iSq rfl rfl rfl uT41 hi1 tS44 rfl (by rfl)) <| smR 2 rfl <| ryV rfl rfl rfl (lBP rfl rfl rfl Tryz.underlying91 rfl tS91 (lb rfl) rfl dC0) <| smR 1 rfl <| ryV rfl rfl rfl (oB rfl rfl (z0b rfl oM0)) <| nR <| wO 28 kR0 <| wY rfl rfl rfl (fun k (h : _) => by (simp at h ⊢; omega)) (nAp rfl) (fun _ _ => ocr (ih kb hm1 (deep + 1) ⟨true, wh.Loop, r8of f.types x.outs, wh.Next, wh.Left⟩ seen (z0l u f (deep + 1) ⟨true, wh.Loop, r8of f.types x.outs, wh.Next, wh.Left⟩ seen set ka).2 ⟨by omega, by omega⟩ hs1 hb1) zs4 rfl (po2 rfl rfl) rfl (fun k (h : _) => by (simp only [List.mem_cons, List.not_mem_nil, or_false] at h; rcases h with rfl | rfl <;> first | exact .inl rfl | exact .inr rfl | exact .inr dC0)) rfl rfl) <| wR 0 [29, 30] kR0 h30 <| smR 2 rfl <| nR ?_
     refine wDn kR0 <| tQ <| tDr z1a (fun k => k ∈ ([3] : List Nat)) <| wR 15 [0, 1, 2, 3, 4, 5, 6, 7] kR0 h30 <| smR 2 rfl ?_
     refine WR.split (t := 64) rfl (fun hb64 => ?_) (fun hb64 => ?_)
     ·refine smR 2 rfl <| ryV rfl rfl rfl (oSm uT35 rfl) <| smR 2 rfl ?_
      refine WR.split (t := 69) rfl (fun hb69 => ?_) (fun hb69 => ?_)
      ·refine smR 1 rfl <| nR <| wN 8 kR0 h30 rfl rfl rfl <| wR 4 [9, 10, 11, 12, 13, 14, 15, 16, 17, 18] kR0 h30 <| smR 9 rfl <| ryV rfl rfl rfl (oSm uT35 rfl) <| nR <| wO 19 kR0 <| wY rfl rfl rfl (fun k (h : _) => by (simp at h ⊢; omega)) (z1g rfl) (fun _ _ => z15 (k := 182) (s := ⟨3, 1⟩) rfl rfl rfl uT35 tZ3 tC3 rfl dC0 oM0 oM0 rfl rfl rfl rfl) <| wO 20 kR0 <| wY rfl rfl rfl (fun k (h : _) => by (simp at h ⊢; omega)) (nAp rfl) (fun _ _ => z30 (fun k => k = 182) (z1k u f (z0l u f (deep + 1) ⟨true, wh.Loop, r8of f.types x.outs, wh.Next, wh.Left⟩ seen (z0l u f (deep + 1) ⟨true, wh.Loop, r8of f.types x.outs, wh.Next, wh.Left⟩ seen set ka).2 kb).2 x.outs (List.replicate x.outs.length 0) hs2) z64 rfl rfl (sRf _ _) (And.intro LendOf.same (And.intro LendOf.same (And.intro (LendOf.row rfl rfl (by (simp; done)) (by (simp only [List.map_replicate]; rfl))) (trivial)))) (fun k h => by subst h; rfl) (po2 rfl rfl) rfl (fun k (h : _) => by (simp only [List.mem_cons, List.not_mem_nil, or_false] at h; rcases h with rfl <;> first | exact .inl rfl | exact .inr rfl | exact .inr dC0)) ⟨_, rfl⟩ (z35 (z11 ..))) <| wR 0 [21, 22] kR0 h30 ?_
       refine smR 2 rfl <| nR <| wDn kR0 <| tRt ?_
       (have h2 : (z14 u f deep wh seen set x).2 = (z0p f.types (z0l u f (deep + 1) ⟨true, wh.Loop, r8of f.types x.outs, wh.Next, wh.Left⟩ seen (z0l u f (deep + 1) ⟨true, wh.Loop, r8of f.types x.outs, wh.Next, wh.Left⟩ seen set ka).2 kb).2 x.outs (List.replicate x.outs.length 0)).2 := (by rw [z16 _ _ _ _ _ _ hbare hk10 hkids]; simp_all [andT, andS, z1c]; done)
        rw [h2]
        refine rOk rfl ?_ (po2 rfl rfl)
        clear h2
        rw [z16 _ _ _ _ _ _ hbare hk10 hkids]
        simp_all [andT, andS, z1c]
        done)
      refine ryV rfl rfl rfl (lEA rfl rfl uT43 rfl tS43 (lb rfl)) <| nR <| wO 8 kR0 <| wY rfl rfl rfl (fun k (h : _) => by (simp at h ⊢; omega)) nw (fun _ _ => ocq (z2o _) zk4 rfl rfl) <| wR 4 [9, 10, 11, 12, 13, 14, 15, 16, 17, 18] kR0 h30 <| smR 4 rfl ?_
      refine WR.split (t := 75) rfl (fun hb75 => ?_) (fun hb75 => ?_)
      ·refine smR 5 rfl <| ryV rfl rfl rfl (oSm uT35 rfl) <| nR <| wO 19 kR0 <| wY rfl rfl rfl (fun k (h : _) => by (simp at h ⊢; omega)) (z1g rfl) (fun _ _ => z15 (k := 182) (s := ⟨3, 1⟩) rfl rfl rfl uT35 tZ3 tC3 rfl dC0 oM0 oM0 rfl rfl rfl rfl) <| wO 20 kR0 <| wY rfl rfl rfl (fun k (h : _) => by (simp at h ⊢; omega)) (nAp rfl) (fun _ _ => z30 (fun k => k = 182) (z1k u f (z0l u f (deep + 1) ⟨true, wh.Loop, r8of f.types x.outs, wh.Next, wh.Left⟩ seen (z0l u f (deep + 1) ⟨true, wh.Loop, r8of f.types x.outs, wh.Next, wh.Left⟩ seen set ka).2 kb).2 x.outs (List.replicate x.outs.length 0) hs2) z64 rfl rfl (sRf _ _) (And.intro LendOf.same (And.intro LendOf.same (And.intro (LendOf.row rfl rfl (by (simp; done)) (by (simp only [List.map_replicate]; rfl))) (trivial)))) (fun k h => by subst h; rfl) (po2 rfl rfl) rfl (fun k (h : _) => by (simp only [List.mem_cons, List.not_mem_nil, or_false] at h; rcases h with rfl <;> first | exact .inl rfl | exact .inr rfl | exact .inr dC0)) ⟨_, rfl⟩ (z35 (z11 ..))) <| wR 0 [21, 22] kR0 h30 <| smR 2 rfl <| nR <| wDn kR0 <| tRt ?_
       (have h2 : (z14 u f deep wh seen set x).2 = (z0p f.types (z0l u f (deep + 1) ⟨true, wh.Loop, r8of f.types x.outs, wh.Next, wh.Left⟩ seen (z0l u f (deep + 1) ⟨true, wh.Loop, r8of f.types x.outs, wh.Next, wh.Left⟩ seen set ka).2 kb).2 x.outs (List.replicate x.outs.length 0)).2 := (by rw [z16 _ _ _ _ _ _ hbare hk10 hkids]; simp_all [andT, andS, z1c]; done)
        rw [h2]
        refine rOk rfl ?_ (po2 rfl rfl)
        clear h2
        rw [z16 _ _ _ _ _ _ hbare hk10 hkids]
        simp_all [andT, andS, z1c]
        done)
      refine smR 6 rfl <| nR <| wN 19 kR0 h30 rfl rfl rfl <| wN 20 kR0 h30 rfl rfl rfl <| wR 0 [21, 22] kR0 h30 <| smR 2 rfl <| nR <| wDn kR0 <| tRt ?_
      (have h2 : (z14 u f deep wh seen set x).2 = (z0l u f (deep + 1) ⟨true, wh.Loop, r8of f.types x.outs, wh.Next, wh.Left⟩ seen (z0l u f (deep + 1) ⟨true, wh.Loop, r8of f.types x.outs, wh.Next, wh.Left⟩ seen set ka).2 kb).2 := (by rw [z16 _ _ _ _ _ _ hbare hk10 hkids]; simp_all [andT, andS, z1c]; done)
       rw [h2]
       refine rOk rfl ?_ (po2 rfl rfl)
       clear h2
       rw [z16 _ _ _ _ _ _ hbare hk10 hkids]
       simp_all [andT, andS, z1c]
       done)
     refine smR 5 rfl <| nUr rfl rfl rfl rfl rfl rfl rfl <| nR <| WA.takeNoU (i := 8) rfl kR0 kR0 kR0 h30 rfl rfl rfl rfl rfl rfl <| wR 4 [9, 10, 11, 12, 13, 14, 15, 16, 17, 18] kR0 h30 <| nUr rfl rfl rfl rfl rfl rfl rfl <| smR 9 rfl <| nR <| wN 19 kR0 h30 rfl rfl rfl <| wN 20 kR0 h30 rfl rfl rfl <| wR 0 [21, 22] kR0 h30 <| smR 2 rfl ?_
     refine nR <| wDn kR0 <| tRt ?_
     (have h2 : (z14 u f deep wh seen set x).2 = (z0l u f (deep + 1) ⟨true, wh.Loop, r8of f.types x.outs, wh.Next, wh.Left⟩ seen (z0l u f (deep + 1) ⟨true, wh.Loop, r8of f.types x.outs, wh.Next, wh.Left⟩ seen set ka).2 kb).2 := (by rw [z16 _ _ _ _ _ _ hbare hk10 hkids]; simp_all [andT, andS, z1c]; done)
      rw [h2]
      refine rOk rfl ?_ (po2 rfl rfl)
      clear h2
      rw [z16 _ _ _ _ _ _ hbare hk10 hkids]
      simp_all [andT, andS, z1c]
      done)
    refine smR 9 rfl <| nR <| wN 28 kR0 h30 rfl rfl rfl <| wR 0 [29, 30] kR0 h30 <| smR 2 rfl <| nR <| wDn kR0 <| tQ <| tDr z1a (fun k => k ∈ ([3] : List Nat)) <| wR 15 [0, 1, 2, 3, 4, 5, 6, 7] kR0 h30 <| smR 7 rfl <| nUr rfl rfl rfl rfl rfl rfl rfl ?_
    refine nR <| WA.takeNoU (i := 8) rfl kR0 kR0 kR0 h30 rfl rfl rfl rfl rfl rfl <| wR 4 [9, 10, 11, 12, 13, 14, 15, 16, 17, 18] kR0 h30 <| nUr rfl rfl rfl rfl rfl rfl rfl <| smR 9 rfl <| nR <| wN 19 kR0 h30 rfl rfl rfl <| wN 20 kR0 h30 rfl rfl rfl <| wR 0 [21, 22] kR0 h30 <| smR 2 rfl <| nR <| wDn kR0 ?_
    refine tRt ?_
    (have h2 : (z14 u f deep wh seen set x).2 = (z0l u f (deep + 1) ⟨true, wh.Loop, r8of f.types x.outs, wh.Next, wh.Left⟩ seen set ka).2 := (by rw [z16 _ _ _ _ _ _ hbare hk10 hkids]; simp_all [andT, andS, z1c]; done)
     rw [h2]
     refine rOk rfl ?_ (po2 rfl rfl)
     clear h2
     rw [z16 _ _ _ _ _ _ hbare hk10 hkids]
     simp_all [andT, andS, z1c]
     done)
   refine smR 9 rfl <| nR <| wN 16 kR0 h30 rfl rfl rfl <| wR 3 [17, 18, 19, 20, 21, 22, 23, 24, 25, 26, 27] kR0 h30 <| smR 11 rfl <| nR <| wN 28 kR0 h30 rfl rfl rfl <| wR 0 [29, 30] kR0 h30 <| smR 2 rfl <| nR <| wDn kR0 <| tQ ?_
   refine tDr z1a (fun k => k ∈ ([3] : List Nat)) <| wR 15 [0, 1, 2, 3, 4, 5, 6, 7] kR0 h30 <| smR 7 rfl <| nUr rfl rfl rfl rfl rfl rfl rfl <| nR <| WA.takeNoU (i := 8) rfl kR0 kR0 kR0 h30 rfl rfl rfl rfl rfl rfl <| wR 4 [9, 10, 11, 12, 13, 14, 15, 16, 17, 18] kR0 h30 <| nUr rfl rfl rfl rfl rfl rfl rfl <| smR 9 rfl <| nR <| wN 19 kR0 h30 rfl rfl rfl <| wN 20 kR0 h30 rfl rfl rfl ?_
   refine wR 0 [21, 22] kR0 h30 <| smR 2 rfl <| nR <| wDn kR0 <| tRt ?_
   (have h2 : (z14 u f deep wh seen set x).2 = set := (by rw [z16 _ _ _ _ _ _ hbare hk10 hkids]; simp_all [andT, andS, z1c]; done)
    rw [h2]
    refine rOk rfl ?_ (po2 rfl rfl)
    clear h2
    rw [z16 _ _ _ _ _ _ hbare hk10 hkids]
    simp_all [andT, andS, z1c]
    done)
  refine tQ <| tG <| sm 2 rfl <| nL ?_
  refine tC rfl (fun hc85 => ?_) fun hc85 => ?_
  ·have hk11 : x.kind = 11 := by simpa using hc85
   obtain ⟨ka, hkids⟩ := z2n hbare hk11
   have hi0 : (x.kids.map eKid)[0]? = some [z0g ka] := by rw [hkids]; rfl
   have hm0 : ka ∈ x.kids := by rw [hkids]; simp
   have hkW : kdW x.kids = 1 + lsW ka := by rw [hkids]; simp [kdW]
   have hb0 : (seen ++ x.params).length + lsW ka <= 1073741824 := by simp; omega
   have hs1 : (z0p f.types set x.params (List.replicate x.params.length 0)).2.length = f.types.length := (z11 ..).trans hs
   have hs2 : (z0l u f (deep + 1) ⟨false, true, [], r8of f.types x.params, r8of f.types x.outs⟩ (seen ++ x.params) (z0p f.types set x.params (List.replicate x.params.length 0)).2 ka).2.length = f.types.length := (z31 ..).trans hs1
   refine tQ <| tDr z1a (fun k => k ∈ ([3] : List Nat)) <| wR 5 [0, 1, 2, 4, 5, 6] kR0 h30 <| smR 6 rfl <| nR <| WA.all (rs := [3, 9]) kR0 sI0 ?_
   refine fmc ⟨?_, fmc ⟨?_, by simp⟩⟩
   ·refine wI rfl rfl (fun k (h : _) => by (simp at h ⊢; omega)) (nAp rfl) (fun _ _ => ocr (z68 u f set x.params hbp) zk5 rfl (po2 rfl rfl) rfl (fun k (h : _) => by (simp only [List.mem_cons, List.not_mem_nil, or_false] at h; rcases h with rfl <;> first | exact .inl rfl | exact .inr rfl | exact .inr dC0)) rfl rfl) <| WA.all (rs := [7, 9]) kR0 sI0 ?_
    refine fmc ⟨?_, fmc ⟨?_, by simp⟩⟩
    ·refine wI rfl rfl (fun k (h : _) => by (simp at h ⊢; omega)) (nAp rfl) (fun _ _ => ocr (z68 u f set x.outs hbo) zk5 rfl (po2 rfl rfl) rfl (fun k (h : _) => by (simp only [List.mem_cons, List.not_mem_nil, or_false] at h; rcases h with rfl <;> first | exact .inl rfl | exact .inr rfl | exact .inr dC0)) rfl rfl) <| wR 2 [8] kR0 h30 <| rV rfl rfl (bPu rfl rfl tZ91 tP91 rfl (fbk rfl) rfl) <| nR <| wO 9 kR0 <| wI rfl rfl (fun k (h : _) => by (simp at h ⊢; omega)) (z1g rfl) (fun _ _ => aLc (k := 113) rfl tZ91 rfl rfl rfl rfl) <| wO 10 kR0 <| wI rfl rfl (fun k (h : _) => by (simp at h ⊢; omega)) (nOl rfl) (fun _ _ => sBA rfl rfl rfl rfl rfl sI0 tS91 (flk rfl) (lb rfl)) <| wDn kR0 <| tQ <| tQ <| tDr z1a (fun k => k ∈ ([3] : List Nat)) ?_
     refine wR 14 [0, 1, 2, 3, 4, 5, 6] kR0 h30 <| smR 7 rfl <| nR <| wO 7 kR0 <| wI rfl rfl (fun k (h : _) => by (simp at h ⊢; omega)) (nAp rfl) (fun _ _ => ocr (z68 u f set x.params hbp) zk5 rfl (po2 rfl rfl) rfl (fun k (h : _) => by (simp only [List.mem_cons, List.not_mem_nil, or_false] at h; rcases h with rfl <;> first | exact .inl rfl | exact .inr rfl | exact .inr dC0)) rfl rfl) <| wO 8 kR0 <| wI rfl rfl (fun k (h : _) => by (simp at h ⊢; omega)) (nAp rfl) (fun _ _ => ocr (z1i u f set x.args seen (r8of f.types x.params)) z78 rfl (po2 rfl rfl) rfl (fun k (h : _) => .inr trivial) rfl rfl) <| wR 4 [9, 10, 11, 12, 13, 14, 15, 16] kR0 h30 <| smR 2 rfl ?_
     refine WR.split (t := 106) rfl (fun hb106 => ?_) (fun hb106 => ?_)
     ·refine smR 6 rfl <| nR <| wN 17 kR0 h30 rfl rfl rfl <| wN 18 kR0 h30 rfl rfl rfl <| wR 0 [19, 20] kR0 h30 <| smR 2 rfl <| nR <| wDn kR0 <| Tr.condT rfl <| tQ <| tG <| sm 1 rfl ?_
      refine nL <| tRt ?_
      (have h2 : (z14 u f deep wh seen set x).2 = set := (by rw [z0e _ _ _ _ _ _ hbare hk11 hkids]; simp_all [andT, andS, z1c]; done)
       rw [h2]
       refine rOk rfl ?_ (po2 rfl rfl)
       clear h2
       rw [z0e _ _ _ _ _ _ hbare hk11 hkids]
       simp_all [andT, andS, z1c]
       done)
     refine smR 5 rfl <| ryV rfl rfl rfl (oSm uT35 rfl) <| nR <| wO 17 kR0 <| wY rfl rfl rfl (fun k (h : _) => by (simp at h ⊢; omega)) (z1g rfl) (fun _ _ => z15 (k := 213) (s := ⟨3, 1⟩) rfl rfl rfl uT35 tZ3 tC3 rfl dC0 oM0 oM0 rfl rfl rfl rfl) <| wO 18 kR0 <| wY rfl rfl rfl (fun k (h : _) => by (simp at h ⊢; omega)) (nAp rfl) (fun _ _ => z30 (fun k => k = 213) (z1k u f set x.params (List.replicate x.params.length 0) hs) z64 rfl rfl (sRf _ _) (And.intro LendOf.same (And.intro LendOf.same (And.intro (LendOf.row rfl rfl (by (simp; done)) (by (simp only [List.map_replicate]; rfl))) (trivial)))) (fun k h => by subst h; rfl) (po2 rfl rfl) rfl (fun k (h : _) => by (simp only [List.mem_cons, List.not_mem_nil, or_false] at h; rcases h with rfl <;> first | exact .inl rfl | exact .inr rfl | exact .inr dC0)) ⟨_, rfl⟩ (z35 (z11 ..))) <| wR 0 [19, 20] kR0 h30 <| smR 2 rfl <| nR <| wDn kR0 ?_
     refine tC rfl (fun hc116 => ?_) fun hc116 => ?_
     ·refine tQ <| tG <| sm 1 rfl <| nL <| tRt ?_
      (have h2 : (z14 u f deep wh seen set x).2 = (z0p f.types set x.params (List.replicate x.params.length 0)).2 := (by rw [z0e _ _ _ _ _ _ hbare hk11 hkids]; simp_all [andT, andS, z1c]; done)
       rw [h2]
       refine rOk rfl ?_ (po2 rfl rfl)
       clear h2
       rw [z0e _ _ _ _ _ _ hbare hk11 hkids]
       simp_all [andT, andS, z1c]
       done)
     refine tSk <| tQ <| tG <| sm 1 rfl <| nL <| tQ <| Tr.grow (t := 14) (k := 114) ⟨3, 1⟩ rfl rfl rfl rfl rfl <| tG <| sm 2 rfl ?_
     refine cE rfl (aPp rfl rfl rfl rfl (by rfl) sI0 uT35 tB3 dC0 (z5i) (z2z) (by simp [maxLen, z03]; omega) (by simp [z03]; omega)) ?_
     refine sm 1 rfl <| nL <| tQ <| tG <| sm 3 rfl ?_
     refine cE rfl (aPp rfl rfl rfl rfl (by (simp; done)) sI0 uT35 tB3 dC0 (z5i) (z2z) (by simp [maxLen, z03]; omega) (by simp [z03]; omega)) ?_
     refine sm 1 rfl <| nL <| tQ <| tDr z1a (fun k => k ∈ ([3, 113] : List Nat)) <| wR 23 [0, 1, 2, 3, 4, 5, 6, 7, 8] kR0 h30 <| smR 3 rfl <| rV rfl rfl (iSq rfl rfl rfl uT41 hi0 tS44 rfl (by rfl)) <| smR 2 rfl <| rV rfl rfl (lBP rfl rfl rfl Tryz.underlying91 rfl tS91 (lb rfl) rfl dC0) <| smR 1 rfl <| rV rfl rfl (oB rfl rfl (z0b rfl oM0)) <| nR ?_
     refine wO 9 kR0 <| wI rfl rfl (fun k (h : _) => by (simp at h ⊢; omega)) (nAp rfl) (fun _ _ => z30 (fun k => k = 114) (ih ka hm0 (deep + 1) ⟨false, true, [], r8of f.types x.params, r8of f.types x.outs⟩ (seen ++ x.params) (z0p f.types set x.params (List.replicate x.params.length 0)).2 ⟨by omega, by omega⟩ hs1 hb0) zs4 rfl rfl (sSm rfl (sSm rfl (sSm rfl (Subs.cons (fun _ _ _ _ h => z3i (q := whv ⟨false, true, [], r8of f.types x.params, r8of f.types x.outs⟩) (PSub.agg (ps := [vBool false, vBool true, .val (.slice none 0 0), ints (r8of f.types x.params), ints (r8of f.types x.outs)]) (And.intro (PSub.refl _) (And.intro (PSub.refl _) (And.intro PSub.nil (And.intro (PSub.refl _) (And.intro (PSub.refl _) trivial)))))) h) (sSm rfl Subs.nil))))) (And.intro LendOf.same (And.intro LendOf.same (And.intro (LendOf.row rfl rfl (by (simp; done)) (by (simp; done))) (And.intro LendOf.same (And.intro LendOf.same (trivial)))))) (fun k h => by subst h; rfl) (po2 rfl rfl) rfl (fun k (h : _) => by (simp only [List.mem_cons, List.not_mem_nil, or_false] at h; rcases h with rfl | rfl <;> first | exact .inl rfl | exact .inr rfl | exact .inr dC0)) ⟨_, rfl⟩ (z35 (z31 ..))) <| wR 15 [10, 11, 12, 13, 14, 15, 16] kR0 h30 <| smR 1 rfl ?_
     refine WR.split (t := 134) rfl (fun hb134 => ?_) (fun hb134 => ?_)
     ·refine smR 2 rfl <| ryV rfl rfl rfl (oSm uT35 rfl) <| smR 2 rfl ?_
      refine WR.split (t := 139) rfl (fun hb139 => ?_) (fun hb139 => ?_)
      ·refine smR 1 rfl <| nR <| wN 17 kR0 h30 rfl rfl rfl <| wR 4 [18, 19, 20, 21, 22, 23, 24, 25, 26, 27] kR0 h30 <| smR 9 rfl <| ryV rfl rfl rfl (oSm uT35 rfl) <| nR <| wO 28 kR0 <| wY rfl rfl rfl (fun k (h : _) => by (simp at h ⊢; omega)) (z1g rfl) (fun _ _ => z15 (k := 252) (s := ⟨3, 1⟩) rfl rfl rfl uT35 tZ3 tC3 rfl dC0 oM0 oM0 rfl rfl rfl rfl) <| wO 29 kR0 <| wY rfl rfl rfl (fun k (h : _) => by (simp at h ⊢; omega)) (nAp rfl) (fun _ _ => z30 (fun k => k = 252) (z1k u f (z0l u f (deep + 1) ⟨false, true, [], r8of f.types x.params, r8of f.types x.outs⟩ (seen ++ x.params) (z0p f.types set x.params (List.replicate x.params.length 0)).2 ka).2 x.outs (List.replicate x.outs.length 0) hs2) z64 rfl rfl (sRf _ _) (And.intro LendOf.same (And.intro LendOf.same (And.intro (LendOf.row rfl rfl (by (simp; done)) (by (simp only [List.map_replicate]; rfl))) (trivial)))) (fun k h => by subst h; rfl) (po2 rfl rfl) rfl (fun k (h : _) => by (simp only [List.mem_cons, List.not_mem_nil, or_false] at h; rcases h with rfl | rfl <;> first | exact .inl rfl | exact .inr rfl | exact .inr dC0)) ⟨_, rfl⟩ (z35 (z11 ..))) <| wR 0 [30, 31] kR0 h30 ?_
       refine smR 2 rfl <| nR <| wDn kR0 <| tRt ?_
       (have h2 : (z14 u f deep wh seen set x).2 = (z0p f.types (z0l u f (deep + 1) ⟨false, true, [], r8of f.types x.params, r8of f.types x.outs⟩ (seen ++ x.params) (z0p f.types set x.params (List.replicate x.params.length 0)).2 ka).2 x.outs (List.replicate x.outs.length 0)).2 := (by rw [z0e _ _ _ _ _ _ hbare hk11 hkids]; simp_all [andT, andS, z1c]; done)
        rw [h2]
        refine rOk rfl ?_ (po2 rfl rfl)
        clear h2
        rw [z0e _ _ _ _ _ _ hbare hk11 hkids]
        simp_all [andT, andS, z1c]
        done)
      refine ryV rfl rfl rfl (lEA rfl rfl uT43 rfl tS43 (lb rfl)) <| nR <| wO 17 kR0 <| wY rfl rfl rfl (fun k (h : _) => by (simp at h ⊢; omega)) nw (fun _ _ => ocq (z2o _) zk4 rfl rfl) <| wR 4 [18, 19, 20, 21, 22, 23, 24, 25, 26, 27] kR0 h30 <| smR 4 rfl ?_
      refine WR.split (t := 145) rfl (fun hb145 => ?_) (fun hb145 => ?_)
      ·refine smR 5 rfl <| ryV rfl rfl rfl (oSm uT35 rfl) <| nR <| wO 28 kR0 <| wY rfl rfl rfl (fun k (h : _) => by (simp at h ⊢; omega)) (z1g rfl) (fun _ _ => z15 (k := 252) (s := ⟨3, 1⟩) rfl rfl rfl uT35 tZ3 tC3 rfl dC0 oM0 oM0 rfl rfl rfl rfl) <| wO 29 kR0 <| wY rfl rfl rfl (fun k (h : _) => by (simp at h ⊢; omega)) (nAp rfl) (fun _ _ => z30 (fun k => k = 252) (z1k u f (z0l u f (deep + 1) ⟨false, true, [], r8of f.types x.params, r8of f.types x.outs⟩ (seen ++ x.params) (z0p f.types set x.params (List.replicate x.params.length 0)).2 ka).2 x.outs (List.replicate x.outs.length 0) hs2) z64 rfl rfl (sRf _ _) (And.intro LendOf.same (And.intro LendOf.same (And.intro (LendOf.row rfl rfl (by (simp; done)) (by (simp only [List.map_replicate]; rfl))) (trivial)))) (fun k h => by subst h; rfl) (po2 rfl rfl) rfl (fun k (h : _) => by (simp only [List.mem_cons, List.not_mem_nil, or_false] at h; rcases h with rfl | rfl <;> first | exact .inl rfl | exact .inr rfl | exact .inr dC0)) ⟨_, rfl⟩ (z35 (z11 ..))) <| wR 0 [30, 31] kR0 h30 <| smR 2 rfl <| nR <| wDn kR0 <| tRt ?_
       (have h2 : (z14 u f deep wh seen set x).2 = (z0p f.types (z0l u f (deep + 1) ⟨false, true, [], r8of f.types x.params, r8of f.types x.outs⟩ (seen ++ x.params) (z0p f.types set x.params (List.replicate x.params.length 0)).2 ka).2 x.outs (List.replicate x.outs.length 0)).2 := (by rw [z0e _ _ _ _ _ _ hbare hk11 hkids]; simp_all [andT, andS, z1c]; done)
        rw [h2]
        refine rOk rfl ?_ (po2 rfl rfl)
        clear h2
        rw [z0e _ _ _ _ _ _ hbare hk11 hkids]
        simp_all [andT, andS, z1c]
        done)
      refine smR 6 rfl <| nR <| wN 28 kR0 h30 rfl rfl rfl <| wN 29 kR0 h30 rfl rfl rfl <| wR 0 [30, 31] kR0 h30 <| smR 2 rfl <| nR <| wDn kR0 <| tRt ?_
      (have h2 : (z14 u f deep wh seen set x).2 = (z0l u f (deep + 1) ⟨false, true, [], r8of f.types x.params, r8of f.types x.outs⟩ (seen ++ x.params) (z0p f.types set x.params (List.replicate x.params.length 0)).2 ka).2 := (by rw [z0e _ _ _ _ _ _ hbare hk11 hkids]; simp_all [andT, andS, z1c]; done)
       rw [h2]
       refine rOk rfl ?_ (po2 rfl rfl)
       clear h2
       rw [z0e _ _ _ _ _ _ hbare hk11 hkids]
       simp_all [andT, andS, z1c]
       done)
     refine smR 5 rfl <| nUr rfl rfl rfl rfl rfl rfl rfl <| nR <| WA.takeNoU (i := 17) rfl kR0 kR0 kR0 h30 rfl rfl rfl rfl rfl rfl <| wR 4 [18, 19, 20, 21, 22, 23, 24, 25, 26, 27] kR0 h30 <| nUr rfl rfl rfl rfl rfl rfl rfl <| smR 9 rfl <| nR <| wN 28 kR0 h30 rfl rfl rfl <| wN 29 kR0 h30 rfl rfl rfl <| wR 0 [30, 31] kR0 h30 <| smR 2 rfl ?_
     refine nR <| wDn kR0 <| tRt ?_
     (have h2 : (z14 u f deep wh seen set x).2 = (z0l u f (deep + 1) ⟨false, true, [], r8of f.types x.params, r8of f.types x.outs⟩ (seen ++ x.params) (z0p f.types set x.params (List.replicate x.params.length 0)).2 ka).2 := (by rw [z0e _ _ _ _ _ _ hbare hk11 hkids]; simp_all [andT, andS, z1c]; done)
      rw [h2]
      refine rOk rfl ?_ (po2 rfl rfl)
      clear h2
      rw [z0e _ _ _ _ _ _ hbare hk11 hkids]
      simp_all [andT, andS, z1c]
      done)
    refine wI rfl rfl (fun k (h : _) => by (simp at h ⊢; omega)) (z1g rfl) (fun _ _ => aLc (k := 113) rfl tZ91 rfl rfl rfl rfl) <| wO 7 kR0 <| wI rfl rfl (fun k (h : _) => by (simp at h ⊢; omega)) (nAp rfl) (fun _ _ => ocr (z68 u f set x.outs hbo) zk5 rfl (po2 rfl rfl) rfl (fun k (h : _) => by (simp only [List.mem_cons, List.not_mem_nil, or_false] at h; rcases h with rfl | rfl <;> first | exact .inl rfl | exact .inr rfl | exact .inr dC0)) rfl rfl) <| wR 1 [8] kR0 h30 <| rV rfl rfl (bPu rfl rfl tZ91 tP91 rfl (fbk rfl) rfl) <| nR <| wO 10 kR0 <| wI rfl rfl (fun k (h : _) => by (simp at h ⊢; omega)) (nOl rfl) (fun _ _ => sBA rfl rfl rfl rfl rfl sI0 tS91 (flk rfl) (lb rfl)) <| wDn kR0 <| tQ <| tQ <| tDr z1a (fun k => k ∈ ([3] : List Nat)) ?_
    refine wR 14 [0, 1, 2, 3, 4, 5, 6] kR0 h30 <| smR 7 rfl <| nR <| wO 7 kR0 <| wI rfl rfl (fun k (h : _) => by (simp at h ⊢; omega)) (nAp rfl) (fun _ _ => ocr (z68 u f set x.params hbp) zk5 rfl (po2 rfl rfl) rfl (fun k (h : _) => by (simp only [List.mem_cons, List.not_mem_nil, or_false] at h; rcases h with rfl <;> first | exact .inl rfl | exact .inr rfl | exact .inr dC0)) rfl rfl) <| wO 8 kR0 <| wI rfl rfl (fun k (h : _) => by (simp at h ⊢; omega)) (nAp rfl) (fun _ _ => ocr (z1i u f set x.args seen (r8of f.types x.params)) z78 rfl (po2 rfl rfl) rfl (fun k (h : _) => .inr trivial) rfl rfl) <| wR 4 [9, 10, 11, 12, 13, 14, 15, 16] kR0 h30 <| smR 2 rfl ?_
    refine WR.split (t := 106) rfl (fun hb106 => ?_) (fun hb106 => ?_)
    ·refine smR 6 rfl <| nR <| wN 17 kR0 h30 rfl rfl rfl <| wN 18 kR0 h30 rfl rfl rfl <| wR 0 [19, 20] kR0 h30 <| smR 2 rfl <| nR <| wDn kR0 <| Tr.condT rfl <| tQ <| tG <| sm 1 rfl ?_
     refine nL <| tRt ?_
     (have h2 : (z14 u f deep wh seen set x).2 = set := (by rw [z0e _ _ _ _ _ _ hbare hk11 hkids]; simp_all [andT, andS, z1c]; done)
      rw [h2]
      refine rOk rfl ?_ (po2 rfl rfl)
      clear h2
      rw [z0e _ _ _ _ _ _ hbare hk11 hkids]
      simp_all [andT, andS, z1c]
      done)
    refine smR 5 rfl <| ryV rfl rfl rfl (oSm uT35 rfl) <| nR <| wO 17 kR0 <| wY rfl rfl rfl (fun k (h : _) => by (simp at h ⊢; omega)) (z1g rfl) (fun _ _ => z15 (k := 213) (s := ⟨3, 1⟩) rfl rfl rfl uT35 tZ3 tC3 rfl dC0 oM0 oM0 rfl rfl rfl rfl) <| wO 18 kR0 <| wY rfl rfl rfl (fun k (h : _) => by (simp at h ⊢; omega)) (nAp rfl) (fun _ _ => z30 (fun k => k = 213) (z1k u f set x.params (List.replicate x.params.length 0) hs) z64 rfl rfl (sRf _ _) (And.intro LendOf.same (And.intro LendOf.same (And.intro (LendOf.row rfl rfl (by (simp; done)) (by (simp only [List.map_replicate]; rfl))) (trivial)))) (fun k h => by subst h; rfl) (po2 rfl rfl) rfl (fun k (h : _) => by (simp only [List.mem_cons, List.not_mem_nil, or_false] at h; rcases h with rfl <;> first | exact .inl rfl | exact .inr rfl | exact .inr dC0)) ⟨_, rfl⟩ (z35 (z11 ..))) <| wR 0 [19, 20] kR0 h30 <| smR 2 rfl <| nR <| wDn kR0 ?_
    refine tC rfl (fun hc116 => ?_) fun hc116 => ?_
    ·refine tQ <| tG <| sm 1 rfl <| nL <| tRt ?_
     (have h2 : (z14 u f deep wh seen set x).2 = (z0p f.types set x.params (List.replicate x.params.length 0)).2 := (by rw [z0e _ _ _ _ _ _ hbare hk11 hkids]; simp_all [andT, andS, z1c]; done)
      rw [h2]
      refine rOk rfl ?_ (po2 rfl rfl)
      clear h2
      rw [z0e _ _ _ _ _ _ hbare hk11 hkids]
      simp_all [andT, andS, z1c]
      done)
    refine tSk <| tQ <| tG <| sm 1 rfl <| nL <| tQ <| Tr.grow (t := 14) (k := 114) ⟨3, 1⟩ rfl rfl rfl rfl rfl <| tG <| sm 2 rfl ?_
    refine cE rfl (aPp rfl rfl rfl rfl (by rfl) sI0 uT35 tB3 dC0 (z5i) (z2z) (by simp [maxLen, z03]; omega) (by simp [z03]; omega)) ?_
    refine sm 1 rfl <| nL <| tQ <| tG <| sm 3 rfl ?_
    refine cE rfl (aPp rfl rfl rfl rfl (by (simp; done)) sI0 uT35 tB3 dC0 (z5i) (z2z) (by simp [maxLen, z03]; omega) (by simp [z03]; omega)) ?_
    refine sm 1 rfl <| nL <| tQ <| tDr z1a (fun k => k ∈ ([3, 113] : List Nat)) <| wR 23 [0, 1, 2, 3, 4, 5, 6, 7, 8] kR0 h30 <| smR 3 rfl <| rV rfl rfl (iSq rfl rfl rfl uT41 hi0 tS44 rfl (by rfl)) <| smR 2 rfl <| rV rfl rfl (lBP rfl rfl rfl Tryz.underlying91 rfl tS91 (lb rfl) rfl dC0) <| smR 1 rfl <| rV rfl rfl (oB rfl rfl (z0b rfl oM0)) <| nR ?_
    refine wO 9 kR0 <| wI rfl rfl (fun k (h : _) => by (simp at h ⊢; omega)) (nAp rfl) (fun _ _ => z30 (fun k => k = 114) (ih ka hm0 (deep + 1) ⟨false, true, [], r8of f.types x.params, r8of f.types x.outs⟩ (seen ++ x.params) (z0p f.types set x.params (List.replicate x.params.length 0)).2 ⟨by omega, by omega⟩ hs1 hb0) zs4 rfl rfl (sSm rfl (sSm rfl (sSm rfl (Subs.cons (fun _ _ _ _ h => z3i (q := whv ⟨false, true, [], r8of f.types x.params, r8of f.types x.outs⟩) (PSub.agg (ps := [vBool false, vBool true, .val (.slice none 0 0), ints (r8of f.types x.params), ints (r8of f.types x.outs)]) (And.intro (PSub.refl _) (And.intro (PSub.refl _) (And.intro PSub.nil (And.intro (PSub.refl _) (And.intro (PSub.refl _) trivial)))))) h) (sSm rfl Subs.nil))))) (And.intro LendOf.same (And.intro LendOf.same (And.intro (LendOf.row rfl rfl (by (simp; done)) (by (simp; done))) (And.intro LendOf.same (And.intro LendOf.same (trivial)))))) (fun k h => by subst h; rfl) (po2 rfl rfl) rfl (fun k (h : _) => by (simp only [List.mem_cons, List.not_mem_nil, or_false] at h; rcases h with rfl | rfl <;> first | exact .inl rfl | exact .inr rfl | exact .inr dC0)) ⟨_, rfl⟩ (z35 (z31 ..))) <| wR 15 [10, 11, 12, 13, 14, 15, 16] kR0 h30 <| smR 1 rfl ?_
    refine WR.split (t := 134) rfl (fun hb134 => ?_) (fun hb134 => ?_)
    ·refine smR 2 rfl <| ryV rfl rfl rfl (oSm uT35 rfl) <| smR 2 rfl ?_
     refine WR.split (t := 139) rfl (fun hb139 => ?_) (fun hb139 => ?_)
     ·refine smR 1 rfl <| nR <| wN 17 kR0 h30 rfl rfl rfl <| wR 4 [18, 19, 20, 21, 22, 23, 24, 25, 26, 27] kR0 h30 <| smR 9 rfl <| ryV rfl rfl rfl (oSm uT35 rfl) <| nR <| wO 28 kR0 <| wY rfl rfl rfl (fun k (h : _) => by (simp at h ⊢; omega)) (z1g rfl) (fun _ _ => z15 (k := 252) (s := ⟨3, 1⟩) rfl rfl rfl uT35 tZ3 tC3 rfl dC0 oM0 oM0 rfl rfl rfl rfl) <| wO 29 kR0 <| wY rfl rfl rfl (fun k (h : _) => by (simp at h ⊢; omega)) (nAp rfl) (fun _ _ => z30 (fun k => k = 252) (z1k u f (z0l u f (deep + 1) ⟨false, true, [], r8of f.types x.params, r8of f.types x.outs⟩ (seen ++ x.params) (z0p f.types set x.params (List.replicate x.params.length 0)).2 ka).2 x.outs (List.replicate x.outs.length 0) hs2) z64 rfl rfl (sRf _ _) (And.intro LendOf.same (And.intro LendOf.same (And.intro (LendOf.row rfl rfl (by (simp; done)) (by (simp only [List.map_replicate]; rfl))) (trivial)))) (fun k h => by subst h; rfl) (po2 rfl rfl) rfl (fun k (h : _) => by (simp only [List.mem_cons, List.not_mem_nil, or_false] at h; rcases h with rfl | rfl <;> first | exact .inl rfl | exact .inr rfl | exact .inr dC0)) ⟨_, rfl⟩ (z35 (z11 ..))) <| wR 0 [30, 31] kR0 h30 ?_
      refine smR 2 rfl <| nR <| wDn kR0 <| tRt ?_
      (have h2 : (z14 u f deep wh seen set x).2 = (z0p f.types (z0l u f (deep + 1) ⟨false, true, [], r8of f.types x.params, r8of f.types x.outs⟩ (seen ++ x.params) (z0p f.types set x.params (List.replicate x.params.length 0)).2 ka).2 x.outs (List.replicate x.outs.length 0)).2 := (by rw [z0e _ _ _ _ _ _ hbare hk11 hkids]; simp_all [andT, andS, z1c]; done)
       rw [h2]
       refine rOk rfl ?_ (po2 rfl rfl)
       clear h2
       rw [z0e _ _ _ _ _ _ hbare hk11 hkids]
       simp_all [andT, andS, z1c]
       done)
     refine ryV rfl rfl rfl (lEA rfl rfl uT43 rfl tS43 (lb rfl)) <| nR <| wO 17 kR0 <| wY rfl rfl rfl (fun k (h : _) => by (simp at h ⊢; omega)) nw (fun _ _ => ocq (z2o _) zk4 rfl rfl) <| wR 4 [18, 19, 20, 21, 22, 23, 24, 25, 26, 27] kR0 h30 <| smR 4 rfl ?_
     refine WR.split (t := 145) rfl (fun hb145 => ?_) (fun hb145 => ?_)
     ·refine smR 5 rfl <| ryV rfl rfl rfl (oSm uT35 rfl) <| nR <| wO 28 kR0 <| wY rfl rfl rfl (fun k (h : _) => by (simp at h ⊢; omega)) (z1g rfl) (fun _ _ => z15 (k := 252) (s := ⟨3, 1⟩) rfl rfl rfl uT35 tZ3 tC3 rfl dC0 oM0 oM0 rfl rfl rfl rfl) <| wO 29 kR0 <| wY rfl rfl rfl (fun k (h : _) => by (simp at h ⊢; omega)) (nAp rfl) (fun _ _ => z30 (fun k => k = 252) (z1k u f (z0l u f (deep + 1) ⟨false, true, [], r8of f.types x.params, r8of f.types x.outs⟩ (seen ++ x.params) (z0p f.types set x.params (List.replicate x.params.length 0)).2 ka).2 x.outs (List.replicate x.outs.length 0) hs2) z64 rfl rfl (sRf _ _) (And.intro LendOf.same (And.intro LendOf.same (And.intro (LendOf.row rfl rfl (by (simp; done)) (by (simp only [List.map_replicate]; rfl))) (trivial)))) (fun k h => by subst h; rfl) (po2 rfl rfl) rfl (fun k (h : _) => by (simp only [List.mem_cons, List.not_mem_nil, or_false] at h; rcases h with rfl | rfl <;> first | exact .inl rfl | exact .inr rfl | exact .inr dC0)) ⟨_, rfl⟩ (z35 (z11 ..))) <| wR 0 [30, 31] kR0 h30 <| smR 2 rfl <| nR <| wDn kR0 <| tRt ?_
      (have h2 : (z14 u f deep wh seen set x).2 = (z0p f.types (z0l u f (deep + 1) ⟨false, true, [], r8of f.types x.params, r8of f.types x.outs⟩ (seen ++ x.params) (z0p f.types set x.params (List.replicate x.params.length 0)).2 ka).2 x.outs (List.replicate x.outs.length 0)).2 := (by rw [z0e _ _ _ _ _ _ hbare hk11 hkids]; simp_all [andT, andS, z1c]; done)
       rw [h2]
       refine rOk rfl ?_ (po2 rfl rfl)
       clear h2
       rw [z0e _ _ _ _ _ _ hbare hk11 hkids]
       simp_all [andT, andS, z1c]
       done)
     refine smR 6 rfl <| nR <| wN 28 kR0 h30 rfl rfl rfl <| wN 29 kR0 h30 rfl rfl rfl <| wR 0 [30, 31] kR0 h30 <| smR 2 rfl <| nR <| wDn kR0 <| tRt ?_
     (have h2 : (z14 u f deep wh seen set x).2 = (z0l u f (deep + 1) ⟨false, true, [], r8of f.types x.params, r8of f.types x.outs⟩ (seen ++ x.params) (z0p f.types set x.params (List.replicate x.params.length 0)).2 ka).2 := (by rw [z0e _ _ _ _ _ _ hbare hk11 hkids]; simp_all [andT, andS, z1c]; done)
      rw [h2]
      refine rOk rfl ?_ (po2 rfl rfl)
      clear h2
      rw [z0e _ _ _ _ _ _ hbare hk11 hkids]
      simp_all [andT, andS, z1c]
      done)
    refine smR 5 rfl <| nUr rfl rfl rfl rfl rfl rfl rfl <| nR <| WA.takeNoU (i := 17) rfl kR0 kR0 kR0 h30 rfl rfl rfl rfl rfl rfl <| wR 4 [18, 19, 20, 21, 22, 23, 24, 25, 26, 27] kR0 h30 <| nUr rfl rfl rfl rfl rfl rfl rfl <| smR 9 rfl <| nR <| wN 28 kR0 h30 rfl rfl rfl <| wN 29 kR0 h30 rfl rfl rfl <| wR 0 [30, 31] kR0 h30 <| smR 2 rfl ?_
    refine nR <| wDn kR0 <| tRt ?_
    (have h2 : (z14 u f deep wh seen set x).2 = (z0l u f (deep + 1) ⟨false, true, [], r8of f.types x.params, r8of f.types x.outs⟩ (seen ++ x.params) (z0p f.types set x.params (List.replicate x.params.length 0)).2 ka).2 := (by rw [z0e _ _ _ _ _ _ hbare hk11 hkids]; simp_all [andT, andS, z1c]; done)
     rw [h2]
     refine rOk rfl ?_ (po2 rfl rfl)
     clear h2
     rw [z0e _ _ _ _ _ _ hbare hk11 hkids]
     simp_all [andT, andS, z1c]
     done)
   refine wI rfl rfl (fun k (h : _) => by (simp at h ⊢; omega)) (z1g rfl) (fun _ _ => aLc (k := 113) rfl tZ91 rfl rfl rfl rfl) <| wO 3 kR0 <| wI rfl rfl (fun k (h : _) => by (simp at h ⊢; omega)) (nAp rfl) (fun _ _ => ocr (z68 u f set x.params hbp) zk5 rfl (po2 rfl rfl) rfl (fun k (h : _) => by (simp only [List.mem_cons, List.not_mem_nil, or_false] at h; rcases h with rfl | rfl <;> first | exact .inl rfl | exact .inr rfl | exact .inr dC0)) rfl rfl) <| wO 7 kR0 <| wI rfl rfl (fun k (h : _) => by (simp at h ⊢; omega)) (nAp rfl) (fun _ _ => ocr (z68 u f set x.outs hbo) zk5 rfl (po2 rfl rfl) rfl (fun k (h : _) => by (simp only [List.mem_cons, List.not_mem_nil, or_false] at h; rcases h with rfl | rfl <;> first | exact .inl rfl | exact .inr rfl | exact .inr dC0)) rfl rfl) <| wR 1 [8] kR0 h30 <| rV rfl rfl (bPu rfl rfl tZ91 tP91 rfl (fbk rfl) rfl) <| nR <| wO 10 kR0 <| wI rfl rfl (fun k (h : _) => by (simp at h ⊢; omega)) (nOl rfl) (fun _ _ => sBA rfl rfl rfl rfl rfl sI0 tS91 (flk rfl) (lb rfl)) <| wDn kR0 <| tQ ?_
   refine tQ <| tDr z1a (fun k => k ∈ ([3] : List Nat)) <| wR 14 [0, 1, 2, 3, 4, 5, 6] kR0 h30 <| smR 7 rfl <| nR <| wO 7 kR0 <| wI rfl rfl (fun k (h : _) => by (simp at h ⊢; omega)) (nAp rfl) (fun _ _ => ocr (z68 u f set x.params hbp) zk5 rfl (po2 rfl rfl) rfl (fun k (h : _) => by (simp only [List.mem_cons, List.not_mem_nil, or_false] at h; rcases h with rfl <;> first | exact .inl rfl | exact .inr rfl | exact .inr dC0)) rfl rfl) <| wO 8 kR0 <| wI rfl rfl (fun k (h : _) => by (simp at h ⊢; omega)) (nAp rfl) (fun _ _ => ocr (z1i u f set x.args seen (r8of f.types x.params)) z78 rfl (po2 rfl rfl) rfl (fun k (h : _) => .inr trivial) rfl rfl) <| wR 4 [9, 10, 11, 12, 13, 14, 15, 16] kR0 h30 <| smR 2 rfl ?_
   refine WR.split (t := 106) rfl (fun hb106 => ?_) (fun hb106 => ?_)
   ·refine smR 6 rfl <| nR <| wN 17 kR0 h30 rfl rfl rfl <| wN 18 kR0 h30 rfl rfl rfl <| wR 0 [19, 20] kR0 h30 <| smR 2 rfl <| nR <| wDn kR0 <| Tr.condT rfl <| tQ <| tG <| sm 1 rfl ?_
    refine nL <| tRt ?_
    (have h2 : (z14 u f deep wh seen set x).2 = set := (by rw [z0e _ _ _ _ _ _ hbare hk11 hkids]; simp_all [andT, andS, z1c]; done)
     rw [h2]
     refine rOk rfl ?_ (po2 rfl rfl)
     clear h2
     rw [z0e _ _ _ _ _ _ hbare hk11 hkids]
     simp_all [andT, andS, z1c]
     done)
   refine smR 5 rfl <| ryV rfl rfl rfl (oSm uT35 rfl) <| nR <| wO 17 kR0 <| wY rfl rfl rfl (fun k (h : _) => by (simp at h ⊢; omega)) (z1g rfl) (fun _ _ => z15 (k := 213) (s := ⟨3, 1⟩) rfl rfl rfl uT35 tZ3 tC3 rfl dC0 oM0 oM0 rfl rfl rfl rfl) <| wO 18 kR0 <| wY rfl rfl rfl (fun k (h : _) => by (simp at h ⊢; omega)) (nAp rfl) (fun _ _ => z30 (fun k => k = 213) (z1k u f set x.params (List.replicate x.params.length 0) hs) z64 rfl rfl (sRf _ _) (And.intro LendOf.same (And.intro LendOf.same (And.intro (LendOf.row rfl rfl (by (simp; done)) (by (simp only [List.map_replicate]; rfl))) (trivial)))) (fun k h => by subst h; rfl) (po2 rfl rfl) rfl (fun k (h : _) => by (simp only [List.mem_cons, List.not_mem_nil, or_false] at h; rcases h with rfl <;> first | exact .inl rfl | exact .inr rfl | exact .inr dC0)) ⟨_, rfl⟩ (z35 (z11 ..))) <| wR 0 [19, 20] kR0 h30 <| smR 2 rfl <| nR <| wDn kR0 ?_
   refine tC rfl (fun hc116 => ?_) fun hc116 => ?_
   ·refine tQ <| tG <| sm 1 rfl <| nL <| tRt ?_
    (have h2 : (z14 u f deep wh seen set x).2 = (z0p f.types set x.params (List.replicate x.params.length 0)).2 := (by rw [z0e _ _ _ _ _ _ hbare hk11 hkids]; simp_all [andT, andS, z1c]; done)
     rw [h2]
     refine rOk rfl ?_ (po2 rfl rfl)
     clear h2
     rw [z0e _ _ _ _ _ _ hbare hk11 hkids]
     simp_all [andT, andS, z1c]
     done)
   refine tSk <| tQ <| tG <| sm 1 rfl <| nL <| tQ <| Tr.grow (t := 14) (k := 114) ⟨3, 1⟩ rfl rfl rfl rfl rfl <| tG <| sm 2 rfl ?_
   refine cE rfl (aPp rfl rfl rfl rfl (by rfl) sI0 uT35 tB3 dC0 (z5i) (z2z) (by simp [maxLen, z03]; omega) (by simp [z03]; omega)) ?_
   refine sm 1 rfl <| nL <| tQ <| tG <| sm 3 rfl ?_
   refine cE rfl (aPp rfl rfl rfl rfl (by (simp; done)) sI0 uT35 tB3 dC0 (z5i) (z2z) (by simp [maxLen, z03]; omega) (by simp [z03]; omega)) ?_
   refine sm 1 rfl <| nL <| tQ <| tDr z1a (fun k => k ∈ ([3, 113] : List Nat)) <| wR 23 [0, 1, 2, 3, 4, 5, 6, 7, 8] kR0 h30 <| smR 3 rfl <| rV rfl rfl (iSq rfl rfl rfl uT41 hi0 tS44 rfl (by rfl)) <| smR 2 rfl <| rV rfl rfl (lBP rfl rfl rfl Tryz.underlying91 rfl tS91 (lb rfl) rfl dC0) <| smR 1 rfl <| rV rfl rfl (oB rfl rfl (z0b rfl oM0)) <| nR ?_
   refine wO 9 kR0 <| wI rfl rfl (fun k (h : _) => by (simp at h ⊢; omega)) (nAp rfl) (fun _ _ => z30 (fun k => k = 114) (ih ka hm0 (deep + 1) ⟨false, true, [], r8of f.types x.params, r8of f.types x.outs⟩ (seen ++ x.params) (z0p f.types set x.params (List.replicate x.params.length 0)).2 ⟨by omega, by omega⟩ hs1 hb0) zs4 rfl rfl (sSm rfl (sSm rfl (sSm rfl (Subs.cons (fun _ _ _ _ h => z3i (q := whv ⟨false, true, [], r8of f.types x.params, r8of f.types x.outs⟩) (PSub.agg (ps := [vBool false, vBool true, .val (.slice none 0 0), ints (r8of f.types x.params), ints (r8of f.types x.outs)]) (And.intro (PSub.refl _) (And.intro (PSub.refl _) (And.intro PSub.nil (And.intro (PSub.refl _) (And.intro (PSub.refl _) trivial)))))) h) (sSm rfl Subs.nil))))) (And.intro LendOf.same (And.intro LendOf.same (And.intro (LendOf.row rfl rfl (by (simp; done)) (by (simp; done))) (And.intro LendOf.same (And.intro LendOf.same (trivial)))))) (fun k h => by subst h; rfl) (po2 rfl rfl) rfl (fun k (h : _) => by (simp only [List.mem_cons, List.not_mem_nil, or_false] at h; rcases h with rfl | rfl <;> first | exact .inl rfl | exact .inr rfl | exact .inr dC0)) ⟨_, rfl⟩ (z35 (z31 ..))) <| wR 15 [10, 11, 12, 13, 14, 15, 16] kR0 h30 <| smR 1 rfl ?_
   refine WR.split (t := 134) rfl (fun hb134 => ?_) (fun hb134 => ?_)
   ·refine smR 2 rfl <| ryV rfl rfl rfl (oSm uT35 rfl) <| smR 2 rfl ?_
    refine WR.split (t := 139) rfl (fun hb139 => ?_) (fun hb139 => ?_)
    ·refine smR 1 rfl <| nR <| wN 17 kR0 h30 rfl rfl rfl <| wR 4 [18, 19, 20, 21, 22, 23, 24, 25, 26, 27] kR0 h30 <| smR 9 rfl <| ryV rfl rfl rfl (oSm uT35 rfl) <| nR <| wO 28 kR0 <| wY rfl rfl rfl (fun k (h : _) => by (simp at h ⊢; omega)) (z1g rfl) (fun _ _ => z15 (k := 252) (s := ⟨3, 1⟩) rfl rfl rfl uT35 tZ3 tC3 rfl dC0 oM0 oM0 rfl rfl rfl rfl) <| wO 29 kR0 <| wY rfl rfl rfl (fun k (h : _) => by (simp at h ⊢; omega)) (nAp rfl) (fun _ _ => z30 (fun k => k = 252) (z1k u f (z0l u f (deep + 1) ⟨false, true, [], r8of f.types x.params, r8of f.types x.outs⟩ (seen ++ x.params) (z0p f.types set x.params (List.replicate x.params.length 0)).2 ka).2 x.outs (List.replicate x.outs.length 0) hs2) z64 rfl rfl (sRf _ _) (And.intro LendOf.same (And.intro LendOf.same (And.intro (LendOf.row rfl rfl (by (simp; done)) (by (simp only [List.map_replicate]; rfl))) (trivial)))) (fun k h => by subst h; rfl) (po2 rfl rfl) rfl (fun k (h : _) => by (simp only [List.mem_cons, List.not_mem_nil, or_false] at h; rcases h with rfl | rfl <;> first | exact .inl rfl | exact .inr rfl | exact .inr dC0)) ⟨_, rfl⟩ (z35 (z11 ..))) <| wR 0 [30, 31] kR0 h30 ?_
     refine smR 2 rfl <| nR <| wDn kR0 <| tRt ?_
     (have h2 : (z14 u f deep wh seen set x).2 = (z0p f.types (z0l u f (deep + 1) ⟨false, true, [], r8of f.types x.params, r8of f.types x.outs⟩ (seen ++ x.params) (z0p f.types set x.params (List.replicate x.params.length 0)).2 ka).2 x.outs (List.replicate x.outs.length 0)).2 := (by rw [z0e _ _ _ _ _ _ hbare hk11 hkids]; simp_all [andT, andS, z1c]; done)
      rw [h2]
      refine rOk rfl ?_ (po2 rfl rfl)
      clear h2
      rw [z0e _ _ _ _ _ _ hbare hk11 hkids]
      simp_all [andT, andS, z1c]
      done)
    refine ryV rfl rfl rfl (lEA rfl rfl uT43 rfl tS43 (lb rfl)) <| nR <| wO 17 kR0 <| wY rfl rfl rfl (fun k (h : _) => by (simp at h ⊢; omega)) nw (fun _ _ => ocq (z2o _) zk4 rfl rfl) <| wR 4 [18, 19, 20, 21, 22, 23, 24, 25, 26, 27] kR0 h30 <| smR 4 rfl ?_
    refine WR.split (t := 145) rfl (fun hb145 => ?_) (fun hb145 => ?_)
    ·refine smR 5 rfl <| ryV rfl rfl rfl (oSm uT35 rfl) <| nR <| wO 28 kR0 <| wY rfl rfl rfl (fun k (h : _) => by (simp at h ⊢; omega)) (z1g rfl) (fun _ _ => z15 (k := 252) (s := ⟨3, 1⟩) rfl rfl rfl uT35 tZ3 tC3 rfl dC0 oM0 oM0 rfl rfl rfl rfl) <| wO 29 kR0 <| wY rfl rfl rfl (fun k (h : _) => by (simp at h ⊢; omega)) (nAp rfl) (fun _ _ => z30 (fun k => k = 252) (z1k u f (z0l u f (deep + 1) ⟨false, true, [], r8of f.types x.params, r8of f.types x.outs⟩ (seen ++ x.params) (z0p f.types set x.params (List.replicate x.params.length 0)).2 ka).2 x.outs (List.replicate x.outs.length 0) hs2) z64 rfl rfl (sRf _ _) (And.intro LendOf.same (And.intro LendOf.same (And.intro (LendOf.row rfl rfl (by (simp; done)) (by (simp only [List.map_replicate]; rfl))) (trivial)))) (fun k h => by subst h; rfl) (po2 rfl rfl) rfl (fun k (h : _) => by (simp only [List.mem_cons, List.not_mem_nil, or_false] at h; rcases h with rfl | rfl <;> first | exact .inl rfl | exact .inr rfl | exact .inr dC0)) ⟨_, rfl⟩ (z35 (z11 ..))) <| wR 0 [30, 31] kR0 h30 <| smR 2 rfl <| nR <| wDn kR0 <| tRt ?_
     (have h2 : (z14 u f deep wh seen set x).2 = (z0p f.types (z0l u f (deep + 1) ⟨false, true, [], r8of f.types x.params, r8of f.types x.outs⟩ (seen ++ x.params) (z0p f.types set x.params (List.replicate x.params.length 0)).2 ka).2 x.outs (List.replicate x.outs.length 0)).2 := (by rw [z0e _ _ _ _ _ _ hbare hk11 hkids]; simp_all [andT, andS, z1c]; done)
      rw [h2]
      refine rOk rfl ?_ (po2 rfl rfl)
      clear h2
      rw [z0e _ _ _ _ _ _ hbare hk11 hkids]
      simp_all [andT, andS, z1c]
      done)
    refine smR 6 rfl <| nR <| wN 28 kR0 h30 rfl rfl rfl <| wN 29 kR0 h30 rfl rfl rfl <| wR 0 [30, 31] kR0 h30 <| smR 2 rfl <| nR <| wDn kR0 <| tRt ?_
    (have h2 : (z14 u f deep wh seen set x).2 = (z0l u f (deep + 1) ⟨false, true, [], r8of f.types x.params, r8of f.types x.outs⟩ (seen ++ x.params) (z0p f.types set x.params (List.replicate x.params.length 0)).2 ka).2 := (by rw [z0e _ _ _ _ _ _ hbare hk11 hkids]; simp_all [andT, andS, z1c]; done)
     rw [h2]
     refine rOk rfl ?_ (po2 rfl rfl)
     clear h2
     rw [z0e _ _ _ _ _ _ hbare hk11 hkids]
     simp_all [andT, andS, z1c]
     done)
   refine smR 5 rfl <| nUr rfl rfl rfl rfl rfl rfl rfl <| nR <| WA.takeNoU (i := 17) rfl kR0 kR0 kR0 h30 rfl rfl rfl rfl rfl rfl <| wR 4 [18, 19, 20, 21, 22, 23, 24, 25, 26, 27] kR0 h30 <| nUr rfl rfl rfl rfl rfl rfl rfl <| smR 9 rfl <| nR <| wN 28 kR0 h30 rfl rfl rfl <| wN 29 kR0 h30 rfl rfl rfl <| wR 0 [30, 31] kR0 h30 <| smR 2 rfl ?_
   refine nR <| wDn kR0 <| tRt ?_
   (have h2 : (z14 u f deep wh seen set x).2 = (z0l u f (deep + 1) ⟨false, true, [], r8of f.types x.params, r8of f.types x.outs⟩ (seen ++ x.params) (z0p f.types set x.params (List.replicate x.params.length 0)).2 ka).2 := (by rw [z0e _ _ _ _ _ _ hbare hk11 hkids]; simp_all [andT, andS, z1c]; done)
    rw [h2]
    refine rOk rfl ?_ (po2 rfl rfl)
    clear h2
    rw [z0e _ _ _ _ _ _ hbare hk11 hkids]
    simp_all [andT, andS, z1c]
    done)
  refine tSk <| tQ <| tG <| sm 1 rfl <| cV rfl (lEA rfl rfl uT43 rfl tS43 (lb rfl)) <| sm 1 rfl <| cV rfl (lEA rfl rfl Tryz.underlying91 rfl tS91 (lb rfl)) <| cE rfl (ocr (y0c u f set hs hg x seen wh) ent98 rfl (po2 rfl rfl) rfl (fun k (h : _) => .inr h) rfl rfl) <| sm 1 rfl <| nL <| tRt ?_
  rw [z6v _ _ _ _ _ _ hbare hc20 hc85]
  exact rOk rfl rfl (po2 rfl rfl)
theorem zp8 (N : Nat) : ∀ (u : Un) (f : Fl) (hg : ∀ g ∈ u.flows, 0 <= g.params /\ g.params <= g.types.length) (l : List Nd) (deep : Int) (wh : Wh) (all : List Int) (set : List Bool) (hd : 0 <= deep /\ deep <= 101) (hs : set.length = f.types.length) (hb : all.length + lsW l <= 1073741824), SizeOf.sizeOf l < N -> SC Tryz.prog 49 [.ptr 3 0, .pv (z0g l), .pv (ints all), .pv (whv wh), iInt deep] (ckHp u f 4 set) (fun k => k = 3) (iBool (z0l u f deep wh all set l).1) (ckHp u f 4 (z0l u f deep wh all set l).2) := by
  induction N with
  | zero => intro u f hg l deep wh all set hd hs hb hN; exact absurd hN (Nat.not_lt_zero _)
  | succ N ih =>
    intro u f hg l deep wh all set hd hs hb hN
    refine SC.of Tryz.func49 rfl (lb rfl) fun F ρ w => ?_
    refine Tr.lenOf (t := 1) rfl (fun hl => ?_)
    simp only [List.length_map] at hl
    refine tQ <| tG <| cE rfl (z1d rfl rfl) <| sm 1 rfl <| nL <| tQ <| tG <| sm 1 rfl <| nL <| tQ <| Tr.grow (t := 11) (k := 111) ⟨3, 1⟩ rfl rfl rfl rfl rfl <| tG ?_
    refine sm 2 rfl ?_
    refine cE rfl (aPp rfl rfl rfl rfl (by rfl) sI0 uT35 tB3 dC0 (z5i) (z2z) (by simp [maxLen, z03]; omega) (by simp [z03]; omega)) ?_
    refine sm 1 rfl <| nL <| tQ <| tQ <| tG <| sm 1 rfl <| nL <| tBk <| Tr.sub (Sub.of (fr' := [(12, iInt 0), (11, .sl 111 all.length), (8, .pv (.ept [vBool wh.If, vBool wh.Loop, ints wh.Yield, ints wh.Next, ints wh.Left] 0)), (0, .ptr 3 0), (1, .pv (z0g l)), (4, iInt deep)]) ⟨rfl, congrArg (fun z => some (IV.sl 111 z)) sI0, rfl, rfl, rfl, rfl, trivial⟩) <| Tr.heap (σ' := look ((111, some (.row ⟨3, 1⟩ (all.map eInt))) :: up (ckHp u f 4 set))) (fun _ => congrFun zf7 _) ?_
    refine Tr.loop (fun fr σ m => ∃ (k : Nat) (al : List Int) (st : List Bool), (k <= l.length) /\ (r8go u f deep wh all set l = r8go u f deep wh al st (l.drop k)) /\ (st.length = f.types.length) /\ (al.length + lsW (l.drop k) <= 1073741824) /\ fr = [(12, iInt k), (11, .sl 111 al.length), (8, .pv (.ept [vBool wh.If, vBool wh.Loop, ints wh.Yield, ints wh.Next, ints wh.Left] 0)), (0, .ptr 3 0), (1, .pv (z0g l)), (4, iInt deep)] /\ σ = look ((111, some (.row ⟨3, 1⟩ (al.map eInt))) :: up (ckHp u f 4 st)) /\ m = l.length - k) (n := l.length - 0) ?_ ?_
    ·exact ⟨0, all, set, Nat.zero_le _, rfl, hs, hb, rfl, rfl, rfl⟩
    rintro fr σ m ⟨k, al, st, hI0, hI1, hI2, hI3, rfl, rfl, rfl⟩
    refine tQ <| tQ <| tG <| sm 2 rfl <| cV rfl (oSm uT44 rfl) <| sm 1 rfl <| nL ?_
    refine tC rfl (fun hc19 => ?_) fun hc19 => ?_
    ·have hlt : k < l.length := by simpa using hc19
     have hd2 := List.drop_eq_getElem_cons hlt
     have hm := List.getElem_mem hlt
     have hi := z2r (List.getElem?_eq_getElem hlt)
     generalize l[k] = x at hd2 hm hi
     have hxo : x.outs.length <= ndW x := by have := z96 x; omega
     have hbn : al.length + ndW x <= 1073741824 := by rw [hd2] at hI3; simp only [lsW] at hI3; omega
     refine tSk <| tQ <| tBk <| tQ <| tQ <| tDr z1a (fun k => k ∈ ([3] : List Nat)) <| wR 16 [0, 1, 2, 3, 4, 5, 6, 7, 8, 9, 10] kR0 h30 <| smR 3 rfl ?_
     refine WR.split (t := 24) rfl (fun hb24 => ?_) (fun hb24 => ?_)
     ·refine smR 8 rfl <| nR <| wN 11 kR0 h30 rfl rfl rfl <| wR 3 [12, 13, 14, 15, 16, 17, 18, 20, 21, 22, 23, 24] kR0 h30 <| smR 12 rfl <| nR <| wN 19 kR0 h30 rfl rfl rfl <| wR 0 [25, 26] kR0 h30 <| smR 2 rfl <| nR <| wDn kR0 <| Tr.condT rfl ?_
      refine tQ <| tG <| sm 1 rfl <| nL <| tRt ?_
      (have h2 : z0l u f deep wh all set l = (false, st) := by
         rw [zh3 hlt, hI1, hd2]
         unfold r8go
         rw [if_pos (by simpa using hb24)]
       rw [h2]
       exact rOk rfl rfl (po2 rfl rfl))
     refine smR 3 rfl <| ryV rfl rfl rfl (iSq rfl rfl rfl uT44 hi tS43 rfl (by rfl)) <| ryV rfl rfl rfl (lEA rfl rfl uT43 rfl tS43 (lb rfl)) <| smR 1 rfl <| ryV rfl rfl rfl (lEA rfl rfl Tryz.underlying91 rfl tS91 (lb rfl)) <| smR 1 rfl <| nR <| wO 11 kR0 <| wY rfl rfl rfl (fun k (h : _) => by (simp at h ⊢; omega)) (nAp rfl) (fun _ _ => z30 (fun k => k = 111) (y5e u f hg x deep ⟨hd.1, by simp at hb24; omega⟩ wh al st hI2 hbn (fun q hq deep w all set hd hs hb => ih u f hg q deep w all set hd hs hb (Nat.lt_of_lt_of_le (z7j hm rfl hq) (Nat.le_of_lt_succ hN)))) ent74 rfl rfl (sRf _ _) (And.intro LendOf.same (And.intro LendOf.same (And.intro (LendOf.row rfl rfl (by (simp; done)) (by rfl)) (And.intro LendOf.same (And.intro LendOf.same (trivial)))))) (fun k h => by subst h; rfl) (po2 rfl rfl) rfl (fun k (h : _) => by (simp only [List.mem_cons, List.not_mem_nil, or_false] at h; rcases h with rfl <;> first | exact .inl rfl | exact .inr rfl | exact .inr dC0)) ⟨_, rfl⟩ (z35 (z6u ..))) <| wR 3 [12, 13, 14, 15, 16, 17, 18, 20, 21, 22, 23, 24] kR0 h30 <| smR 3 rfl ?_
     refine WR.split (t := 36) rfl (fun hb36 => ?_) (fun hb36 => ?_)
     ·refine smR 9 rfl <| nR <| wN 19 kR0 h30 rfl rfl rfl <| wR 0 [25, 26] kR0 h30 <| smR 2 rfl <| nR <| wDn kR0 <| Tr.condT rfl <| tQ <| tG <| sm 1 rfl <| nL ?_
      refine tRt ?_
      (have h2 : z0l u f deep wh all set l = (false, (z14 u f deep wh al st x).2) := by
         rw [zh3 hlt, hI1, hd2]
         unfold r8go
         rw [if_neg (by simpa using hb24)]
         have hn1 : (z14 u f deep wh al st x).1 = false := by simpa using hb36
         simp [andT, hn1]
       rw [h2]
       exact rOk rfl rfl (po2 rfl rfl))
     refine smR 2 rfl <| ryV rfl rfl rfl (iSq rfl rfl rfl uT44 hi tS43 rfl (by rfl)) <| ryV rfl rfl rfl (lEA rfl rfl uT43 rfl tS43 (lb rfl)) <| smR 2 rfl <| ryV rfl rfl rfl (oSm uT44 rfl) <| ryV rfl rfl rfl (oB rfl rfl (z3l rfl oM0)) <| smR 1 rfl <| nR <| wO 19 kR0 <| wY rfl rfl rfl (fun k (h : _) => by (simp at h ⊢; omega)) nw (fun _ _ => ocq (z2o _) zk4 rfl rfl) <| wR 0 [25, 26] kR0 h30 <| ryV rfl rfl rfl (zg5 rfl rfl rfl Tryz.underlying4) ?_
     refine smR 1 rfl <| nR <| wDn kR0 ?_
     refine tC rfl (fun hc48 => ?_) fun hc48 => ?_
     ·refine tQ <| tG <| sm 1 rfl <| nL <| tRt ?_
      (have h2 : z0l u f deep wh all set l = (false, (z14 u f deep wh al st x).2) := by
         rw [zh3 hlt, hI1, hd2]
         unfold r8go
         rw [if_neg (by simpa using hb24)]
         have hn1 : (z14 u f deep wh al st x).1 = true := by simpa using hb36
         have hcl : (z09 x != (l.drop (k + 1)).isEmpty) = true := by rw [z5x hlt]; simpa using hc48
         simp [andT, hn1, hcl]
       rw [h2]
       exact rOk rfl rfl (po2 rfl rfl))
     refine tSk <| tG <| sm 3 rfl <| cV rfl (iSq rfl rfl rfl uT44 hi tS43 rfl (by rfl)) <| sm 2 rfl ?_
     refine cE rfl (aPp rfl rfl rfl rfl (by (simp; done)) sI0 uT35 tB3 dC0 (z5i) (z2z) (by simp [maxLen, z03]; omega) (by simp [z03]; omega)) ?_
     refine sm 1 rfl <| nL <| tG <| sm 1 rfl <| cV rfl (oB rfl rfl (z0b rfl oM0)) <| sm 1 rfl <| nL ?_
     refine ⟨_, _, ?_, Sub.of (fr' := [(12, iInt (k + 1)), (11, .sl 111 (al ++ x.outs).length), (8, .pv (.ept [vBool wh.If, vBool wh.Loop, ints wh.Yield, ints wh.Next, ints wh.Left] 0)), (0, .ptr 3 0), (1, .pv (z0g l)), (4, iInt deep)]) ⟨rfl, congrArg (fun z => some (IV.sl 111 z)) sI0, rfl, rfl, rfl, rfl, trivial⟩, (k + 1), (al ++ x.outs), (z14 u f deep wh al st x).2, ?_, ?_, ?_, ?_, rfl, ck_row', rfl⟩
     ·omega
     ·omega
     ·rw [hI1, hd2]
      have hn1 : (z14 u f deep wh al st x).1 = true := by simpa using hb36
      have hcl : (z09 x != (l.drop (k + 1)).isEmpty) = false := by rw [z5x hlt]; simpa using hc48
      have hdp : ¬ deep > 100 := by simpa using hb24
      conv => lhs; unfold r8go
      simp only [if_neg hdp, andT, hn1, hcl, if_true]
      rfl
     ·exact (z6u ..).trans hI2
     rw [hd2] at hI3; have hWx := z96 x; simp only [lsW] at hI3; simp only [List.length_append]; omega
    refine tEx <| tQ <| tG <| sm 1 rfl <| cV rfl (oSm uT44 rfl) <| sm 2 rfl <| nL <| tRt ?_
    have hge : l.length <= k := by simpa using hc19
    have hgo : r8go u f deep wh all set l = (true, st) := by rw [hI1, List.drop_eq_nil_of_le hge]; simp [r8go]
    have h2 : (z0l u f deep wh all set l) = (decide ((l.length : Int) > 0), st) := by
      unfold z0l ne
      rw [hgo]
      cases l <;> simp <;> omega
    rw [h2]
    exact rOk rfl rfl (po2 rfl rfl)
theorem y5d (u : Un) (f : Fl) (hg : ∀ g ∈ u.flows, 0 <= g.params /\ g.params <= g.types.length) (l : List Nd) (deep : Int) (wh : Wh) (all : List Int) (set : List Bool) (hd : 0 <= deep /\ deep <= 101) (hs : set.length = f.types.length) (hb : all.length + lsW l <= 1073741824) : SC Tryz.prog 49 [.ptr 3 0, .pv (z0g l), .pv (ints all), .pv (whv wh), iInt deep] (ckHp u f 4 set) (fun k => k = 3) (iBool (z0l u f deep wh all set l).1) (ckHp u f 4 (z0l u f deep wh all set l).2) := zp8 _ u f hg l deep wh all set hd hs hb (Nat.lt_succ_self _)
theorem zi6 (n : Int) : SC Tryz.prog 71 [.pv (vU8 n)] [] (fun _ => False) (iBool (z1z n)) [] := by
  refine SC.of Tryz.func71 rfl (lb rfl) fun F ρ w => ?_
  refine tQ <| tG <| sm 1 rfl <| nL <| tQ <| tG <| sm 3 rfl ?_
  refine wS 5 rfl (fun hb5 => ?_) fun hb5 => ?_
  ·refine sm 4 rfl ?_
   refine wS 9 rfl (fun hb9 => ?_) fun hb9 => ?_
   ·refine sm 3 rfl <| nUu rfl rfl rfl rfl rfl rfl <| nUu rfl rfl rfl rfl rfl rfl <| sm 7 rfl <| nL <| tRt <| rOk rfl ?_ nPo
    unfold z1z
    first | (simp_all; done) | (simp_all <;> omega)
   refine sm 3 rfl ?_
   refine wS 12 rfl (fun hb12 => ?_) fun hb12 => ?_
   ·refine sm 5 rfl ?_
    refine wS 17 rfl (fun hb17 => ?_) fun hb17 => ?_
    ·refine sm 4 rfl <| nL <| tRt <| rOk rfl ?_ nPo
     unfold z1z
     first | (simp_all; done) | (simp_all <;> omega)
    refine sm 4 rfl <| nL <| tRt <| rOk rfl ?_ nPo
    unfold z1z
    first | (simp_all; done) | (simp_all <;> omega)
   refine sm 9 rfl <| nL <| tRt <| rOk rfl ?_ nPo
   unfold z1z
   first | (simp_all; done) | (simp_all <;> omega)
  refine sm 7 rfl ?_
  refine wS 12 rfl (fun hb12 => ?_) fun hb12 => ?_
  ·refine sm 5 rfl ?_
   refine wS 17 rfl (fun hb17 => ?_) fun hb17 => ?_
   ·refine sm 4 rfl <| nL <| tRt <| rOk rfl ?_ nPo
    unfold z1z
    first | (simp_all; done) | (simp_all <;> omega)
   refine sm 4 rfl <| nL <| tRt <| rOk rfl ?_ nPo
   unfold z1z
   first | (simp_all; done) | (simp_all <;> omega)
  refine sm 9 rfl <| nL <| tRt <| rOk rfl ?_ nPo
  unfold z1z
  first | (simp_all; done) | (simp_all <;> omega)
theorem y2n (n : Int) : SC Tryz.prog 73 [.pv (vU8 n)] [] (fun _ => False) (iBool (z6p n)) [] := by
  refine SC.of Tryz.func73 rfl (lb rfl) fun F ρ w => ?_
  refine tQ <| tG <| sm 1 rfl <| nL <| tQ <| tG <| sm 3 rfl ?_
  refine wS 5 rfl (fun hb5 => ?_) fun hb5 => ?_
  ·refine sm 4 rfl <| nL <| tRt <| rOk rfl ?_ nPo
   unfold z6p
   first | (simp_all; done) | (simp_all <;> omega)
  refine sm 4 rfl <| nL <| tRt <| rOk rfl ?_ nPo
  unfold z6p
  first | (simp_all; done) | (simp_all <;> omega)
theorem y59 (s : ByteArray) : SC Tryz.prog 72 [iStr s] [] (fun _ => False) (iBool (z0u s)) [] := by
  refine SC.of Tryz.func72 rfl (lb rfl) fun F ρ w => ?_
  refine tQ <| tG <| sm 1 rfl <| nL <| tQ <| tQ <| tG <| sm 1 rfl <| nL <| tBk <| tQ <| tQ ?_
  refine tG <| cV rfl (bSt rfl rfl rfl rfl) <| sm 1 rfl <| nL ?_
  refine tC rfl (fun hc4 => ?_) fun hc4 => ?_
  ·refine tSk ?_
   refine tC rfl (fun hc4 => ?_) fun hc4 => ?_
   ·refine tQ <| tG <| sm 1 rfl <| nL <| tRt <| rOk rfl ?_ nPo
    refine congrArg (fun b => iBool b) ?_
    simp_all [z0u]
   refine tSk <| tQ <| tG <| sm 1 rfl <| nL <| tRt <| rOk rfl ?_ nPo
   refine congrArg (fun b => iBool b) ?_
   simp_all [z0u]
  refine tQ <| tG <| cV rfl (bSt rfl rfl rfl rfl) <| sm 1 rfl <| nL ?_
  refine tC rfl (fun hc4 => ?_) fun hc4 => ?_
  ·refine tSk ?_
   refine tC rfl (fun hc4 => ?_) fun hc4 => ?_
   ·refine tQ <| tG <| sm 1 rfl <| nL <| tRt <| rOk rfl ?_ nPo
    refine congrArg (fun b => iBool b) ?_
    simp_all [z0u]
   refine tSk <| tQ <| tG <| sm 1 rfl <| nL <| tRt <| rOk rfl ?_ nPo
   refine congrArg (fun b => iBool b) ?_
   simp_all [z0u]
  refine tQ <| tG <| cV rfl (bSt rfl rfl rfl rfl) <| sm 1 rfl <| nL ?_
  refine tC rfl (fun hc4 => ?_) fun hc4 => ?_
  ·refine tSk ?_
   refine tC rfl (fun hc4 => ?_) fun hc4 => ?_
   ·refine tQ <| tG <| sm 1 rfl <| nL <| tRt <| rOk rfl ?_ nPo
    refine congrArg (fun b => iBool b) ?_
    simp_all [z0u]
   refine tSk <| tQ <| tG <| sm 1 rfl <| nL <| tRt <| rOk rfl ?_ nPo
   refine congrArg (fun b => iBool b) ?_
   simp_all [z0u]
  refine tQ <| tG <| cV rfl (bSt rfl rfl rfl rfl) <| sm 1 rfl <| nL ?_
  refine tC rfl (fun hc4 => ?_) fun hc4 => ?_
  ·refine tSk ?_
   refine tC rfl (fun hc4 => ?_) fun hc4 => ?_
   ·refine tQ <| tG <| sm 1 rfl <| nL <| tRt <| rOk rfl ?_ nPo
    refine congrArg (fun b => iBool b) ?_
    simp_all [z0u]
   refine tSk <| tQ <| tG <| sm 1 rfl <| nL <| tRt <| rOk rfl ?_ nPo
   refine congrArg (fun b => iBool b) ?_
   simp_all [z0u]
  refine tQ <| tG <| cV rfl (bSt rfl rfl rfl rfl) <| sm 1 rfl <| nL ?_
  refine tC rfl (fun hc4 => ?_) fun hc4 => ?_
  ·refine tSk ?_
   refine tC rfl (fun hc4 => ?_) fun hc4 => ?_
   ·refine tQ <| tG <| sm 1 rfl <| nL <| tRt <| rOk rfl ?_ nPo
    refine congrArg (fun b => iBool b) ?_
    simp_all [z0u]
   refine tSk <| tQ <| tG <| sm 1 rfl <| nL <| tRt <| rOk rfl ?_ nPo
   refine congrArg (fun b => iBool b) ?_
   simp_all [z0u]
  refine tQ <| tG <| cV rfl (bSt rfl rfl rfl rfl) <| sm 1 rfl <| nL ?_
  refine tC rfl (fun hc4 => ?_) fun hc4 => ?_
  ·refine tSk ?_
   refine tC rfl (fun hc4 => ?_) fun hc4 => ?_
   ·refine tQ <| tG <| sm 1 rfl <| nL <| tRt <| rOk rfl ?_ nPo
    refine congrArg (fun b => iBool b) ?_
    simp_all [z0u]
   refine tSk <| tQ <| tG <| sm 1 rfl <| nL <| tRt <| rOk rfl ?_ nPo
   refine congrArg (fun b => iBool b) ?_
   simp_all [z0u]
  refine tQ <| tG <| cV rfl (bSt rfl rfl rfl rfl) <| sm 1 rfl <| nL ?_
  refine tC rfl (fun hc4 => ?_) fun hc4 => ?_
  ·refine tSk ?_
   refine tC rfl (fun hc4 => ?_) fun hc4 => ?_
   ·refine tQ <| tG <| sm 1 rfl <| nL <| tRt <| rOk rfl ?_ nPo
    refine congrArg (fun b => iBool b) ?_
    simp_all [z0u]
   refine tSk <| tQ <| tG <| sm 1 rfl <| nL <| tRt <| rOk rfl ?_ nPo
   refine congrArg (fun b => iBool b) ?_
   simp_all [z0u]
  refine tQ <| tG <| cV rfl (bSt rfl rfl rfl rfl) <| sm 1 rfl <| nL ?_
  refine tC rfl (fun hc4 => ?_) fun hc4 => ?_
  ·refine tSk ?_
   refine tC rfl (fun hc4 => ?_) fun hc4 => ?_
   ·refine tQ <| tG <| sm 1 rfl <| nL <| tRt <| rOk rfl ?_ nPo
    refine congrArg (fun b => iBool b) ?_
    simp_all [z0u]
   refine tSk <| tQ <| tG <| sm 1 rfl <| nL <| tRt <| rOk rfl ?_ nPo
   refine congrArg (fun b => iBool b) ?_
   simp_all [z0u]
  refine tQ <| tG <| cV rfl (bSt rfl rfl rfl rfl) <| sm 1 rfl <| nL ?_
  refine tC rfl (fun hc4 => ?_) fun hc4 => ?_
  ·refine tSk ?_
   refine tC rfl (fun hc4 => ?_) fun hc4 => ?_
   ·refine tQ <| tG <| sm 1 rfl <| nL <| tRt <| rOk rfl ?_ nPo
    refine congrArg (fun b => iBool b) ?_
    simp_all [z0u]
   refine tSk <| tQ <| tG <| sm 1 rfl <| nL <| tRt <| rOk rfl ?_ nPo
   refine congrArg (fun b => iBool b) ?_
   simp_all [z0u]
  refine tQ <| tG <| cV rfl (bSt rfl rfl rfl rfl) <| sm 1 rfl <| nL ?_
  refine tC rfl (fun hc4 => ?_) fun hc4 => ?_
  ·refine tSk ?_
   refine tC rfl (fun hc4 => ?_) fun hc4 => ?_
   ·refine tQ <| tG <| sm 1 rfl <| nL <| tRt <| rOk rfl ?_ nPo
    refine congrArg (fun b => iBool b) ?_
    simp_all [z0u]
   refine tSk <| tQ <| tG <| sm 1 rfl <| nL <| tRt <| rOk rfl ?_ nPo
   refine congrArg (fun b => iBool b) ?_
   simp_all [z0u]
  refine tQ <| tG <| cV rfl (bSt rfl rfl rfl rfl) <| sm 1 rfl <| nL ?_
  refine tC rfl (fun hc4 => ?_) fun hc4 => ?_
  ·refine tSk ?_
   refine tC rfl (fun hc4 => ?_) fun hc4 => ?_
   ·refine tQ <| tG <| sm 1 rfl <| nL <| tRt <| rOk rfl ?_ nPo
    refine congrArg (fun b => iBool b) ?_
    simp_all [z0u]
   refine tSk <| tQ <| tG <| sm 1 rfl <| nL <| tRt <| rOk rfl ?_ nPo
   refine congrArg (fun b => iBool b) ?_
   simp_all [z0u]
  refine tQ <| tG <| cV rfl (bSt rfl rfl rfl rfl) <| sm 1 rfl <| nL ?_
  refine tC rfl (fun hc4 => ?_) fun hc4 => ?_
  ·refine tSk ?_
   refine tC rfl (fun hc4 => ?_) fun hc4 => ?_
   ·refine tQ <| tG <| sm 1 rfl <| nL <| tRt <| rOk rfl ?_ nPo
    refine congrArg (fun b => iBool b) ?_
    simp_all [z0u]
   refine tSk <| tQ <| tG <| sm 1 rfl <| nL <| tRt <| rOk rfl ?_ nPo
   refine congrArg (fun b => iBool b) ?_
   simp_all [z0u]
  refine tQ <| tG <| cV rfl (bSt rfl rfl rfl rfl) <| sm 1 rfl <| nL ?_
  refine tC rfl (fun hc4 => ?_) fun hc4 => ?_
  ·refine tSk ?_
   refine tC rfl (fun hc4 => ?_) fun hc4 => ?_
   ·refine tQ <| tG <| sm 1 rfl <| nL <| tRt <| rOk rfl ?_ nPo
    refine congrArg (fun b => iBool b) ?_
    simp_all [z0u]
   refine tSk <| tQ <| tG <| sm 1 rfl <| nL <| tRt <| rOk rfl ?_ nPo
   refine congrArg (fun b => iBool b) ?_
   simp_all [z0u]
  refine tQ <| tG <| cV rfl (bSt rfl rfl rfl rfl) <| sm 1 rfl <| nL ?_
  refine tC rfl (fun hc4 => ?_) fun hc4 => ?_
  ·refine tSk ?_
   refine tC rfl (fun hc4 => ?_) fun hc4 => ?_
   ·refine tQ <| tG <| sm 1 rfl <| nL <| tRt <| rOk rfl ?_ nPo
    refine congrArg (fun b => iBool b) ?_
    simp_all [z0u]
   refine tSk <| tQ <| tG <| sm 1 rfl <| nL <| tRt <| rOk rfl ?_ nPo
   refine congrArg (fun b => iBool b) ?_
   simp_all [z0u]
  refine tQ <| tG <| cV rfl (bSt rfl rfl rfl rfl) <| sm 1 rfl <| nL ?_
  refine tC rfl (fun hc4 => ?_) fun hc4 => ?_
  ·refine tSk ?_
   refine tC rfl (fun hc4 => ?_) fun hc4 => ?_
   ·refine tQ <| tG <| sm 1 rfl <| nL <| tRt <| rOk rfl ?_ nPo
    refine congrArg (fun b => iBool b) ?_
    simp_all [z0u]
   refine tSk <| tQ <| tG <| sm 1 rfl <| nL <| tRt <| rOk rfl ?_ nPo
   refine congrArg (fun b => iBool b) ?_
   simp_all [z0u]
  refine tQ <| tG <| cV rfl (bSt rfl rfl rfl rfl) <| sm 1 rfl <| nL ?_
  refine tC rfl (fun hc4 => ?_) fun hc4 => ?_
  ·refine tSk ?_
   refine tC rfl (fun hc4 => ?_) fun hc4 => ?_
   ·refine tQ <| tG <| sm 1 rfl <| nL <| tRt <| rOk rfl ?_ nPo
    refine congrArg (fun b => iBool b) ?_
    simp_all [z0u]
   refine tSk <| tQ <| tG <| sm 1 rfl <| nL <| tRt <| rOk rfl ?_ nPo
   refine congrArg (fun b => iBool b) ?_
   simp_all [z0u]
  refine tQ <| tG <| cV rfl (bSt rfl rfl rfl rfl) <| sm 1 rfl <| nL ?_
  refine tC rfl (fun hc4 => ?_) fun hc4 => ?_
  ·refine tSk ?_
   refine tC rfl (fun hc4 => ?_) fun hc4 => ?_
   ·refine tQ <| tG <| sm 1 rfl <| nL <| tRt <| rOk rfl ?_ nPo
    refine congrArg (fun b => iBool b) ?_
    simp_all [z0u]
   refine tSk <| tQ <| tG <| sm 1 rfl <| nL <| tRt <| rOk rfl ?_ nPo
   refine congrArg (fun b => iBool b) ?_
   simp_all [z0u]
  refine tG <| cV rfl (bSt rfl rfl rfl rfl) <| sm 1 rfl <| nL ?_
  refine tC rfl (fun hc4 => ?_) fun hc4 => ?_
  ·refine tQ <| tG <| sm 1 rfl <| nL <| tRt <| rOk rfl ?_ nPo
   refine congrArg (fun b => iBool b) ?_
   simp_all [z0u]
  refine tSk <| tQ <| tG <| sm 1 rfl <| nL <| tRt <| rOk rfl ?_ nPo
  refine congrArg (fun b => iBool b) ?_
  simp_all [z0u]
theorem zw1 (s : ByteArray) : SC Tryz.prog 47 [iStr s] [] (fun _ => False) (iBool (z45 s)) [] := by
  refine SC.of Tryz.func47 rfl (lb rfl) fun F ρ w => ?_
  have hsz : s.size <= 9223372036854775807 ∨ 9223372036854775807 < s.size := by omega
  refine tQ <| tG <| sm 1 rfl <| nL <| tQ <| tQ <| tG <| sm 1 rfl <| cV rfl (bSt rfl rfl rfl rfl) <| sm 1 rfl ?_
  refine wS 6 rfl (fun hb6 => ?_) fun hb6 => ?_
  ·refine sm 14 rfl <| nL <| Tr.condT rfl <| tQ <| tG <| sm 1 rfl <| nL <| tRt <| rOk rfl ?_ nPo
   refine congrArg (fun b => iBool b) ?_
   simp_all [z45]
  have hne : s.toList ≠ [] := by simpa using hb6
  obtain ⟨b0, r0, hs0⟩ := List.exists_cons_of_ne_nil hne
  have hi0 : s[0]? = some b0 := by rw [y0u (i := 0) (by rw [hs0]; simp)]; simp [hs0]
  refine sm 1 rfl <| yV rfl rfl (z9x rfl rfl uT9) <| sm 3 rfl ?_
  refine wS 11 rfl (fun hb11 => ?_) fun hb11 => ?_
  ·refine sm 9 rfl <| nL <| Tr.condT rfl <| tQ <| tG <| sm 1 rfl <| nL <| tRt <| rOk rfl ?_ nPo
   refine congrArg (fun b => iBool b) ?_
   (have h20 : ¬ ((s.size : Int) <= 20) := by simp at hb11; omega
    simp [z45, h20]; done)
  refine sm 1 rfl <| yV rfl rfl (z5y rfl rfl rfl uT9 (by assumption) (by rfl)) <| WL.yes rfl rfl rfl rfl rfl rfl (z10 (zi6 _) ent71 rfl rfl (sRf _ _) rfl) <| sm 3 rfl ?_
  refine wS 17 rfl (fun hb17 => ?_) fun hb17 => ?_
  ·refine sm 3 rfl <| nL <| Tr.condT rfl <| tQ <| tG <| sm 1 rfl <| nL <| tRt <| rOk rfl ?_ nPo
   refine congrArg (fun b => iBool b) ?_
   simp_all [z45]
  refine sm 1 rfl <| WL.yes rfl rfl rfl rfl rfl rfl (z10 (y59 _) ent72 rfl rfl (sRf _ _) rfl) <| sm 1 rfl <| nL ?_
  refine tC rfl (fun hc20 => ?_) fun hc20 => ?_
  ·refine tQ <| tG <| sm 1 rfl <| nL <| tRt <| rOk rfl ?_ nPo
   refine congrArg (fun b => iBool b) ?_
   simp_all [z45]
  refine tSk <| tQ <| tQ <| tG <| sm 1 rfl <| nL <| tBk <| Tr.sub (Sub.of (fr' := [(3, iInt 0), (0, iStr s)]) ⟨rfl, rfl, trivial⟩) ?_
  refine Tr.loop (fun fr σ m => ∃ (k : Nat), (k <= s.toList.length) /\ (s.toList.all isLD = (s.toList.drop k).all isLD) /\ fr = [(3, iInt k), (0, iStr s)] /\ σ = look [] /\ m = s.toList.length - k) (n := s.toList.length - 0) ?_ ?_
  ·exact ⟨0, Nat.zero_le _, rfl, rfl, rfl, rfl⟩
  rintro fr σ m ⟨k, hI0, hI1, rfl, rfl, rfl⟩
  refine tQ <| tQ <| tG <| sm 2 rfl <| cV rfl (z9x rfl rfl uT9) <| sm 1 rfl <| nL ?_
  refine tC rfl (fun hc24 => ?_) fun hc24 => ?_
  ·have hlt : k < s.toList.length := by rw [z8c]; simpa using hc24
   have hd := List.drop_eq_getElem_cons hlt
   have hi := y0u hlt
   generalize s.toList[k] = b at hd hi
   have hl20 : s.toList.length <= 20 := by rw [z8c]; simp at hb11; omega
   refine tSk <| tQ <| tBk <| tQ <| tG <| sm 2 rfl <| cV rfl (z5y rfl rfl rfl uT9 (by assumption) (by rfl)) <| cE rfl (ocq (zi6 _) ent71 rfl rfl) <| sm 2 rfl ?_
   refine wS 32 rfl (fun hb32 => ?_) fun hb32 => ?_
   ·refine sm 2 rfl <| yV rfl rfl (z5y rfl rfl rfl uT9 (by assumption) (by rfl)) <| WL.yes rfl rfl rfl rfl rfl rfl (z10 (y2n _) ent73 rfl rfl (sRf _ _) rfl) <| sm 2 rfl <| nL ?_
    refine tC rfl (fun hc38 => ?_) fun hc38 => ?_
    ·refine tQ <| tG <| sm 1 rfl <| nL <| tRt <| rOk rfl ?_ nPo
     have hb : isLD b = false := by simp_all [isLD]
     have hall : s.toList.all isLD = false := by rw [hI1, hd]; simp [hb]
     simp [z45, hall]
    refine tSk <| tG <| sm 1 rfl <| cV rfl (oB rfl rfl (z0b rfl oM0)) <| sm 1 rfl <| nL ?_
    refine ⟨_, _, ?_, Sub.of (fr' := [(3, iInt (k + 1)), (0, iStr s)]) ⟨rfl, rfl, trivial⟩, (k + 1), ?_, ?_, rfl, rfl, rfl⟩
    ·omega
    ·omega
    have hb : isLD b = true := by simp_all [isLD]
    rw [hI1, hd]; simp [hb]
   refine sm 6 rfl <| nL <| Tr.condF rfl <| tSk <| tG <| sm 1 rfl <| cV rfl (oB rfl rfl (z0b rfl oM0)) <| sm 1 rfl <| nL ?_
   refine ⟨_, _, ?_, Sub.of (fr' := [(3, iInt (k + 1)), (0, iStr s)]) ⟨rfl, rfl, trivial⟩, (k + 1), ?_, ?_, rfl, rfl, rfl⟩
   ·omega
   ·omega
   have hb : isLD b = true := by simp_all [isLD]
   rw [hI1, hd]; simp [hb]
  refine tEx <| tQ <| tG <| sm 1 rfl <| nL <| tRt <| rOk rfl ?_ nPo
  have hge : s.toList.length <= k := by rw [z8c]; simpa using hc24
  have hall : s.toList.all isLD = true := by rw [hI1, List.drop_eq_nil_of_le hge]; rfl
  refine congrArg (fun b => iBool b) ?_
  simp_all [z45]
theorem z56 (a b : List Int) : SC Tryz.prog 27 [.pv (ints a), .pv (ints b)] [] (fun _ => False) (iBool (a == b)) [] := by
  refine SC.of Tryz.func27 rfl (lb rfl) fun F ρ w => ?_
  refine Tr.lenOf (t := 0) rfl (fun hl => ?_)
  simp only [List.length_map] at hl
  refine Tr.lenOf (t := 1) rfl (fun hl2 => ?_)
  simp only [List.length_map] at hl2
  refine tQ <| tG <| sm 1 rfl <| nL <| tQ <| tQ <| tG <| sm 1 rfl <| cV rfl (oSm uT35 rfl) <| sm 1 rfl <| cV rfl (oSm uT35 rfl) <| sm 1 rfl ?_
  refine nL ?_
  refine tC rfl (fun hc10 => ?_) fun hc10 => ?_
  ·refine tQ <| tG <| sm 1 rfl <| nL <| tRt <| rOk rfl ?_ nPo
   have hne : a ≠ b := by intro h; subst h; simp at hc10
   simp [hne]
  have hlen : a.length = b.length := by simp at hc10; omega
  refine tSk <| tQ <| tQ <| tG <| sm 1 rfl <| nL <| tBk <| Tr.sub (Sub.of (fr' := [(5, iInt 0), (0, .pv (ints a)), (1, .pv (ints b))]) ⟨rfl, rfl, rfl, trivial⟩) ?_
  refine Tr.loop (fun fr σ m => ∃ (k : Nat), (k <= a.length) /\ ((a == b) = (a.drop k == b.drop k)) /\ fr = [(5, iInt k), (0, .pv (ints a)), (1, .pv (ints b))] /\ σ = look [] /\ m = a.length - k) (n := a.length - 0) ?_ ?_
  ·exact ⟨0, Nat.zero_le _, rfl, rfl, rfl, rfl⟩
  rintro fr σ m ⟨k, hI0, hI1, rfl, rfl, rfl⟩
  refine tQ <| tQ <| tG <| sm 2 rfl <| cV rfl (oSm uT35 rfl) <| sm 1 rfl <| nL ?_
  refine tC rfl (fun hc14 => ?_) fun hc14 => ?_
  ·have hlt : k < a.length := by simpa using hc14
   have hd := List.drop_eq_getElem_cons hlt
   have hm := List.getElem_mem hlt
   have hi := z0i (f := eInt) (List.getElem?_eq_getElem hlt)
   generalize a[k] = x at hd hm hi
   have hltw : k < b.length := by omega
   have hdw := List.drop_eq_getElem_cons hltw
   have hw := z0i (f := eInt) (List.getElem?_eq_getElem hltw)
   generalize b[k] = y at hdw hw
   refine tSk <| tQ <| tBk <| tQ <| Tr.still z1a kR0 rfl <| smS 2 rfl <| sV rfl (iSq rfl rfl rfl uT35 hi tS3 rfl (by rfl)) <| smS 3 rfl <| sV rfl (iSq rfl rfl rfl uT35 hw tS3 rfl (by rfl)) <| smS 2 rfl <| WS.nil ?_
   refine tC rfl (fun hc25 => ?_) fun hc25 => ?_
   ·refine tQ <| tG <| sm 1 rfl <| nL <| tRt <| rOk rfl ?_ nPo
    have hxy : x ≠ y := by simpa using hc25
    rw [hI1, hd, hdw]
    simp [hxy]
   refine tSk <| tG <| sm 1 rfl <| cV rfl (oB rfl rfl (z0b rfl oM0)) <| sm 1 rfl <| nL ?_
   refine ⟨_, _, ?_, Sub.of (fr' := [(5, iInt (k + 1)), (0, .pv (ints a)), (1, .pv (ints b))]) ⟨rfl, rfl, rfl, trivial⟩, (k + 1), ?_, ?_, rfl, rfl, rfl⟩
   ·omega
   ·omega
   rw [hI1, hd, hdw]
   have : x = y := by simpa using hc25
   simp [this]
  refine tEx <| tQ <| tG <| sm 1 rfl <| nL <| tRt <| rOk rfl ?_ nPo
  have hge : a.length <= k := by simpa using hc14
  rw [hI1, List.drop_eq_nil_of_le hge, List.drop_eq_nil_of_le oM0]
  rfl
theorem z9e (N : Nat) : ∀ (a b : List Nd), SizeOf.sizeOf a < N -> SC Tryz.prog 28 [.pv (z0g a), .pv (z0g b)] [] (fun _ => False) (iBool (z4d a b)) [] := by
  induction N with
  | zero => intro a b hN; exact absurd hN (Nat.not_lt_zero _)
  | succ N ih =>
    intro a b hN
    refine SC.of Tryz.func28 rfl (lb rfl) fun F ρ w => ?_
    refine Tr.lenOf (t := 0) rfl (fun hl => ?_)
    simp only [List.length_map] at hl
    refine Tr.lenOf (t := 1) rfl (fun hl2 => ?_)
    simp only [List.length_map] at hl2
    refine tQ <| tG <| sm 1 rfl <| nL <| tQ <| tQ <| tG <| sm 1 rfl <| cV rfl (oSm uT44 rfl) <| sm 1 rfl <| cV rfl (oSm uT44 rfl) <| sm 1 rfl ?_
    refine nL ?_
    refine tC rfl (fun hc13 => ?_) fun hc13 => ?_
    ·refine tQ <| tG <| sm 1 rfl <| nL <| tRt <| rOk rfl ?_ nPo
     rw [zv9 (by intro h; simp [h] at hc13)]
    have hlen : a.length = b.length := by simp at hc13; omega
    refine tSk <| tQ <| tQ <| tG <| sm 1 rfl <| nL <| tBk <| Tr.sub (Sub.of (fr' := [(5, iInt 0), (0, .pv (z0g a)), (1, .pv (z0g b))]) ⟨rfl, rfl, rfl, trivial⟩) ?_
    refine Tr.loop (fun fr σ m => ∃ (k : Nat), (k <= a.length) /\ (z4d a b = z4d (a.drop k) (b.drop k)) /\ fr = [(5, iInt k), (0, .pv (z0g a)), (1, .pv (z0g b))] /\ σ = look [] /\ m = a.length - k) (n := a.length - 0) ?_ ?_
    ·exact ⟨0, Nat.zero_le _, rfl, rfl, rfl, rfl⟩
    rintro fr σ m ⟨k, hI0, hI1, rfl, rfl, rfl⟩
    refine tQ <| tQ <| tG <| sm 2 rfl <| cV rfl (oSm uT44 rfl) <| sm 1 rfl <| nL ?_
    refine tC rfl (fun hc17 => ?_) fun hc17 => ?_
    ·have hlt : k < a.length := by simpa using hc17
     have hd := List.drop_eq_getElem_cons hlt
     have hm := List.getElem_mem hlt
     have hi := z2r (List.getElem?_eq_getElem hlt)
     generalize a[k] = x at hd hm hi
     have hltw : k < b.length := by omega
     have hdw := List.drop_eq_getElem_cons hltw
     have hw := z2r (List.getElem?_eq_getElem hltw)
     generalize b[k] = y at hdw hw
     refine tSk <| tQ <| tBk <| tQ ?_
     refine Tr.cut (fr' := [(7, .ptr 107 0), (6, .ptr 106 0), (5, iInt k), (0, .pv (z0g a)), (1, .pv (z0g b))]) (σ' := look [(106, some (.box [iInt x.kind, iInt x.op, iInt x.n, iStr x.name, .pv (ints x.args), .pv (ints x.outs), .pv (ints x.params), .pv (kids x.kids)])), (107, some (.box [iInt y.kind, iInt y.op, iInt y.n, iStr y.name, .pv (ints y.args), .pv (ints y.outs), .pv (ints y.params), .pv (kids y.kids)]))]) ?_ ?_
     ·refine tDr z1a (fun k => k ∈ ([] : List Nat)) <| wR 4 [0, 1, 2, 3, 4, 5, 6, 7] kR0 (fun _ _ _ h => pn h.1) <| smR 2 rfl <| rV rfl rfl (iSq rfl rfl rfl uT44 hi tS43 rfl (by rfl)) <| rV rfl rfl (lEA rfl rfl uT43 rfl tS43 (lb rfl)) <| smR 2 rfl <| rV rfl rfl (iSq rfl rfl rfl uT44 hw tS43 rfl (by rfl)) <| rV rfl rfl (lEA rfl rfl uT43 rfl tS43 (lb rfl)) <| nR <| WA.all (rs := [8, 9]) kR0 sI0 ?_
      refine fmc ⟨?_, fmc ⟨?_, by simp⟩⟩
      ·refine wI rfl rfl nf (z1g rfl) (fun _ _ => aLc (k := 106) rfl tZ43 rfl rfl rfl rfl) <| wO 9 kR0 <| wI rfl rfl nf (z1g rfl) (fun _ _ => aLc (k := 107) rfl tZ43 rfl rfl rfl rfl) <| wO 10 kR0 <| wI rfl rfl nf (nOl rfl) (fun _ _ => sBA rfl rfl rfl rfl rfl sI0 tS43 (flk rfl) (lb rfl)) <| wO 11 kR0 <| wI rfl rfl nf (nOl rfl) (fun _ _ => sBA rfl rfl rfl rfl rfl sI0 tS43 (flk rfl) (lb rfl)) <| wDn kR0 ?_
       refine ⟨rfl, Sub.of ⟨rfl, rfl, rfl, rfl, rfl, trivial⟩, ?_⟩
       exact zd3 rfl rfl (fun k h1 h2 => by simp [look, z00 (Ne.symm h1), z00 (Ne.symm h2)]) dC0
      refine wI rfl rfl nf (z1g rfl) (fun _ _ => aLc (k := 107) rfl tZ43 rfl rfl rfl rfl) <| wO 8 kR0 <| wI rfl rfl nf (z1g rfl) (fun _ _ => aLc (k := 106) rfl tZ43 rfl rfl rfl rfl) <| wO 10 kR0 <| wI rfl rfl nf (nOl rfl) (fun _ _ => sBA rfl rfl rfl rfl rfl sI0 tS43 (flk rfl) (lb rfl)) <| wO 11 kR0 <| wI rfl rfl nf (nOl rfl) (fun _ _ => sBA rfl rfl rfl rfl rfl sI0 tS43 (flk rfl) (lb rfl)) <| wDn kR0 ?_
      refine ⟨rfl, Sub.of ⟨rfl, rfl, rfl, rfl, rfl, trivial⟩, ?_⟩
      exact zd3 rfl rfl (fun k h1 h2 => by simp [look, z00 (Ne.symm h1), z00 (Ne.symm h2)]) dC0
     refine Tr.freezeBox (t := 6) (k := 106) rfl rfl rfl <| Tr.freezeBox (t := 7) (k := 107) rfl rfl rfl <| Tr.heap (σ' := look []) (fun k => by simp only [look]; cases Nat.beq 107 k <;> cases Nat.beq 106 k <;> rfl) <| tQ <| tQ <| tG <| sm 6 rfl ?_
     refine wS 33 rfl (fun hb33 => ?_) fun hb33 => ?_
     ·refine sm 53 rfl <| nL <| Tr.condT rfl <| tQ <| tG <| sm 1 rfl <| nL <| tRt <| rOk rfl ?_ nPo
      have hsh : z67 x y = false := by
        clear hd hdw hm hi hw hI1
        simp_all [z67]
      rw [hI1, hd, hdw]
      simp [z4d, z55, hsh]
     refine sm 7 rfl ?_
     refine wS 40 rfl (fun hb40 => ?_) fun hb40 => ?_
     ·refine sm 46 rfl <| nL <| Tr.condT rfl <| tQ <| tG <| sm 1 rfl <| nL <| tRt <| rOk rfl ?_ nPo
      have hsh : z67 x y = false := by
        clear hd hdw hm hi hw hI1
        simp_all [z67]
      rw [hI1, hd, hdw]
      simp [z4d, z55, hsh]
     refine sm 7 rfl ?_
     refine wS 47 rfl (fun hb47 => ?_) fun hb47 => ?_
     ·refine sm 39 rfl <| nL <| Tr.condT rfl <| tQ <| tG <| sm 1 rfl <| nL <| tRt <| rOk rfl ?_ nPo
      have hsh : z67 x y = false := by
        clear hd hdw hm hi hw hI1
        simp_all [z67]
      rw [hI1, hd, hdw]
      simp [z4d, z55, hsh]
     refine sm 4 rfl <| yV rfl rfl (bSt rfl rfl rfl rfl) <| sm 2 rfl ?_
     refine wS 54 rfl (fun hb54 => ?_) fun hb54 => ?_
     ·refine sm 32 rfl <| nL <| Tr.condT rfl <| tQ <| tG <| sm 1 rfl <| nL <| tRt <| rOk rfl ?_ nPo
      have hsh : z67 x y = false := by
        clear hd hdw hm hi hw hI1
        simp_all [z67]
      rw [hI1, hd, hdw]
      simp [z4d, z55, hsh]
     refine sm 2 rfl <| yV rfl rfl (oSm uT41 rfl) <| sm 2 rfl <| yV rfl rfl (oSm uT41 rfl) <| sm 3 rfl ?_
     refine wS 63 rfl (fun hb63 => ?_) fun hb63 => ?_
     ·refine sm 23 rfl <| nL <| Tr.condT rfl <| tQ <| tG <| sm 1 rfl <| nL <| tRt <| rOk rfl ?_ nPo
      have hsh : z67 x y = false := by
        clear hd hdw hm hi hw hI1
        (simp_all [z67] <;> omega)
      rw [hI1, hd, hdw]
      simp [z4d, z55, hsh]
     refine sm 4 rfl <| WL.yes rfl rfl rfl rfl rfl rfl (z10 (z56 _ _) ent27 rfl rfl (sRf _ _) rfl) <| sm 3 rfl ?_
     refine wS 71 rfl (fun hb71 => ?_) fun hb71 => ?_
     ·refine sm 15 rfl <| nL <| Tr.condT rfl <| tQ <| tG <| sm 1 rfl <| nL <| tRt <| rOk rfl ?_ nPo
      have hsh : z67 x y = false := by
        clear hd hdw hm hi hw hI1
        simp_all [z67]
      rw [hI1, hd, hdw]
      simp [z4d, z55, hsh]
     refine sm 4 rfl <| WL.yes rfl rfl rfl rfl rfl rfl (z10 (z56 _ _) ent27 rfl rfl (sRf _ _) rfl) <| sm 3 rfl ?_
     refine wS 79 rfl (fun hb79 => ?_) fun hb79 => ?_
     ·refine sm 7 rfl <| nL <| Tr.condT rfl <| tQ <| tG <| sm 1 rfl <| nL <| tRt <| rOk rfl ?_ nPo
      have hsh : z67 x y = false := by
        clear hd hdw hm hi hw hI1
        simp_all [z67]
      rw [hI1, hd, hdw]
      simp [z4d, z55, hsh]
     refine sm 4 rfl <| WL.yes rfl rfl rfl rfl rfl rfl (z10 (z56 _ _) ent27 rfl rfl (sRf _ _) rfl) <| sm 2 rfl <| nL ?_
     refine tC rfl (fun hc86 => ?_) fun hc86 => ?_
     ·refine tQ <| tG <| sm 1 rfl <| nL <| tRt <| rOk rfl ?_ nPo
      have hsh : z67 x y = false := by
        clear hd hdw hm hi hw hI1
        simp_all [z67]
      rw [hI1, hd, hdw]
      simp [z4d, z55, hsh]
     refine tSk <| tQ <| tG <| sm 1 rfl <| nL <| tBk ?_
     have hsh : z67 x y = true := by
       clear hd hdw hm hi hw
       (simp_all [z67] <;> omega)
     have hkl : x.kids.length = y.kids.length := by
       clear hd hdw hm hi hw
       simp_all [z67]
     have hstart : z4d a b = (zi2 (x.kids.drop 0) (y.kids.drop 0) && z4d (a.drop (k + 1)) (b.drop (k + 1))) := by
       rw [hI1, hd, hdw]
       simp [z4d, z55, hsh]
     refine Tr.sub (Sub.of (fr' := [(8, iInt 0), (7, .pv (.ept [vInt y.kind, vInt y.op, vInt y.n, vStr y.name, ints y.args, ints y.outs, ints y.params, kids y.kids] 0)), (6, .pv (.ept [vInt x.kind, vInt x.op, vInt x.n, vStr x.name, ints x.args, ints x.outs, ints x.params, kids x.kids] 0)), (5, iInt k), (0, .pv (z0g a)), (1, .pv (z0g b))]) ⟨rfl, rfl, rfl, rfl, rfl, rfl, trivial⟩) ?_
     refine Tr.loop (fun fr σ m => ∃ (i : Nat), (i <= x.kids.length) /\ (z4d a b = (zi2 (x.kids.drop i) (y.kids.drop i) && z4d (a.drop (k + 1)) (b.drop (k + 1)))) /\ fr = [(8, iInt i), (7, .pv (.ept [vInt y.kind, vInt y.op, vInt y.n, vStr y.name, ints y.args, ints y.outs, ints y.params, kids y.kids] 0)), (6, .pv (.ept [vInt x.kind, vInt x.op, vInt x.n, vStr x.name, ints x.args, ints x.outs, ints x.params, kids x.kids] 0)), (5, iInt k), (0, .pv (z0g a)), (1, .pv (z0g b))] /\ σ = look [] /\ m = x.kids.length - i) (n := x.kids.length - 0) ?_ ?_
     ·exact ⟨0, Nat.zero_le _, hstart, rfl, rfl, rfl⟩
     rintro fr σ m ⟨i, hJ0, hJ1, rfl, rfl, rfl⟩
     refine tQ <| tQ <| tG <| sm 3 rfl ?_
     refine WL.lenOf (t := 89) rfl (fun hl3 => ?_)
     simp only [List.length_map] at hl3
     refine cV rfl (oSm uT41 rfl) <| sm 1 rfl <| nL ?_
     refine tC rfl (fun hc91 => ?_) fun hc91 => ?_
     ·have hlt2 : i < x.kids.length := by simpa using hc91
      have hd2 := List.drop_eq_getElem_cons hlt2
      have hm2 := List.getElem_mem hlt2
      have hi2 := z0i (f := eKid) (List.getElem?_eq_getElem hlt2)
      generalize x.kids[i] = p at hd2 hm2 hi2
      have hdec : SizeOf.sizeOf p < N := Nat.lt_of_lt_of_le (z7j hm rfl hm2) (Nat.le_of_lt_succ hN)
      have hltw2 : i < y.kids.length := by omega
      have hdw2 := List.drop_eq_getElem_cons hltw2
      have hw2 := z0i (f := eKid) (List.getElem?_eq_getElem hltw2)
      generalize y.kids[i] = q at hdw2 hw2
      refine tSk <| tQ <| tBk <| tQ <| tDr z1a (fun k => k ∈ ([] : List Nat)) <| wR 2 [0, 1, 2, 3, 4, 5, 6, 7, 8, 9] kR0 h30 <| smR 3 rfl <| rV rfl rfl (iSq rfl rfl rfl uT41 hi2 tS44 rfl (by rfl)) <| smR 4 rfl <| rV rfl rfl (iSq rfl rfl rfl uT41 hw2 tS44 rfl (by rfl)) <| smR 1 rfl <| nR ?_
      refine wO 10 kR0 <| wI rfl rfl nf nw (fun _ _ => ocq (ih p q hdec) ent28 rfl rfl) <| wR 0 [11] kR0 h30 <| smR 1 rfl <| nR <| wDn kR0 ?_
      refine tC rfl (fun hc105 => ?_) fun hc105 => ?_
      ·refine tQ <| tG <| sm 1 rfl <| nL <| tRt <| rOk rfl ?_ nPo
       have hpq : z4d p q = false := by simpa using hc105
       rw [hJ1, hd2, hdw2]
       simp [zi2, hpq]
      refine tSk <| tG <| sm 1 rfl <| cV rfl (oB rfl rfl (z0b rfl oM0)) <| sm 1 rfl <| nL ?_
      refine ⟨_, _, ?_, Sub.of (fr' := [(8, iInt (i + 1)), (7, .pv (.ept [vInt y.kind, vInt y.op, vInt y.n, vStr y.name, ints y.args, ints y.outs, ints y.params, kids y.kids] 0)), (6, .pv (.ept [vInt x.kind, vInt x.op, vInt x.n, vStr x.name, ints x.args, ints x.outs, ints x.params, kids x.kids] 0)), (5, iInt k), (0, .pv (z0g a)), (1, .pv (z0g b))]) ⟨rfl, rfl, rfl, rfl, rfl, rfl, trivial⟩, (i + 1), ?_, ?_, rfl, rfl, rfl⟩
      ·omega
      ·omega
      rw [hJ1, hd2, hdw2]
      have : z4d p q = true := by simpa using hc105
      simp [zi2, this]
     refine tEx <| tG <| sm 1 rfl <| cV rfl (oB rfl rfl (z0b rfl oM0)) <| sm 1 rfl <| nL ?_
     refine ⟨_, _, ?_, Sub.of (fr' := [(5, iInt (k + 1)), (0, .pv (z0g a)), (1, .pv (z0g b))]) ⟨rfl, rfl, rfl, trivial⟩, (k + 1), ?_, ?_, rfl, rfl, rfl⟩
     ·omega
     ·omega
     have hz1 : x.kids.drop i = [] := List.drop_eq_nil_of_le (by simpa using hc91)
     have hz2 : y.kids.drop i = [] := List.drop_eq_nil_of_le (by rw [<- hkl]; simpa using hc91)
     rw [hJ1, hz1, hz2]
     simp [zi2]
    refine tEx <| tQ <| tG <| sm 1 rfl <| nL <| tRt <| rOk rfl ?_ nPo
    have hge : a.length <= k := by simpa using hc17
    rw [hI1, List.drop_eq_nil_of_le hge, List.drop_eq_nil_of_le oM0]
    rfl
theorem zk9 (a b : List Nd) : SC Tryz.prog 28 [.pv (z0g a), .pv (z0g b)] [] (fun _ => False) (iBool (z4d a b)) [] := z9e _ a b (Nat.lt_succ_self _)
theorem y5b (u v : Un) : SC Tryz.prog 15 [.pv u.enc, .pv v.enc] [] (fun _ => False) (iBool (z74 u v)) [] := by
  refine SC.of Tryz.func15 rfl (lb rfl) fun F ρ w => ?_
  refine tQ <| tG <| cE rfl (z1d rfl rfl) <| cE rfl (z1d rfl rfl) <| sm 1 rfl <| nL <| tQ <| tQ <| tG <| sm 2 rfl <| cV rfl (oSm uT22 rfl) <| sm 2 rfl ?_
  refine cV rfl (oSm uT22 rfl) <| sm 2 rfl ?_
  refine wS 16 rfl (fun hb16 => ?_) fun hb16 => ?_
  ·refine sm 8 rfl <| nL <| Tr.condT rfl <| tQ <| tG <| sm 1 rfl <| nL <| tRt <| rOk rfl ?_ nPo
   refine congrArg (fun b => iBool b) ?_
   have hne : ¬ (u.arrays.length = v.arrays.length /\ u.flows.length = v.flows.length) := by
     rintro ⟨h1, h2⟩
     simp_all
   unfold z74
   by_cases h1 : u.arrays.length = v.arrays.length
   ·have h2 : ¬ u.flows.length = v.flows.length := fun h2 => hne ⟨h1, h2⟩
    simp [h2]
   simp [h1]
  refine sm 2 rfl <| yV rfl rfl (oSm uT23 rfl) <| sm 2 rfl <| yV rfl rfl (oSm uT23 rfl) <| sm 2 rfl <| nL ?_
  refine tC rfl (fun hc24 => ?_) fun hc24 => ?_
  ·refine tQ <| tG <| sm 1 rfl <| nL <| tRt <| rOk rfl ?_ nPo
   refine congrArg (fun b => iBool b) ?_
   have hne : ¬ (u.arrays.length = v.arrays.length /\ u.flows.length = v.flows.length) := by
     rintro ⟨h1, h2⟩
     simp_all
   unfold z74
   by_cases h1 : u.arrays.length = v.arrays.length
   ·have h2 : ¬ u.flows.length = v.flows.length := fun h2 => hne ⟨h1, h2⟩
    simp [h2]
   simp [h1]
  have hlen : u.arrays.length = v.arrays.length /\ u.flows.length = v.flows.length := by
    (simp_all <;> omega)
  refine tSk <| tQ <| tQ <| tG <| sm 1 rfl <| nL <| tBk <| Tr.sub (Sub.of (fr' := [(5, iInt 0), (2, .pv (.ept [arrs u.arrays, flws u.flows] 0)), (3, .pv (.ept [arrs v.arrays, flws v.flows] 0))]) ⟨rfl, rfl, rfl, trivial⟩) ?_
  refine Tr.loop (fun fr σ m => ∃ (k : Nat), (k <= u.arrays.length) /\ (z8f u.arrays v.arrays = z8f (u.arrays.drop k) (v.arrays.drop k)) /\ fr = [(5, iInt k), (2, .pv (.ept [arrs u.arrays, flws u.flows] 0)), (3, .pv (.ept [arrs v.arrays, flws v.flows] 0))] /\ σ = look [] /\ m = u.arrays.length - k) (n := u.arrays.length - 0) ?_ ?_
  ·exact ⟨0, Nat.zero_le _, rfl, rfl, rfl, rfl⟩
  rintro fr σ m ⟨k, hI0, hI1, rfl, rfl, rfl⟩
  refine tQ <| tQ <| tG <| sm 3 rfl ?_
  refine WL.lenOf (t := 27) rfl (fun hl1 => ?_)
  simp only [List.length_map] at hl1
  refine cV rfl (oSm uT22 rfl) <| sm 1 rfl <| nL ?_
  refine tC rfl (fun hc29 => ?_) fun hc29 => ?_
  ·have hlt : k < u.arrays.length := by simpa using hc29
   have hd := List.drop_eq_getElem_cons hlt
   have hm := List.getElem_mem hlt
   have hi := z0i (f := Ar.enc) (List.getElem?_eq_getElem hlt)
   generalize u.arrays[k] = x at hd hm hi
   have hltw : k < v.arrays.length := by omega
   have hdw := List.drop_eq_getElem_cons hltw
   have hw := z0i (f := Ar.enc) (List.getElem?_eq_getElem hltw)
   generalize v.arrays[k] = y at hdw hw
   refine tSk <| tQ <| tBk <| tQ <| Tr.still z1a kR0 rfl <| smS 3 rfl <| sV rfl (iSq rfl rfl rfl uT22 hi tS49 rfl (by rfl)) <| sV rfl (lEA rfl rfl Tryz.underlying49 rfl tS49 (lb rfl)) <| smS 3 rfl <| sV rfl (iSq rfl rfl rfl uT22 hw tS49 rfl (by rfl)) <| sV rfl (lEA rfl rfl Tryz.underlying49 rfl tS49 (lb rfl)) <| sV rfl (zp3 rfl rfl rfl Tryz.underlying49 uT9 uT3 rfl rfl dC0 dC0 kR0 kR0) ?_
   refine WS.nil ?_
   refine tC rfl (fun hc42 => ?_) fun hc42 => ?_
   ·refine tQ <| tG <| sm 1 rfl <| nL <| tRt <| rOk rfl ?_ nPo
    have hxy : y2c x y = false := by
      clear hd hdw hm hi hw hI1
      cases hb1 : (x.name.toList == y.name.toList) <;> cases hb2 : (x.size == y.size) <;> simp_all [y2c]
    have hA : z8f u.arrays v.arrays = false := by rw [hI1, hd, hdw]; simp [z8f, hxy]
    simp [z74, hA]
   refine tSk <| tG <| sm 1 rfl <| cV rfl (oB rfl rfl (z0b rfl oM0)) <| sm 1 rfl <| nL ?_
   refine ⟨_, _, ?_, Sub.of (fr' := [(5, iInt (k + 1)), (2, .pv (.ept [arrs u.arrays, flws u.flows] 0)), (3, .pv (.ept [arrs v.arrays, flws v.flows] 0))]) ⟨rfl, rfl, rfl, trivial⟩, (k + 1), ?_, ?_, rfl, rfl, rfl⟩
   ·omega
   ·omega
   rw [hI1, hd, hdw]
   have hxy : y2c x y = true := by
     clear hd hdw hm hi hw
     simp_all [y2c]
   simp [z8f, hxy]
  refine tEx <| tQ <| tQ ?_
  have hAs : z8f u.arrays v.arrays = true := by
    have hge : u.arrays.length <= k := by simpa using hc29
    rw [hI1, List.drop_eq_nil_of_le hge, List.drop_eq_nil_of_le oM0]
    rfl
  refine tG <| sm 1 rfl <| nL <| tBk <| Tr.sub (Sub.of (fr' := [(6, iInt 0), (2, .pv (.ept [arrs u.arrays, flws u.flows] 0)), (3, .pv (.ept [arrs v.arrays, flws v.flows] 0))]) ⟨rfl, rfl, rfl, trivial⟩) ?_
  refine Tr.loop (fun fr σ m => ∃ (k : Nat), (k <= u.flows.length) /\ (z4j u.flows v.flows = z4j (u.flows.drop k) (v.flows.drop k)) /\ fr = [(6, iInt k), (2, .pv (.ept [arrs u.arrays, flws u.flows] 0)), (3, .pv (.ept [arrs v.arrays, flws v.flows] 0))] /\ σ = look [] /\ m = u.flows.length - k) (n := u.flows.length - 0) ?_ ?_
  ·exact ⟨0, Nat.zero_le _, rfl, rfl, rfl, rfl⟩
  rintro fr σ m ⟨k, hI0, hI1, rfl, rfl, rfl⟩
  refine tQ <| tQ <| tG <| sm 3 rfl ?_
  refine WL.lenOf (t := 45) rfl (fun hl1 => ?_)
  simp only [List.length_map] at hl1
  refine cV rfl (oSm uT23 rfl) <| sm 1 rfl <| nL ?_
  refine tC rfl (fun hc47 => ?_) fun hc47 => ?_
  ·have hlt : k < u.flows.length := by simpa using hc47
   have hd := List.drop_eq_getElem_cons hlt
   have hm := List.getElem_mem hlt
   have hi := z0i (f := Fl.enc) (List.getElem?_eq_getElem hlt)
   generalize u.flows[k] = x at hd hm hi
   have hltw : k < v.flows.length := by omega
   have hdw := List.drop_eq_getElem_cons hltw
   have hw := z0i (f := Fl.enc) (List.getElem?_eq_getElem hltw)
   generalize v.flows[k] = y at hdw hw
   refine tSk <| tQ <| tBk <| tQ ?_
   refine Tr.cut (fr' := [(8, .ptr 108 0), (7, .ptr 107 0), (6, iInt k), (2, .pv (.ept [arrs u.arrays, flws u.flows] 0)), (3, .pv (.ept [arrs v.arrays, flws v.flows] 0))]) (σ' := look [(107, some (.box [iStr x.name, iInt x.ty, iInt x.params, .pv (ints x.types), .pv (z0g x.body)])), (108, some (.box [iStr y.name, iInt y.ty, iInt y.params, .pv (ints y.types), .pv (z0g y.body)]))]) ?_ ?_
   ·refine tDr z1a (fun k => k ∈ ([] : List Nat)) <| wR 4 [0, 1, 2, 3, 4, 5, 6, 7, 8, 9] kR0 (fun _ _ _ h => pn h.1) <| smR 3 rfl <| rV rfl rfl (iSq rfl rfl rfl uT23 hi tS51 rfl (by rfl)) <| rV rfl rfl (lEA rfl rfl Tryz.underlying51 rfl tS51 (lb rfl)) <| smR 3 rfl <| rV rfl rfl (iSq rfl rfl rfl uT23 hw tS51 rfl (by rfl)) <| rV rfl rfl (lEA rfl rfl Tryz.underlying51 rfl tS51 (lb rfl)) <| nR <| WA.all (rs := [10, 11]) kR0 sI0 ?_
    refine fmc ⟨?_, fmc ⟨?_, by simp⟩⟩
    ·refine wI rfl rfl nf (z1g rfl) (fun _ _ => aLc (k := 107) rfl tZ51 rfl rfl rfl rfl) <| wO 11 kR0 <| wI rfl rfl nf (z1g rfl) (fun _ _ => aLc (k := 108) rfl tZ51 rfl rfl rfl rfl) <| wO 12 kR0 <| wI rfl rfl nf (nOl rfl) (fun _ _ => sBA rfl rfl rfl rfl rfl sI0 tS51 (flk rfl) (lb rfl)) <| wO 13 kR0 <| wI rfl rfl nf (nOl rfl) (fun _ _ => sBA rfl rfl rfl rfl rfl sI0 tS51 (flk rfl) (lb rfl)) <| wDn kR0 ?_
     refine ⟨rfl, Sub.of ⟨rfl, rfl, rfl, rfl, rfl, trivial⟩, ?_⟩
     exact zd3 rfl rfl (fun k h1 h2 => by simp [look, z00 (Ne.symm h1), z00 (Ne.symm h2)]) dC0
    refine wI rfl rfl nf (z1g rfl) (fun _ _ => aLc (k := 108) rfl tZ51 rfl rfl rfl rfl) <| wO 10 kR0 <| wI rfl rfl nf (z1g rfl) (fun _ _ => aLc (k := 107) rfl tZ51 rfl rfl rfl rfl) <| wO 12 kR0 <| wI rfl rfl nf (nOl rfl) (fun _ _ => sBA rfl rfl rfl rfl rfl sI0 tS51 (flk rfl) (lb rfl)) <| wO 13 kR0 <| wI rfl rfl nf (nOl rfl) (fun _ _ => sBA rfl rfl rfl rfl rfl sI0 tS51 (flk rfl) (lb rfl)) <| wDn kR0 ?_
    refine ⟨rfl, Sub.of ⟨rfl, rfl, rfl, rfl, rfl, trivial⟩, ?_⟩
    exact zd3 rfl rfl (fun k h1 h2 => by simp [look, z00 (Ne.symm h1), z00 (Ne.symm h2)]) dC0
   refine Tr.freezeBox (t := 7) (k := 107) rfl rfl rfl <| Tr.freezeBox (t := 8) (k := 108) rfl rfl rfl <| Tr.heap (σ' := look []) (fun k => by simp only [look]; cases Nat.beq 107 k <;> cases Nat.beq 108 k <;> rfl) <| tQ <| tG <| sm 4 rfl <| cV rfl (bSt rfl rfl rfl rfl) <| sm 1 rfl ?_
   refine wS 65 rfl (fun hb65 => ?_) fun hb65 => ?_
   ·refine sm 29 rfl <| nL <| Tr.condT rfl <| tQ <| tG <| sm 1 rfl <| nL <| tRt <| rOk rfl ?_ nPo
    have hxy : z9c x y = false := by
      clear hd hdw hm hi hw hI1
      simp_all [z9c]
    have hF : z4j u.flows v.flows = false := by rw [hI1, hd, hdw]; simp [z4j, hxy]
    simp [z74, hF]
   refine sm 7 rfl ?_
   refine wS 72 rfl (fun hb72 => ?_) fun hb72 => ?_
   ·refine sm 22 rfl <| nL <| Tr.condT rfl <| tQ <| tG <| sm 1 rfl <| nL <| tRt <| rOk rfl ?_ nPo
    have hxy : z9c x y = false := by
      clear hd hdw hm hi hw hI1
      simp_all [z9c]
    have hF : z4j u.flows v.flows = false := by rw [hI1, hd, hdw]; simp [z4j, hxy]
    simp [z74, hF]
   refine sm 7 rfl ?_
   refine wS 79 rfl (fun hb79 => ?_) fun hb79 => ?_
   ·refine sm 15 rfl <| nL <| Tr.condT rfl <| tQ <| tG <| sm 1 rfl <| nL <| tRt <| rOk rfl ?_ nPo
    have hxy : z9c x y = false := by
      clear hd hdw hm hi hw hI1
      simp_all [z9c]
    have hF : z4j u.flows v.flows = false := by rw [hI1, hd, hdw]; simp [z4j, hxy]
    simp [z74, hF]
   refine sm 4 rfl <| WL.yes rfl rfl rfl rfl rfl rfl (z10 (z56 _ _) ent27 rfl rfl (sRf _ _) rfl) <| sm 3 rfl ?_
   refine wS 87 rfl (fun hb87 => ?_) fun hb87 => ?_
   ·refine sm 7 rfl <| nL <| Tr.condT rfl <| tQ <| tG <| sm 1 rfl <| nL <| tRt <| rOk rfl ?_ nPo
    have hxy : z9c x y = false := by
      clear hd hdw hm hi hw hI1
      simp_all [z9c]
    have hF : z4j u.flows v.flows = false := by rw [hI1, hd, hdw]; simp [z4j, hxy]
    simp [z74, hF]
   refine sm 4 rfl <| WL.yes rfl rfl rfl rfl rfl rfl (z10 (zk9 _ _) ent28 rfl rfl (sRf _ _) rfl) <| sm 2 rfl <| nL ?_
   refine tC rfl (fun hc94 => ?_) fun hc94 => ?_
   ·refine tQ <| tG <| sm 1 rfl <| nL <| tRt <| rOk rfl ?_ nPo
    have hxy : z9c x y = false := by
      clear hd hdw hm hi hw hI1
      simp_all [z9c]
    have hF : z4j u.flows v.flows = false := by rw [hI1, hd, hdw]; simp [z4j, hxy]
    simp [z74, hF]
   refine tSk <| tG <| sm 1 rfl <| cV rfl (oB rfl rfl (z0b rfl oM0)) <| sm 1 rfl <| nL ?_
   refine ⟨_, _, ?_, Sub.of (fr' := [(6, iInt (k + 1)), (2, .pv (.ept [arrs u.arrays, flws u.flows] 0)), (3, .pv (.ept [arrs v.arrays, flws v.flows] 0))]) ⟨rfl, rfl, rfl, trivial⟩, (k + 1), ?_, ?_, rfl, rfl, rfl⟩
   ·omega
   ·omega
   rw [hI1, hd, hdw]
   have hxy : z9c x y = true := by
     clear hd hdw hm hi hw
     simp_all [z9c]
   simp [z4j, hxy]
  refine tEx <| tQ <| tG <| sm 1 rfl <| nL <| tRt <| rOk rfl ?_ nPo
  have hge : u.flows.length <= k := by simpa using hc47
  have hF : z4j u.flows v.flows = true := by rw [hI1, List.drop_eq_nil_of_le hge, List.drop_eq_nil_of_le oM0]; rfl
  simp [z74, hAs, hF, hlen.1, hlen.2]
theorem y5a (u : Un) (f : Fl) (hg : ∀ g ∈ u.flows, 0 <= g.params /\ g.params <= g.types.length) (hb : lsW f.body <= 536870912) : SC Tryz.prog 33 [.pv u.enc, .pv (.agg f.enc)] [] (fun _ => False) (iBool (z2v u f)) [] := by
  refine SC.of Tryz.func33 rfl (lb rfl) fun F ρ w => ?_
  refine tQ <| tG <| cE rfl (z1d rfl rfl) <| cE rfl (z1d rfl rfl) <| sm 1 rfl <| nL <| tQ <| tQ <| tG <| sm 4 rfl ?_
  refine wS 12 rfl (fun hb12 => ?_) fun hb12 => ?_
  ·refine sm 18 rfl <| nL <| Tr.condT rfl <| tQ <| tG <| sm 1 rfl <| nL <| tRt <| rOk rfl ?_ nPo
   refine congrArg (fun b => iBool b) ?_
   have hno : (!decide (f.params < 0) && !decide (f.params > 8) && !decide (f.params > f.types.length) && !decide ((f.types.length : Int) > 20000)) = false := by
     simp_all
   simp only [z2v, hno, Bool.false_and]
  refine sm 5 rfl ?_
  refine wS 17 rfl (fun hb17 => ?_) fun hb17 => ?_
  ·refine sm 13 rfl <| nL <| Tr.condT rfl <| tQ <| tG <| sm 1 rfl <| nL <| tRt <| rOk rfl ?_ nPo
   refine congrArg (fun b => iBool b) ?_
   have hno : (!decide (f.params < 0) && !decide (f.params > 8) && !decide (f.params > f.types.length) && !decide ((f.types.length : Int) > 20000)) = false := by
     simp_all
   simp only [z2v, hno, Bool.false_and]
  refine sm 4 rfl <| yV rfl rfl (oSm uT35 rfl) <| sm 3 rfl ?_
  refine wS 25 rfl (fun hb25 => ?_) fun hb25 => ?_
  ·refine sm 5 rfl <| nL <| Tr.condT rfl <| tQ <| tG <| sm 1 rfl <| nL <| tRt <| rOk rfl ?_ nPo
   refine congrArg (fun b => iBool b) ?_
   have hno : (!decide (f.params < 0) && !decide (f.params > 8) && !decide (f.params > f.types.length) && !decide ((f.types.length : Int) > 20000)) = false := by
     simp_all
   simp only [z2v, hno, Bool.false_and]
  ·refine sm 2 rfl <| yV rfl rfl (oSm uT35 rfl) <| sm 2 rfl <| nL ?_
   refine tC rfl (fun hc30 => ?_) fun hc30 => ?_
   ·refine tQ <| tG <| sm 1 rfl <| nL <| tRt <| rOk rfl ?_ nPo
    refine congrArg (fun b => iBool b) ?_
    have hno : (!decide (f.params < 0) && !decide (f.params > 8) && !decide (f.params > f.types.length) && !decide ((f.types.length : Int) > 20000)) = false := by
      simp_all
    simp only [z2v, hno, Bool.false_and]
   ·have hpar : 0 <= f.params /\ f.params <= 8 /\ f.params <= f.types.length /\ f.types.length <= 20000 := by
      (simp_all <;> omega)
    refine tSk <| tQ <| tQ <| tG <| sm 1 rfl <| nL <| tBk <| Tr.sub (Sub.of (fr' := [(5, iInt 0), (2, .pv (.ept [arrs u.arrays, flws u.flows] 0)), (3, .pv (.ept [vStr f.name, vInt f.ty, vInt f.params, ints f.types, z0g f.body] 0))]) ⟨rfl, rfl, rfl, trivial⟩) ?_
    refine Tr.loop (fun fr σ m => ∃ (k : Nat), (k <= f.types.length) /\ (f.types.all (fun t => t == 1 || t == 2) = (f.types.drop k).all (fun t => t == 1 || t == 2)) /\ fr = [(5, iInt k), (2, .pv (.ept [arrs u.arrays, flws u.flows] 0)), (3, .pv (.ept [vStr f.name, vInt f.ty, vInt f.params, ints f.types, z0g f.body] 0))] /\ σ = look [] /\ m = f.types.length - k) (n := f.types.length - 0) ?_ ?_
    ·exact ⟨0, Nat.zero_le _, rfl, rfl, rfl, rfl⟩
    rintro fr σ m ⟨k, hI0, hI1, rfl, rfl, rfl⟩
    refine tQ <| tQ <| tG <| sm 3 rfl <| cV rfl (oSm uT35 rfl) <| sm 1 rfl <| nL ?_
    refine tC rfl (fun hc35 => ?_) fun hc35 => ?_
    ·have hlt : k < f.types.length := by simpa using hc35
     have hd := List.drop_eq_getElem_cons hlt
     have hm := List.getElem_mem hlt
     have hi := z0i (f := eInt) (List.getElem?_eq_getElem hlt)
     generalize f.types[k] = x at hd hm hi
     refine tSk <| tQ <| tBk <| tQ <| tG <| sm 3 rfl <| cV rfl (iSq rfl rfl rfl uT35 hi tS3 rfl (by rfl)) <| sm 3 rfl ?_
     refine wS 44 rfl (fun hb44 => ?_) fun hb44 => ?_
     ·refine sm 3 rfl <| yV rfl rfl (iSq rfl rfl rfl uT35 hi tS3 rfl (by rfl)) <| sm 3 rfl <| nL ?_
      refine tC rfl (fun hc51 => ?_) fun hc51 => ?_
      ·refine tQ <| tG <| sm 1 rfl <| nL <| tRt <| rOk rfl ?_ nPo
       have hx : (x == 1 || x == 2) = false := by
         clear hd hm hi hI1
         simp_all
       have hty : f.types.all (fun t => t == 1 || t == 2) = false := by rw [hI1, hd]; simp only [List.all_cons, hx, Bool.false_and]
       simp only [z2v, hty, Bool.and_false, Bool.false_and]
      refine tSk <| tG <| sm 1 rfl <| cV rfl (oB rfl rfl (z0b rfl oM0)) <| sm 1 rfl <| nL ?_
      refine ⟨_, _, ?_, Sub.of (fr' := [(5, iInt (k + 1)), (2, .pv (.ept [arrs u.arrays, flws u.flows] 0)), (3, .pv (.ept [vStr f.name, vInt f.ty, vInt f.params, ints f.types, z0g f.body] 0))]) ⟨rfl, rfl, rfl, trivial⟩, (k + 1), ?_, ?_, rfl, rfl, rfl⟩
      ·omega
      ·omega
      rw [hI1, hd]
      have hx : (x == 1 || x == 2) = true := by
        clear hd hm hi hI1
        simp_all
      simp only [List.all_cons, hx, Bool.true_and]
     refine sm 7 rfl <| nL <| Tr.condF rfl <| tSk <| tG <| sm 1 rfl <| cV rfl (oB rfl rfl (z0b rfl oM0)) <| sm 1 rfl <| nL ?_
     refine ⟨_, _, ?_, Sub.of (fr' := [(5, iInt (k + 1)), (2, .pv (.ept [arrs u.arrays, flws u.flows] 0)), (3, .pv (.ept [vStr f.name, vInt f.ty, vInt f.params, ints f.types, z0g f.body] 0))]) ⟨rfl, rfl, rfl, trivial⟩, (k + 1), ?_, ?_, rfl, rfl, rfl⟩
     ·omega
     ·omega
     rw [hI1, hd]
     have hx : (x == 1 || x == 2) = true := by
       clear hd hm hi hI1
       simp_all
     simp only [List.all_cons, hx, Bool.true_and]
    refine tEx <| tQ ?_
    have hty : f.types.all (fun t => t == 1 || t == 2) = true := by
      rw [hI1, List.drop_eq_nil_of_le (by simpa using hc35)]; rfl
    have hpt : f.params.toNat <= f.types.length := by omega
    have hpi : f.params = (f.params.toNat : Int) := by omega
    refine tDr z1a (fun k => k < 3) <| wR 4 [0, 1, 2, 3, 4] kR0 h30 <| rV rfl rfl (lEA rfl rfl uT25 rfl tS25 (lb rfl)) <| rV rfl rfl (lEA rfl rfl Tryz.underlying51 rfl tS51 (lb rfl)) <| smR 2 rfl <| rV rfl rfl (oSm uT35 rfl) <| nR <| wO 5 kR0 <| wI rfl rfl nf (z1g rfl) (fun _ _ => z15 (k := 4) (s := ⟨4, 1⟩) rfl rfl rfl Tryz.underlying87 tZ4 tC4 rfl dC0 oM0 oM0 rfl rfl rfl rfl) <| wR 2 [6] kR0 h30 <| rV rfl rfl (by exact z99 rfl rfl tZ89 tP89 rfl (z7h (by (simp [y0y, firm1, look, PV.one]; exact ⟨_, _, ⟨rfl, rfl⟩, by simp⟩)))) <| nR ?_
    refine wO 7 kR0 <| wI rfl rfl nf (z1g rfl) (fun _ _ => z5l (k := 3) rfl rfl rfl rfl rfl rfl rfl) <| wR 0 [8] kR0 h30 <| smR 1 rfl <| nR <| wDn kR0 <| tQ <| tG <| sm 1 rfl <| nL <| tQ <| tQ ?_
    refine Tr.grow (t := 7) (k := 107) ⟨3, 1⟩ rfl rfl rfl rfl rfl <| tG <| sm 1 rfl <| nL <| tBk <| Tr.sub (Sub.of (fr' := [(8, iInt 0), (7, .sl 107 (iota 0).length), (6, .ptr 3 0), (2, .pv (.ept [arrs u.arrays, flws u.flows] 0)), (3, .pv (.ept [vStr f.name, vInt f.ty, vInt f.params, ints f.types, z0g f.body] 0))]) ⟨rfl, rfl, rfl, rfl, rfl, trivial⟩) ?_
    refine Tr.heap (σ' := look ((107, some (.row ⟨3, 1⟩ ((iota 0).map eInt))) :: up (ckHp u f 4 (z2u 0 f.types.length)))) (fun k => by
  rw [show (z2u 0 f.types.length) = List.replicate f.types.length false by simp [z2u]]
  simp only [ckHp, up, List.map_cons, List.map_nil, look, List.length_map, List.length_replicate, List.map_replicate, iota, List.range_zero]
  by_cases h3 : 3 = k
  · subst h3; rfl
  · by_cases h4 : 4 = k
    · subst h4; rfl
    · simp [z00 h3, z00 h4]) ?_
    refine Tr.loop (fun fr σ m => ∃ (k : Nat), (k <= f.params.toNat) /\ fr = [(8, iInt k), (7, .sl 107 (iota k).length), (6, .ptr 3 0), (2, .pv (.ept [arrs u.arrays, flws u.flows] 0)), (3, .pv (.ept [vStr f.name, vInt f.ty, vInt f.params, ints f.types, z0g f.body] 0))] /\ σ = look ((107, some (.row ⟨3, 1⟩ ((iota k).map eInt))) :: up (ckHp u f 4 (z2u k f.types.length))) /\ m = f.params.toNat - k) (n := f.params.toNat - 0) ?_ ?_
    ·exact ⟨0, Nat.zero_le _, rfl, rfl, rfl⟩
    rintro fr σ m ⟨k, hJ0, rfl, rfl, rfl⟩
    refine tQ <| tQ <| tG <| sm 4 rfl <| nL ?_
    refine tC rfl (fun hc63 => ?_) fun hc63 => ?_
    ·have hkp : k < f.params.toNat := by simp at hc63; omega
     have hkt : k < f.types.length := by omega
     have hil := z8l k
     have hst : ((z2u k f.types.length).map zc4)[k]? = some [vBool false] := by
       rw [List.getElem?_map]
       simp only [z2u]
       rw [List.getElem?_append_right sI0]
       simp [List.getElem?_replicate, zc4]
       omega
     have hstl : k < ((z2u k f.types.length).map zc4).length := by rw [List.length_map, z2x oM0]; exact hkt
     refine tSk <| tQ <| tBk <| tQ <| tG <| sm 1 rfl <| cV rfl (nCk rfl rfl rfl) <| sm 3 rfl <| cV rfl (iRw rfl rfl rfl rfl rfl Tryz.underlying87 tS4 (by assumption) (by rfl)) <| c0 (z1y rfl rfl rfl rfl rfl (Nat.add_zero _).symm (by assumption) sI0 tS4 rfl ((fun h => h))) <| nL <| tG ?_
     refine sm 2 rfl <| cE rfl (bSl rfl rfl uT35 tZ3 tS3 rfl rfl rfl rfl (fbk rfl) rfl) ?_
     refine cE rfl (aPp rfl rfl rfl rfl (by (simp; done)) ((fun h => h)) uT35 tB3 dC0 (by (simp [z03]; done)) (by (simp [z03, PV.one]; rfl)) (by simp [maxLen, z03]; omega) (by simp [z03]; omega)) ?_
     refine sm 1 rfl <| nL <| tG <| sm 1 rfl <| cV rfl (oB rfl rfl (z0b rfl oM0)) <| sm 1 rfl <| nL ?_
     refine ⟨_, _, ?_, Sub.of (fr' := [(8, iInt (k + 1)), (7, .sl 107 (iota (k + 1)).length), (6, .ptr 3 0), (2, .pv (.ept [arrs u.arrays, flws u.flows] 0)), (3, .pv (.ept [vStr f.name, vInt f.ty, vInt f.params, ints f.types, z0g f.body] 0))]) ⟨rfl, congrArg (fun z => some (IV.sl 107 z)) (by (simp [z8l, z03]; done)), rfl, rfl, rfl, trivial⟩, (k + 1), ?_, rfl, (funext fun j => by
  rw [<- y1r hkt, <- y46, List.map_append]
  simp only [ckHp, up, List.map_cons, List.map_nil, look, List.length_map, List.length_set]
  by_cases h7 : 107 = j
  · subst h7; rfl
  · by_cases h4 : 4 = j
    · subst h4; simp [List.map_set, zc4, show Nat.beq 3 4 = false from rfl, show Nat.beq 107 4 = false from rfl]
    · by_cases h3 : 3 = j
      · subst h3; simp [show Nat.beq 4 3 = false from rfl, show Nat.beq 107 3 = false from rfl]
      · simp [z00 h3, z00 h4, z00 h7]), rfl⟩
     all_goals omega
    refine tEx <| tQ ?_
    have hkp : k = f.params.toNat := by simp at hc63; omega
    subst hkp
    have hbl : (iota f.params.toNat).length + lsW f.body <= 1073741824 := by rw [z8l]; omega
    refine tG <| sm 4 rfl <| cV rfl (bPu rfl rfl tZ91 tP91 rfl (fbk rfl) rfl) <| cE rfl (z30 (fun k => k = 107) (y5d u f hg f.body 1 z21 (iota f.params.toNat) (z2u f.params.toNat f.types.length) ⟨by omega, by omega⟩ (z2x hpt) hbl) zs4 rfl rfl (sSm rfl (sSm rfl (sSm rfl (Subs.cons (fun _ _ _ _ h => z3i (q := whv z21) (PSub.agg (ps := [vBool false, vBool false, .val (.slice none 0 0), .val (.slice none 0 0), .val (.slice none 0 0)]) (And.intro (PSub.refl _) (And.intro (PSub.refl _) (And.intro PSub.nil (And.intro PSub.nil (And.intro PSub.nil trivial)))))) h) (sSm rfl Subs.nil))))) (And.intro LendOf.same (And.intro LendOf.same (And.intro (LendOf.row rfl rfl (by (simp; done)) (by rfl)) (And.intro LendOf.same (And.intro LendOf.same (trivial)))))) (fun k h => by subst h; rfl) (po2 rfl rfl) rfl (fun k (h : _) => (show False from h).elim) ⟨_, rfl⟩ (z35 (z31 ..))) <| sm 1 rfl <| nL <| tRt <| rOk rfl ?_ nPo
    have hno : (!decide (f.params < 0) && !decide (f.params > 8) && !decide (f.params > f.types.length) && !decide ((f.types.length : Int) > 20000)) = true := by
      simp
      omega
    simp only [z2v, hno, hty, Bool.true_and]
theorem zw2 (u : Un) : SC Tryz.prog 32 [.pv u.enc] [] (fun _ => False) (iBool (z0z u)) [] := by
  refine SC.of Tryz.func32 rfl (lb rfl) fun F ρ w => ?_
  refine tQ <| tG <| cE rfl (z1d rfl rfl) <| sm 1 rfl <| nL <| tQ <| tQ <| tG <| sm 1 rfl <| nL <| tBk <| Tr.sub (Sub.of (fr' := [(3, iInt 0), (1, .pv (.ept [arrs u.arrays, flws u.flows] 0))]) ⟨rfl, rfl, trivial⟩) ?_
  refine Tr.loop (fun fr σ m => ∃ (k : Nat), (k <= u.arrays.length) /\ (r8gA u u.arrays 0 = r8gA u (u.arrays.drop k) k) /\ fr = [(3, iInt k), (1, .pv (.ept [arrs u.arrays, flws u.flows] 0))] /\ σ = look [] /\ m = u.arrays.length - k) (n := u.arrays.length - 0) ?_ ?_
  ·exact ⟨0, Nat.zero_le _, rfl, rfl, rfl, rfl⟩
  rintro fr σ m ⟨k, hI0, hI1, rfl, rfl, rfl⟩
  refine tQ <| tQ <| tG <| sm 3 rfl ?_
  refine WL.lenOf (t := 10) rfl (fun hl1 => ?_)
  simp only [List.length_map] at hl1
  refine cV rfl (oSm uT22 rfl) <| sm 1 rfl <| nL ?_
  refine tC rfl (fun hc12 => ?_) fun hc12 => ?_
  ·have hlt : k < u.arrays.length := by simpa using hc12
   have hd := List.drop_eq_getElem_cons hlt
   have hm := List.getElem_mem hlt
   have hi := z0i (f := Ar.enc) (List.getElem?_eq_getElem hlt)
   generalize u.arrays[k] = x at hd hm hi
   refine tSk <| tQ <| tBk <| tQ <| tG <| sm 3 rfl <| cV rfl (iSq rfl rfl rfl uT22 hi tS49 rfl (by rfl)) <| cV rfl (lEA rfl rfl Tryz.underlying49 rfl tS49 (lb rfl)) <| cE rfl (aLc (k := 104) rfl tZ49 rfl rfl rfl rfl) <| c0 (sBA rfl rfl rfl rfl rfl ((fun h => h)) tS49 (flk rfl) (lb rfl)) <| nL <| tQ ?_
   refine Tr.freezeBox (t := 4) (k := 104) rfl rfl rfl <| Tr.heap (σ' := look []) (fun k => by simp only [look]; cases Nat.beq 104 k <;> rfl) <| tG <| sm 2 rfl <| cE rfl (ocq (zw1 _) ent47 rfl rfl) <| sm 2 rfl ?_
   refine wS 24 rfl (fun hb24 => ?_) fun hb24 => ?_
   ·refine sm 24 rfl <| nL <| Tr.condT rfl <| tQ <| tG <| sm 1 rfl <| nL <| tRt <| rOk rfl ?_ nPo
    have hx : gArr u x k = false := by
      clear hd hm hi hI1
      simp_all [gArr]
    have hA : r8gA u u.arrays 0 = false := by rw [hI1, hd]; simp only [r8gA, hx, Bool.false_and]
    simp only [z0z, hA, Bool.false_and]
   refine sm 5 rfl ?_
   refine wS 29 rfl (fun hb29 => ?_) fun hb29 => ?_
   ·refine sm 19 rfl <| nL <| Tr.condT rfl <| tQ <| tG <| sm 1 rfl <| nL <| tRt <| rOk rfl ?_ nPo
    have hx : gArr u x k = false := by
      clear hd hm hi hI1
      simp_all [gArr]
    have hA : r8gA u u.arrays 0 = false := by rw [hI1, hd]; simp only [r8gA, hx, Bool.false_and]
    simp only [z0z, hA, Bool.false_and]
   refine sm 5 rfl ?_
   refine wS 34 rfl (fun hb34 => ?_) fun hb34 => ?_
   ·refine sm 14 rfl <| nL <| Tr.condT rfl <| tQ <| tG <| sm 1 rfl <| nL <| tRt <| rOk rfl ?_ nPo
    have hx : gArr u x k = false := by
      clear hd hm hi hI1
      simp_all [gArr]
    have hA : r8gA u u.arrays 0 = false := by rw [hI1, hd]; simp only [r8gA, hx, Bool.false_and]
    simp only [z0z, hA, Bool.false_and]
   refine yV rfl rfl (lEA rfl rfl uT25 rfl tS25 (lb rfl)) <| sm 2 rfl <| WL.yes rfl rfl rfl rfl rfl rfl (z10 (z85 _ _) ent48 rfl rfl (sRf _ _) rfl) <| sm 4 rfl ?_
   refine wS 42 rfl (fun hb42 => ?_) fun hb42 => ?_
   ·refine sm 6 rfl <| nL <| Tr.condT rfl <| tQ <| tG <| sm 1 rfl <| nL <| tRt <| rOk rfl ?_ nPo
    have hx : gArr u x k = false := by
      clear hd hm hi hI1
      simp_all [gArr]
    have hA : r8gA u u.arrays 0 = false := by rw [hI1, hd]; simp only [r8gA, hx, Bool.false_and]
    simp only [z0z, hA, Bool.false_and]
   refine yV rfl rfl (lEA rfl rfl uT25 rfl tS25 (lb rfl)) <| sm 2 rfl <| WL.yes rfl rfl rfl rfl rfl rfl (z10 (z5b _ _) y1q rfl rfl (sRf _ _) rfl) <| sm 2 rfl <| nL ?_
   refine tC rfl (fun hc48 => ?_) fun hc48 => ?_
   ·refine tQ <| tG <| sm 1 rfl <| nL <| tRt <| rOk rfl ?_ nPo
    have hx : gArr u x k = false := by
      clear hd hm hi hI1
      simp_all [gArr]
    have hA : r8gA u u.arrays 0 = false := by rw [hI1, hd]; simp only [r8gA, hx, Bool.false_and]
    simp only [z0z, hA, Bool.false_and]
   refine tSk <| tG <| sm 1 rfl <| cV rfl (oB rfl rfl (z0b rfl oM0)) <| sm 1 rfl <| nL ?_
   refine ⟨_, _, ?_, Sub.of (fr' := [(3, iInt (k + 1)), (1, .pv (.ept [arrs u.arrays, flws u.flows] 0))]) ⟨rfl, rfl, trivial⟩, (k + 1), ?_, ?_, rfl, rfl, rfl⟩
   ·omega
   ·omega
   rw [hI1, hd]
   have hx : gArr u x k = true := by
     clear hd hm hi hI1
     simp_all [gArr]
   simp only [r8gA, hx, Bool.true_and]
   rfl
  refine tEx <| tQ <| tQ ?_
  have hA : r8gA u u.arrays 0 = true := by
    rw [hI1, List.drop_eq_nil_of_le (by simpa using hc12)]; rfl
  refine tG <| sm 1 rfl <| nL <| tBk <| Tr.sub (Sub.of (fr' := [(5, iInt 0), (1, .pv (.ept [arrs u.arrays, flws u.flows] 0))]) ⟨rfl, rfl, trivial⟩) ?_
  refine Tr.loop (fun fr σ m => ∃ (k : Nat), (k <= u.flows.length) /\ (r8gF u u.flows 0 = r8gF u (u.flows.drop k) k) /\ fr = [(5, iInt k), (1, .pv (.ept [arrs u.arrays, flws u.flows] 0))] /\ σ = look [] /\ m = u.flows.length - k) (n := u.flows.length - 0) ?_ ?_
  ·exact ⟨0, Nat.zero_le _, rfl, rfl, rfl, rfl⟩
  rintro fr σ m ⟨k, hJ0, hJ1, rfl, rfl, rfl⟩
  refine tQ <| tQ <| tG <| sm 3 rfl ?_
  refine WL.lenOf (t := 51) rfl (fun hl2 => ?_)
  simp only [List.length_map] at hl2
  refine cV rfl (oSm uT23 rfl) <| sm 1 rfl <| nL ?_
  refine tC rfl (fun hc53 => ?_) fun hc53 => ?_
  ·have hlt : k < u.flows.length := by simpa using hc53
   have hd := List.drop_eq_getElem_cons hlt
   have hm := List.getElem_mem hlt
   have hi := z0i (f := Fl.enc) (List.getElem?_eq_getElem hlt)
   generalize u.flows[k] = x at hd hm hi
   refine tSk <| tQ <| tBk <| tQ <| tG <| sm 3 rfl <| cV rfl (iSq rfl rfl rfl uT23 hi tS51 rfl (by rfl)) <| cV rfl (lEA rfl rfl Tryz.underlying51 rfl tS51 (lb rfl)) <| cE rfl (aLc (k := 106) rfl tZ51 rfl rfl rfl rfl) <| c0 (sBA rfl rfl rfl rfl rfl ((fun h => h)) tS51 (flk rfl) (lb rfl)) <| nL <| tQ ?_
   refine Tr.freezeBox (t := 6) (k := 106) rfl rfl rfl <| Tr.heap (σ' := look []) (fun k => by simp only [look]; cases Nat.beq 106 k <;> rfl) <| tG <| sm 2 rfl <| cE rfl (ocq (zw1 _) ent47 rfl rfl) <| sm 2 rfl ?_
   refine wS 65 rfl (fun hb65 => ?_) fun hb65 => ?_
   ·refine sm 12 rfl <| nUu rfl rfl rfl rfl rfl rfl <| nUu rfl rfl rfl rfl rfl rfl <| nUu rfl rfl rfl rfl rfl rfl <| sm 15 rfl <| nL <| Tr.condT rfl <| tQ <| tG <| sm 1 rfl <| nL <| tRt <| rOk rfl ?_ nPo
    have hx : gFlw u x k = false := by
      clear hd hm hi hJ1
      simp_all [gFlw]
    have hF : r8gF u u.flows 0 = false := by rw [hJ1, hd]; simp only [r8gF, hx, Bool.false_and]
    simp only [z0z, hF, Bool.false_and, Bool.and_false]
   refine yV rfl rfl (lEA rfl rfl uT25 rfl tS25 (lb rfl)) <| sm 2 rfl <| WL.yes rfl rfl rfl rfl rfl rfl (z10 (z5b _ _) y1q rfl rfl (sRf _ _) rfl) <| sm 4 rfl ?_
   refine wS 73 rfl (fun hb73 => ?_) fun hb73 => ?_
   ·refine sm 4 rfl <| nUu rfl rfl rfl rfl rfl rfl <| nUu rfl rfl rfl rfl rfl rfl <| nUu rfl rfl rfl rfl rfl rfl <| sm 15 rfl <| nL <| Tr.condT rfl <| tQ <| tG <| sm 1 rfl <| nL <| tRt <| rOk rfl ?_ nPo
    have hx : gFlw u x k = false := by
      clear hd hm hi hJ1
      simp_all [gFlw]
    have hF : r8gF u u.flows 0 = false := by rw [hJ1, hd]; simp only [r8gF, hx, Bool.false_and]
    simp only [z0z, hF, Bool.false_and, Bool.and_false]
   refine sm 4 rfl ?_
   refine wS 77 rfl (fun hb77 => ?_) fun hb77 => ?_
   ·refine sm 6 rfl ?_
    refine wS 83 rfl (fun hb83 => ?_) fun hb83 => ?_
    ·refine sm 12 rfl <| nL <| Tr.condT rfl <| tQ <| tG <| sm 1 rfl <| nL <| tRt <| rOk rfl ?_ nPo
     have hx : gFlw u x k = false := by
       clear hd hm hi hJ1
       simp_all [gFlw]
     have hF : r8gF u u.flows 0 = false := by rw [hJ1, hd]; simp only [r8gF, hx, Bool.false_and]
     simp only [z0z, hF, Bool.false_and, Bool.and_false]
    refine sm 5 rfl ?_
    refine wS 88 rfl (fun hb88 => ?_) fun hb88 => ?_
    ·refine sm 7 rfl <| nL <| Tr.condT rfl <| tQ <| tG <| sm 1 rfl <| nL <| tRt <| rOk rfl ?_ nPo
     have hx : gFlw u x k = false := by
       clear hd hm hi hJ1
       simp_all [gFlw]
     have hF : r8gF u u.flows 0 = false := by rw [hJ1, hd]; simp only [r8gF, hx, Bool.false_and]
     simp only [z0z, hF, Bool.false_and, Bool.and_false]
    refine sm 4 rfl <| yV rfl rfl (oSm uT35 rfl) <| sm 2 rfl <| nL ?_
    refine tC rfl (fun hc95 => ?_) fun hc95 => ?_
    ·refine tQ <| tG <| sm 1 rfl <| nL <| tRt <| rOk rfl ?_ nPo
     have hx : gFlw u x k = false := by
       clear hd hm hi hJ1
       simp_all [gFlw]
     have hF : r8gF u u.flows 0 = false := by rw [hJ1, hd]; simp only [r8gF, hx, Bool.false_and]
     simp only [z0z, hF, Bool.false_and, Bool.and_false]
    refine tSk <| tG <| sm 1 rfl <| cV rfl (oB rfl rfl (z0b rfl oM0)) <| sm 1 rfl <| nL ?_
    refine ⟨_, _, ?_, Sub.of (fr' := [(5, iInt (k + 1)), (1, .pv (.ept [arrs u.arrays, flws u.flows] 0))]) ⟨rfl, rfl, trivial⟩, (k + 1), ?_, ?_, rfl, rfl, rfl⟩
    ·omega
    ·omega
    rw [hJ1, hd]
    have hx : gFlw u x k = true := by
      clear hd hm hi hJ1
      simp_all [gFlw]
    simp only [r8gF, hx, Bool.true_and]
    rfl
   refine sm 11 rfl ?_
   refine wS 88 rfl (fun hb88 => ?_) fun hb88 => ?_
   ·refine sm 7 rfl <| nL <| Tr.condT rfl <| tQ <| tG <| sm 1 rfl <| nL <| tRt <| rOk rfl ?_ nPo
    have hx : gFlw u x k = false := by
      clear hd hm hi hJ1
      simp_all [gFlw]
    have hF : r8gF u u.flows 0 = false := by rw [hJ1, hd]; simp only [r8gF, hx, Bool.false_and]
    simp only [z0z, hF, Bool.false_and, Bool.and_false]
   refine sm 4 rfl <| yV rfl rfl (oSm uT35 rfl) <| sm 2 rfl <| nL ?_
   refine tC rfl (fun hc95 => ?_) fun hc95 => ?_
   ·refine tQ <| tG <| sm 1 rfl <| nL <| tRt <| rOk rfl ?_ nPo
    have hx : gFlw u x k = false := by
      clear hd hm hi hJ1
      simp_all [gFlw]
    have hF : r8gF u u.flows 0 = false := by rw [hJ1, hd]; simp only [r8gF, hx, Bool.false_and]
    simp only [z0z, hF, Bool.false_and, Bool.and_false]
   refine tSk <| tG <| sm 1 rfl <| cV rfl (oB rfl rfl (z0b rfl oM0)) <| sm 1 rfl <| nL ?_
   refine ⟨_, _, ?_, Sub.of (fr' := [(5, iInt (k + 1)), (1, .pv (.ept [arrs u.arrays, flws u.flows] 0))]) ⟨rfl, rfl, trivial⟩, (k + 1), ?_, ?_, rfl, rfl, rfl⟩
   ·omega
   ·omega
   rw [hJ1, hd]
   have hx : gFlw u x k = true := by
     clear hd hm hi hJ1
     simp_all [gFlw]
   simp only [r8gF, hx, Bool.true_and]
   rfl
  refine tEx <| tQ ?_
  have hF : r8gF u u.flows 0 = true := by
    rw [hJ1, List.drop_eq_nil_of_le (by simpa using hc53)]; rfl
  refine tG <| cV rfl (lEA rfl rfl uT25 rfl tS25 (lb rfl)) <| cE rfl (ocq (z5b _ z0f) y1q rfl rfl) <| sm 1 rfl <| nL <| tQ <| tG <| sm 3 rfl ?_
  refine wS 100 rfl (fun hb100 => ?_) fun hb100 => ?_
  ·have hk0 : z0a z0f u.flows 0 ≥ 0 := by simpa using hb100
   obtain ⟨g, hgk, _⟩ := z6e hk0
   have hgi : (u.flows.map Fl.enc)[(z0a z0f u.flows 0).toNat]? = some g.enc := z0i hgk
   have hgd : u.flows.getD (z0a z0f u.flows 0).toNat zs7 = g := by simp [List.getD, hgk]
   refine sm 3 rfl <| yV rfl rfl (iSq rfl rfl rfl uT23 hgi tS51 rfl oM0) <| sm 5 rfl ?_
   refine wS 109 rfl (fun hb109 => ?_) fun hb109 => ?_
   ·refine sm 3 rfl <| yV rfl rfl (iSq rfl rfl rfl uT23 hgi tS51 rfl oM0) <| sm 5 rfl <| nL <| tRt <| rOk rfl ?_ nPo
    refine congrArg (fun b => iBool b) ?_
    simp only [z0z, hA, hF, z76, Bool.true_and]
    simp_all
   refine sm 9 rfl <| nL <| tRt <| rOk rfl ?_ nPo
   refine congrArg (fun b => iBool b) ?_
   simp only [z0z, hA, hF, z76, Bool.true_and]
   simp_all
  refine sm 18 rfl <| nL <| tRt <| rOk rfl ?_ nPo
  refine congrArg (fun b => iBool b) ?_
  simp only [z0z, hA, hF, z76, Bool.true_and]
  (simp_all; intro h; omega)
theorem y2o (u : Un) (hW : z20 u <= 536870912) : SC Tryz.prog 19 [.pv u.enc] [] (fun _ => False) (.tup [iInt (z2i u).1, iInt (z2i u).2]) [] := by
  refine SC.of Tryz.func19 rfl (lb rfl) fun F ρ w => ?_
  refine tQ <| tG <| cE rfl (z1d rfl rfl) <| sm 2 rfl <| nL <| tQ <| tQ <| tG <| cV rfl (lEA rfl rfl uT25 rfl tS25 (lb rfl)) <| cE rfl (ocq (zw2 u) ent32 rfl rfl) <| sm 1 rfl <| nL ?_
  refine tC rfl (fun hc7 => ?_) fun hc7 => ?_
  ·refine tQ <| tG <| sm 2 rfl <| nL <| tRt <| rOk rfl ?_ nPo
   have hg : z0z u = false := by simpa using hc7
   simp [z2i, hg]
  have hg : z0z u = true := by simpa using hc7
  refine tSk <| tQ <| tQ <| tG <| sm 1 rfl <| nL <| tBk <| Tr.sub (Sub.of (fr' := [(4, iInt 0), (1, .pv (.ept [arrs u.arrays, flws u.flows] 0))]) ⟨rfl, rfl, trivial⟩) ?_
  refine Tr.loop (fun fr σ m => ∃ (k : Nat), (k <= u.flows.length) /\ (z4a u u.flows 0 = z4a u (u.flows.drop k) k) /\ fr = [(4, iInt k), (1, .pv (.ept [arrs u.arrays, flws u.flows] 0))] /\ σ = look [] /\ m = u.flows.length - k) (n := u.flows.length - 0) ?_ ?_
  ·exact ⟨0, Nat.zero_le _, rfl, rfl, rfl, rfl⟩
  rintro fr σ m ⟨k, hI0, hI1, rfl, rfl, rfl⟩
  refine tQ <| tQ <| tG <| sm 3 rfl ?_
  refine WL.lenOf (t := 10) rfl (fun hl1 => ?_)
  simp only [List.length_map] at hl1
  refine cV rfl (oSm uT23 rfl) <| sm 1 rfl <| nL ?_
  refine tC rfl (fun hc12 => ?_) fun hc12 => ?_
  ·have hlt : k < u.flows.length := by simpa using hc12
   have hd := List.drop_eq_getElem_cons hlt
   have hm := List.getElem_mem hlt
   have hi := z0i (f := Fl.enc) (List.getElem?_eq_getElem hlt)
   generalize u.flows[k] = x at hd hm hi
   refine tSk <| tQ <| tBk <| tQ <| tDr z1a (fun k => k ∈ ([] : List Nat)) <| wR 2 [0, 1, 2, 3, 4, 5] kR0 h30 <| rV rfl rfl (lEA rfl rfl uT25 rfl tS25 (lb rfl)) <| smR 3 rfl <| rV rfl rfl (iSq rfl rfl rfl uT23 hi tS51 rfl (by rfl)) <| rV rfl rfl (lEA rfl rfl Tryz.underlying51 rfl tS51 (lb rfl)) <| nR <| wO 6 kR0 ?_
   refine wI rfl rfl nf nw (fun _ _ => ocq (y5a u x (z75 hg) (zo3 hW hm)) ent33 rfl rfl) <| wR 0 [7] kR0 h30 <| smR 1 rfl <| nR <| wDn kR0 ?_
   refine tC rfl (fun hc22 => ?_) fun hc22 => ?_
   ·refine tQ <| tG <| sm 3 rfl <| nL <| tRt <| rOk rfl ?_ nPo
    have hx : z2v u x = false := by simpa using hc22
    simp only [z2i, hg, if_true, hI1, hd, z4a, hx, Bool.false_eq_true, if_false]
   refine tSk <| tG <| sm 1 rfl <| cV rfl (oB rfl rfl (z0b rfl oM0)) <| sm 1 rfl <| nL ?_
   refine ⟨_, _, ?_, Sub.of (fr' := [(4, iInt (k + 1)), (1, .pv (.ept [arrs u.arrays, flws u.flows] 0))]) ⟨rfl, rfl, trivial⟩, (k + 1), ?_, ?_, rfl, rfl, rfl⟩
   ·omega
   ·omega
   rw [hI1, hd]
   have hx : z2v u x = true := by simpa using hc22
   simp only [z4a, hx, if_true]
   rfl
  refine tEx <| tQ <| tG <| sm 2 rfl <| nL <| tRt <| rOk rfl ?_ nPo
  have hge : u.flows.length <= k := by simpa using hc12
  simp only [z2i, hg, if_true, hI1, List.drop_eq_nil_of_le hge, z4a]
theorem y2j (fq : FuncId) (ws : List IV) (pre : List (Nat × HO)) (hon : z34 (pre.map (·.1)) pre = true) (hent : z06 Tryz.prog fq) (p : Int -> Bool) (l : List Int) (h : ∀ x ∈ l, SC Tryz.prog fq ((iInt x) :: ws) pre (fun _ => True) (iBool (p x)) pre) : SC Tryz.prog 84 [.pv (ints l), .fn (.func fq) [] ws] pre (fun _ => True) (iInt (idxP p l 0)) pre := by
  refine SC.of Tryz.func84 rfl (lb rfl) fun F ρ w => ?_
  refine Tr.lenOf (t := 0) rfl (fun hl => ?_)
  simp only [List.length_map] at hl
  refine tQ <| tG <| sm 1 rfl <| nL <| tQ <| tQ <| tG <| sm 1 rfl <| cV rfl (oSm uT35 rfl) <| sm 1 rfl <| nL <| tBk ?_
  refine Tr.sub (Sub.of (fr' := [(8, iInt 0), (7, iInt l.length), (0, .pv (ints l)), (1, .fn (.func fq) [] ws)]) ⟨rfl, rfl, rfl, rfl, trivial⟩) ?_
  refine Tr.loop (fun fr σ m => ∃ (k : Nat), (k <= l.length) /\ (idxP p l 0 = idxP p (l.drop k) k) /\ fr = [(8, iInt k), (7, iInt l.length), (0, .pv (ints l)), (1, .fn (.func fq) [] ws)] /\ σ = look (up pre) /\ m = l.length - k) (n := l.length - 0) ?_ ?_
  ·exact ⟨0, Nat.zero_le _, rfl, rfl, rfl, rfl⟩
  rintro fr σ m ⟨k, hI0, hI1, rfl, rfl, rfl⟩
  refine tQ <| tG <| sm 1 rfl <| nL <| tQ ?_
  refine tC rfl (fun hc9 => ?_) fun hc9 => ?_
  ·have hlt : k < l.length := by simpa using hc9
   have hd := List.drop_eq_getElem_cons hlt
   have hm := List.getElem_mem hlt
   have hi := z0i (f := eInt) (List.getElem?_eq_getElem hlt)
   generalize l[k] = x at hd hm hi
   refine tSk <| tQ <| tBk <| tQ <| tG <| sm 2 rfl <| nL <| tQ <| tG <| sm 3 rfl <| cV rfl (iSq rfl rfl rfl uT35 hi tS3 rfl (by rfl)) <| sm 1 rfl ?_
   refine cE rfl (z81 (h x hm) hent rfl rfl rfl (sRf _ _) (fun _ _ h => h) (by rfl) (fun k (h : _) => trivial) rfl (by assumption)) <| nL ?_
   refine tC rfl (fun hc16 => ?_) fun hc16 => ?_
   ·refine tQ <| tG <| sm 2 rfl <| nL <| tRt <| rOk rfl ?_ (fun k o h => z3s rfl k o h)
    have hx : p x = true := by simpa using hc16
    rw [hI1, hd]
    simp only [idxP, hx, if_true]
   refine tSk <| tG <| cV rfl (oB rfl rfl (z0b rfl oM0)) <| sm 1 rfl <| nL ?_
   refine ⟨_, _, ?_, Sub.of (fr' := [(8, iInt (k + 1)), (7, iInt l.length), (0, .pv (ints l)), (1, .fn (.func fq) [] ws)]) ⟨rfl, rfl, rfl, rfl, trivial⟩, (k + 1), ?_, ?_, rfl, (z27 rfl), rfl⟩
   ·omega
   ·omega
   rw [hI1, hd]
   have hx : p x = false := by simpa using hc16
   simp only [idxP, hx, Bool.false_eq_true, if_false]
   rfl
  refine tEx <| tQ <| tG <| sm 1 rfl <| nL <| tRt <| rOk rfl ?_ (fun _ _ h => h)
  have hge : l.length <= k := by simpa using hc9
  rw [hI1, List.drop_eq_nil_of_le hge]
  rfl
theorem y2g (fq : FuncId) (ws : List IV) (pre : List (Nat × HO)) (hon : z34 (pre.map (·.1)) pre = true) (hent : z06 Tryz.prog fq) (p : Int -> Bool) (l : List Int) (h : ∀ x ∈ l, SC Tryz.prog fq ((iInt x) :: ws) pre (fun _ => True) (iBool (p x)) pre) : SC Tryz.prog 59 [.pv (ints l), .fn (.func fq) [] ws] pre (fun _ => True) (iBool (l.any p)) pre := by
  refine SC.of Tryz.func59 rfl (lb rfl) fun F ρ w => ?_
  refine tQ <| tG <| sm 1 rfl <| nL <| tQ <| tG <| sm 2 rfl <| cE rfl (cRr (y2j fq ws pre hon hent p l h) ent84 rfl rfl (sRf _ _) (fun _ _ h => h) (by rfl) (fun k (h : _) => .inr trivial) rfl (by assumption)) <| sm 2 rfl <| nL <| tRt <| rOk rfl ?_ (fun k o h => z3s rfl k o h)
  exact congrArg (fun b => iBool b) (z90 p l 0 (Int.le_refl 0))
theorem y0a (fq : FuncId) (ws : List IV) (pre : List (Nat × HO)) (hon : z34 (pre.map (·.1)) pre = true) (hent : z06 Tryz.prog fq) (p : Nd -> Bool) (l : List Nd) (h : ∀ x ∈ l, SC Tryz.prog fq ((.pv (ndv x)) :: ws) pre (fun _ => True) (iBool (p x)) pre) : SC Tryz.prog 130 [.pv (z0g l), .fn (.func fq) [] ws] pre (fun _ => True) (iInt (idxP p l 0)) pre := by
  refine SC.of Tryz.func130 rfl (lb rfl) fun F ρ w => ?_
  refine Tr.lenOf (t := 0) rfl (fun hl => ?_)
  simp only [List.length_map] at hl
  refine tQ <| tG <| sm 1 rfl <| nL <| tQ <| tQ <| tG <| sm 1 rfl <| cV rfl (oSm uT44 rfl) <| sm 1 rfl <| nL <| tBk ?_
  refine Tr.sub (Sub.of (fr' := [(8, iInt 0), (7, iInt l.length), (0, .pv (z0g l)), (1, .fn (.func fq) [] ws)]) ⟨rfl, rfl, rfl, rfl, trivial⟩) ?_
  refine Tr.loop (fun fr σ m => ∃ (k : Nat), (k <= l.length) /\ (idxP p l 0 = idxP p (l.drop k) k) /\ fr = [(8, iInt k), (7, iInt l.length), (0, .pv (z0g l)), (1, .fn (.func fq) [] ws)] /\ σ = look (up pre) /\ m = l.length - k) (n := l.length - 0) ?_ ?_
  ·exact ⟨0, Nat.zero_le _, rfl, rfl, rfl, rfl⟩
  rintro fr σ m ⟨k, hI0, hI1, rfl, rfl, rfl⟩
  refine tQ <| tG <| sm 1 rfl <| nL <| tQ ?_
  refine tC rfl (fun hc9 => ?_) fun hc9 => ?_
  ·have hlt : k < l.length := by simpa using hc9
   have hd := List.drop_eq_getElem_cons hlt
   have hm := List.getElem_mem hlt
   have hi := z2r (List.getElem?_eq_getElem hlt)
   generalize l[k] = x at hd hm hi
   refine tSk <| tQ <| tBk <| tQ <| tG <| sm 2 rfl <| nL <| tQ <| tG <| sm 3 rfl <| cV rfl (iSq rfl rfl rfl uT44 hi tS43 rfl (by rfl)) <| cV rfl (lEA rfl rfl uT43 rfl tS43 (lb rfl)) ?_
   refine cE rfl (z81 (h x hm) hent rfl rfl rfl (sRf _ _) (fun _ _ h => h) (by rfl) (fun k (h : _) => trivial) rfl (by assumption)) <| nL ?_
   refine tC rfl (fun hc16 => ?_) fun hc16 => ?_
   ·refine tQ <| tG <| sm 2 rfl <| nL <| tRt <| rOk rfl ?_ (fun k o h => z3s rfl k o h)
    have hx : p x = true := by simpa using hc16
    rw [hI1, hd]
    simp only [idxP, hx, if_true]
   refine tSk <| tG <| cV rfl (oB rfl rfl (z0b rfl oM0)) <| sm 1 rfl <| nL ?_
   refine ⟨_, _, ?_, Sub.of (fr' := [(8, iInt (k + 1)), (7, iInt l.length), (0, .pv (z0g l)), (1, .fn (.func fq) [] ws)]) ⟨rfl, rfl, rfl, rfl, trivial⟩, (k + 1), ?_, ?_, rfl, (z27 rfl), rfl⟩
   ·omega
   ·omega
   rw [hI1, hd]
   have hx : p x = false := by simpa using hc16
   simp only [idxP, hx, Bool.false_eq_true, if_false]
   rfl
  refine tEx <| tQ <| tG <| sm 1 rfl <| nL <| tRt <| rOk rfl ?_ (fun _ _ h => h)
  have hge : l.length <= k := by simpa using hc9
  rw [hI1, List.drop_eq_nil_of_le hge]
  rfl
theorem y08 (fq : FuncId) (ws : List IV) (pre : List (Nat × HO)) (hon : z34 (pre.map (·.1)) pre = true) (hent : z06 Tryz.prog fq) (p : Nd -> Bool) (l : List Nd) (h : ∀ x ∈ l, SC Tryz.prog fq ((.pv (ndv x)) :: ws) pre (fun _ => True) (iBool (p x)) pre) : SC Tryz.prog 119 [.pv (z0g l), .fn (.func fq) [] ws] pre (fun _ => True) (iBool (l.any p)) pre := by
  refine SC.of Tryz.func119 rfl (lb rfl) fun F ρ w => ?_
  refine tQ <| tG <| sm 1 rfl <| nL <| tQ <| tG <| sm 2 rfl <| cE rfl (cRr (y0a fq ws pre hon hent p l h) ent130 rfl rfl (sRf _ _) (fun _ _ h => h) (by rfl) (fun k (h : _) => .inr trivial) rfl (by assumption)) <| sm 2 rfl <| nL <| tRt <| rOk rfl ?_ (fun k o h => z3s rfl k o h)
  exact congrArg (fun b => iBool b) (z90 p l 0 (Int.le_refl 0))
theorem y2k (fq : FuncId) (ws : List IV) (pre : List (Nat × HO)) (hon : z34 (pre.map (·.1)) pre = true) (hent : z06 Tryz.prog fq) (p : (List Nd) -> Bool) (l : List (List Nd)) (h : ∀ x ∈ l, SC Tryz.prog fq ((.pv (z0g x)) :: ws) pre (fun _ => True) (iBool (p x)) pre) : SC Tryz.prog 131 [.pv (kids l), .fn (.func fq) [] ws] pre (fun _ => True) (iInt (idxP p l 0)) pre := by
  refine SC.of Tryz.func131 rfl (lb rfl) fun F ρ w => ?_
  refine Tr.lenOf (t := 0) rfl (fun hl => ?_)
  simp only [List.length_map] at hl
  refine tQ <| tG <| sm 1 rfl <| nL <| tQ <| tQ <| tG <| sm 1 rfl <| cV rfl (oSm uT41 rfl) <| sm 1 rfl <| nL <| tBk ?_
  refine Tr.sub (Sub.of (fr' := [(8, iInt 0), (7, iInt l.length), (0, .pv (kids l)), (1, .fn (.func fq) [] ws)]) ⟨rfl, rfl, rfl, rfl, trivial⟩) ?_
  refine Tr.loop (fun fr σ m => ∃ (k : Nat), (k <= l.length) /\ (idxP p l 0 = idxP p (l.drop k) k) /\ fr = [(8, iInt k), (7, iInt l.length), (0, .pv (kids l)), (1, .fn (.func fq) [] ws)] /\ σ = look (up pre) /\ m = l.length - k) (n := l.length - 0) ?_ ?_
  ·exact ⟨0, Nat.zero_le _, rfl, rfl, rfl, rfl⟩
  rintro fr σ m ⟨k, hI0, hI1, rfl, rfl, rfl⟩
  refine tQ <| tG <| sm 1 rfl <| nL <| tQ ?_
  refine tC rfl (fun hc9 => ?_) fun hc9 => ?_
  ·have hlt : k < l.length := by simpa using hc9
   have hd := List.drop_eq_getElem_cons hlt
   have hm := List.getElem_mem hlt
   have hi := z0i (f := eKid) (List.getElem?_eq_getElem hlt)
   generalize l[k] = x at hd hm hi
   refine tSk <| tQ <| tBk <| tQ <| tG <| sm 2 rfl <| nL <| tQ <| tG <| sm 3 rfl <| cV rfl (iSq rfl rfl rfl uT41 hi tS44 rfl (by rfl)) <| sm 1 rfl ?_
   refine cE rfl (z81 (h x hm) hent rfl rfl rfl (sRf _ _) (fun _ _ h => h) (by rfl) (fun k (h : _) => trivial) rfl (by assumption)) <| nL ?_
   refine tC rfl (fun hc16 => ?_) fun hc16 => ?_
   ·refine tQ <| tG <| sm 2 rfl <| nL <| tRt <| rOk rfl ?_ (fun k o h => z3s rfl k o h)
    have hx : p x = true := by simpa using hc16
    rw [hI1, hd]
    simp only [idxP, hx, if_true]
   refine tSk <| tG <| cV rfl (oB rfl rfl (z0b rfl oM0)) <| sm 1 rfl <| nL ?_
   refine ⟨_, _, ?_, Sub.of (fr' := [(8, iInt (k + 1)), (7, iInt l.length), (0, .pv (kids l)), (1, .fn (.func fq) [] ws)]) ⟨rfl, rfl, rfl, rfl, trivial⟩, (k + 1), ?_, ?_, rfl, (z27 rfl), rfl⟩
   ·omega
   ·omega
   rw [hI1, hd]
   have hx : p x = false := by simpa using hc16
   simp only [idxP, hx, Bool.false_eq_true, if_false]
   rfl
  refine tEx <| tQ <| tG <| sm 1 rfl <| nL <| tRt <| rOk rfl ?_ (fun _ _ h => h)
  have hge : l.length <= k := by simpa using hc9
  rw [hI1, List.drop_eq_nil_of_le hge]
  rfl
theorem y2h (fq : FuncId) (ws : List IV) (pre : List (Nat × HO)) (hon : z34 (pre.map (·.1)) pre = true) (hent : z06 Tryz.prog fq) (p : (List Nd) -> Bool) (l : List (List Nd)) (h : ∀ x ∈ l, SC Tryz.prog fq ((.pv (z0g x)) :: ws) pre (fun _ => True) (iBool (p x)) pre) : SC Tryz.prog 121 [.pv (kids l), .fn (.func fq) [] ws] pre (fun _ => True) (iBool (l.any p)) pre := by
  refine SC.of Tryz.func121 rfl (lb rfl) fun F ρ w => ?_
  refine tQ <| tG <| sm 1 rfl <| nL <| tQ <| tG <| sm 2 rfl <| cE rfl (cRr (y2k fq ws pre hon hent p l h) ent131 rfl rfl (sRf _ _) (fun _ _ h => h) (by rfl) (fun k (h : _) => .inr trivial) rfl (by assumption)) <| sm 2 rfl <| nL <| tRt <| rOk rfl ?_ (fun k o h => z3s rfl k o h)
  exact congrArg (fun b => iBool b) (z90 p l 0 (Int.le_refl 0))
theorem y2i (fq : FuncId) (ws : List IV) (pre : List (Nat × HO)) (hon : z34 (pre.map (·.1)) pre = true) (hent : z06 Tryz.prog fq) (p : Ar -> Bool) (l : List Ar) (h : ∀ x ∈ l, SC Tryz.prog fq ((.pv (.agg x.enc)) :: ws) pre (fun _ => True) (iBool (p x)) pre) : SC Tryz.prog 133 [.pv (arrs l), .fn (.func fq) [] ws] pre (fun _ => True) (iInt (idxP p l 0)) pre := by
  refine SC.of Tryz.func133 rfl (lb rfl) fun F ρ w => ?_
  refine Tr.lenOf (t := 0) rfl (fun hl => ?_)
  simp only [List.length_map] at hl
  refine tQ <| tG <| sm 1 rfl <| nL <| tQ <| tQ <| tG <| sm 1 rfl <| cV rfl (oSm uT22 rfl) <| sm 1 rfl <| nL <| tBk ?_
  refine Tr.sub (Sub.of (fr' := [(8, iInt 0), (7, iInt l.length), (0, .pv (arrs l)), (1, .fn (.func fq) [] ws)]) ⟨rfl, rfl, rfl, rfl, trivial⟩) ?_
  refine Tr.loop (fun fr σ m => ∃ (k : Nat), (k <= l.length) /\ (idxP p l 0 = idxP p (l.drop k) k) /\ fr = [(8, iInt k), (7, iInt l.length), (0, .pv (arrs l)), (1, .fn (.func fq) [] ws)] /\ σ = look (up pre) /\ m = l.length - k) (n := l.length - 0) ?_ ?_
  ·exact ⟨0, Nat.zero_le _, rfl, rfl, rfl, rfl⟩
  rintro fr σ m ⟨k, hI0, hI1, rfl, rfl, rfl⟩
  refine tQ <| tG <| sm 1 rfl <| nL <| tQ ?_
  refine tC rfl (fun hc9 => ?_) fun hc9 => ?_
  ·have hlt : k < l.length := by simpa using hc9
   have hd := List.drop_eq_getElem_cons hlt
   have hm := List.getElem_mem hlt
   have hi := z0i (f := Ar.enc) (List.getElem?_eq_getElem hlt)
   generalize l[k] = x at hd hm hi
   refine tSk <| tQ <| tBk <| tQ <| tG <| sm 2 rfl <| nL <| tQ <| tG <| sm 3 rfl <| cV rfl (iSq rfl rfl rfl uT22 hi tS49 rfl (by rfl)) <| cV rfl (lEA rfl rfl Tryz.underlying49 rfl tS49 (lb rfl)) ?_
   refine cE rfl (z81 (h x hm) hent rfl rfl rfl (sRf _ _) (fun _ _ h => h) (by rfl) (fun k (h : _) => trivial) rfl (by assumption)) <| nL ?_
   refine tC rfl (fun hc16 => ?_) fun hc16 => ?_
   ·refine tQ <| tG <| sm 2 rfl <| nL <| tRt <| rOk rfl ?_ (fun k o h => z3s rfl k o h)
    have hx : p x = true := by simpa using hc16
    rw [hI1, hd]
    simp only [idxP, hx, if_true]
   refine tSk <| tG <| cV rfl (oB rfl rfl (z0b rfl oM0)) <| sm 1 rfl <| nL ?_
   refine ⟨_, _, ?_, Sub.of (fr' := [(8, iInt (k + 1)), (7, iInt l.length), (0, .pv (arrs l)), (1, .fn (.func fq) [] ws)]) ⟨rfl, rfl, rfl, rfl, trivial⟩, (k + 1), ?_, ?_, rfl, (z27 rfl), rfl⟩
   ·omega
   ·omega
   rw [hI1, hd]
   have hx : p x = false := by simpa using hc16
   simp only [idxP, hx, Bool.false_eq_true, if_false]
   rfl
  refine tEx <| tQ <| tG <| sm 1 rfl <| nL <| tRt <| rOk rfl ?_ (fun _ _ h => h)
  have hge : l.length <= k := by simpa using hc9
  rw [hI1, List.drop_eq_nil_of_le hge]
  rfl
theorem y2f (fq : FuncId) (ws : List IV) (pre : List (Nat × HO)) (hon : z34 (pre.map (·.1)) pre = true) (hent : z06 Tryz.prog fq) (p : Ar -> Bool) (l : List Ar) (h : ∀ x ∈ l, SC Tryz.prog fq ((.pv (.agg x.enc)) :: ws) pre (fun _ => True) (iBool (p x)) pre) : SC Tryz.prog 128 [.pv (arrs l), .fn (.func fq) [] ws] pre (fun _ => True) (iBool (l.any p)) pre := by
  refine SC.of Tryz.func128 rfl (lb rfl) fun F ρ w => ?_
  refine tQ <| tG <| sm 1 rfl <| nL <| tQ <| tG <| sm 2 rfl <| cE rfl (cRr (y2i fq ws pre hon hent p l h) ent133 rfl rfl (sRf _ _) (fun _ _ h => h) (by rfl) (fun k (h : _) => .inr trivial) rfl (by assumption)) <| sm 2 rfl <| nL <| tRt <| rOk rfl ?_ (fun k o h => z3s rfl k o h)
  exact congrArg (fun b => iBool b) (z90 p l 0 (Int.le_refl 0))
theorem y09 (fq : FuncId) (ws : List IV) (pre : List (Nat × HO)) (hon : z34 (pre.map (·.1)) pre = true) (hent : z06 Tryz.prog fq) (p : Fl -> Bool) (l : List Fl) (h : ∀ x ∈ l, SC Tryz.prog fq ((.pv (.agg x.enc)) :: ws) pre (fun _ => True) (iBool (p x)) pre) : SC Tryz.prog 82 [.pv (flws l), .fn (.func fq) [] ws] pre (fun _ => True) (iInt (idxP p l 0)) pre := by
  refine SC.of Tryz.func82 rfl (lb rfl) fun F ρ w => ?_
  refine Tr.lenOf (t := 0) rfl (fun hl => ?_)
  simp only [List.length_map] at hl
  refine tQ <| tG <| sm 1 rfl <| nL <| tQ <| tQ <| tG <| sm 1 rfl <| cV rfl (oSm uT23 rfl) <| sm 1 rfl <| nL <| tBk ?_
  refine Tr.sub (Sub.of (fr' := [(8, iInt 0), (7, iInt l.length), (0, .pv (flws l)), (1, .fn (.func fq) [] ws)]) ⟨rfl, rfl, rfl, rfl, trivial⟩) ?_
  refine Tr.loop (fun fr σ m => ∃ (k : Nat), (k <= l.length) /\ (idxP p l 0 = idxP p (l.drop k) k) /\ fr = [(8, iInt k), (7, iInt l.length), (0, .pv (flws l)), (1, .fn (.func fq) [] ws)] /\ σ = look (up pre) /\ m = l.length - k) (n := l.length - 0) ?_ ?_
  ·exact ⟨0, Nat.zero_le _, rfl, rfl, rfl, rfl⟩
  rintro fr σ m ⟨k, hI0, hI1, rfl, rfl, rfl⟩
  refine tQ <| tG <| sm 1 rfl <| nL <| tQ ?_
  refine tC rfl (fun hc9 => ?_) fun hc9 => ?_
  ·have hlt : k < l.length := by simpa using hc9
   have hd := List.drop_eq_getElem_cons hlt
   have hm := List.getElem_mem hlt
   have hi := z0i (f := Fl.enc) (List.getElem?_eq_getElem hlt)
   generalize l[k] = x at hd hm hi
   refine tSk <| tQ <| tBk <| tQ <| tG <| sm 2 rfl <| nL <| tQ <| tG <| sm 3 rfl <| cV rfl (iSq rfl rfl rfl uT23 hi tS51 rfl (by rfl)) <| cV rfl (lEA rfl rfl Tryz.underlying51 rfl tS51 (lb rfl)) ?_
   refine cE rfl (z81 (h x hm) hent rfl rfl rfl (sRf _ _) (fun _ _ h => h) (by rfl) (fun k (h : _) => trivial) rfl (by assumption)) <| nL ?_
   refine tC rfl (fun hc16 => ?_) fun hc16 => ?_
   ·refine tQ <| tG <| sm 2 rfl <| nL <| tRt <| rOk rfl ?_ (fun k o h => z3s rfl k o h)
    have hx : p x = true := by simpa using hc16
    rw [hI1, hd]
    simp only [idxP, hx, if_true]
   refine tSk <| tG <| cV rfl (oB rfl rfl (z0b rfl oM0)) <| sm 1 rfl <| nL ?_
   refine ⟨_, _, ?_, Sub.of (fr' := [(8, iInt (k + 1)), (7, iInt l.length), (0, .pv (flws l)), (1, .fn (.func fq) [] ws)]) ⟨rfl, rfl, rfl, rfl, trivial⟩, (k + 1), ?_, ?_, rfl, (z27 rfl), rfl⟩
   ·omega
   ·omega
   rw [hI1, hd]
   have hx : p x = false := by simpa using hc16
   simp only [idxP, hx, Bool.false_eq_true, if_false]
   rfl
  refine tEx <| tQ <| tG <| sm 1 rfl <| nL <| tRt <| rOk rfl ?_ (fun _ _ h => h)
  have hge : l.length <= k := by simpa using hc9
  rw [hI1, List.drop_eq_nil_of_le hge]
  rfl
theorem sc_eqf (fq : FuncId) (ws : List IV) (S : Type) (H : S -> List (Nat × HO)) (ks : List Nat) (hks : ∀ s, (H s).map (·.1) = ks) (hon : ∀ s, z34 ((H s).map (·.1)) (H s) = true) (hent : z06 Tryz.prog fq) (p : S -> Int -> Int -> Bool × S) (R : Nat -> Prop) (G : S -> Prop) (hG : ∀ s x y, G s -> G (p s x y).2) (h : ∀ s x y, G s -> SC Tryz.prog fq (iInt x :: iInt y :: ws) (H s) R (iBool (p s x y).1) (H (p s x y).2)) (s : S) (hs : G s) (a b : List Int) : SC Tryz.prog 123 [.pv (ints a), .pv (ints b), .fn (.func fq) [] ws] (H s) (R) (iBool (eqf p s a b).1) (H (eqf p s a b).2) := by
  refine SC.of Tryz.func123 rfl (lb rfl) fun F ρ w => ?_
  refine Tr.lenOf (t := 0) rfl (fun hl => ?_)
  simp only [List.length_map] at hl
  refine Tr.lenOf (t := 1) rfl (fun hl2 => ?_)
  simp only [List.length_map] at hl2
  refine tQ <| tG <| sm 1 rfl <| nL <| tQ <| tQ <| tG <| sm 1 rfl <| cV rfl (oSm uT35 rfl) <| sm 1 rfl <| cV rfl (oSm uT35 rfl) <| sm 1 rfl ?_
  refine nL ?_
  refine tC rfl (fun hc14 => ?_) fun hc14 => ?_
  ·refine tQ <| tG <| sm 1 rfl <| nL <| tRt ?_
   have hne : ¬ (a.length : Int) = b.length := by simpa using hc14
   have he : eqf p s a b = (false, s) := by simp only [eqf, hne, if_false]
   rw [he]
   exact rOk rfl rfl (fun _ _ h => h)
  have hlen : a.length = b.length := by simp at hc14; omega
  have hlz : (a.length : Int) = b.length := by omega
  refine tSk <| tQ <| tQ <| tG <| sm 1 rfl <| cV rfl (oSm uT35 rfl) <| sm 1 rfl <| nL <| tBk <| Tr.sub (Sub.of (fr' := [(17, iInt 0), (16, iInt a.length), (15, .pv (ints a)), (0, .pv (ints a)), (1, .pv (ints b)), (2, .fn (.func fq) [] ws)]) ⟨rfl, rfl, rfl, rfl, rfl, rfl, trivial⟩) ?_
  refine Tr.loop (fun fr σ m => ∃ (k : Nat) (st : S), (k <= a.length) /\ (eqGo p s a b = eqGo p st (a.drop k) (b.drop k)) /\ (G st) /\ fr = [(17, iInt k), (16, iInt a.length), (15, .pv (ints a)), (0, .pv (ints a)), (1, .pv (ints b)), (2, .fn (.func fq) [] ws)] /\ σ = look (up (H st)) /\ m = a.length - k) (n := a.length - 0) ?_ ?_
  ·exact ⟨0, s, Nat.zero_le _, rfl, hs, rfl, rfl, rfl⟩
  rintro fr σ m ⟨k, st, hI0, hI1, hI2, rfl, rfl, rfl⟩
  refine tQ <| tG <| sm 1 rfl <| nL <| tQ ?_
  refine tC rfl (fun hc18 => ?_) fun hc18 => ?_
  ·have hlt : k < a.length := by simpa using hc18
   have hd := List.drop_eq_getElem_cons hlt
   have hm := List.getElem_mem hlt
   have hi := z0i (f := eInt) (List.getElem?_eq_getElem hlt)
   generalize a[k] = x at hd hm hi
   have hltw : k < b.length := by omega
   have hdw := List.drop_eq_getElem_cons hltw
   have hw := z0i (f := eInt) (List.getElem?_eq_getElem hltw)
   generalize b[k] = y at hdw hw
   have hdom := (hks st).trans (hks (p st x y).2).symm
   have hon2 := hon (p st x y).2
   refine tSk <| tQ <| tBk <| tQ <| tG <| sm 1 rfl <| cV rfl (iSq rfl rfl rfl uT35 hi tS3 rfl (by rfl)) <| sm 3 rfl <| nL <| tQ <| tG <| sm 2 rfl ?_
   refine cV rfl (iSq rfl rfl rfl uT35 hw tS3 rfl (by rfl)) <| sm 2 rfl <| nL <| tQ <| tG <| sm 3 rfl <| cE rfl (z81 (h st x y hI2) hent rfl rfl rfl (sRf _ _) (fun _ _ h => h) (by assumption) (fun k (h : _) => h) rfl (by assumption)) <| sm 1 rfl <| nL ?_
   refine tC rfl (fun hc30 => ?_) fun hc30 => ?_
   ·refine tQ <| tG <| sm 1 rfl <| nL <| tRt ?_
    have hx : (p st x y).1 = false := by simpa using hc30
    have he : eqf p s a b = (false, (p st x y).2) := by simp only [eqf, hlz, if_true, hI1, hd, hdw, eqGo, hx, Bool.false_eq_true, if_false]
    rw [he]
    exact rOk rfl rfl (fun k o h => z3s ((hks _).trans (hks _).symm) k o h)
   refine tSk <| tG <| cV rfl (oB rfl rfl (z0b rfl oM0)) <| sm 1 rfl <| nL ?_
   refine ⟨_, _, ?_, Sub.of (fr' := [(17, iInt (k + 1)), (16, iInt a.length), (15, .pv (ints a)), (0, .pv (ints a)), (1, .pv (ints b)), (2, .fn (.func fq) [] ws)]) ⟨rfl, rfl, rfl, rfl, rfl, rfl, trivial⟩, (k + 1), (p st x y).2, ?_, ?_, ?_, rfl, (z27 ((hks _).trans (hks _).symm)), rfl⟩
   ·omega
   ·omega
   ·rw [hI1, hd, hdw]
    have hx : (p st x y).1 = true := by simpa using hc30
    simp only [eqGo, hx, if_true]
   exact hG _ _ _ hI2
  refine tEx <| tQ <| tG <| sm 1 rfl <| nL <| tRt ?_
  have hge : a.length <= k := by simpa using hc18
  have he : eqf p s a b = (true, st) := by simp only [eqf, hlz, if_true, hI1, List.drop_eq_nil_of_le hge, eqGo]
  rw [he]
  exact rOk rfl rfl (fun _ _ h => h)
theorem y58 (t : Int) : SC Tryz.prog 57 [iInt t] [] (fun _ => False) (iBool (isTy t)) [] := by
  refine SC.of Tryz.func57 rfl (lb rfl) fun F ρ w => ?_
  refine tQ <| tG <| sm 1 rfl <| nL <| tQ <| tG <| sm 3 rfl ?_
  refine wS 5 rfl (fun hb5 => ?_) fun hb5 => ?_
  ·refine sm 4 rfl <| nL <| tRt <| rOk rfl ?_ nPo
   simp_all [isTy]
  refine sm 4 rfl <| nL <| tRt <| rOk rfl ?_ nPo
  simp_all [isTy]
theorem sc_flow1 (t : Int) : SC Tryz.prog 60 [iInt t] [] (fun _ => False) (iBool (!isTy t)) [] := by
  refine SC.of Tryz.func60 rfl (lb rfl) fun F ρ w => ?_
  refine tQ <| tG <| sm 1 rfl <| nL <| tQ <| tG <| sm 1 rfl <| cE rfl (ocq (y58 _) ent57 rfl rfl) <| sm 2 rfl <| nL <| tRt <| rOk rfl ?_ nPo
  rfl
theorem z7r (x : Nd) : SC Tryz.prog 103 [.pv (ndv x)] [] (fun _ => False) (iBool (z1b x.kind)) [] := by
  refine SC.of Tryz.func103 rfl (lb rfl) fun F ρ w => ?_
  refine tQ <| tG <| cE rfl (z1d rfl rfl) <| sm 1 rfl <| nL <| tQ <| tG <| sm 4 rfl ?_
  refine wS 6 rfl (fun hb6 => ?_) fun hb6 => ?_
  ·refine sm 5 rfl <| nL <| tRt <| rOk rfl ?_ nPo
   unfold z1b
   simp_all <;> omega
  refine sm 5 rfl <| nL <| tRt <| rOk rfl ?_ nPo
  unfold z1b
  simp_all <;> omega
theorem zj1 (l : List Nd) : SC Tryz.prog 106 [.pv (z0g l)] [] (fun _ => False) (iBool (zd9 l)) [] := by
  refine SC.of Tryz.func106 rfl (lb rfl) fun F ρ w => ?_
  refine Tr.lenOf (t := 0) rfl (fun hl => ?_)
  simp only [List.length_map] at hl
  refine tQ <| tG <| sm 1 rfl <| nL <| tQ <| tG <| sm 1 rfl <| cV rfl (oSm uT44 rfl) <| sm 2 rfl ?_
  refine wS 6 rfl (fun hb6 => ?_) fun hb6 => ?_
  ·have hpos : 0 < l.length := by simp at hb6; omega
   have hlt : l.length - 1 < l.length := by omega
   have hi := z2r (List.getElem?_eq_getElem hlt)
   have hlast : l.getLast? = some l[l.length - 1] := by rw [List.getLast?_eq_getElem?]; exact List.getElem?_eq_getElem hlt
   generalize l[l.length - 1] = x at hi hlast
   have hsub : (l.length : Int) - 1 = ((l.length - 1 : Nat) : Int) := by omega
   refine sm 2 rfl <| yV rfl rfl (oSm uT44 rfl) <| yV rfl rfl (oB rfl rfl (z3l rfl oM0)) <| WL.sub (Sub.of (fr' := [(10, iInt ((l.length - 1 : Nat) : Int)), (7, .pv (z0g l)), (6, iBool true)]) ⟨by rw [<- hsub]; rfl, rfl, rfl, trivial⟩) <| yV rfl rfl (iSq rfl rfl rfl uT44 (by assumption) tS43 rfl (by rfl)) <| sm 5 rfl <| nL <| tRt <| rOk rfl ?_ nPo
   refine congrArg (fun b => iBool b) ?_
   simp [zd9, hlast]
  refine sm 10 rfl <| nL <| tRt <| rOk rfl ?_ nPo
  refine congrArg (fun b => iBool b) ?_
  (have h0 : l = [] := by cases l <;> simp_all <;> omega
   subst h0; rfl)
theorem zw6 (op : Int) : SC Tryz.prog 126 [iInt op] [] (fun _ => False) (.tup [iInt (z0d op).1, iInt (z0d op).2]) [] := by
  refine SC.of Tryz.func126 rfl (lb rfl) fun F ρ w => ?_
  refine tQ <| tG <| sm 2 rfl <| nL <| tQ <| tQ <| tG <| sm 1 rfl <| nL <| tBk <| tQ <| tG ?_
  refine sm 2 rfl <| nL ?_
  refine tC rfl (fun hc5 => ?_) fun hc5 => ?_
  ·refine tQ <| tG <| sm 2 rfl <| nL <| tRt <| rOk rfl ?_ nPo
   first | (simp_all [z0d]; done) | (simp_all [z0d]; split <;> first | omega | (simp; done))
  refine tQ <| tQ <| tG <| sm 2 rfl <| nL ?_
  refine tC rfl (fun hc7 => ?_) fun hc7 => ?_
  ·refine tSk ?_
   refine tC rfl (fun hc7 => ?_) fun hc7 => ?_
   ·refine tQ <| tG <| sm 2 rfl <| nL <| tRt <| rOk rfl ?_ nPo
    first | (simp_all [z0d]; done) | (simp_all [z0d]; split <;> first | omega | (simp; done))
   refine tQ <| tQ <| tG <| sm 2 rfl <| nL ?_
   refine tC rfl (fun hc10 => ?_) fun hc10 => ?_
   ·refine tSk ?_
    refine tC rfl (fun hc10 => ?_) fun hc10 => ?_
    ·refine tQ <| tG <| sm 2 rfl <| nL <| tRt <| rOk rfl ?_ nPo
     first | (simp_all [z0d]; done) | (simp_all [z0d]; split <;> first | omega | (simp; done))
    refine tSk <| tQ <| tG <| sm 2 rfl <| nL <| tRt <| rOk rfl ?_ nPo
    first | (simp_all [z0d]; done) | (simp_all [z0d]; split <;> first | omega | (simp; done))
   refine tQ <| tG <| sm 2 rfl <| nL ?_
   refine tC rfl (fun hc10 => ?_) fun hc10 => ?_
   ·refine tSk ?_
    refine tC rfl (fun hc10 => ?_) fun hc10 => ?_
    ·refine tQ <| tG <| sm 2 rfl <| nL <| tRt <| rOk rfl ?_ nPo
     first | (simp_all [z0d]; done) | (simp_all [z0d]; split <;> first | omega | (simp; done))
    refine tSk <| tQ <| tG <| sm 2 rfl <| nL <| tRt <| rOk rfl ?_ nPo
    first | (simp_all [z0d]; done) | (simp_all [z0d]; split <;> first | omega | (simp; done))
   refine tQ <| tG <| sm 2 rfl <| nL ?_
   refine tC rfl (fun hc10 => ?_) fun hc10 => ?_
   ·refine tSk ?_
    refine tC rfl (fun hc10 => ?_) fun hc10 => ?_
    ·refine tQ <| tG <| sm 2 rfl <| nL <| tRt <| rOk rfl ?_ nPo
     first | (simp_all [z0d]; done) | (simp_all [z0d]; split <;> first | omega | (simp; done))
    refine tSk <| tQ <| tG <| sm 2 rfl <| nL <| tRt <| rOk rfl ?_ nPo
    first | (simp_all [z0d]; done) | (simp_all [z0d]; split <;> first | omega | (simp; done))
   refine tG <| sm 2 rfl <| nL ?_
   refine tC rfl (fun hc10 => ?_) fun hc10 => ?_
   ·refine tQ <| tG <| sm 2 rfl <| nL <| tRt <| rOk rfl ?_ nPo
    first | (simp_all [z0d]; done) | (simp_all [z0d]; split <;> first | omega | (simp; done))
   refine tSk <| tQ <| tG <| sm 2 rfl <| nL <| tRt <| rOk rfl ?_ nPo
   first | (simp_all [z0d]; done) | (simp_all [z0d]; split <;> first | omega | (simp; done))
  refine tG <| sm 2 rfl <| nL ?_
  refine tC rfl (fun hc7 => ?_) fun hc7 => ?_
  ·refine tQ <| tG <| sm 2 rfl <| nL <| tRt <| rOk rfl ?_ nPo
   first | (simp_all [z0d]; done) | (simp_all [z0d]; split <;> first | omega | (simp; done))
  refine tQ <| tQ <| tG <| sm 2 rfl <| nL ?_
  refine tC rfl (fun hc10 => ?_) fun hc10 => ?_
  ·refine tSk ?_
   refine tC rfl (fun hc10 => ?_) fun hc10 => ?_
   ·refine tQ <| tG <| sm 2 rfl <| nL <| tRt <| rOk rfl ?_ nPo
    first | (simp_all [z0d]; done) | (simp_all [z0d]; split <;> first | omega | (simp; done))
   refine tSk <| tQ <| tG <| sm 2 rfl <| nL <| tRt <| rOk rfl ?_ nPo
   first | (simp_all [z0d]; done) | (simp_all [z0d]; split <;> first | omega | (simp; done))
  refine tQ <| tG <| sm 2 rfl <| nL ?_
  refine tC rfl (fun hc10 => ?_) fun hc10 => ?_
  ·refine tSk ?_
   refine tC rfl (fun hc10 => ?_) fun hc10 => ?_
   ·refine tQ <| tG <| sm 2 rfl <| nL <| tRt <| rOk rfl ?_ nPo
    first | (simp_all [z0d]; done) | (simp_all [z0d]; split <;> first | omega | (simp; done))
   refine tSk <| tQ <| tG <| sm 2 rfl <| nL <| tRt <| rOk rfl ?_ nPo
   first | (simp_all [z0d]; done) | (simp_all [z0d]; split <;> first | omega | (simp; done))
  refine tQ <| tG <| sm 2 rfl <| nL ?_
  refine tC rfl (fun hc10 => ?_) fun hc10 => ?_
  ·refine tSk ?_
   refine tC rfl (fun hc10 => ?_) fun hc10 => ?_
   ·refine tQ <| tG <| sm 2 rfl <| nL <| tRt <| rOk rfl ?_ nPo
    first | (simp_all [z0d]; done) | (simp_all [z0d]; split <;> first | omega | (simp; done))
   refine tSk <| tQ <| tG <| sm 2 rfl <| nL <| tRt <| rOk rfl ?_ nPo
   first | (simp_all [z0d]; done) | (simp_all [z0d]; split <;> first | omega | (simp; done))
  refine tG <| sm 2 rfl <| nL ?_
  refine tC rfl (fun hc10 => ?_) fun hc10 => ?_
  ·refine tQ <| tG <| sm 2 rfl <| nL <| tRt <| rOk rfl ?_ nPo
   first | (simp_all [z0d]; done) | (simp_all [z0d]; split <;> first | omega | (simp; done))
  refine tSk <| tQ <| tG <| sm 2 rfl <| nL <| tRt <| rOk rfl ?_ nPo
  first | (simp_all [z0d]; done) | (simp_all [z0d]; split <;> first | omega | (simp; done))
theorem zw5 (x : Nd) (ih : ∀ q ∈ x.kids, SC Tryz.prog 107 [.pv (z0g q)] [] (fun _ => False) (iBool (z0y q)) []) : SC Tryz.prog 120 [.pv (ndv x)] [] (fun _ => False) (iBool (z2s x)) [] := by
  refine SC.of Tryz.func120 rfl (lb rfl) fun F ρ w => ?_
  refine tQ <| tG <| cE rfl (z1d rfl rfl) <| sm 1 rfl <| nL <| tQ <| tG <| sm 4 rfl ?_
  refine wS 6 rfl (fun hb6 => ?_) fun hb6 => ?_
  ·refine sm 4 rfl <| nUu rfl rfl rfl rfl rfl rfl <| nUu rfl rfl rfl rfl rfl rfl <| nUu rfl rfl rfl rfl rfl rfl <| sm 3 rfl <| nL <| tRt <| rOk rfl ?_ nPo
   rw [z4v, z53]
   simp_all
  refine sm 4 rfl ?_
  refine wS 10 rfl (fun hb10 => ?_) fun hb10 => ?_
  ·refine sm 2 rfl <| WL.yes rfl rfl rfl rfl rfl rfl (z10 (y2h 107 [] [] rfl y3n z0y x.kids (fun q hq => (ih q hq).anyR)) ent121 rfl rfl (sSm rfl (Subs.cons (fun _ _ _ _ h => zq7 h) Subs.nil)) rfl) <| sm 3 rfl <| nL <| tRt <| rOk rfl ?_ nPo
   rw [z4v, z53]
   simp_all
  refine sm 6 rfl <| nL <| tRt <| rOk rfl ?_ nPo
  rw [z4v, z53]
  simp_all
theorem zj0 (N : Nat) : ∀ (l : List Nd), SizeOf.sizeOf l < N -> SC Tryz.prog 107 [.pv (z0g l)] [] (fun _ => False) (iBool (z0y l)) [] := by
  induction N with
  | zero => intro l hN; exact absurd hN (Nat.not_lt_zero _)
  | succ N ih =>
    intro l hN
    refine SC.of Tryz.func107 rfl (lb rfl) fun F ρ w => ?_
    refine tQ <| tG <| sm 1 rfl <| nL <| tQ <| tG <| sm 1 rfl <| cE rfl (z10 (y08 120 [] [] rfl ent120 z2s l (fun x hm => (zw5 x (fun q hq => ih q (Nat.lt_of_lt_of_le (z7j hm rfl hq) (Nat.le_of_lt_succ hN)))).anyR)) ent119 rfl rfl (sSm rfl (Subs.cons (fun _ _ _ _ h => zq7 h) Subs.nil)) rfl) <| sm 1 rfl <| nL <| tRt <| rOk rfl ?_ nPo
    rw [zc0]
theorem zi9 (l : List Nd) : SC Tryz.prog 107 [.pv (z0g l)] [] (fun _ => False) (iBool (z0y l)) [] := zj0 _ l (Nat.lt_succ_self _)
theorem z8p (x : Nd) : SC Tryz.prog 86 [.pv (ndv x)] [] (fun _ => False) (iBool (z09 x)) [] := by
  refine SC.of Tryz.func86 rfl (lb rfl) fun F ρ w => ?_
  refine tQ <| tG <| cE rfl (z1d rfl rfl) <| sm 1 rfl <| nL <| tQ <| tBk <| tQ <| tG <| sm 4 rfl ?_
  refine wS 7 rfl (fun hb7 => ?_) fun hb7 => ?_
  ·refine sm 2 rfl <| yV rfl rfl (oSm uT41 rfl) <| sm 3 rfl <| nL ?_
   refine tC rfl (fun hc3 => ?_) fun hc3 => ?_
   ·have hl : x.kids.length = 2 := by first | (simp_all; done) | (simp_all; omega)
    have h10 : x.kind = 10 := by simp_all
    have hi0 : (x.kids.map eKid)[0]? = some [z0g (kid0 x.kids)] := by rw [List.getElem?_map]; simp [kid0, eKid, hl]
    have hi1 : (x.kids.map eKid)[1]? = some [z0g (kid1 x.kids)] := by rw [List.getElem?_map]; simp [kid1, eKid, hl]
    refine tQ <| tG <| sm 2 rfl <| cV rfl (iSq rfl rfl rfl uT41 hi0 tS44 rfl (by rfl)) <| sm 1 rfl <| cE rfl (ocq (zj1 _) ent106 rfl rfl) <| sm 2 rfl ?_
    refine wS 19 rfl (fun hb19 => ?_) fun hb19 => ?_
    ·refine sm 2 rfl <| yV rfl rfl (iSq rfl rfl rfl uT41 hi1 tS44 rfl (by rfl)) <| sm 1 rfl <| WL.yes rfl rfl rfl rfl rfl rfl (z10 (zj1 _) ent106 rfl rfl (sRf _ _) rfl) <| sm 3 rfl <| nL <| tRt <| rOk rfl ?_ nPo
     simp_all [z09, z3h]
    refine sm 8 rfl <| nL <| tRt <| rOk rfl ?_ nPo
    simp_all [z09, z3h]
   refine tQ <| tG <| sm 4 rfl ?_
   refine wS 31 rfl (fun hb31 => ?_) fun hb31 => ?_
   ·refine sm 2 rfl <| yV rfl rfl (oSm uT41 rfl) <| sm 3 rfl <| nL ?_
    refine tC rfl (fun hc27 => ?_) fun hc27 => ?_
    ·have hl : x.kids.length = 1 := by first | (simp_all; done) | (simp_all; omega)
     have h11 : x.kind = 11 := by simp_all
     have hi0 : (x.kids.map eKid)[0]? = some [z0g (kid0 x.kids)] := by rw [List.getElem?_map]; simp [kid0, eKid, hl]
     refine tQ <| tG <| sm 2 rfl <| cV rfl (iSq rfl rfl rfl uT41 hi0 tS44 rfl (by rfl)) <| sm 1 rfl <| cE rfl (ocq (zi9 _) y3n rfl rfl) <| sm 2 rfl <| nL <| tRt <| rOk rfl ?_ nPo
     simp_all [z09, z3h]
    refine tSk <| tQ <| tG <| cV rfl (lEA rfl rfl uT43 rfl tS43 (lb rfl)) <| cE rfl (ocq (z7r x) zs1 rfl rfl) <| sm 1 rfl <| nL <| tRt <| rOk rfl ?_ nPo
    simp_all [z09, z3h]
   refine sm 6 rfl <| nL <| Tr.condF rfl <| tSk <| tQ <| tG <| cV rfl (lEA rfl rfl uT43 rfl tS43 (lb rfl)) <| cE rfl (ocq (z7r x) zs1 rfl rfl) <| sm 1 rfl <| nL <| tRt <| rOk rfl ?_ nPo
   simp_all [z09, z3h]
  refine sm 6 rfl <| nL <| Tr.condF rfl <| tQ <| tG <| sm 4 rfl ?_
  refine wS 31 rfl (fun hb31 => ?_) fun hb31 => ?_
  ·refine sm 2 rfl <| yV rfl rfl (oSm uT41 rfl) <| sm 3 rfl <| nL ?_
   refine tC rfl (fun hc27 => ?_) fun hc27 => ?_
   ·have hl : x.kids.length = 1 := by first | (simp_all; done) | (simp_all; omega)
    have h11 : x.kind = 11 := by simp_all
    have hi0 : (x.kids.map eKid)[0]? = some [z0g (kid0 x.kids)] := by rw [List.getElem?_map]; simp [kid0, eKid, hl]
    refine tQ <| tG <| sm 2 rfl <| cV rfl (iSq rfl rfl rfl uT41 hi0 tS44 rfl (by rfl)) <| sm 1 rfl <| cE rfl (ocq (zi9 _) y3n rfl rfl) <| sm 2 rfl <| nL <| tRt <| rOk rfl ?_ nPo
    simp_all [z09, z3h]
   refine tSk <| tQ <| tG <| cV rfl (lEA rfl rfl uT43 rfl tS43 (lb rfl)) <| cE rfl (ocq (z7r x) zs1 rfl rfl) <| sm 1 rfl <| nL <| tRt <| rOk rfl ?_ nPo
   simp_all [z09, z3h]
  refine sm 6 rfl <| nL <| Tr.condF rfl <| tSk <| tQ <| tG <| cV rfl (lEA rfl rfl uT43 rfl tS43 (lb rfl)) <| cE rfl (ocq (z7r x) zs1 rfl rfl) <| sm 1 rfl <| nL <| tRt <| rOk rfl ?_ nPo
  simp_all [z09, z3h]
theorem y0e (x : Fl) (s : ByteArray) : SC Tryz.prog 83 [.pv (.agg x.enc), .pv (.ept [vStr s] 0)] [] (fun _ => False) (iBool (x.name.toList == s.toList)) [] := by
  refine SC.of Tryz.func83 rfl (lb rfl) fun F ρ w => ?_
  refine tQ <| tG <| cE rfl (z1d rfl rfl) <| sm 1 rfl <| nL <| tQ <| tG <| sm 3 rfl <| cV rfl (bSt rfl rfl rfl rfl) <| sm 1 rfl <| nL <| tRt <| rOk rfl ?_ nPo
  rfl
theorem za4 (u : Un) (s : ByteArray) : SC Tryz.prog 58 [.pv u.enc, iStr s] [] (fun _ => False) (iInt (z0a s u.flows 0)) [] := by
  refine SC.of Tryz.func58 rfl (lb rfl) fun F ρ w => ?_
  refine tQ <| tG <| cE rfl (z1d rfl rfl) <| cE rfl (y4m rfl rfl rfl) <| sm 1 rfl <| nL <| tQ <| tG <| sm 2 rfl <| cV rfl (z6r rfl rfl rfl) <| cE rfl (ocq (y09 83 [.pv (.ept [vStr s] 0)] [] rfl ent83 (fun f : Fl => f.name.toList == s.toList) u.flows (fun x hm => (y0e x s).anyR)) ent82 rfl rfl) <| sm 1 rfl ?_
  refine nL <| tRt <| rOk rfl ?_ nPo
  rw [zm3]
theorem y5h (x : Ar) (s : ByteArray) : SC Tryz.prog 129 [.pv (.agg x.enc), .pv (.ept [vStr s] 0)] [] (fun _ => False) (iBool (x.name.toList == s.toList)) [] := by
  refine SC.of Tryz.func129 rfl (lb rfl) fun F ρ w => ?_
  refine tQ <| tG <| cE rfl (z1d rfl rfl) <| sm 1 rfl <| nL <| tQ <| tG <| sm 3 rfl <| cV rfl (bSt rfl rfl rfl rfl) <| sm 1 rfl <| nL <| tRt <| rOk rfl ?_ nPo
  rfl
theorem zd8 (u : Un) (s : ByteArray) : SC Tryz.prog 118 [.pv u.enc, iStr s] [] (fun _ => False) (iBool (decide (z1j s u.arrays 0 ≥ 0))) [] := by
  refine SC.of Tryz.func118 rfl (lb rfl) fun F ρ w => ?_
  refine tQ <| tG <| cE rfl (z1d rfl rfl) <| cE rfl (y4m rfl rfl rfl) <| sm 1 rfl <| nL <| tQ <| tG <| sm 2 rfl <| cV rfl (z6r rfl rfl rfl) <| cE rfl (ocq (y2f 129 [.pv (.ept [vStr s] 0)] [] rfl ent129 (fun f : Ar => f.name.toList == s.toList) u.arrays (fun x hm => (y5h x s).anyR)) ent128 rfl rfl) <| sm 1 rfl ?_
  refine nL <| tRt <| rOk rfl ?_ nPo
  rw [zh2 _ _ _ (Int.le_refl 0)]
theorem zq0 (u : Un) (f : Fl) (st : List Int) (v t : Int) : SC Tryz.prog 122 [.ptr 3 0, iInt v, iInt t] (ckS u f 3 st) (fun _ => True) (iBool (z46 f.types v t)) (ckS u f 3 st) := by
  refine SC.of Tryz.func122 rfl (lb rfl) fun F ρ w => ?_
  refine tQ <| tG <| sm 1 rfl <| nL <| tQ <| tG <| sm 3 rfl ?_
  refine wS 9 rfl (fun hb9 => ?_) fun hb9 => ?_
  ·refine sm 2 rfl <| yV rfl rfl (nCk rfl rfl rfl) <| sm 3 rfl <| yV rfl rfl (oSm uT35 rfl) <| sm 3 rfl ?_
   refine wS 19 rfl (fun hb19 => ?_) fun hb19 => ?_
   ·refine sm 3 rfl ?_
    refine wS 22 rfl (fun hb22 => ?_) fun hb22 => ?_
    ·refine sm 13 rfl <| nL <| tRt <| rOk rfl ?_ (fun _ _ h => h)
     refine congrArg (fun b => iBool b) ?_
     try clear hvx
     simp_all [z46]
    have hv0 : v.toNat < f.types.length := by simp at hb9 hb19; omega
    have hvx : v = ((v.toNat : Nat) : Int) := by simp at hb9; omega
    have hty : (f.types.map eInt)[v.toNat]? = some [vInt (f.types.getD v.toNat 0)] := by rw [List.getElem?_map]; simp [eInt, List.getD, hv0]
    refine sm 1 rfl <| yV rfl rfl (nCk rfl rfl rfl) <| sm 4 rfl <| yV rfl rfl (iSq rfl rfl rfl uT35 hty tS3 rfl oM0) <| sm 6 rfl <| nL <| tRt <| rOk rfl ?_ (fun _ _ h => h)
    refine congrArg (fun b => iBool b) ?_
    try clear hvx
    simp_all [z46]
   refine sm 3 rfl <| nUu rfl rfl rfl rfl rfl rfl <| nUu rfl rfl rfl rfl rfl rfl <| nUu rfl rfl rfl rfl rfl rfl <| nUu rfl rfl rfl rfl rfl rfl <| nUu rfl rfl rfl rfl rfl rfl <| nUu rfl rfl rfl rfl rfl rfl <| nUu rfl rfl rfl rfl rfl rfl <| nUu rfl rfl rfl rfl rfl rfl <| nUu rfl rfl rfl rfl rfl rfl <| nUu rfl rfl rfl rfl rfl rfl <| sm 3 rfl ?_
   refine nL <| tRt <| rOk rfl ?_ (fun _ _ h => h)
   refine congrArg (fun b => iBool b) ?_
   try clear hvx
   (simp_all [z46] <;> omega)
  refine sm 13 rfl <| nUu rfl rfl rfl rfl rfl rfl <| nUu rfl rfl rfl rfl rfl rfl <| nUu rfl rfl rfl rfl rfl rfl <| nUu rfl rfl rfl rfl rfl rfl <| nUu rfl rfl rfl rfl rfl rfl <| nUu rfl rfl rfl rfl rfl rfl <| nUu rfl rfl rfl rfl rfl rfl <| nUu rfl rfl rfl rfl rfl rfl <| nUu rfl rfl rfl rfl rfl rfl <| nUu rfl rfl rfl rfl rfl rfl <| sm 3 rfl ?_
  refine nL <| tRt <| rOk rfl ?_ (fun _ _ h => h)
  refine congrArg (fun b => iBool b) ?_
  try clear hvx
  (simp_all [z46] <;> omega)
theorem y5n (u : Un) (f : Fl) (st : List Int) (hs : st.length = f.types.length) (v t : Int) : SC Tryz.prog 124 [iInt v, iInt t, .ptr 5 0] (ckSp u f 3 5 st) (fun _ => True) (iBool (za8 f.types st v t).1) (ckSp u f 3 5 st) := by
  refine SC.of Tryz.func124 rfl (lb rfl) fun F ρ w => ?_
  refine tQ <| tG <| sm 1 rfl <| nL <| tQ <| tG <| sm 3 rfl <| cE rfl (ocr (zq0 u f st v t) y3p rfl (po2 rfl rfl) rfl (fun k (h : _) => .inr trivial) rfl rfl) <| sm 1 rfl ?_
  refine wS 10 rfl (fun hb10 => ?_) fun hb10 => ?_
  ·have hrg : 0 <= v /\ v < f.types.length := by
     have hvv : z46 f.types v t = true := by simpa using hb10
     simp only [z46, Bool.and_eq_true, decide_eq_true_eq] at hvv
     exact ⟨hvv.1.1, hvv.1.2⟩
   have hv0 : v.toNat < f.types.length := by omega
   have hvx : v = ((v.toNat : Nat) : Int) := by omega
   have hst : (st.map eInt)[v.toNat]? = some [vInt (st.getD v.toNat 0)] := by rw [List.getElem?_map]; simp [eInt, List.getD, hs, hv0]
   have hstl : v.toNat < (st.map eInt).length := by simpa [hs] using hv0
   refine sm 1 rfl <| yV rfl rfl (nCk rfl rfl rfl) <| sm 3 rfl <| yV rfl rfl (iRw rfl rfl rfl rfl rfl uT35 tS3 (by assumption) oM0) <| yV rfl rfl (lRw rfl rfl rfl rfl (Nat.add_zero _).symm (by assumption) rfl uT3 rfl trivial) <| sm 3 rfl <| nL <| tRt <| rOk rfl ?_ (z28 (And.intro rfl (And.intro rfl (And.intro rfl (trivial)))))
   refine congrArg (fun b => iBool b) ?_
   try clear hvx
   simp_all [za8]
  refine sm 10 rfl <| nL <| tRt <| rOk rfl ?_ (z28 (And.intro rfl (And.intro rfl (And.intro rfl (trivial)))))
  refine congrArg (fun b => iBool b) ?_
  try clear hvx
  simp_all [za8]
theorem z1l (u : Un) (f : Fl) (st : List Int) (hs : st.length = f.types.length) (l want : List Int) : SC Tryz.prog 114 [.ptr 3 0, .pv (ints l), .pv (ints want)] (ckS u f 3 st) (fun _ => True) (iBool (z19 f.types st l want)) (ckS u f 3 st) := by
  refine SC.of Tryz.func114 rfl (lb rfl) fun F ρ w => ?_
  refine tQ <| tG <| cE rfl (zm8 (k := 5) rfl rfl ⟨_, rfl⟩ rfl rfl rfl rfl rfl) <| sm 1 rfl <| nL <| tQ <| tG <| sm 2 rfl <| cV rfl (z6r rfl rfl rfl) <| cE rfl (ocr (sc_eqf 124 [.ptr 5 0] (List Int) (fun s => ckSp u f 3 5 s) [5, 3, 4] (fun _ => rfl) (fun _ => rfl) ent124 (za8 f.types) (fun _ => True) (fun s => s.length = f.types.length) (fun s x y h => h) (fun s x y h => y5n u f s h x y) st hs l want) ent123 rfl (po3 rfl rfl rfl) rfl (fun k (h : _) => .inr trivial) rfl rfl) <| sm 1 rfl <| nL ?_
  refine tRt ?_
  have h2 := y2u f.types st l want
  rw [h2]
  exact rOk rfl rfl (po2 rfl rfl)
theorem y5m (u : Un) (f : Fl) (st : List Int) (hs : st.length = f.types.length) (v t : Int) : SC Tryz.prog 125 [iInt v, iInt t, .ptr 5 0] (ckSp u f 3 5 st) (fun k => k = 3 ∨ k = 5) (iBool (z3g f.types st v t).1) (ckSp u f 3 5 (z3g f.types st v t).2) := by
  refine SC.of Tryz.func125 rfl (lb rfl) fun F ρ w => ?_
  refine tQ <| tG <| sm 1 rfl <| nL <| tQ <| tQ <| tG <| sm 3 rfl <| cE rfl (ocr (zq0 u f st v t) y3p rfl (po2 rfl rfl) rfl (fun k (h : _) => .inr trivial) rfl rfl) <| sm 2 rfl ?_
  refine wS 11 rfl (fun hb11 => ?_) fun hb11 => ?_
  ·refine sm 9 rfl <| nL <| Tr.condT rfl <| tQ <| tG <| sm 1 rfl <| nL <| tRt ?_
   have h2 : z3g f.types st v t = (false, st) := by
     try clear hvx
     simp_all [z3g]
   rw [h2]
   exact rOk rfl rfl (po3 rfl rfl rfl)
  have hrg : 0 <= v /\ v < f.types.length := by
    have hvv : z46 f.types v t = true := by simpa using hb11
    simp only [z46, Bool.and_eq_true, decide_eq_true_eq] at hvv
    exact ⟨hvv.1.1, hvv.1.2⟩
  have hv0 : v.toNat < f.types.length := by omega
  have hvx : v = ((v.toNat : Nat) : Int) := by omega
  have hst : (st.map eInt)[v.toNat]? = some [vInt (st.getD v.toNat 0)] := by rw [List.getElem?_map]; simp [eInt, List.getD, hs, hv0]
  have hstl : v.toNat < (st.map eInt).length := by simpa [hs] using hv0
  refine sm 1 rfl <| yV rfl rfl (nCk rfl rfl rfl) <| sm 3 rfl <| yV rfl rfl (iRw rfl rfl rfl rfl rfl uT35 tS3 (by assumption) oM0) <| yV rfl rfl (lRw rfl rfl rfl rfl (Nat.add_zero _).symm (by assumption) rfl uT3 rfl trivial) <| sm 2 rfl <| nL ?_
  refine tC rfl (fun hc20 => ?_) fun hc20 => ?_
  ·refine tQ <| tG <| sm 1 rfl <| nL <| tRt ?_
   have h2 : z3g f.types st v t = (false, st) := by
     try clear hvx
     simp_all [z3g]
   rw [h2]
   exact rOk rfl rfl (po3 rfl rfl rfl)
  refine tSk <| tQ <| tG <| sm 1 rfl <| cV rfl (nCk rfl rfl rfl) <| sm 3 rfl <| cV rfl (iRw rfl rfl rfl rfl rfl uT35 tS3 (by assumption) oM0) <| c0 (z1y rfl rfl rfl rfl rfl (Nat.add_zero _).symm (by assumption) sI0 tS3 rfl sI0) <| nL <| tQ <| tG <| sm 1 rfl ?_
  refine nL <| tRt ?_
  have h2 : z3g f.types st v t = (true, st.set v.toNat 1) := by
    try clear hvx
    simp_all [z3g]
  rw [h2]
  exact rOk rfl rfl (z28 (And.intro rfl (And.intro (set3 rfl) (And.intro (set4 rfl) trivial))))
theorem z23 (u : Un) (f : Fl) (st : List Int) (hs : st.length = f.types.length) (l want : List Int) : SC Tryz.prog 116 [.ptr 3 0, .pv (ints l), .pv (ints want)] (ckS u f 3 st) (fun k => k = 3) (iBool (z0v f.types st l want).1) (ckS u f 3 (z0v f.types st l want).2) := by
  refine SC.of Tryz.func116 rfl (lb rfl) fun F ρ w => ?_
  refine tQ <| tG <| cE rfl (zm8 (k := 5) rfl rfl ⟨_, rfl⟩ rfl rfl rfl rfl rfl) <| sm 1 rfl <| nL <| tQ <| tG <| sm 2 rfl <| cV rfl (z6r rfl rfl rfl) <| cE rfl (ocr (sc_eqf 125 [.ptr 5 0] (List Int) (fun s => ckSp u f 3 5 s) [5, 3, 4] (fun _ => rfl) (fun _ => rfl) ent125 (z3g f.types) (fun k => k = 3 ∨ k = 5) (fun s => s.length = f.types.length) (fun s x y h => (z6y f.types s x y).trans h) (fun s x y h => y5m u f s h x y) st hs l want) ent123 rfl (po3 rfl rfl rfl) rfl (fun k (h : _) => by (subst h; first | exact .inl rfl | exact .inr rfl | exact .inr dC0)) rfl rfl) <| sm 1 rfl <| nL ?_
  refine tRt <| rOk rfl ?_ (z28 (And.intro rfl (And.intro rfl (trivial))))
  rfl
theorem z9f (u : Un) (f : Fl) (st : List Int) (hs : st.length = f.types.length) (l : List Int) (hb : l.length <= 1073741824) : SC Tryz.prog 115 [.ptr 3 0, .pv (ints l)] (ckS u f 3 st) (fun k => k = 3) (iBool (z0v f.types st l (List.replicate l.length 0)).1) (ckS u f 3 (z0v f.types st l (List.replicate l.length 0)).2) := by
  refine SC.of Tryz.func115 rfl (lb rfl) fun F ρ w => ?_
  refine tQ <| tG <| sm 1 rfl <| nL <| tQ <| tG <| sm 3 rfl <| cV rfl (oSm uT35 rfl) <| cE rfl (z15 (k := 109) (s := ⟨3, 1⟩) rfl rfl rfl uT35 tZ3 tC3 rfl dC0 oM0 oM0 rfl rfl rfl rfl) <| cE rfl (z30 (fun k => k = 109) (z23 u f st hs l (List.replicate l.length 0)) z50 rfl rfl (sRf _ _) (And.intro LendOf.same (And.intro LendOf.same (And.intro (LendOf.row rfl rfl (by (simp; done)) (by (simp only [List.map_replicate]; rfl))) (trivial)))) (fun k h => by subst h; rfl) (po2 rfl rfl) rfl (fun k (h : _) => .inr h) ⟨_, rfl⟩ (ckS_lend (z32 ..))) <| sm 1 rfl <| nL ?_
  refine tRt <| rOk rfl ?_ (z28 (And.intro rfl (And.intro rfl (trivial))))
  rfl
theorem zw4 (u : Un) (f : Fl) (st : List Int) (hs : st.length = f.types.length) (l : List Int) (hin : ∀ v ∈ l, 0 <= v /\ v < f.types.length) : SC Tryz.prog 87 [.ptr 3 0, .pv (ints l)] (ckS u f 3 st) (fun k => k = 3) (.tup []) (ckS u f 3 (z2e st l)) := by
  refine SC.of Tryz.func87 rfl (lb rfl) fun F ρ w => ?_
  refine Tr.lenOf (t := 1) rfl (fun hl => ?_)
  simp only [List.length_map] at hl
  refine tQ <| tG <| sm 1 rfl <| cV rfl (oSm uT35 rfl) <| sm 1 rfl <| nL <| tBk <| Tr.sub (Sub.of (fr' := [(8, iInt 0), (7, iInt l.length), (6, .pv (ints l)), (0, .ptr 3 0)]) ⟨rfl, rfl, rfl, rfl, trivial⟩) ?_
  refine Tr.loop (fun fr σ m => ∃ (k : Nat) (s : List Int), (k <= l.length) /\ (z2e st l = z2e s (l.drop k)) /\ (s.length = f.types.length) /\ fr = [(8, iInt k), (7, iInt l.length), (6, .pv (ints l)), (0, .ptr 3 0)] /\ σ = look (up (ckS u f 3 s)) /\ m = l.length - k) (n := l.length - 0) ?_ ?_
  ·exact ⟨0, st, Nat.zero_le _, rfl, hs, rfl, rfl, rfl⟩
  rintro fr σ m ⟨k, s, hI0, hI1, hI2, rfl, rfl, rfl⟩
  refine tQ <| tG <| sm 1 rfl <| nL <| tQ ?_
  refine tC rfl (fun hc9 => ?_) fun hc9 => ?_
  ·have hlt : k < l.length := by simpa using hc9
   have hd := List.drop_eq_getElem_cons hlt
   have hm := List.getElem_mem hlt
   have hi := z0i (f := eInt) (List.getElem?_eq_getElem hlt)
   generalize l[k] = x at hd hm hi
   obtain ⟨hx0, hx1⟩ := hin x hm
   have hv0 : x.toNat < f.types.length := by omega
   have hvx : x = ((x.toNat : Nat) : Int) := by omega
   have hst : (s.map eInt)[x.toNat]? = some [vInt (s.getD x.toNat 0)] := by rw [List.getElem?_map]; simp [eInt, List.getD, hI2, hv0]
   have hstl : x.toNat < (s.map eInt).length := by simpa [hI2] using hv0
   refine tSk <| tQ <| tBk <| tQ <| tG <| cV rfl (iSq rfl rfl rfl uT35 hi tS3 rfl (by rfl)) <| sm 2 rfl <| nL <| tG <| sm 1 rfl <| cV rfl (nCk rfl rfl rfl) <| sm 3 rfl ?_
   refine cV rfl (iRw rfl rfl rfl rfl rfl uT35 tS3 (by assumption) oM0) <| c0 (z1y rfl rfl rfl rfl rfl (Nat.add_zero _).symm (by assumption) sI0 tS3 rfl sI0) <| nL <| tG <| cV rfl (oB rfl rfl (z0b rfl oM0)) <| sm 1 rfl <| nL ?_
   refine ⟨_, _, ?_, Sub.of (fr' := [(8, iInt (k + 1)), (7, iInt l.length), (6, .pv (ints l)), (0, .ptr 3 0)]) ⟨rfl, rfl, rfl, rfl, trivial⟩, (k + 1), (s.set x.toNat 2), ?_, ?_, ?_, rfl, (funext y3h), rfl⟩
   ·omega
   ·omega
   ·rw [hI1, hd]; rfl
   simpa using hI2
  refine tEx ?_
  have hge : l.length <= k := by simpa using hc9
  have h2 : z2e st l = s := by rw [hI1, List.drop_eq_nil_of_le hge]; rfl
  rw [h2]
  exact end_ok rfl rfl (fun _ _ h => h)
theorem tZ152 : ((Tryz.prog.info? 152).bind (·.zero)) = some (.agg #[.string ⟨#[]⟩, .int .i64 0, .string ⟨#[]⟩, .int .i64 0, .string ⟨#[]⟩, .int .i64 0, .string ⟨#[]⟩, .int .i64 0, .string ⟨#[]⟩, .int .i64 0, .string ⟨#[]⟩, .int .i64 0, .string ⟨#[]⟩, .int .i64 0, .string ⟨#[]⟩, .int .i64 0, .string ⟨#[]⟩, .int .i64 0, .string ⟨#[]⟩, .int .i64 0, .string ⟨#[]⟩, .int .i64 0, .string ⟨#[]⟩, .int .i64 0, .string ⟨#[]⟩, .int .i64 0, .string ⟨#[]⟩, .int .i64 0, .string ⟨#[]⟩, .int .i64 0, .string ⟨#[]⟩, .int .i64 0, .string ⟨#[]⟩, .int .i64 0, .string ⟨#[]⟩, .int .i64 0, .string ⟨#[]⟩, .int .i64 0, .string ⟨#[]⟩, .int .i64 0, .string ⟨#[]⟩, .int .i64 0, .string ⟨#[]⟩, .int .i64 0, .string ⟨#[]⟩, .int .i64 0, .string ⟨#[]⟩, .int .i64 0, .string ⟨#[]⟩, .int .i64 0, .string ⟨#[]⟩, .int .i64 0, .string ⟨#[]⟩, .int .i64 0, .string ⟨#[]⟩, .int .i64 0, .string ⟨#[]⟩, .int .i64 0]) := by kernel_rfl
theorem tS152 : (Tryz.prog.info? 152).map (·.size) = some 58 := by kernel_rfl
theorem sc_rowOf (op : Int) : SC Tryz.prog 132 [iInt op] [] (fun _ => False) (.pv (.agg [vStr (wSign op), vInt (z8i op)])) [] := by
  refine SC.ofC Tryz.func132 rfl (lb rfl) rfl fun F ρ w => ?_
  refine tQ ?_
  refine tG ?_
  refine cE rfl (aLc (k := 102) rfl z42 rfl rfl rfl rfl) ?_
  refine nL ?_
  refine tQ ?_
  refine tG ?_
  refine cV rfl (bPu rfl rfl z42 z47 rfl (fbk rfl) rfl) ?_
  refine cV rfl (bPu rfl rfl z42 z47 rfl (fbk rfl) rfl) ?_
  refine cV rfl (bPu rfl rfl z42 z47 rfl (fbk rfl) rfl) ?_
  refine cV rfl (bPu rfl rfl z42 z47 rfl (fbk rfl) rfl) ?_
  refine cV rfl (bPu rfl rfl z42 z47 rfl (fbk rfl) rfl) ?_
  refine cV rfl (bPu rfl rfl z42 z47 rfl (fbk rfl) rfl) ?_
  refine cV rfl (bPu rfl rfl z42 z47 rfl (fbk rfl) rfl) ?_
  refine cV rfl (bPu rfl rfl z42 z47 rfl (fbk rfl) rfl) ?_
  refine cV rfl (bPu rfl rfl z42 z47 rfl (fbk rfl) rfl) ?_
  refine cV rfl (bPu rfl rfl z42 z47 rfl (fbk rfl) rfl) ?_
  refine cV rfl (bPu rfl rfl z42 z47 rfl (fbk rfl) rfl) ?_
  refine cV rfl (bPu rfl rfl z42 z47 rfl (fbk rfl) rfl) ?_
  refine cV rfl (bPu rfl rfl z42 z47 rfl (fbk rfl) rfl) ?_
  refine cV rfl (bPu rfl rfl z42 z47 rfl (fbk rfl) rfl) ?_
  refine cV rfl (bPu rfl rfl z42 z47 rfl (fbk rfl) rfl) ?_
  refine cV rfl (bPu rfl rfl z42 z47 rfl (fbk rfl) rfl) ?_
  refine cV rfl (bPu rfl rfl z42 z47 rfl (fbk rfl) rfl) ?_
  refine cV rfl (bPu rfl rfl z42 z47 rfl (fbk rfl) rfl) ?_
  refine cV rfl (bPu rfl rfl z42 z47 rfl (fbk rfl) rfl) ?_
  refine cV rfl (bPu rfl rfl z42 z47 rfl (fbk rfl) rfl) ?_
  refine cV rfl (bPu rfl rfl z42 z47 rfl (fbk rfl) rfl) ?_
  refine cV rfl (bPu rfl rfl z42 z47 rfl (fbk rfl) rfl) ?_
  refine cV rfl (bPu rfl rfl z42 z47 rfl (fbk rfl) rfl) ?_
  refine cV rfl (bPu rfl rfl z42 z47 rfl (fbk rfl) rfl) ?_
  refine cV rfl (bPu rfl rfl z42 z47 rfl (fbk rfl) rfl) ?_
  refine cV rfl (bPu rfl rfl z42 z47 rfl (fbk rfl) rfl) ?_
  refine cV rfl (bPu rfl rfl z42 z47 rfl (fbk rfl) rfl) ?_
  refine cV rfl (bPu rfl rfl z42 z47 rfl (fbk rfl) rfl) ?_
  refine cV rfl (zu9 rfl rfl tZ152 Tryz.underlying152 zq9 rfl (fbk rfl)) ?_
  refine cE rfl (aLc (k := 103) rfl tZ152 rfl rfl rfl rfl) ?_
  refine c0 (sBA rfl rfl rfl rfl rfl ((fun h => h)) tS152 (flk rfl) (lb rfl)) ?_
  refine nL ?_
  refine tQ ?_
  refine tQ ?_
  refine tG ?_
  refine sm 3 rfl ?_
  refine wS 35 rfl (fun hb35 => ?_) fun hb35 => ?_
  ·refine sm 3 rfl ?_
   refine nL ?_
   refine Tr.condT rfl ?_
   refine tQ ?_
   refine tG ?_
   refine cV rfl (bPu rfl rfl z42 z47 rfl (fbk rfl) rfl) ?_
   refine c0 (sBA rfl rfl rfl rfl rfl ((fun h => h)) zq9 (flk rfl) (lb rfl)) ?_
   refine nL ?_
   refine tRt ?_
   have hop : op < 0 ∨ op ≥ 29 := by
     simp_all
   refine rCk (.inl rfl) (fun _ _ ho => lBP ho rfl rfl Tryz.underlying149 rfl zq9 (lb rfl) rfl trivial) ?_ nPo
   rcases hop with h | h <;> simp [wSign, z8i, h] <;> rfl
  refine sm 3 rfl ?_
  refine nL ?_
  refine tC rfl (fun hc38 => ?_) fun hc38 => ?_
  ·refine tQ ?_
   refine tG ?_
   refine cV rfl (bPu rfl rfl z42 z47 rfl (fbk rfl) rfl) ?_
   refine c0 (sBA rfl rfl rfl rfl rfl ((fun h => h)) zq9 (flk rfl) (lb rfl)) ?_
   refine nL ?_
   refine tRt ?_
   have hop : op < 0 ∨ op ≥ 29 := by
     simp_all
   refine rCk (.inl rfl) (fun _ _ ho => lBP ho rfl rfl Tryz.underlying149 rfl zq9 (lb rfl) rfl trivial) ?_ nPo
   rcases hop with h | h <;> simp [wSign, z8i, h] <;> rfl
  refine tSk ?_
  refine tQ ?_
  have hop : 0 <= op /\ op < 29 := by
    simp_all
  rcases y3d hop.1 hop.2 with rfl | rfl | rfl | rfl | rfl | rfl | rfl | rfl | rfl | rfl | rfl | rfl | rfl | rfl | rfl | rfl | rfl | rfl | rfl | rfl | rfl | rfl | rfl | rfl | rfl | rfl | rfl | rfl | rfl
  all_goals
    refine tG ?_
    refine sm 1 rfl ?_
    refine cV rfl (zv0 rfl rfl rfl rfl Tryz.underlying152 zq9 (by rfl) dC0) ?_
    refine cV rfl (lBP rfl rfl rfl Tryz.underlying149 rfl zq9 (lb rfl) rfl trivial) ?_
    refine c0 (sBA rfl rfl rfl rfl rfl ((fun h => h)) zq9 (flk rfl) (lb rfl)) ?_
    refine nL ?_
    refine tRt <| rCk (.inl rfl) (fun _ _ ho => lBP ho rfl rfl Tryz.underlying149 rfl zq9 (lb rfl) rfl trivial) ?_ nPo
    rfl
theorem y5s (op : Int) : SC Tryz.prog 127 [iInt op] [] (fun _ => False) (iInt (z8i op)) [] := by
  refine SC.of Tryz.func127 rfl (lb rfl) fun F ρ w => ?_
  refine tQ ?_
  refine tG ?_
  refine sm 1 rfl ?_
  refine nL ?_
  refine tQ ?_
  refine tG ?_
  refine sm 1 rfl ?_
  refine cE rfl (ocq (sc_rowOf op) ent132 rfl rfl) ?_
  refine cV rfl (zp1 rfl rfl Tryz.underlying149 rfl uT3 rfl rfl) ?_
  refine sm 1 rfl ?_
  refine nL ?_
  refine tRt <| rOk rfl ?_ nPo
  rfl
theorem y5f (x : Nd) : SC Tryz.prog 100 [.pv (ndv x)] [] (fun _ => False) (iBool (z0k x)) [] := by
  refine SC.of Tryz.func100 rfl (lb rfl) fun F ρ w => ?_
  refine tQ <| tG <| cE rfl (z80 (k := 101) rfl rfl rfl rfl rfl rfl) <| sm 1 rfl <| nL <| tQ <| tG <| cE rfl (z6c (k := 104) rfl rfl rfl rfl rfl) <| c0 (zv1 rfl rfl rfl rfl rfl ((fun h => h)) Tryz.underlying60 uT3 rfl dC0) <| c0 (zv1 rfl rfl rfl rfl rfl ((fun h => h)) Tryz.underlying60 uT3 rfl dC0) <| sm 3 rfl <| cV rfl (zg4 rfl rfl rfl rfl Tryz.underlying60 uT3 rfl dC0 tZ3 trivial) ?_
  have hkn : ((z4s (.int .i64 x.kind) (mput (.int .i64 11) (vInt 1) (mput (.int .i64 10) (vInt 2) []))).getD (.val (.int .i64 0))) = vInt (r8kn x) := by
    by_cases h10 : x.kind = 10
    ·simp [h10, mput, keyB, z4s, r8kn]
    by_cases h11 : x.kind = 11
    ·simp [h11, mput, keyB, z4s, r8kn]
    simp [h10, h11, mput, keyB, z4s, r8kn]
  refine WL.sub (Sub.of (fr' := [(8, iInt (r8kn x)), (1, .ptr 101 0)]) ⟨congrArg (fun p => some (IV.pv p)) hkn, rfl, trivial⟩) <| sm 1 rfl <| nL <| tQ <| tQ <| Tr.drop (k := 104) <| tG <| sm 2 rfl <| nL ?_
  refine Tr.cut (fr' := [(3, iInt (r8kn x)), (1, .ptr 101 0)]) (σ' := look [(101, some (.box [.pv (vInt x.kind), .pv (vInt (if r8op x then 0 else x.op)), .pv (vInt (if z1t x then 0 else x.n)), .pv (vStr (if z12 x then ⟨#[]⟩ else x.name)), .pv (ints x.args), .pv (ints x.outs), .pv (if x.kind == 11 then .val (.slice none 0 0) else ints x.params), .pv (kids x.kids)]))]) ?_ ?_
  ·refine tBk <| tQ <| tQ <| tG <| sm 2 rfl <| nL ?_
   refine tC rfl (fun hc11 => ?_) fun hc11 => ?_
   ·refine tSk ?_
    refine tC rfl (fun hc11 => ?_) fun hc11 => ?_
    ·refine tG <| sm 1 rfl <| c0 (sBx rfl rfl rfl rfl ((fun h => h)) tS3 (rfl) (lb rfl)) <| nL ?_
     refine ⟨rfl, Sub.of ⟨rfl, rfl, trivial⟩, funext fun j => ?_⟩
     by_cases h101 : 101 = j
     ·subst h101; exact congrArg (fun z => some (HO.box z)) (by simp_all [r8op, z1t, z12])
     by_cases h104 : 104 = j
     ·subst h104; rfl
     simp [look, up, z00 h101, z00 h104]
    refine tQ <| tQ <| tG <| sm 2 rfl <| nL ?_
    refine tC rfl (fun hc15 => ?_) fun hc15 => ?_
    ·refine tSk ?_
     refine tC rfl (fun hc15 => ?_) fun hc15 => ?_
     ·refine tG <| sm 1 rfl <| c0 (sBx rfl rfl rfl rfl ((fun h => h)) tS3 (rfl) (lb rfl)) <| nL ?_
      refine ⟨rfl, Sub.of ⟨rfl, rfl, trivial⟩, funext fun j => ?_⟩
      by_cases h101 : 101 = j
      ·subst h101; exact congrArg (fun z => some (HO.box z)) (by simp_all [r8op, z1t, z12])
      by_cases h104 : 104 = j
      ·subst h104; rfl
      simp [look, up, z00 h101, z00 h104]
     refine tQ <| tQ <| tG <| sm 2 rfl <| nL ?_
     refine tC rfl (fun hc19 => ?_) fun hc19 => ?_
     ·refine tSk ?_
      refine tC rfl (fun hc19 => ?_) fun hc19 => ?_
      ·refine tG <| sm 1 rfl <| c0 (sBx rfl rfl rfl rfl ((fun h => h)) tS9 (rfl) (lb rfl)) <| nL ?_
       refine ⟨rfl, Sub.of ⟨rfl, rfl, trivial⟩, funext fun j => ?_⟩
       by_cases h101 : 101 = j
       ·subst h101; exact congrArg (fun z => some (HO.box z)) (by simp_all [r8op, z1t, z12])
       by_cases h104 : 104 = j
       ·subst h104; rfl
       simp [look, up, z00 h101, z00 h104]
      refine tQ <| tG <| sm 2 rfl <| nL ?_
      refine tC rfl (fun hc24 => ?_) fun hc24 => ?_
      ·refine tG <| sm 1 rfl <| c0 (sBx rfl rfl rfl rfl ((fun h => h)) tS35 (rfl) (lb rfl)) <| nL ?_
       refine ⟨rfl, Sub.of ⟨rfl, rfl, trivial⟩, funext fun j => ?_⟩
       by_cases h101 : 101 = j
       ·subst h101; exact congrArg (fun z => some (HO.box z)) (by simp_all [r8op, z1t, z12])
       by_cases h104 : 104 = j
       ·subst h104; rfl
       simp [look, up, z00 h101, z00 h104]
      refine tSk ?_
      refine ⟨rfl, Sub.of ⟨rfl, rfl, trivial⟩, funext fun j => ?_⟩
      by_cases h101 : 101 = j
      ·subst h101; exact congrArg (fun z => some (HO.box z)) (by simp_all [r8op, z1t, z12])
      by_cases h104 : 104 = j
      ·subst h104; rfl
      simp [look, up, z00 h101, z00 h104]
     refine tQ <| tG <| sm 2 rfl <| nL ?_
     refine tC rfl (fun hc19 => ?_) fun hc19 => ?_
     ·refine tSk ?_
      refine tC rfl (fun hc19 => ?_) fun hc19 => ?_
      ·refine tG <| sm 1 rfl <| c0 (sBx rfl rfl rfl rfl ((fun h => h)) tS9 (rfl) (lb rfl)) <| nL ?_
       refine ⟨rfl, Sub.of ⟨rfl, rfl, trivial⟩, funext fun j => ?_⟩
       by_cases h101 : 101 = j
       ·subst h101; exact congrArg (fun z => some (HO.box z)) (by simp_all [r8op, z1t, z12])
       by_cases h104 : 104 = j
       ·subst h104; rfl
       simp [look, up, z00 h101, z00 h104]
      refine tQ <| tG <| sm 2 rfl <| nL ?_
      refine tC rfl (fun hc24 => ?_) fun hc24 => ?_
      ·refine tG <| sm 1 rfl <| c0 (sBx rfl rfl rfl rfl ((fun h => h)) tS35 (rfl) (lb rfl)) <| nL ?_
       refine ⟨rfl, Sub.of ⟨rfl, rfl, trivial⟩, funext fun j => ?_⟩
       by_cases h101 : 101 = j
       ·subst h101; exact congrArg (fun z => some (HO.box z)) (by simp_all [r8op, z1t, z12])
       by_cases h104 : 104 = j
       ·subst h104; rfl
       simp [look, up, z00 h101, z00 h104]
      refine tSk ?_
      refine ⟨rfl, Sub.of ⟨rfl, rfl, trivial⟩, funext fun j => ?_⟩
      by_cases h101 : 101 = j
      ·subst h101; exact congrArg (fun z => some (HO.box z)) (by simp_all [r8op, z1t, z12])
      by_cases h104 : 104 = j
      ·subst h104; rfl
      simp [look, up, z00 h101, z00 h104]
     refine tG <| sm 2 rfl <| nL ?_
     refine tC rfl (fun hc19 => ?_) fun hc19 => ?_
     ·refine tG <| sm 1 rfl <| c0 (sBx rfl rfl rfl rfl ((fun h => h)) tS9 (rfl) (lb rfl)) <| nL ?_
      refine ⟨rfl, Sub.of ⟨rfl, rfl, trivial⟩, funext fun j => ?_⟩
      by_cases h101 : 101 = j
      ·subst h101; exact congrArg (fun z => some (HO.box z)) (by simp_all [r8op, z1t, z12])
      by_cases h104 : 104 = j
      ·subst h104; rfl
      simp [look, up, z00 h101, z00 h104]
     refine tQ <| tG <| sm 2 rfl <| nL ?_
     refine tC rfl (fun hc24 => ?_) fun hc24 => ?_
     ·refine tG <| sm 1 rfl <| c0 (sBx rfl rfl rfl rfl ((fun h => h)) tS35 (rfl) (lb rfl)) <| nL ?_
      refine ⟨rfl, Sub.of ⟨rfl, rfl, trivial⟩, funext fun j => ?_⟩
      by_cases h101 : 101 = j
      ·subst h101; exact congrArg (fun z => some (HO.box z)) (by simp_all [r8op, z1t, z12])
      by_cases h104 : 104 = j
      ·subst h104; rfl
      simp [look, up, z00 h101, z00 h104]
     refine tSk ?_
     refine ⟨rfl, Sub.of ⟨rfl, rfl, trivial⟩, funext fun j => ?_⟩
     by_cases h101 : 101 = j
     ·subst h101; exact congrArg (fun z => some (HO.box z)) (by simp_all [r8op, z1t, z12])
     by_cases h104 : 104 = j
     ·subst h104; rfl
     simp [look, up, z00 h101, z00 h104]
    refine tG <| sm 2 rfl <| nL ?_
    refine tC rfl (fun hc15 => ?_) fun hc15 => ?_
    ·refine tG <| sm 1 rfl <| c0 (sBx rfl rfl rfl rfl ((fun h => h)) tS3 (rfl) (lb rfl)) <| nL ?_
     refine ⟨rfl, Sub.of ⟨rfl, rfl, trivial⟩, funext fun j => ?_⟩
     by_cases h101 : 101 = j
     ·subst h101; exact congrArg (fun z => some (HO.box z)) (by simp_all [r8op, z1t, z12])
     by_cases h104 : 104 = j
     ·subst h104; rfl
     simp [look, up, z00 h101, z00 h104]
    refine tQ <| tQ <| tG <| sm 2 rfl <| nL ?_
    refine tC rfl (fun hc19 => ?_) fun hc19 => ?_
    ·refine tSk ?_
     refine tC rfl (fun hc19 => ?_) fun hc19 => ?_
     ·refine tG <| sm 1 rfl <| c0 (sBx rfl rfl rfl rfl ((fun h => h)) tS9 (rfl) (lb rfl)) <| nL ?_
      refine ⟨rfl, Sub.of ⟨rfl, rfl, trivial⟩, funext fun j => ?_⟩
      by_cases h101 : 101 = j
      ·subst h101; exact congrArg (fun z => some (HO.box z)) (by simp_all [r8op, z1t, z12])
      by_cases h104 : 104 = j
      ·subst h104; rfl
      simp [look, up, z00 h101, z00 h104]
     refine tQ <| tG <| sm 2 rfl <| nL ?_
     refine tC rfl (fun hc24 => ?_) fun hc24 => ?_
     ·refine tG <| sm 1 rfl <| c0 (sBx rfl rfl rfl rfl ((fun h => h)) tS35 (rfl) (lb rfl)) <| nL ?_
      refine ⟨rfl, Sub.of ⟨rfl, rfl, trivial⟩, funext fun j => ?_⟩
      by_cases h101 : 101 = j
      ·subst h101; exact congrArg (fun z => some (HO.box z)) (by simp_all [r8op, z1t, z12])
      by_cases h104 : 104 = j
      ·subst h104; rfl
      simp [look, up, z00 h101, z00 h104]
     refine tSk ?_
     refine ⟨rfl, Sub.of ⟨rfl, rfl, trivial⟩, funext fun j => ?_⟩
     by_cases h101 : 101 = j
     ·subst h101; exact congrArg (fun z => some (HO.box z)) (by simp_all [r8op, z1t, z12])
     by_cases h104 : 104 = j
     ·subst h104; rfl
     simp [look, up, z00 h101, z00 h104]
    refine tQ <| tG <| sm 2 rfl <| nL ?_
    refine tC rfl (fun hc19 => ?_) fun hc19 => ?_
    ·refine tSk ?_
     refine tC rfl (fun hc19 => ?_) fun hc19 => ?_
     ·refine tG <| sm 1 rfl <| c0 (sBx rfl rfl rfl rfl ((fun h => h)) tS9 (rfl) (lb rfl)) <| nL ?_
      refine ⟨rfl, Sub.of ⟨rfl, rfl, trivial⟩, funext fun j => ?_⟩
      by_cases h101 : 101 = j
      ·subst h101; exact congrArg (fun z => some (HO.box z)) (by simp_all [r8op, z1t, z12])
      by_cases h104 : 104 = j
      ·subst h104; rfl
      simp [look, up, z00 h101, z00 h104]
     refine tQ <| tG <| sm 2 rfl <| nL ?_
     refine tC rfl (fun hc24 => ?_) fun hc24 => ?_
     ·refine tG <| sm 1 rfl <| c0 (sBx rfl rfl rfl rfl ((fun h => h)) tS35 (rfl) (lb rfl)) <| nL ?_
      refine ⟨rfl, Sub.of ⟨rfl, rfl, trivial⟩, funext fun j => ?_⟩
      by_cases h101 : 101 = j
      ·subst h101; exact congrArg (fun z => some (HO.box z)) (by simp_all [r8op, z1t, z12])
      by_cases h104 : 104 = j
      ·subst h104; rfl
      simp [look, up, z00 h101, z00 h104]
     refine tSk ?_
     refine ⟨rfl, Sub.of ⟨rfl, rfl, trivial⟩, funext fun j => ?_⟩
     by_cases h101 : 101 = j
     ·subst h101; exact congrArg (fun z => some (HO.box z)) (by simp_all [r8op, z1t, z12])
     by_cases h104 : 104 = j
     ·subst h104; rfl
     simp [look, up, z00 h101, z00 h104]
    refine tG <| sm 2 rfl <| nL ?_
    refine tC rfl (fun hc19 => ?_) fun hc19 => ?_
    ·refine tG <| sm 1 rfl <| c0 (sBx rfl rfl rfl rfl ((fun h => h)) tS9 (rfl) (lb rfl)) <| nL ?_
     refine ⟨rfl, Sub.of ⟨rfl, rfl, trivial⟩, funext fun j => ?_⟩
     by_cases h101 : 101 = j
     ·subst h101; exact congrArg (fun z => some (HO.box z)) (by simp_all [r8op, z1t, z12])
     by_cases h104 : 104 = j
     ·subst h104; rfl
     simp [look, up, z00 h101, z00 h104]
    refine tQ <| tG <| sm 2 rfl <| nL ?_
    refine tC rfl (fun hc24 => ?_) fun hc24 => ?_
    ·refine tG <| sm 1 rfl <| c0 (sBx rfl rfl rfl rfl ((fun h => h)) tS35 (rfl) (lb rfl)) <| nL ?_
     refine ⟨rfl, Sub.of ⟨rfl, rfl, trivial⟩, funext fun j => ?_⟩
     by_cases h101 : 101 = j
     ·subst h101; exact congrArg (fun z => some (HO.box z)) (by simp_all [r8op, z1t, z12])
     by_cases h104 : 104 = j
     ·subst h104; rfl
     simp [look, up, z00 h101, z00 h104]
    refine tSk ?_
    refine ⟨rfl, Sub.of ⟨rfl, rfl, trivial⟩, funext fun j => ?_⟩
    by_cases h101 : 101 = j
    ·subst h101; exact congrArg (fun z => some (HO.box z)) (by simp_all [r8op, z1t, z12])
    by_cases h104 : 104 = j
    ·subst h104; rfl
    simp [look, up, z00 h101, z00 h104]
   refine tG <| sm 2 rfl <| nL ?_
   refine tC rfl (fun hc11 => ?_) fun hc11 => ?_
   ·refine tG <| sm 1 rfl <| c0 (sBx rfl rfl rfl rfl ((fun h => h)) tS3 (rfl) (lb rfl)) <| nL ?_
    refine ⟨rfl, Sub.of ⟨rfl, rfl, trivial⟩, funext fun j => ?_⟩
    by_cases h101 : 101 = j
    ·subst h101; exact congrArg (fun z => some (HO.box z)) (by simp_all [r8op, z1t, z12])
    by_cases h104 : 104 = j
    ·subst h104; rfl
    simp [look, up, z00 h101, z00 h104]
   refine tQ <| tQ <| tG <| sm 2 rfl <| nL ?_
   refine tC rfl (fun hc15 => ?_) fun hc15 => ?_
   ·refine tSk ?_
    refine tC rfl (fun hc15 => ?_) fun hc15 => ?_
    ·refine tG <| sm 1 rfl <| c0 (sBx rfl rfl rfl rfl ((fun h => h)) tS3 (rfl) (lb rfl)) <| nL ?_
     refine ⟨rfl, Sub.of ⟨rfl, rfl, trivial⟩, funext fun j => ?_⟩
     by_cases h101 : 101 = j
     ·subst h101; exact congrArg (fun z => some (HO.box z)) (by simp_all [r8op, z1t, z12])
     by_cases h104 : 104 = j
     ·subst h104; rfl
     simp [look, up, z00 h101, z00 h104]
    refine tQ <| tQ <| tG <| sm 2 rfl <| nL ?_
    refine tC rfl (fun hc19 => ?_) fun hc19 => ?_
    ·refine tSk ?_
     refine tC rfl (fun hc19 => ?_) fun hc19 => ?_
     ·refine tG <| sm 1 rfl <| c0 (sBx rfl rfl rfl rfl ((fun h => h)) tS9 (rfl) (lb rfl)) <| nL ?_
      refine ⟨rfl, Sub.of ⟨rfl, rfl, trivial⟩, funext fun j => ?_⟩
      by_cases h101 : 101 = j
      ·subst h101; exact congrArg (fun z => some (HO.box z)) (by simp_all [r8op, z1t, z12])
      by_cases h104 : 104 = j
      ·subst h104; rfl
      simp [look, up, z00 h101, z00 h104]
     refine tQ <| tG <| sm 2 rfl <| nL ?_
     refine tC rfl (fun hc24 => ?_) fun hc24 => ?_
     ·refine tG <| sm 1 rfl <| c0 (sBx rfl rfl rfl rfl ((fun h => h)) tS35 (rfl) (lb rfl)) <| nL ?_
      refine ⟨rfl, Sub.of ⟨rfl, rfl, trivial⟩, funext fun j => ?_⟩
      by_cases h101 : 101 = j
      ·subst h101; exact congrArg (fun z => some (HO.box z)) (by simp_all [r8op, z1t, z12])
      by_cases h104 : 104 = j
      ·subst h104; rfl
      simp [look, up, z00 h101, z00 h104]
     refine tSk ?_
     refine ⟨rfl, Sub.of ⟨rfl, rfl, trivial⟩, funext fun j => ?_⟩
     by_cases h101 : 101 = j
     ·subst h101; exact congrArg (fun z => some (HO.box z)) (by simp_all [r8op, z1t, z12])
     by_cases h104 : 104 = j
     ·subst h104; rfl
     simp [look, up, z00 h101, z00 h104]
    refine tQ <| tG <| sm 2 rfl <| nL ?_
    refine tC rfl (fun hc19 => ?_) fun hc19 => ?_
    ·refine tSk ?_
     refine tC rfl (fun hc19 => ?_) fun hc19 => ?_
     ·refine tG <| sm 1 rfl <| c0 (sBx rfl rfl rfl rfl ((fun h => h)) tS9 (rfl) (lb rfl)) <| nL ?_
      refine ⟨rfl, Sub.of ⟨rfl, rfl, trivial⟩, funext fun j => ?_⟩
      by_cases h101 : 101 = j
      ·subst h101; exact congrArg (fun z => some (HO.box z)) (by simp_all [r8op, z1t, z12])
      by_cases h104 : 104 = j
      ·subst h104; rfl
      simp [look, up, z00 h101, z00 h104]
     refine tQ <| tG <| sm 2 rfl <| nL ?_
     refine tC rfl (fun hc24 => ?_) fun hc24 => ?_
     ·refine tG <| sm 1 rfl <| c0 (sBx rfl rfl rfl rfl ((fun h => h)) tS35 (rfl) (lb rfl)) <| nL ?_
      refine ⟨rfl, Sub.of ⟨rfl, rfl, trivial⟩, funext fun j => ?_⟩
      by_cases h101 : 101 = j
      ·subst h101; exact congrArg (fun z => some (HO.box z)) (by simp_all [r8op, z1t, z12])
      by_cases h104 : 104 = j
      ·subst h104; rfl
      simp [look, up, z00 h101, z00 h104]
     refine tSk ?_
     refine ⟨rfl, Sub.of ⟨rfl, rfl, trivial⟩, funext fun j => ?_⟩
     by_cases h101 : 101 = j
     ·subst h101; exact congrArg (fun z => some (HO.box z)) (by simp_all [r8op, z1t, z12])
     by_cases h104 : 104 = j
     ·subst h104; rfl
     simp [look, up, z00 h101, z00 h104]
    refine tG <| sm 2 rfl <| nL ?_
    refine tC rfl (fun hc19 => ?_) fun hc19 => ?_
    ·refine tG <| sm 1 rfl <| c0 (sBx rfl rfl rfl rfl ((fun h => h)) tS9 (rfl) (lb rfl)) <| nL ?_
     refine ⟨rfl, Sub.of ⟨rfl, rfl, trivial⟩, funext fun j => ?_⟩
     by_cases h101 : 101 = j
     ·subst h101; exact congrArg (fun z => some (HO.box z)) (by simp_all [r8op, z1t, z12])
     by_cases h104 : 104 = j
     ·subst h104; rfl
     simp [look, up, z00 h101, z00 h104]
    refine tQ <| tG <| sm 2 rfl <| nL ?_
    refine tC rfl (fun hc24 => ?_) fun hc24 => ?_
    ·refine tG <| sm 1 rfl <| c0 (sBx rfl rfl rfl rfl ((fun h => h)) tS35 (rfl) (lb rfl)) <| nL ?_
     refine ⟨rfl, Sub.of ⟨rfl, rfl, trivial⟩, funext fun j => ?_⟩
     by_cases h101 : 101 = j
     ·subst h101; exact congrArg (fun z => some (HO.box z)) (by simp_all [r8op, z1t, z12])
     by_cases h104 : 104 = j
     ·subst h104; rfl
     simp [look, up, z00 h101, z00 h104]
    refine tSk ?_
    refine ⟨rfl, Sub.of ⟨rfl, rfl, trivial⟩, funext fun j => ?_⟩
    by_cases h101 : 101 = j
    ·subst h101; exact congrArg (fun z => some (HO.box z)) (by simp_all [r8op, z1t, z12])
    by_cases h104 : 104 = j
    ·subst h104; rfl
    simp [look, up, z00 h101, z00 h104]
   refine tG <| sm 2 rfl <| nL ?_
   refine tC rfl (fun hc15 => ?_) fun hc15 => ?_
   ·refine tG <| sm 1 rfl <| c0 (sBx rfl rfl rfl rfl ((fun h => h)) tS3 (rfl) (lb rfl)) <| nL ?_
    refine ⟨rfl, Sub.of ⟨rfl, rfl, trivial⟩, funext fun j => ?_⟩
    by_cases h101 : 101 = j
    ·subst h101; exact congrArg (fun z => some (HO.box z)) (by simp_all [r8op, z1t, z12])
    by_cases h104 : 104 = j
    ·subst h104; rfl
    simp [look, up, z00 h101, z00 h104]
   refine tQ <| tQ <| tG <| sm 2 rfl <| nL ?_
   refine tC rfl (fun hc19 => ?_) fun hc19 => ?_
   ·refine tSk ?_
    refine tC rfl (fun hc19 => ?_) fun hc19 => ?_
    ·refine tG <| sm 1 rfl <| c0 (sBx rfl rfl rfl rfl ((fun h => h)) tS9 (rfl) (lb rfl)) <| nL ?_
     refine ⟨rfl, Sub.of ⟨rfl, rfl, trivial⟩, funext fun j => ?_⟩
     by_cases h101 : 101 = j
     ·subst h101; exact congrArg (fun z => some (HO.box z)) (by simp_all [r8op, z1t, z12])
     by_cases h104 : 104 = j
     ·subst h104; rfl
     simp [look, up, z00 h101, z00 h104]
    refine tQ <| tG <| sm 2 rfl <| nL ?_
    refine tC rfl (fun hc24 => ?_) fun hc24 => ?_
    ·refine tG <| sm 1 rfl <| c0 (sBx rfl rfl rfl rfl ((fun h => h)) tS35 (rfl) (lb rfl)) <| nL ?_
     refine ⟨rfl, Sub.of ⟨rfl, rfl, trivial⟩, funext fun j => ?_⟩
     by_cases h101 : 101 = j
     ·subst h101; exact congrArg (fun z => some (HO.box z)) (by simp_all [r8op, z1t, z12])
     by_cases h104 : 104 = j
     ·subst h104; rfl
     simp [look, up, z00 h101, z00 h104]
    refine tSk ?_
    refine ⟨rfl, Sub.of ⟨rfl, rfl, trivial⟩, funext fun j => ?_⟩
    by_cases h101 : 101 = j
    ·subst h101; exact congrArg (fun z => some (HO.box z)) (by simp_all [r8op, z1t, z12])
    by_cases h104 : 104 = j
    ·subst h104; rfl
    simp [look, up, z00 h101, z00 h104]
   refine tQ <| tG <| sm 2 rfl <| nL ?_
   refine tC rfl (fun hc19 => ?_) fun hc19 => ?_
   ·refine tSk ?_
    refine tC rfl (fun hc19 => ?_) fun hc19 => ?_
    ·refine tG <| sm 1 rfl <| c0 (sBx rfl rfl rfl rfl ((fun h => h)) tS9 (rfl) (lb rfl)) <| nL ?_
     refine ⟨rfl, Sub.of ⟨rfl, rfl, trivial⟩, funext fun j => ?_⟩
     by_cases h101 : 101 = j
     ·subst h101; exact congrArg (fun z => some (HO.box z)) (by simp_all [r8op, z1t, z12])
     by_cases h104 : 104 = j
     ·subst h104; rfl
     simp [look, up, z00 h101, z00 h104]
    refine tQ <| tG <| sm 2 rfl <| nL ?_
    refine tC rfl (fun hc24 => ?_) fun hc24 => ?_
    ·refine tG <| sm 1 rfl <| c0 (sBx rfl rfl rfl rfl ((fun h => h)) tS35 (rfl) (lb rfl)) <| nL ?_
     refine ⟨rfl, Sub.of ⟨rfl, rfl, trivial⟩, funext fun j => ?_⟩
     by_cases h101 : 101 = j
     ·subst h101; exact congrArg (fun z => some (HO.box z)) (by simp_all [r8op, z1t, z12])
     by_cases h104 : 104 = j
     ·subst h104; rfl
     simp [look, up, z00 h101, z00 h104]
    refine tSk ?_
    refine ⟨rfl, Sub.of ⟨rfl, rfl, trivial⟩, funext fun j => ?_⟩
    by_cases h101 : 101 = j
    ·subst h101; exact congrArg (fun z => some (HO.box z)) (by simp_all [r8op, z1t, z12])
    by_cases h104 : 104 = j
    ·subst h104; rfl
    simp [look, up, z00 h101, z00 h104]
   refine tG <| sm 2 rfl <| nL ?_
   refine tC rfl (fun hc19 => ?_) fun hc19 => ?_
   ·refine tG <| sm 1 rfl <| c0 (sBx rfl rfl rfl rfl ((fun h => h)) tS9 (rfl) (lb rfl)) <| nL ?_
    refine ⟨rfl, Sub.of ⟨rfl, rfl, trivial⟩, funext fun j => ?_⟩
    by_cases h101 : 101 = j
    ·subst h101; exact congrArg (fun z => some (HO.box z)) (by simp_all [r8op, z1t, z12])
    by_cases h104 : 104 = j
    ·subst h104; rfl
    simp [look, up, z00 h101, z00 h104]
   refine tQ <| tG <| sm 2 rfl <| nL ?_
   refine tC rfl (fun hc24 => ?_) fun hc24 => ?_
   ·refine tG <| sm 1 rfl <| c0 (sBx rfl rfl rfl rfl ((fun h => h)) tS35 (rfl) (lb rfl)) <| nL ?_
    refine ⟨rfl, Sub.of ⟨rfl, rfl, trivial⟩, funext fun j => ?_⟩
    by_cases h101 : 101 = j
    ·subst h101; exact congrArg (fun z => some (HO.box z)) (by simp_all [r8op, z1t, z12])
    by_cases h104 : 104 = j
    ·subst h104; rfl
    simp [look, up, z00 h101, z00 h104]
   refine tSk ?_
   refine ⟨rfl, Sub.of ⟨rfl, rfl, trivial⟩, funext fun j => ?_⟩
   by_cases h101 : 101 = j
   ·subst h101; exact congrArg (fun z => some (HO.box z)) (by simp_all [r8op, z1t, z12])
   by_cases h104 : 104 = j
   ·subst h104; rfl
   simp [look, up, z00 h101, z00 h104]
  refine Tr.subBox (k := 101) [.pv (vInt x.kind), .pv (vInt (if r8op x then 0 else x.op)), .pv (vInt (if z1t x then 0 else x.n)), .pv (vStr (if z12 x then ⟨#[]⟩ else x.name)), .pv (ints x.args), .pv (ints x.outs), .pv (ints (if x.kind == 11 then [] else x.params)), .pv (kids x.kids)] rfl ⟨ISub.refl _, ISub.refl _, ISub.refl _, ISub.refl _, ISub.refl _, ISub.refl _, ISub.pv (by cases x.kind == 11 <;> first | exact PSub.nil | exact PSub.refl _), ISub.refl _, trivial⟩ (fun h => h) ?_
  have e1 : ((if r8op x then 0 else x.op) == 0) = (r8op x || x.op == 0) := by cases r8op x <;> rfl
  have e2 : ((if z1t x then 0 else x.n) == 0) = (z1t x || x.n == 0) := by cases z1t x <;> rfl
  have e3 : ((if z12 x then (⟨#[]⟩ : ByteArray) else x.name).toList == (⟨#[]⟩ : ByteArray).toList) = (z12 x || x.name.toList == []) := by
    have e0 : (⟨#[]⟩ : ByteArray).toList = [] := z6a _
    rw [e0]
    cases z12 x
    ·rfl
    rw [if_pos rfl, e0]; rfl
  have e4 : (((if x.kind == 11 then [] else x.params).length : Int) == 0) = (x.kind == 11 || (x.params.length : Int) == 0) := by cases x.kind == 11 <;> rfl
  refine tQ <| tG <| sm 4 rfl ?_
  refine wS 30 rfl (fun hb30 => ?_) fun hb30 => ?_
  ·refine sm 5 rfl ?_
   refine wS 35 rfl (fun hb35 => ?_) fun hb35 => ?_
   ·refine sm 2 rfl <| yV rfl rfl (bSt rfl rfl rfl rfl) <| sm 2 rfl ?_
    refine wS 40 rfl (fun hb40 => ?_) fun hb40 => ?_
    ·refine sm 2 rfl <| yV rfl rfl (oSm uT35 rfl) <| sm 3 rfl ?_
     refine wS 46 rfl (fun hb46 => ?_) fun hb46 => ?_
     ·refine sm 2 rfl <| yV rfl rfl (oSm uT41 rfl) <| sm 4 rfl <| nL <| tRt <| rOk rfl ?_ nPo
      refine congrArg (fun b => iBool b) ?_
      unfold z0k
      rw [<- e1, <- e2, <- e3, <- e4]
      clear e1 e2 e3 e4 hkn
      simp only [*, Bool.true_and, Bool.false_and, Bool.and_true, Bool.and_false]
     refine sm 7 rfl <| nL <| tRt <| rOk rfl ?_ nPo
     refine congrArg (fun b => iBool b) ?_
     unfold z0k
     rw [<- e1, <- e2, <- e3, <- e4]
     clear e1 e2 e3 e4 hkn
     simp only [*, Bool.true_and, Bool.false_and, Bool.and_true, Bool.and_false]
    refine sm 13 rfl <| nL <| tRt <| rOk rfl ?_ nPo
    refine congrArg (fun b => iBool b) ?_
    unfold z0k
    rw [<- e1, <- e2, <- e3, <- e4]
    clear e1 e2 e3 e4 hkn
    simp only [*, Bool.true_and, Bool.false_and, Bool.and_true, Bool.and_false]
   refine sm 18 rfl <| nL <| tRt <| rOk rfl ?_ nPo
   refine congrArg (fun b => iBool b) ?_
   unfold z0k
   rw [<- e1, <- e2, <- e3, <- e4]
   clear e1 e2 e3 e4 hkn
   simp only [*, Bool.true_and, Bool.false_and, Bool.and_true, Bool.and_false]
  refine sm 23 rfl <| nL <| tRt <| rOk rfl ?_ nPo
  refine congrArg (fun b => iBool b) ?_
  unfold z0k
  rw [<- e1, <- e2, <- e3, <- e4]
  clear e1 e2 e3 e4 hkn
  simp only [*, Bool.true_and, Bool.false_and, Bool.and_true, Bool.and_false]
theorem z5c (u : Un) (f : Fl) (st : List Int) (hs : st.length = f.types.length) (l : List Int) (hb : l.length <= 1073741824) : SC Tryz.prog 113 [.ptr 3 0, .pv (ints l)] (ckS u f 3 st) (fun k => k < 100) (.pv (ints (r8of f.types l))) (ckS u f 3 st) := by
  refine SC.of Tryz.func113 rfl (lb rfl) fun F ρ w => ?_
  refine Tr.lenOf (t := 1) rfl (fun hl => ?_)
  simp only [List.length_map] at hl
  rw [y4w]
  refine tQ <| tG <| sm 1 rfl <| nL <| tQ <| tQ <| Tr.grow (t := 4) (k := 104) ⟨3, 1⟩ rfl rfl rfl rfl rfl <| tG <| sm 1 rfl <| cV rfl (oSm uT35 rfl) <| sm 1 rfl <| nL ?_
  refine tBk <| Tr.sub (Sub.of (fr' := [(9, iInt 0), (8, iInt l.length), (7, .pv (ints l)), (4, .sl 104 0), (0, .ptr 3 0)]) ⟨rfl, rfl, rfl, rfl, rfl, trivial⟩) ?_
  refine Tr.loop (fun fr σ m => ∃ (k : Nat) (acc : List Int), (k <= l.length) /\ (acc.length = k) /\ (z60 f.types [] l = z60 f.types acc (l.drop k)) /\ fr = [(9, iInt k), (8, iInt l.length), (7, .pv (ints l)), (4, .sl 104 k), (0, .ptr 3 0)] /\ σ = look ((104, some (.row ⟨3, 1⟩ (acc.map eInt))) :: up (ckS u f 3 st)) /\ m = l.length - k) (n := l.length - 0) ?_ ?_
  ·exact ⟨0, [], Nat.zero_le _, rfl, rfl, rfl, rfl, rfl⟩
  rintro fr σ m ⟨k, acc, hI0, hI1, hI2, rfl, rfl, rfl⟩
  refine tQ <| tG <| sm 1 rfl <| nL <| tQ ?_
  refine tC rfl (fun hc10 => ?_) fun hc10 => ?_
  ·have hlt : k < l.length := by simpa using hc10
   have hd := List.drop_eq_getElem_cons hlt
   have hm := List.getElem_mem hlt
   have hi := z0i (f := eInt) (List.getElem?_eq_getElem hlt)
   generalize l[k] = x at hd hm hi
   refine tSk <| tQ <| tBk <| tQ <| tG <| cV rfl (iSq rfl rfl rfl uT35 hi tS3 rfl (by rfl)) <| sm 2 rfl <| nL <| tQ <| tQ <| tG <| sm 2 rfl ?_
   refine cE rfl (ocr (zq0 u f st x 0) y3p rfl (po2 rfl rfl) rfl (fun k (h : _) => .inr trivial) rfl rfl) <| sm 1 rfl <| nL ?_
   refine tC rfl (fun hc16 => ?_) fun hc16 => ?_
   ·refine tQ <| tG <| sm 1 rfl <| nL <| tRt ?_
    have hin : z6t f.types x = false := by
      cases hr : z6t f.types x with
      | false => rfl
      | true => simp [z6t] at hr; simp [z46] at hc16; omega
    rw [hI2, hd]
    simp only [z60, hin]
    exact ⟨⟨_, rfl, fun _ _ _ _ h => z41 h⟩, (po2 rfl rfl)⟩
   have hin : z6t f.types x = true := by simp [z46] at hc16; simp [z6t]; omega
   have hv0 : x.toNat < f.types.length := by simp [z6t] at hin; omega
   have hvx : x = ((x.toNat : Nat) : Int) := by simp [z6t] at hin; omega
   have hty : (f.types.map eInt)[x.toNat]? = some [vInt (f.types.getD x.toNat 0)] := by rw [List.getElem?_map]; simp [eInt, List.getD, hv0]
   refine tSk <| tG <| sm 2 rfl <| cV rfl (nCk rfl rfl rfl) <| sm 4 rfl <| cV rfl (iSq rfl rfl rfl uT35 hty tS3 rfl oM0) <| sm 1 rfl <| cE rfl (bSl rfl rfl uT35 tZ3 tS3 rfl rfl rfl rfl (fbk rfl) rfl) ?_
   refine cE rfl (aPp rfl rfl rfl rfl (by (simp; omega)) sI0 uT35 tB3 dC0 (by (simp [z03]; done)) (by (simp [z03, PV.one]; rfl)) (by simp [maxLen, z03]; omega) (by simp [z03]; omega)) ?_
   refine sm 1 rfl <| nL <| tG <| cV rfl (oB rfl rfl (z0b rfl oM0)) <| sm 1 rfl <| nL ?_
   refine ⟨_, _, ?_, Sub.of (fr' := [(9, iInt (k + 1)), (8, iInt l.length), (7, .pv (ints l)), (4, .sl 104 (k + 1)), (0, .ptr 3 0)]) ⟨rfl, rfl, rfl, rfl, rfl, trivial⟩, (k + 1), (acc ++ [f.types.getD x.toNat 0]), ?_, ?_, ?_, rfl, zk7, rfl⟩
   ·omega
   ·omega
   ·simp [hI1]
   rw [hI2, hd]
   simp [z60, hin]
  refine tEx <| tQ ?_
  refine Tr.freeze (t := 4) (k := 104) rfl rfl (by simpa using hI1) ?_
  refine tG <| sm 2 rfl <| nL <| tRt <| rOk rfl ?_ (po2 rfl rfl)
  have hge : l.length <= k := by simpa using hc10
  rw [hI2, List.drop_eq_nil_of_le hge]
  rfl
theorem y1h (u : Un) (f : Fl) (st : List Int) (hs : st.length = f.types.length) (x : Nd) : SC Tryz.prog 117 [.ptr 3 0, .pv (ndv x)] (ckS u f 3 st) (fun k => k = 3) (iBool (z38 f st x).1) (ckS u f 3 (z38 f st x).2) := by
  refine SC.of Tryz.func117 rfl (lb rfl) fun F ρ w => ?_
  refine tQ <| tG <| cE rfl (z1d rfl rfl) <| sm 1 rfl <| nL <| tQ <| tG <| sm 2 rfl <| cE rfl (ocq (zw6 _) ent126 rfl rfl) <| sm 1 rfl <| cV rfl (z0h rfl rfl rfl) <| cV rfl (z0h rfl rfl rfl) ?_
  refine sm 2 rfl <| nL <| tQ <| tQ <| tG <| sm 3 rfl <| nL ?_
  refine tC rfl (fun hc16 => ?_) fun hc16 => ?_
  ·refine tQ <| tG <| sm 4 rfl ?_
   refine wS 20 rfl (fun hb20 => ?_) fun hb20 => ?_
   ·refine sm 5 rfl ?_
    refine wS 25 rfl (fun hb25 => ?_) fun hb25 => ?_
    ·refine sm 4 rfl <| WL.yes rfl rfl rfl rfl rfl rfl (bSl rfl rfl uT35 tZ3 tS3 rfl rfl rfl rfl (fbk rfl) rfl) <| WL.yes rfl rfl rfl rfl rfl rfl (cRr (z1l u f st hs x.args [(z0d x.op).1]) z3o rfl rfl (sRf _ _) (po2 rfl rfl) (by rfl) (fun k (h : _) => .inr trivial) rfl (by rfl)) <| sm 2 rfl ?_
     refine wS 33 rfl (fun hb33 => ?_) fun hb33 => ?_
     ·refine sm 4 rfl <| WL.yes rfl rfl rfl rfl rfl rfl (bSl rfl rfl uT35 tZ3 tS3 rfl rfl rfl rfl (fbk rfl) rfl) <| WL.yes rfl rfl rfl rfl rfl rfl (cRr (z23 u f st hs x.outs [(z0d x.op).2]) z50 rfl rfl (sRf _ _) (po2 rfl rfl) (by rfl) (fun k (h : _) => .inr h) rfl (by rfl)) <| sm 2 rfl <| nL <| tRt ?_
      (have h2 : (z38 f st x).2 = (z0v f.types st x.outs [(z0d x.op).2]).2 := (by simp_all [z38, z2h, andP]; done)
       rw [h2]
       refine rOk rfl ?_ (po2 rfl rfl)
       clear h2
       skip
       simp_all [z38, z2h, andP]
       done)
     refine sm 8 rfl <| nL <| tRt ?_
     (have h2 : (z38 f st x).2 = st := (by simp_all [z38, z2h, andP]; done)
      rw [h2]
      refine rOk rfl ?_ (po2 rfl rfl)
      clear h2
      skip
      simp_all [z38, z2h, andP]
      done)
    refine sm 16 rfl <| nL <| tRt ?_
    (have h2 : z38 f st x = (false, st) := (by (first | (simp_all [z38, z2h, andP]; done) | (simp_all [z38, z2h, andP] <;> omega)))
     rw [h2]
     exact rOk rfl rfl (po2 rfl rfl))
   refine sm 21 rfl <| nL <| tRt ?_
   (have h2 : z38 f st x = (false, st) := (by (first | (simp_all [z38, z2h, andP]; done) | (simp_all [z38, z2h, andP] <;> omega)))
    rw [h2]
    exact rOk rfl rfl (po2 rfl rfl))
  refine tSk <| tQ <| tG <| sm 2 rfl <| cE rfl (ocq (y5s _) ent127 rfl rfl) <| sm 2 rfl ?_
  refine wS 45 rfl (fun hb45 => ?_) fun hb45 => ?_
  ·refine sm 5 rfl ?_
   refine wS 50 rfl (fun hb50 => ?_) fun hb50 => ?_
   ·refine sm 5 rfl <| WL.yes rfl rfl rfl rfl rfl rfl (bSl rfl rfl uT35 tZ3 tS3 rfl rfl rfl rfl (fbk rfl) rfl) <| WL.yes rfl rfl rfl rfl rfl rfl (cRr (z1l u f st hs x.args [(z0d x.op).1, (z0d x.op).1]) z3o rfl rfl (sRf _ _) (po2 rfl rfl) (by rfl) (fun k (h : _) => .inr trivial) rfl (by rfl)) <| sm 2 rfl <| nL <| tQ <| tDr z1a (fun k => k ∈ ([3] : List Nat)) <| wR 4 [0, 1, 2, 3, 4, 5, 6, 7, 8, 9, 10, 11, 12, 13, 14, 15, 16, 17, 18, 19, 20, 21, 22, 23, 24, 25, 26, 27, 28, 29, 30] kR0 h30 <| smR 2 rfl ?_
    refine WR.split (t := 60) rfl (fun hb60 => ?_) (fun hb60 => ?_)
    ·obtain ⟨a, b, hab, ha0, hal, hb0, hbl⟩ := y2v (by simpa using hb60)
     have hi0 : (x.args.map eInt)[0]? = some [vInt a] := by rw [hab]; rfl
     have hi1 : (x.args.map eInt)[1]? = some [vInt b] := by rw [hab]; rfl
     have hta : (f.types.map eInt)[a.toNat]? = some [vInt (f.types.getD a.toNat 0)] := by rw [List.getElem?_map]; simp [eInt, List.getD, hal]
     have htb : (f.types.map eInt)[b.toNat]? = some [vInt (f.types.getD b.toNat 0)] := by rw [List.getElem?_map]; simp [eInt, List.getD, hbl]
     refine smR 1 rfl <| ryV rfl rfl rfl (nCk rfl rfl rfl) <| smR 2 rfl <| ryV rfl rfl rfl (oLb uT35 rfl rfl rfl dC0) <| smR 2 rfl <| ryV rfl rfl rfl (iSq rfl rfl rfl uT35 hi0 tS3 rfl (by rfl)) <| smR 1 rfl <| ryV rfl rfl rfl (iSq rfl rfl rfl uT35 hta tS3 rfl oM0) <| smR 2 rfl <| ryV rfl rfl rfl (nCk rfl rfl rfl) <| smR 2 rfl <| ryV rfl rfl rfl (oLb uT35 rfl rfl rfl dC0) ?_
     refine smR 2 rfl <| ryV rfl rfl rfl (iSq rfl rfl rfl uT35 hi1 tS3 rfl (by rfl)) <| smR 1 rfl <| ryV rfl rfl rfl (iSq rfl rfl rfl uT35 htb tS3 rfl oM0) <| smR 4 rfl ?_
     refine WR.split (t := 85) rfl (fun hb85 => ?_) (fun hb85 => ?_)
     ·refine smR 4 rfl <| nR <| wO 31 kR0 <| wY rfl rfl rfl (fun k (h : _) => by (simp at h ⊢; omega)) nw (fun _ _ => bSl rfl rfl uT35 tZ3 tS3 rfl rfl rfl rfl (fbk rfl) rfl) <| wO 32 kR0 <| wY rfl rfl rfl (fun k (h : _) => by (simp at h ⊢; omega)) (nAp rfl) (fun _ _ => ocr (z23 u f st hs x.outs [(z0d x.op).2]) z50 rfl (po2 rfl rfl) rfl (fun k (h : _) => by (simp only [List.mem_cons, List.not_mem_nil, or_false] at h; rcases h with rfl <;> first | exact .inl rfl | exact .inr rfl | exact .inr dC0)) rfl rfl) <| wR 0 [33, 34] kR0 h30 <| smR 2 rfl <| nR <| wDn kR0 <| tRt ?_
      (have h2 : (z38 f st x).2 = (z0v f.types st x.outs [(z0d x.op).2]).2 := (by (try (clear ha0 hb0)); simp_all [z38, andP]; done)
       rw [h2]
       refine rOk rfl ?_ (po2 rfl rfl)
       clear h2
       try (clear ha0 hb0)
       simp_all [z38, andP]
       done)
     refine smR 4 rfl <| nR <| wN 31 kR0 h30 rfl rfl rfl <| wN 32 kR0 h30 rfl rfl rfl <| wR 0 [33, 34] kR0 h30 <| smR 2 rfl <| nR <| wDn kR0 <| tRt ?_
     (have h2 : (z38 f st x).2 = st := (by (try (clear ha0 hb0)); simp_all [z38, andP]; done)
      rw [h2]
      refine rOk rfl ?_ (po2 rfl rfl)
      clear h2
      try (clear ha0 hb0)
      simp_all [z38, andP]
      done)
    refine smR 29 rfl <| nR <| wN 31 kR0 h30 rfl rfl rfl <| wN 32 kR0 h30 rfl rfl rfl <| wR 0 [33, 34] kR0 h30 <| smR 2 rfl <| nR <| wDn kR0 <| tRt ?_
    (have h2 : (z38 f st x).2 = st := (by (try (clear ha0 hb0)); simp_all [z38, andP]; done)
     rw [h2]
     refine rOk rfl ?_ (po2 rfl rfl)
     clear h2
     try (clear ha0 hb0)
     simp_all [z38, andP]
     done)
   refine sm 9 rfl <| nL <| tQ <| tDr z1a (fun k => k ∈ ([3] : List Nat)) <| wR 4 [0, 1, 2, 3, 4, 5, 6, 7, 8, 9, 10, 11, 12, 13, 14, 15, 16, 17, 18, 19, 20, 21, 22, 23, 24, 25, 26, 27, 28, 29, 30] kR0 h30 <| smR 31 rfl <| nR <| wN 31 kR0 h30 rfl rfl rfl <| wN 32 kR0 h30 rfl rfl rfl <| wR 0 [33, 34] kR0 h30 <| smR 2 rfl <| nR ?_
   refine wDn kR0 <| tRt ?_
   (have h2 : z38 f st x = (false, st) := (by (try (clear ha0 hb0)); (first | (simp_all [z38, andP]; done) | (simp_all [z38, andP] <;> omega)))
    rw [h2]
    exact rOk rfl rfl (po2 rfl rfl))
  refine sm 14 rfl <| nL <| tQ <| tDr z1a (fun k => k ∈ ([3] : List Nat)) <| wR 4 [0, 1, 2, 3, 4, 5, 6, 7, 8, 9, 10, 11, 12, 13, 14, 15, 16, 17, 18, 19, 20, 21, 22, 23, 24, 25, 26, 27, 28, 29, 30] kR0 h30 <| smR 31 rfl <| nR <| wN 31 kR0 h30 rfl rfl rfl <| wN 32 kR0 h30 rfl rfl rfl <| wR 0 [33, 34] kR0 h30 <| smR 2 rfl <| nR ?_
  refine wDn kR0 <| tRt ?_
  (have h2 : z38 f st x = (false, st) := (by (try (clear ha0 hb0)); (first | (simp_all [z38, andP]; done) | (simp_all [z38, andP] <;> omega)))
   rw [h2]
   exact rOk rfl rfl (po2 rfl rfl))
theorem sc_shEnd (u : Un) (f : Fl) (st : List Int) (hs : st.length = f.types.length) (x : Nd) (wh : Wh) : SC Tryz.prog 104 [.ptr 3 0, .pv (ndv x), .pv (whv wh)] (ckS u f 3 st) (fun k => k = 3) (iBool (z7b f st x wh)) (ckS u f 3 st) := by
  refine SC.of Tryz.func104 rfl (lb rfl) fun F ρ w => ?_
  refine tQ <| tG <| cE rfl (z1d rfl rfl) <| cE rfl (z1d rfl rfl) <| sm 1 rfl <| nL <| tQ <| tG <| sm 2 rfl <| cV rfl (oSm uT35 rfl) <| sm 2 rfl <| nL ?_
  refine tQ <| tQ <| tG <| sm 2 rfl <| nL <| tBk <| tQ <| tG <| sm 2 rfl <| nL ?_
  refine tC rfl (fun hc14 => ?_) fun hc14 => ?_
  ·refine tQ <| tG <| sm 2 rfl ?_
   refine wS 17 rfl (fun hb17 => ?_) fun hb17 => ?_
   ·refine sm 4 rfl ?_
    refine wS 21 rfl (fun hb21 => ?_) fun hb21 => ?_
    ·refine sm 5 rfl <| WL.yes rfl rfl rfl rfl rfl rfl (cRr (z1l u f st hs x.args wh.Yield) z3o rfl rfl (sRf _ _) (po2 rfl rfl) (by rfl) (fun k (h : _) => .inr trivial) rfl (by rfl)) <| sm 2 rfl <| nL <| tRt <| rOk rfl ?_ (z28 (And.intro rfl (And.intro rfl (trivial))))
     refine congrArg (fun b => iBool b) ?_
     simp_all [z7b]
    refine sm 8 rfl <| nL <| tRt <| rOk rfl ?_ (z28 (And.intro rfl (And.intro rfl (trivial))))
    refine congrArg (fun b => iBool b) ?_
    simp_all [z7b]
   refine sm 12 rfl <| nL <| tRt <| rOk rfl ?_ (z28 (And.intro rfl (And.intro rfl (trivial))))
   refine congrArg (fun b => iBool b) ?_
   simp_all [z7b]
  refine tQ <| tG <| sm 2 rfl <| nL ?_
  refine tC rfl (fun hc29 => ?_) fun hc29 => ?_
  ·refine tQ <| tG <| sm 2 rfl ?_
   refine wS 32 rfl (fun hb32 => ?_) fun hb32 => ?_
   ·refine sm 4 rfl ?_
    refine wS 36 rfl (fun hb36 => ?_) fun hb36 => ?_
    ·refine sm 5 rfl <| WL.yes rfl rfl rfl rfl rfl rfl (cRr (z1l u f st hs x.args wh.Next) z3o rfl rfl (sRf _ _) (po2 rfl rfl) (by rfl) (fun k (h : _) => .inr trivial) rfl (by rfl)) <| sm 2 rfl <| nL <| tRt <| rOk rfl ?_ (z28 (And.intro rfl (And.intro rfl (trivial))))
     refine congrArg (fun b => iBool b) ?_
     simp_all [z7b]
    refine sm 8 rfl <| nL <| tRt <| rOk rfl ?_ (z28 (And.intro rfl (And.intro rfl (trivial))))
    refine congrArg (fun b => iBool b) ?_
    simp_all [z7b]
   refine sm 12 rfl <| nL <| tRt <| rOk rfl ?_ (z28 (And.intro rfl (And.intro rfl (trivial))))
   refine congrArg (fun b => iBool b) ?_
   simp_all [z7b]
  refine tQ <| tG <| sm 2 rfl <| nL ?_
  refine tC rfl (fun hc44 => ?_) fun hc44 => ?_
  ·refine tQ <| tG <| sm 2 rfl ?_
   refine wS 47 rfl (fun hb47 => ?_) fun hb47 => ?_
   ·refine sm 4 rfl ?_
    refine wS 51 rfl (fun hb51 => ?_) fun hb51 => ?_
    ·refine sm 5 rfl <| WL.yes rfl rfl rfl rfl rfl rfl (cRr (z1l u f st hs x.args wh.Left) z3o rfl rfl (sRf _ _) (po2 rfl rfl) (by rfl) (fun k (h : _) => .inr trivial) rfl (by rfl)) <| sm 2 rfl <| nL <| tRt <| rOk rfl ?_ (z28 (And.intro rfl (And.intro rfl (trivial))))
     refine congrArg (fun b => iBool b) ?_
     simp_all [z7b]
    refine sm 8 rfl <| nL <| tRt <| rOk rfl ?_ (z28 (And.intro rfl (And.intro rfl (trivial))))
    refine congrArg (fun b => iBool b) ?_
    simp_all [z7b]
   refine sm 12 rfl <| nL <| tRt <| rOk rfl ?_ (z28 (And.intro rfl (And.intro rfl (trivial))))
   refine congrArg (fun b => iBool b) ?_
   simp_all [z7b]
  refine tSk <| tQ <| tDr z1a (fun k => k ∈ ([3, 4] : List Nat)) <| wR 4 [0, 1, 2, 3, 4, 5, 6, 7, 8, 9] kR0 h30 <| smR 2 rfl ?_
  refine WR.split (t := 60) rfl (fun hb60 => ?_) (fun hb60 => ?_)
  ·refine smR 4 rfl <| ryV rfl rfl rfl (nCk rfl rfl rfl) <| smR 2 rfl <| ryV rfl rfl rfl (oLb uT3 rfl rfl rfl dC0) <| nR <| wO 10 kR0 <| wY rfl rfl rfl (fun k (h : _) => by (simp at h ⊢; omega)) nw (fun _ _ => bSl rfl rfl uT35 tZ3 tS3 rfl rfl rfl rfl (fbk rfl) rfl) <| wO 11 kR0 <| wY rfl rfl rfl (fun k (h : _) => by (simp at h ⊢; omega)) (nAp rfl) (fun _ _ => ocr (z1l u f st hs x.args [f.ty]) z3o rfl (po2 rfl rfl) rfl (fun k (h : _) => .inr trivial) rfl rfl) <| wR 0 [12, 13] kR0 h30 <| smR 2 rfl <| nR ?_
   refine wDn kR0 <| tRt <| rOk rfl ?_ (z28 (And.intro rfl (And.intro rfl (trivial))))
   refine congrArg (fun b => iBool b) ?_
   simp_all [z7b]
  refine smR 8 rfl <| nR <| wN 10 kR0 h30 rfl rfl rfl <| wN 11 kR0 h30 rfl rfl rfl <| wR 0 [12, 13] kR0 h30 <| smR 2 rfl <| nR <| wDn kR0 <| tRt <| rOk rfl ?_ (z28 (And.intro rfl (And.intro rfl (trivial))))
  refine congrArg (fun b => iBool b) ?_
  simp_all [z7b]
end Go.Proofs.YthbcibeddfacbaaGreat
