/- PART 5 of 6 of a proof: see the last part. -/
import Derived.Test.YthbcibeddfacbaaGreatSs4
set_option maxRecDepth 8000
set_option maxHeartbeats 2000000
set_option linter.unusedSimpArgs false
set_option linter.unusedVariables false
set_option linter.unusedSectionVars false
namespace Go.Proofs.YthbcibeddfacbaaGreat
open Go
theorem y0f (u : Un) (f : Fl) (st : List Int) (hs : st.length = f.types.length) (hg : ∀ g ∈ u.flows, 0 <= g.params /\ g.params <= g.types.length) (x : Nd) : SC Tryz.prog 105 [.ptr 3 0, .pv (ndv x)] (ckS u f 3 st) (fun k => k = 3) (iBool (z04 u f st x).1) (ckS u f 3 (z04 u f st x).2) := by
  refine SC.of Tryz.func105 rfl (lb rfl) fun F ρ w => ?_
  refine tQ <| tG <| cE rfl (z1d rfl rfl) <| sm 1 rfl <| nL <| tQ <| tQ <| tG <| sm 2 rfl <| nL <| tBk <| tQ ?_
  refine tG <| sm 2 rfl <| nL ?_
  refine tC rfl (fun hc9 => ?_) fun hc9 => ?_
  ·refine tQ <| tG <| sm 3 rfl <| cE rfl (cRr (z1l u f st hs x.args []) z3o rfl rfl (sSm rfl (sSm rfl (Subs.cons (fun _ _ _ _ h => z41 h) Subs.nil))) (po2 rfl rfl) (by rfl) (fun k (h : _) => .inr trivial) rfl (by rfl)) <| sm 1 rfl ?_
   refine wS 15 rfl (fun hb15 => ?_) fun hb15 => ?_
   ·refine sm 3 rfl <| WL.yes rfl rfl rfl rfl rfl rfl (bSl rfl rfl uT35 tZ3 tS3 rfl rfl rfl rfl (fbk rfl) rfl) <| WL.yes rfl rfl rfl rfl rfl rfl (cRr (z23 u f st hs x.outs [1]) z50 rfl rfl (sRf _ _) (po2 rfl rfl) (by rfl) (fun k (h : _) => .inr h) rfl (by rfl)) <| sm 2 rfl <| nL <| tRt ?_
    (have h2 : (z04 u f st x).2 = (z0v f.types st x.outs [1]).2 := (by simp_all [z04, andP]; done)
     rw [h2]
     refine rOk rfl ?_ (po2 rfl rfl)
     clear h2
     skip
     simp_all [z04, andP]
     done)
   refine sm 7 rfl <| nL <| tRt ?_
   (have h2 : (z04 u f st x).2 = st := (by simp_all [z04, andP]; done)
    rw [h2]
    refine rOk rfl ?_ (po2 rfl rfl)
    clear h2
    skip
    simp_all [z04, andP]
    done)
  refine tQ <| tG <| sm 2 rfl <| nL ?_
  refine tC rfl (fun hc22 => ?_) fun hc22 => ?_
  ·refine tQ <| tG <| sm 4 rfl ?_
   refine wS 27 rfl (fun hb27 => ?_) fun hb27 => ?_
   ·refine sm 8 rfl <| WL.yes rfl rfl rfl rfl rfl rfl (cRr (z1l u f st hs x.args []) z3o rfl rfl (sSm rfl (sSm rfl (Subs.cons (fun _ _ _ _ h => z41 h) Subs.nil))) (po2 rfl rfl) (by rfl) (fun k (h : _) => .inr trivial) rfl (by rfl)) <| sm 2 rfl ?_
    refine wS 38 rfl (fun hb38 => ?_) fun hb38 => ?_
    ·refine sm 3 rfl <| WL.yes rfl rfl rfl rfl rfl rfl (bSl rfl rfl uT35 tZ3 tS3 rfl rfl rfl rfl (fbk rfl) rfl) <| WL.yes rfl rfl rfl rfl rfl rfl (cRr (z23 u f st hs x.outs [2]) z50 rfl rfl (sRf _ _) (po2 rfl rfl) (by rfl) (fun k (h : _) => .inr h) rfl (by rfl)) <| sm 2 rfl <| nL <| tRt ?_
     (have h2 : (z04 u f st x).2 = (z0v f.types st x.outs [2]).2 := (by simp_all [z04, andP]; done)
      rw [h2]
      refine rOk rfl ?_ (po2 rfl rfl)
      clear h2
      skip
      simp_all [z04, andP]
      done)
    refine sm 7 rfl <| nL <| tRt ?_
    (have h2 : (z04 u f st x).2 = st := (by simp_all [z04, andP]; done)
     rw [h2]
     refine rOk rfl ?_ (po2 rfl rfl)
     clear h2
     skip
     simp_all [z04, andP]
     done)
   refine sm 5 rfl ?_
   refine wS 32 rfl (fun hb32 => ?_) fun hb32 => ?_
   ·refine sm 3 rfl <| WL.yes rfl rfl rfl rfl rfl rfl (cRr (z1l u f st hs x.args []) z3o rfl rfl (sSm rfl (sSm rfl (Subs.cons (fun _ _ _ _ h => z41 h) Subs.nil))) (po2 rfl rfl) (by rfl) (fun k (h : _) => .inr trivial) rfl (by rfl)) <| sm 2 rfl ?_
    refine wS 38 rfl (fun hb38 => ?_) fun hb38 => ?_
    ·refine sm 3 rfl <| WL.yes rfl rfl rfl rfl rfl rfl (bSl rfl rfl uT35 tZ3 tS3 rfl rfl rfl rfl (fbk rfl) rfl) <| WL.yes rfl rfl rfl rfl rfl rfl (cRr (z23 u f st hs x.outs [2]) z50 rfl rfl (sRf _ _) (po2 rfl rfl) (by rfl) (fun k (h : _) => .inr h) rfl (by rfl)) <| sm 2 rfl <| nL <| tRt ?_
     (have h2 : (z04 u f st x).2 = (z0v f.types st x.outs [2]).2 := (by simp_all [z04, andP]; done)
      rw [h2]
      refine rOk rfl ?_ (po2 rfl rfl)
      clear h2
      skip
      simp_all [z04, andP]
      done)
    refine sm 7 rfl <| nL <| tRt ?_
    (have h2 : (z04 u f st x).2 = st := (by simp_all [z04, andP]; done)
     rw [h2]
     refine rOk rfl ?_ (po2 rfl rfl)
     clear h2
     skip
     simp_all [z04, andP]
     done)
   refine sm 13 rfl <| nL <| tRt ?_
   (have h2 : (z04 u f st x).2 = st := (by simp_all [z04, andP]; done)
    rw [h2]
    refine rOk rfl ?_ (po2 rfl rfl)
    clear h2
    skip
    simp_all [z04, andP]
    done)
  refine tQ <| tQ <| tG <| sm 2 rfl <| nL ?_
  refine tC rfl (fun hc45 => ?_) fun hc45 => ?_
  ·refine tSk ?_
   refine tC rfl (fun hc45 => ?_) fun hc45 => ?_
   ·refine tQ <| tG <| sm 1 rfl <| cV rfl (lEA rfl rfl uT43 rfl tS43 (lb rfl)) <| cE rfl (ocr (y1h u f st hs x) ent117 rfl (po2 rfl rfl) rfl (fun k (h : _) => .inr h) rfl rfl) <| sm 1 rfl <| nL <| tRt ?_
    have h2 : z04 u f st x = z38 f st x := by simp_all [z04]
    rw [h2]
    exact rOk rfl rfl (po2 rfl rfl)
   refine tQ <| tG <| sm 2 rfl <| nL ?_
   refine tC rfl (fun hc51 => ?_) fun hc51 => ?_
   ·refine tQ <| tDr z1a (fun k => k ∈ ([3] : List Nat)) <| wR 16 [0, 1, 2, 3, 4, 5] kR0 h30 <| smR 1 rfl <| rV rfl rfl (nCk rfl rfl rfl) <| smR 1 rfl <| rV rfl rfl (lBP rfl rfl rfl uT25 rfl tS25 (lb rfl) rfl dC0) <| smR 2 rfl <| nR <| wO 6 kR0 <| wI rfl rfl (fun k (h : _) => by (simp at h ⊢; omega)) nw (fun _ _ => ocq (zd8 _ _) y0x rfl rfl) <| wR 11 [7, 8, 9, 10] kR0 h30 ?_
    refine smR 1 rfl ?_
    refine WR.split (t := 60) rfl (fun hb60 => ?_) (fun hb60 => ?_)
    ·refine smR 3 rfl <| nR <| wO 11 kR0 <| wY rfl rfl rfl (fun k (h : _) => by (simp at h ⊢; omega)) nw (fun _ _ => bSl rfl rfl uT35 tZ3 tS3 rfl rfl rfl rfl (fbk rfl) rfl) <| wO 12 kR0 <| wY rfl rfl rfl (fun k (h : _) => by (simp at h ⊢; omega)) (nAp rfl) (fun _ _ => ocr (z1l u f st hs x.args [1]) z3o rfl (po2 rfl rfl) rfl (fun k (h : _) => .inr trivial) rfl rfl) <| wR 4 [13, 14, 15, 16, 17] kR0 h30 <| smR 2 rfl ?_
     refine WR.split (t := 67) rfl (fun hb67 => ?_) (fun hb67 => ?_)
     ·refine smR 3 rfl <| nR <| wO 18 kR0 <| wY rfl rfl rfl (fun k (h : _) => by (simp at h ⊢; omega)) nw (fun _ _ => bSl rfl rfl uT35 tZ3 tS3 rfl rfl rfl rfl (fbk rfl) rfl) <| wO 19 kR0 <| wY rfl rfl rfl (fun k (h : _) => by (simp at h ⊢; omega)) (nAp rfl) (fun _ _ => ocr (z23 u f st hs x.outs [1]) z50 rfl (po2 rfl rfl) rfl (fun k (h : _) => by (simp only [List.mem_cons, List.not_mem_nil, or_false] at h; rcases h with rfl <;> first | exact .inl rfl | exact .inr rfl | exact .inr dC0)) rfl rfl) <| wR 0 [20, 21] kR0 h30 <| smR 2 rfl <| nR <| wDn kR0 <| tRt ?_
      (have h2 : (z04 u f st x).2 = (z0v f.types st x.outs [1]).2 := (by simp_all [z04, andP]; done)
       rw [h2]
       refine rOk rfl ?_ (po2 rfl rfl)
       clear h2
       skip
       simp_all [z04, andP]
       done)
     refine smR 3 rfl <| nR <| wN 18 kR0 h30 rfl rfl rfl <| wN 19 kR0 h30 rfl rfl rfl <| wR 0 [20, 21] kR0 h30 <| smR 2 rfl <| nR <| wDn kR0 <| tRt ?_
     (have h2 : (z04 u f st x).2 = st := (by simp_all [z04, andP]; done)
      rw [h2]
      refine rOk rfl ?_ (po2 rfl rfl)
      clear h2
      skip
      simp_all [z04, andP]
      done)
    refine smR 3 rfl <| nR <| wN 11 kR0 h30 rfl rfl rfl <| wN 12 kR0 h30 rfl rfl rfl <| wR 4 [13, 14, 15, 16, 17] kR0 h30 <| smR 5 rfl <| nR <| wN 18 kR0 h30 rfl rfl rfl <| wN 19 kR0 h30 rfl rfl rfl <| wR 0 [20, 21] kR0 h30 <| smR 2 rfl <| nR ?_
    refine wDn kR0 <| tRt ?_
    (have h2 : (z04 u f st x).2 = st := (by simp_all [z04, andP]; done)
     rw [h2]
     refine rOk rfl ?_ (po2 rfl rfl)
     clear h2
     skip
     simp_all [z04, andP]
     done)
   refine tQ <| tG <| sm 2 rfl <| nL ?_
   refine tC rfl (fun hc74 => ?_) fun hc74 => ?_
   ·refine tQ <| tDr z1a (fun k => k ∈ ([3] : List Nat)) <| wR 15 [0, 1, 2, 3, 4, 5] kR0 h30 <| smR 1 rfl <| rV rfl rfl (nCk rfl rfl rfl) <| smR 1 rfl <| rV rfl rfl (lBP rfl rfl rfl uT25 rfl tS25 (lb rfl) rfl dC0) <| smR 2 rfl <| nR <| wO 6 kR0 <| wI rfl rfl (fun k (h : _) => by (simp at h ⊢; omega)) nw (fun _ _ => ocq (zd8 _ _) y0x rfl rfl) <| wR 10 [7, 8, 9, 10] kR0 h30 ?_
    refine smR 1 rfl ?_
    refine WR.split (t := 83) rfl (fun hb83 => ?_) (fun hb83 => ?_)
    ·refine smR 3 rfl <| nR <| wO 11 kR0 <| wY rfl rfl rfl (fun k (h : _) => by (simp at h ⊢; omega)) nw (fun _ _ => bSl rfl rfl uT35 tZ3 tS3 rfl rfl rfl rfl (fbk rfl) rfl) <| wO 12 kR0 <| wY rfl rfl rfl (fun k (h : _) => by (simp at h ⊢; omega)) (nAp rfl) (fun _ _ => ocr (z1l u f st hs x.args [1, 1]) z3o rfl (po2 rfl rfl) rfl (fun k (h : _) => .inr trivial) rfl rfl) <| wR 3 [13, 14, 15, 16, 17] kR0 h30 <| smR 2 rfl ?_
     refine WR.split (t := 90) rfl (fun hb90 => ?_) (fun hb90 => ?_)
     ·refine smR 3 rfl <| nR <| wO 18 kR0 <| wY rfl rfl rfl (fun k (h : _) => by (simp at h ⊢; omega)) (nAp rfl) (fun _ _ => cRr (z23 u f st hs x.outs []) z50 rfl rfl (sSm rfl (sSm rfl (Subs.cons (fun _ _ _ _ h => z41 h) Subs.nil))) (po2 rfl rfl) (by rfl) (fun k (h : _) => by (simp only [List.mem_cons, List.not_mem_nil, or_false] at h; rcases h with rfl <;> first | exact .inl rfl | exact .inr rfl | exact .inr dC0)) rfl (by rfl)) <| wR 0 [19, 20] kR0 h30 <| smR 2 rfl <| nR <| wDn kR0 <| tRt ?_
      (have h2 : (z04 u f st x).2 = (z0v f.types st x.outs []).2 := (by simp_all [z04, andP]; done)
       rw [h2]
       refine rOk rfl ?_ (po2 rfl rfl)
       clear h2
       skip
       simp_all [z04, andP]
       done)
     refine smR 3 rfl <| nR <| wN 18 kR0 h30 rfl rfl rfl <| wR 0 [19, 20] kR0 h30 <| smR 2 rfl <| nR <| wDn kR0 <| tRt ?_
     (have h2 : (z04 u f st x).2 = st := (by simp_all [z04, andP]; done)
      rw [h2]
      refine rOk rfl ?_ (po2 rfl rfl)
      clear h2
      skip
      simp_all [z04, andP]
      done)
    refine smR 3 rfl <| nR <| wN 11 kR0 h30 rfl rfl rfl <| wN 12 kR0 h30 rfl rfl rfl <| wR 3 [13, 14, 15, 16, 17] kR0 h30 <| smR 5 rfl <| nR <| wN 18 kR0 h30 rfl rfl rfl <| wR 0 [19, 20] kR0 h30 <| smR 2 rfl <| nR <| wDn kR0 ?_
    refine tRt ?_
    (have h2 : (z04 u f st x).2 = st := (by simp_all [z04, andP]; done)
     rw [h2]
     refine rOk rfl ?_ (po2 rfl rfl)
     clear h2
     skip
     simp_all [z04, andP]
     done)
   refine tQ <| tG <| sm 2 rfl <| nL ?_
   refine tC rfl (fun hc96 => ?_) fun hc96 => ?_
   ·refine tQ <| tG <| sm 3 rfl <| cE rfl (cRr (z1l u f st hs x.args []) z3o rfl rfl (sSm rfl (sSm rfl (Subs.cons (fun _ _ _ _ h => z41 h) Subs.nil))) (po2 rfl rfl) (by rfl) (fun k (h : _) => .inr trivial) rfl (by rfl)) <| sm 1 rfl ?_
    refine wS 102 rfl (fun hb102 => ?_) fun hb102 => ?_
    ·refine sm 3 rfl <| WL.yes rfl rfl rfl rfl rfl rfl (bSl rfl rfl uT35 tZ3 tS3 rfl rfl rfl rfl (fbk rfl) rfl) <| WL.yes rfl rfl rfl rfl rfl rfl (cRr (z23 u f st hs x.outs [1]) z50 rfl rfl (sRf _ _) (po2 rfl rfl) (by rfl) (fun k (h : _) => .inr h) rfl (by rfl)) <| sm 2 rfl <| nL <| tRt ?_
     (have h2 : (z04 u f st x).2 = (z0v f.types st x.outs [1]).2 := (by simp_all [z04, andP]; done)
      rw [h2]
      refine rOk rfl ?_ (po2 rfl rfl)
      clear h2
      skip
      simp_all [z04, andP]
      done)
    refine sm 7 rfl <| nL <| tRt ?_
    (have h2 : (z04 u f st x).2 = st := (by simp_all [z04, andP]; done)
     rw [h2]
     refine rOk rfl ?_ (po2 rfl rfl)
     clear h2
     skip
     simp_all [z04, andP]
     done)
   refine tQ <| tG <| sm 2 rfl <| nL ?_
   refine tC rfl (fun hc109 => ?_) fun hc109 => ?_
   ·refine tQ <| tG <| sm 3 rfl <| cE rfl (bSl rfl rfl uT35 tZ3 tS3 rfl rfl rfl rfl (fbk rfl) rfl) <| cE rfl (ocr (z1l u f st hs x.args [1]) z3o rfl (po2 rfl rfl) rfl (fun k (h : _) => .inr trivial) rfl rfl) <| sm 1 rfl ?_
    refine wS 116 rfl (fun hb116 => ?_) fun hb116 => ?_
    ·refine sm 3 rfl <| WL.yes rfl rfl rfl rfl rfl rfl (cRr (z23 u f st hs x.outs []) z50 rfl rfl (sSm rfl (sSm rfl (Subs.cons (fun _ _ _ _ h => z41 h) Subs.nil))) (po2 rfl rfl) (by rfl) (fun k (h : _) => .inr h) rfl (by rfl)) <| sm 2 rfl <| nL <| tRt ?_
     (have h2 : (z04 u f st x).2 = (z0v f.types st x.outs []).2 := (by simp_all [z04, andP]; done)
      rw [h2]
      refine rOk rfl ?_ (po2 rfl rfl)
      clear h2
      skip
      simp_all [z04, andP]
      done)
    refine sm 6 rfl <| nL <| tRt ?_
    (have h2 : (z04 u f st x).2 = st := (by simp_all [z04, andP]; done)
     rw [h2]
     refine rOk rfl ?_ (po2 rfl rfl)
     clear h2
     skip
     simp_all [z04, andP]
     done)
   refine tQ <| tG <| sm 2 rfl <| nL ?_
   refine tC rfl (fun hc122 => ?_) fun hc122 => ?_
   ·refine tQ <| tDr z1a (fun k => k ∈ ([3] : List Nat)) <| wR 2 [0, 1, 2, 3, 4, 5] kR0 h30 <| smR 1 rfl <| rV rfl rfl (nCk rfl rfl rfl) <| smR 1 rfl <| rV rfl rfl (lBP rfl rfl rfl uT25 rfl tS25 (lb rfl) rfl dC0) <| smR 2 rfl <| nR <| wO 6 kR0 <| wI rfl rfl (fun k (h : _) => by (simp at h ⊢; omega)) nw (fun _ _ => ocq (za4 _ _) ent58 rfl rfl) <| wR 0 [7] kR0 h30 ?_
    refine smR 1 rfl <| nR <| wDn kR0 <| tQ <| tQ <| tG <| sm 2 rfl <| nL ?_
    refine tC rfl (fun hc132 => ?_) fun hc132 => ?_
    ·refine tQ <| tG <| sm 1 rfl <| nL <| tRt ?_
     (have h2 : (z04 u f st x).2 = st := (by simp_all [z04, z4w, andP]; done)
      rw [h2]
      refine rOk rfl ?_ (po2 rfl rfl)
      clear h2
      skip
      simp_all [z04, z4w, andP]
      done)
    have hk0 : z0a x.name u.flows 0 ≥ 0 := by simp at hc132; omega
    obtain ⟨g, hgk, _⟩ := z6e hk0
    obtain ⟨hgp0, hgpl⟩ := hg g (List.mem_of_getElem? hgk)
    have hgp : g.params = (g.params.toNat : Int) := by omega
    have hgi : (u.flows.map Fl.enc)[(z0a x.name u.flows 0).toNat]? = some (Fl.enc g) := by rw [List.getElem?_map, hgk]; rfl
    have hkn : z0a x.name u.flows 0 = ((z0a x.name u.flows 0).toNat : Int) := by omega
    have hnl : ¬ z0a x.name u.flows 0 < 0 := by omega
    have hcall : z4w u f st x = andP (z19 f.types st x.args (g.types.take g.params.toNat)) st (z0v f.types st x.outs [g.ty]) := by
      unfold z4w
      rw [if_neg hnl, hgk]
    refine tSk <| tQ <| tG <| sm 1 rfl <| cV rfl (nCk rfl rfl rfl) <| sm 4 rfl <| cV rfl (iSq rfl rfl rfl uT23 hgi tS51 rfl oM0) <| cV rfl (lEA rfl rfl Tryz.underlying51 rfl tS51 (lb rfl)) <| cE rfl (aLc (k := 106) rfl tZ51 rfl rfl rfl rfl) <| c0 (sBA rfl rfl rfl rfl rfl sI0 tS51 (flk rfl) (lb rfl)) <| nL <| tQ ?_
    refine Tr.freezeBox (t := 6) (k := 106) rfl rfl rfl ?_
    refine Tr.heap (σ' := look (up (ckS u f 3 st))) (fun k => by
      simp only [look]
      by_cases h : 106 = k
      · subst h; rfl
      · simp [z00 h]) ?_
    refine tDr z1a (fun k => k ∈ ([3] : List Nat)) <| wR 11 [0, 1, 2, 3, 4, 5, 6, 7] kR0 h30 <| smR 7 rfl ?_
    refine rV rfl rfl (z5z (j := g.params.toNat) rfl rfl uT35 tS3 (.inl ⟨rfl, rfl⟩) (.inr ⟨_, _, rfl, congrArg (fun z => some (IV.pv (.val (.int .i64 z)))) hgp⟩) (Nat.zero_le _) (by simp; omega) (by simp [eInt])) ?_
    refine nR <| wO 8 kR0 ?_
    refine wI rfl rfl (fun k (h : _) => by (simp at h ⊢; omega)) (nAp rfl) (fun _ _ => cRr (z1l u f st hs x.args (g.types.take g.params.toNat)) z3o rfl rfl (sSm rfl (sSm rfl (sSm (by simp [ints, List.map_take]) Subs.nil))) (po2 rfl rfl) (by rfl) (fun k (h : _) => .inr trivial) rfl (by rfl)) ?_
    refine wR 4 [9, 10, 11, 12, 13, 14] kR0 h30 <| smR 1 rfl ?_
    refine WR.split (t := 150) rfl (fun hb150 => ?_) (fun hb150 => ?_)
    ·refine smR 5 rfl <| nR <| wO 15 kR0 <| wY rfl rfl rfl (fun k (h : _) => by (simp at h ⊢; omega)) nw (fun _ _ => bSl rfl rfl uT35 tZ3 tS3 rfl rfl rfl rfl (fbk rfl) rfl) <| wO 16 kR0 <| wY rfl rfl rfl (fun k (h : _) => by (simp at h ⊢; omega)) (nAp rfl) (fun _ _ => ocr (z23 u f st hs x.outs [g.ty]) z50 rfl (po2 rfl rfl) rfl (fun k (h : _) => by (simp only [List.mem_cons, List.not_mem_nil, or_false] at h; rcases h with rfl <;> first | exact .inl rfl | exact .inr rfl | exact .inr dC0)) rfl rfl) <| wR 0 [17, 18] kR0 h30 <| smR 2 rfl <| nR <| wDn kR0 <| tRt ?_
     have hsim : z04 u f st x = z4w u f st x := by
       clear hkn hgp hcall hnl
       simp_all [z04]
     rw [hsim, hcall]
     clear hsim hcall
     (have h2 : (andP (z19 f.types st x.args (g.types.take g.params.toNat)) st (z0v f.types st x.outs [g.ty])).2 = (z0v f.types st x.outs [g.ty]).2 := (by (try (clear hkn hgp)); simp_all [andP, andP]; done)
      rw [h2]
      refine rOk rfl ?_ (po2 rfl rfl)
      clear h2
      try (clear hkn hgp)
      simp_all [andP, andP]
      done)
    refine smR 5 rfl <| nR <| wN 15 kR0 h30 rfl rfl rfl <| wN 16 kR0 h30 rfl rfl rfl <| wR 0 [17, 18] kR0 h30 <| smR 2 rfl <| nR <| wDn kR0 <| tRt ?_
    have hsim : z04 u f st x = z4w u f st x := by
      clear hkn hgp hcall hnl
      simp_all [z04]
    rw [hsim, hcall]
    clear hsim hcall
    (have h2 : (andP (z19 f.types st x.args (g.types.take g.params.toNat)) st (z0v f.types st x.outs [g.ty])).2 = st := (by (try (clear hkn hgp)); simp_all [andP, andP]; done)
     rw [h2]
     refine rOk rfl ?_ (po2 rfl rfl)
     clear h2
     try (clear hkn hgp)
     simp_all [andP, andP]
     done)
   refine tSk <| tQ <| tG <| sm 1 rfl <| nL <| tRt ?_
   (have h2 : (z04 u f st x).2 = st := (by simp_all [z04, andP]; done)
    rw [h2]
    refine rOk rfl ?_ (po2 rfl rfl)
    clear h2
    skip
    simp_all [z04, andP]
    done)
  refine tG <| sm 2 rfl <| nL ?_
  refine tC rfl (fun hc45 => ?_) fun hc45 => ?_
  ·refine tQ <| tG <| sm 1 rfl <| cV rfl (lEA rfl rfl uT43 rfl tS43 (lb rfl)) <| cE rfl (ocr (y1h u f st hs x) ent117 rfl (po2 rfl rfl) rfl (fun k (h : _) => .inr h) rfl rfl) <| sm 1 rfl <| nL <| tRt ?_
   have h2 : z04 u f st x = z38 f st x := by simp_all [z04]
   rw [h2]
   exact rOk rfl rfl (po2 rfl rfl)
  refine tQ <| tG <| sm 2 rfl <| nL ?_
  refine tC rfl (fun hc51 => ?_) fun hc51 => ?_
  ·refine tQ <| tDr z1a (fun k => k ∈ ([3] : List Nat)) <| wR 16 [0, 1, 2, 3, 4, 5] kR0 h30 <| smR 1 rfl <| rV rfl rfl (nCk rfl rfl rfl) <| smR 1 rfl <| rV rfl rfl (lBP rfl rfl rfl uT25 rfl tS25 (lb rfl) rfl dC0) <| smR 2 rfl <| nR <| wO 6 kR0 <| wI rfl rfl (fun k (h : _) => by (simp at h ⊢; omega)) nw (fun _ _ => ocq (zd8 _ _) y0x rfl rfl) <| wR 11 [7, 8, 9, 10] kR0 h30 ?_
   refine smR 1 rfl ?_
   refine WR.split (t := 60) rfl (fun hb60 => ?_) (fun hb60 => ?_)
   ·refine smR 3 rfl <| nR <| wO 11 kR0 <| wY rfl rfl rfl (fun k (h : _) => by (simp at h ⊢; omega)) nw (fun _ _ => bSl rfl rfl uT35 tZ3 tS3 rfl rfl rfl rfl (fbk rfl) rfl) <| wO 12 kR0 <| wY rfl rfl rfl (fun k (h : _) => by (simp at h ⊢; omega)) (nAp rfl) (fun _ _ => ocr (z1l u f st hs x.args [1]) z3o rfl (po2 rfl rfl) rfl (fun k (h : _) => .inr trivial) rfl rfl) <| wR 4 [13, 14, 15, 16, 17] kR0 h30 <| smR 2 rfl ?_
    refine WR.split (t := 67) rfl (fun hb67 => ?_) (fun hb67 => ?_)
    ·refine smR 3 rfl <| nR <| wO 18 kR0 <| wY rfl rfl rfl (fun k (h : _) => by (simp at h ⊢; omega)) nw (fun _ _ => bSl rfl rfl uT35 tZ3 tS3 rfl rfl rfl rfl (fbk rfl) rfl) <| wO 19 kR0 <| wY rfl rfl rfl (fun k (h : _) => by (simp at h ⊢; omega)) (nAp rfl) (fun _ _ => ocr (z23 u f st hs x.outs [1]) z50 rfl (po2 rfl rfl) rfl (fun k (h : _) => by (simp only [List.mem_cons, List.not_mem_nil, or_false] at h; rcases h with rfl <;> first | exact .inl rfl | exact .inr rfl | exact .inr dC0)) rfl rfl) <| wR 0 [20, 21] kR0 h30 <| smR 2 rfl <| nR <| wDn kR0 <| tRt ?_
     (have h2 : (z04 u f st x).2 = (z0v f.types st x.outs [1]).2 := (by simp_all [z04, andP]; done)
      rw [h2]
      refine rOk rfl ?_ (po2 rfl rfl)
      clear h2
      skip
      simp_all [z04, andP]
      done)
    refine smR 3 rfl <| nR <| wN 18 kR0 h30 rfl rfl rfl <| wN 19 kR0 h30 rfl rfl rfl <| wR 0 [20, 21] kR0 h30 <| smR 2 rfl <| nR <| wDn kR0 <| tRt ?_
    (have h2 : (z04 u f st x).2 = st := (by simp_all [z04, andP]; done)
     rw [h2]
     refine rOk rfl ?_ (po2 rfl rfl)
     clear h2
     skip
     simp_all [z04, andP]
     done)
   refine smR 3 rfl <| nR <| wN 11 kR0 h30 rfl rfl rfl <| wN 12 kR0 h30 rfl rfl rfl <| wR 4 [13, 14, 15, 16, 17] kR0 h30 <| smR 5 rfl <| nR <| wN 18 kR0 h30 rfl rfl rfl <| wN 19 kR0 h30 rfl rfl rfl <| wR 0 [20, 21] kR0 h30 <| smR 2 rfl <| nR ?_
   refine wDn kR0 <| tRt ?_
   (have h2 : z04 u f st x = (false, st) := (by (first | (simp_all [z04, andP]; done) | (simp_all [z04, andP] <;> omega)))
    rw [h2]
    exact rOk rfl rfl (po2 rfl rfl))
  refine tQ <| tG <| sm 2 rfl <| nL ?_
  refine tC rfl (fun hc74 => ?_) fun hc74 => ?_
  ·refine tQ <| tDr z1a (fun k => k ∈ ([3] : List Nat)) <| wR 15 [0, 1, 2, 3, 4, 5] kR0 h30 <| smR 1 rfl <| rV rfl rfl (nCk rfl rfl rfl) <| smR 1 rfl <| rV rfl rfl (lBP rfl rfl rfl uT25 rfl tS25 (lb rfl) rfl dC0) <| smR 2 rfl <| nR <| wO 6 kR0 <| wI rfl rfl (fun k (h : _) => by (simp at h ⊢; omega)) nw (fun _ _ => ocq (zd8 _ _) y0x rfl rfl) <| wR 10 [7, 8, 9, 10] kR0 h30 ?_
   refine smR 1 rfl ?_
   refine WR.split (t := 83) rfl (fun hb83 => ?_) (fun hb83 => ?_)
   ·refine smR 3 rfl <| nR <| wO 11 kR0 <| wY rfl rfl rfl (fun k (h : _) => by (simp at h ⊢; omega)) nw (fun _ _ => bSl rfl rfl uT35 tZ3 tS3 rfl rfl rfl rfl (fbk rfl) rfl) <| wO 12 kR0 <| wY rfl rfl rfl (fun k (h : _) => by (simp at h ⊢; omega)) (nAp rfl) (fun _ _ => ocr (z1l u f st hs x.args [1, 1]) z3o rfl (po2 rfl rfl) rfl (fun k (h : _) => .inr trivial) rfl rfl) <| wR 3 [13, 14, 15, 16, 17] kR0 h30 <| smR 2 rfl ?_
    refine WR.split (t := 90) rfl (fun hb90 => ?_) (fun hb90 => ?_)
    ·refine smR 3 rfl <| nR <| wO 18 kR0 <| wY rfl rfl rfl (fun k (h : _) => by (simp at h ⊢; omega)) (nAp rfl) (fun _ _ => cRr (z23 u f st hs x.outs []) z50 rfl rfl (sSm rfl (sSm rfl (Subs.cons (fun _ _ _ _ h => z41 h) Subs.nil))) (po2 rfl rfl) (by rfl) (fun k (h : _) => by (simp only [List.mem_cons, List.not_mem_nil, or_false] at h; rcases h with rfl <;> first | exact .inl rfl | exact .inr rfl | exact .inr dC0)) rfl (by rfl)) <| wR 0 [19, 20] kR0 h30 <| smR 2 rfl <| nR <| wDn kR0 <| tRt ?_
     (have h2 : (z04 u f st x).2 = (z0v f.types st x.outs []).2 := (by simp_all [z04, andP]; done)
      rw [h2]
      refine rOk rfl ?_ (po2 rfl rfl)
      clear h2
      skip
      simp_all [z04, andP]
      done)
    refine smR 3 rfl <| nR <| wN 18 kR0 h30 rfl rfl rfl <| wR 0 [19, 20] kR0 h30 <| smR 2 rfl <| nR <| wDn kR0 <| tRt ?_
    (have h2 : (z04 u f st x).2 = st := (by simp_all [z04, andP]; done)
     rw [h2]
     refine rOk rfl ?_ (po2 rfl rfl)
     clear h2
     skip
     simp_all [z04, andP]
     done)
   refine smR 3 rfl <| nR <| wN 11 kR0 h30 rfl rfl rfl <| wN 12 kR0 h30 rfl rfl rfl <| wR 3 [13, 14, 15, 16, 17] kR0 h30 <| smR 5 rfl <| nR <| wN 18 kR0 h30 rfl rfl rfl <| wR 0 [19, 20] kR0 h30 <| smR 2 rfl <| nR <| wDn kR0 ?_
   refine tRt ?_
   (have h2 : z04 u f st x = (false, st) := (by (first | (simp_all [z04, andP]; done) | (simp_all [z04, andP] <;> omega)))
    rw [h2]
    exact rOk rfl rfl (po2 rfl rfl))
  refine tQ <| tG <| sm 2 rfl <| nL ?_
  refine tC rfl (fun hc96 => ?_) fun hc96 => ?_
  ·refine tQ <| tG <| sm 3 rfl <| cE rfl (cRr (z1l u f st hs x.args []) z3o rfl rfl (sSm rfl (sSm rfl (Subs.cons (fun _ _ _ _ h => z41 h) Subs.nil))) (po2 rfl rfl) (by rfl) (fun k (h : _) => .inr trivial) rfl (by rfl)) <| sm 1 rfl ?_
   refine wS 102 rfl (fun hb102 => ?_) fun hb102 => ?_
   ·refine sm 3 rfl <| WL.yes rfl rfl rfl rfl rfl rfl (bSl rfl rfl uT35 tZ3 tS3 rfl rfl rfl rfl (fbk rfl) rfl) <| WL.yes rfl rfl rfl rfl rfl rfl (cRr (z23 u f st hs x.outs [1]) z50 rfl rfl (sRf _ _) (po2 rfl rfl) (by rfl) (fun k (h : _) => .inr h) rfl (by rfl)) <| sm 2 rfl <| nL <| tRt ?_
    (have h2 : (z04 u f st x).2 = (z0v f.types st x.outs [1]).2 := (by simp_all [z04, andP]; done)
     rw [h2]
     refine rOk rfl ?_ (po2 rfl rfl)
     clear h2
     skip
     simp_all [z04, andP]
     done)
   refine sm 7 rfl <| nL <| tRt ?_
   (have h2 : (z04 u f st x).2 = st := (by simp_all [z04, andP]; done)
    rw [h2]
    refine rOk rfl ?_ (po2 rfl rfl)
    clear h2
    skip
    simp_all [z04, andP]
    done)
  refine tQ <| tG <| sm 2 rfl <| nL ?_
  refine tC rfl (fun hc109 => ?_) fun hc109 => ?_
  ·refine tQ <| tG <| sm 3 rfl <| cE rfl (bSl rfl rfl uT35 tZ3 tS3 rfl rfl rfl rfl (fbk rfl) rfl) <| cE rfl (ocr (z1l u f st hs x.args [1]) z3o rfl (po2 rfl rfl) rfl (fun k (h : _) => .inr trivial) rfl rfl) <| sm 1 rfl ?_
   refine wS 116 rfl (fun hb116 => ?_) fun hb116 => ?_
   ·refine sm 3 rfl <| WL.yes rfl rfl rfl rfl rfl rfl (cRr (z23 u f st hs x.outs []) z50 rfl rfl (sSm rfl (sSm rfl (Subs.cons (fun _ _ _ _ h => z41 h) Subs.nil))) (po2 rfl rfl) (by rfl) (fun k (h : _) => .inr h) rfl (by rfl)) <| sm 2 rfl <| nL <| tRt ?_
    (have h2 : (z04 u f st x).2 = (z0v f.types st x.outs []).2 := (by simp_all [z04, andP]; done)
     rw [h2]
     refine rOk rfl ?_ (po2 rfl rfl)
     clear h2
     skip
     simp_all [z04, andP]
     done)
   refine sm 6 rfl <| nL <| tRt ?_
   (have h2 : (z04 u f st x).2 = st := (by simp_all [z04, andP]; done)
    rw [h2]
    refine rOk rfl ?_ (po2 rfl rfl)
    clear h2
    skip
    simp_all [z04, andP]
    done)
  refine tQ <| tG <| sm 2 rfl <| nL ?_
  refine tC rfl (fun hc122 => ?_) fun hc122 => ?_
  ·refine tQ <| tDr z1a (fun k => k ∈ ([3] : List Nat)) <| wR 2 [0, 1, 2, 3, 4, 5] kR0 h30 <| smR 1 rfl <| rV rfl rfl (nCk rfl rfl rfl) <| smR 1 rfl <| rV rfl rfl (lBP rfl rfl rfl uT25 rfl tS25 (lb rfl) rfl dC0) <| smR 2 rfl <| nR <| wO 6 kR0 <| wI rfl rfl (fun k (h : _) => by (simp at h ⊢; omega)) nw (fun _ _ => ocq (za4 _ _) ent58 rfl rfl) <| wR 0 [7] kR0 h30 ?_
   refine smR 1 rfl <| nR <| wDn kR0 <| tQ <| tQ <| tG <| sm 2 rfl <| nL ?_
   refine tC rfl (fun hc132 => ?_) fun hc132 => ?_
   ·refine tQ <| tG <| sm 1 rfl <| nL <| tRt ?_
    (have h2 : (z04 u f st x).2 = st := (by simp_all [z04, z4w, andP]; done)
     rw [h2]
     refine rOk rfl ?_ (po2 rfl rfl)
     clear h2
     skip
     simp_all [z04, z4w, andP]
     done)
   have hk0 : z0a x.name u.flows 0 ≥ 0 := by simp at hc132; omega
   obtain ⟨g, hgk, _⟩ := z6e hk0
   obtain ⟨hgp0, hgpl⟩ := hg g (List.mem_of_getElem? hgk)
   have hgp : g.params = (g.params.toNat : Int) := by omega
   have hgi : (u.flows.map Fl.enc)[(z0a x.name u.flows 0).toNat]? = some (Fl.enc g) := by rw [List.getElem?_map, hgk]; rfl
   have hkn : z0a x.name u.flows 0 = ((z0a x.name u.flows 0).toNat : Int) := by omega
   have hnl : ¬ z0a x.name u.flows 0 < 0 := by omega
   have hcall : z4w u f st x = andP (z19 f.types st x.args (g.types.take g.params.toNat)) st (z0v f.types st x.outs [g.ty]) := by
     unfold z4w
     rw [if_neg hnl, hgk]
   refine tSk <| tQ <| tG <| sm 1 rfl <| cV rfl (nCk rfl rfl rfl) <| sm 4 rfl <| cV rfl (iSq rfl rfl rfl uT23 hgi tS51 rfl oM0) <| cV rfl (lEA rfl rfl Tryz.underlying51 rfl tS51 (lb rfl)) <| cE rfl (aLc (k := 106) rfl tZ51 rfl rfl rfl rfl) <| c0 (sBA rfl rfl rfl rfl rfl sI0 tS51 (flk rfl) (lb rfl)) <| nL <| tQ ?_
   refine Tr.freezeBox (t := 6) (k := 106) rfl rfl rfl ?_
   refine Tr.heap (σ' := look (up (ckS u f 3 st))) (fun k => by
     simp only [look]
     by_cases h : 106 = k
     · subst h; rfl
     · simp [z00 h]) ?_
   refine tDr z1a (fun k => k ∈ ([3] : List Nat)) <| wR 11 [0, 1, 2, 3, 4, 5, 6, 7] kR0 h30 <| smR 7 rfl ?_
   refine rV rfl rfl (z5z (j := g.params.toNat) rfl rfl uT35 tS3 (.inl ⟨rfl, rfl⟩) (.inr ⟨_, _, rfl, congrArg (fun z => some (IV.pv (.val (.int .i64 z)))) hgp⟩) (Nat.zero_le _) (by simp; omega) (by simp [eInt])) ?_
   refine nR <| wO 8 kR0 ?_
   refine wI rfl rfl (fun k (h : _) => by (simp at h ⊢; omega)) (nAp rfl) (fun _ _ => cRr (z1l u f st hs x.args (g.types.take g.params.toNat)) z3o rfl rfl (sSm rfl (sSm rfl (sSm (by simp [ints, List.map_take]) Subs.nil))) (po2 rfl rfl) (by rfl) (fun k (h : _) => .inr trivial) rfl (by rfl)) ?_
   refine wR 4 [9, 10, 11, 12, 13, 14] kR0 h30 <| smR 1 rfl ?_
   refine WR.split (t := 150) rfl (fun hb150 => ?_) (fun hb150 => ?_)
   ·refine smR 5 rfl <| nR <| wO 15 kR0 <| wY rfl rfl rfl (fun k (h : _) => by (simp at h ⊢; omega)) nw (fun _ _ => bSl rfl rfl uT35 tZ3 tS3 rfl rfl rfl rfl (fbk rfl) rfl) <| wO 16 kR0 <| wY rfl rfl rfl (fun k (h : _) => by (simp at h ⊢; omega)) (nAp rfl) (fun _ _ => ocr (z23 u f st hs x.outs [g.ty]) z50 rfl (po2 rfl rfl) rfl (fun k (h : _) => by (simp only [List.mem_cons, List.not_mem_nil, or_false] at h; rcases h with rfl <;> first | exact .inl rfl | exact .inr rfl | exact .inr dC0)) rfl rfl) <| wR 0 [17, 18] kR0 h30 <| smR 2 rfl <| nR <| wDn kR0 <| tRt ?_
    have hsim : z04 u f st x = z4w u f st x := by
      clear hkn hgp hcall hnl
      simp_all [z04]
    rw [hsim, hcall]
    clear hsim hcall
    (have h2 : (andP (z19 f.types st x.args (g.types.take g.params.toNat)) st (z0v f.types st x.outs [g.ty])).2 = (z0v f.types st x.outs [g.ty]).2 := (by (try (clear hkn hgp)); simp_all [andP, andP]; done)
     rw [h2]
     refine rOk rfl ?_ (po2 rfl rfl)
     clear h2
     try (clear hkn hgp)
     simp_all [andP, andP]
     done)
   refine smR 5 rfl <| nR <| wN 15 kR0 h30 rfl rfl rfl <| wN 16 kR0 h30 rfl rfl rfl <| wR 0 [17, 18] kR0 h30 <| smR 2 rfl <| nR <| wDn kR0 <| tRt ?_
   have hsim : z04 u f st x = z4w u f st x := by
     clear hkn hgp hcall hnl
     simp_all [z04]
   rw [hsim, hcall]
   clear hsim hcall
   (have h2 : (andP (z19 f.types st x.args (g.types.take g.params.toNat)) st (z0v f.types st x.outs [g.ty])).2 = st := (by (try (clear hkn hgp)); simp_all [andP, andP]; done)
    rw [h2]
    refine rOk rfl ?_ (po2 rfl rfl)
    clear h2
    try (clear hkn hgp)
    simp_all [andP, andP]
    done)
  refine tSk <| tQ <| tG <| sm 1 rfl <| nL <| tRt ?_
  (have h2 : (z04 u f st x).2 = st := (by simp_all [z04, andP]; done)
   rw [h2]
   refine rOk rfl ?_ (po2 rfl rfl)
   clear h2
   skip
   simp_all [z04, andP]
   done)
theorem y0d (u : Un) (f : Fl) (st : List Int) (hs : st.length = f.types.length) (x : Nd) (ka kb : List Nd) (hkids : x.kids = [ka, kb]) (wh : Wh) (deep : Int) (hbo : x.outs.length <= 1073741824) (ih : ∀ q ∈ x.kids, ∀ (w : Wh) (st : List Int), st.length = f.types.length -> SC Tryz.prog 61 [.ptr 3 0, .pv (z0g q), .pv (whv w), iInt deep] (ckS u f 3 st) (fun k => k = 3) (iBool (z0t u f deep w st q).1) (ckS u f 3 (z0t u f deep w st q).2)) : SC Tryz.prog 101 [.ptr 3 0, .pv (ndv x), .pv (whv wh), iInt deep] (ckS u f 3 st) (fun k => k = 3) (iBool (if z19 f.types st x.args [2] then andQ (z0t u f deep ⟨true, wh.Loop, r8of f.types x.outs, wh.Next, wh.Left⟩ st ka) (fun s1 => andQ (z0t u f deep ⟨true, wh.Loop, r8of f.types x.outs, wh.Next, wh.Left⟩ s1 kb) fun s2 => z1h f x s2) else (false, st)).1) (ckS u f 3 (if z19 f.types st x.args [2] then andQ (z0t u f deep ⟨true, wh.Loop, r8of f.types x.outs, wh.Next, wh.Left⟩ st ka) (fun s1 => andQ (z0t u f deep ⟨true, wh.Loop, r8of f.types x.outs, wh.Next, wh.Left⟩ s1 kb) fun s2 => z1h f x s2) else (false, st)).2) := by
  refine SC.of Tryz.func101 rfl (lb rfl) fun F ρ w => ?_
  have hi0 : (x.kids.map eKid)[0]? = some [z0g ka] := by rw [hkids]; rfl
  have hi1 : (x.kids.map eKid)[1]? = some [z0g kb] := by rw [hkids]; rfl
  have hm0 : ka ∈ x.kids := by rw [hkids]; simp
  have hm1 : kb ∈ x.kids := by rw [hkids]; simp
  have hs1 : (z0t u f deep ⟨true, wh.Loop, r8of f.types x.outs, wh.Next, wh.Left⟩ st ka).2.length = f.types.length := (z6w ..).trans hs
  have hs2 : (z0t u f deep ⟨true, wh.Loop, r8of f.types x.outs, wh.Next, wh.Left⟩ (z0t u f deep ⟨true, wh.Loop, r8of f.types x.outs, wh.Next, wh.Left⟩ st ka).2 kb).2.length = f.types.length := (z6w ..).trans hs1
  refine tQ <| tG <| cE rfl (z1d rfl rfl) <| cE rfl (z80 (k := 106) rfl rfl rfl rfl rfl rfl) <| sm 1 rfl <| nL <| tQ <| tG <| sm 3 rfl <| cE rfl (ocr (z5c u f st hs x.outs hbo) zl6 rfl (po2 rfl rfl) rfl (fun k (h : _) => by (subst h; first | exact .inl rfl | exact .inr rfl | exact .inr dC0)) rfl rfl) <| sm 1 rfl <| c0 (sBx rfl rfl rfl rfl sI0 tS4 (rfl) (lb rfl)) ?_
  refine sm 1 rfl <| c0 (sBx rfl rfl rfl rfl sI0 tS35 (rfl) (lb rfl)) <| nL <| tQ <| tDr z1a (fun k => k ∈ ([3, 106] : List Nat)) <| wR 40 [0, 1, 2] kR0 h30 <| smR 3 rfl <| nR <| wO 3 kR0 <| wI rfl rfl (fun k (h : _) => by (simp at h ⊢; omega)) nw (fun _ _ => bSl rfl rfl uT35 tZ3 tS3 rfl rfl rfl rfl (fbk rfl) rfl) <| wO 4 kR0 <| wI rfl rfl (fun k (h : _) => by (simp at h ⊢; omega)) (nAp rfl) (fun _ _ => ocr (z1l u f st hs x.args [2]) z3o rfl (po2 rfl rfl) rfl (fun k (h : _) => .inr trivial) rfl rfl) ?_
  refine wR 30 [5, 6, 7, 8, 9, 10, 11, 12] kR0 h30 <| smR 1 rfl ?_
  refine WR.split (t := 20) rfl (fun hb20 => ?_) (fun hb20 => ?_)
  ·refine smR 3 rfl <| ryV rfl rfl rfl (iSq rfl rfl rfl uT41 hi0 tS44 rfl (by rfl)) <| smR 1 rfl <| ryV rfl rfl rfl (lBP rfl rfl rfl Tryz.underlying104 rfl zq8 (lb rfl) rfl dC0) <| smR 1 rfl <| nR <| wO 13 kR0 <| wY rfl rfl rfl (fun k (h : _) => by (simp at h ⊢; omega)) (nAp rfl) (fun _ _ => ocr (ih ka hm0 ⟨true, wh.Loop, r8of f.types x.outs, wh.Next, wh.Left⟩ st hs) ent61 rfl (po2 rfl rfl) rfl (fun k (h : _) => by (simp only [List.mem_cons, List.not_mem_nil, or_false] at h; rcases h with rfl | rfl <;> first | exact .inl rfl | exact .inr rfl | exact .inr dC0)) rfl rfl) <| wR 20 [14, 15, 16, 17, 18, 19, 20, 21, 22] kR0 h30 <| smR 2 rfl ?_
   refine WR.split (t := 30) rfl (fun hb30 => ?_) (fun hb30 => ?_)
   ·refine smR 3 rfl <| ryV rfl rfl rfl (iSq rfl rfl rfl uT41 hi1 tS44 rfl (by rfl)) <| smR 1 rfl <| ryV rfl rfl rfl (lBP rfl rfl rfl Tryz.underlying104 rfl zq8 (lb rfl) rfl dC0) <| smR 1 rfl <| nR <| wO 23 kR0 <| wY rfl rfl rfl (fun k (h : _) => by (simp at h ⊢; omega)) (nAp rfl) (fun _ _ => ocr (ih kb hm1 ⟨true, wh.Loop, r8of f.types x.outs, wh.Next, wh.Left⟩ (z0t u f deep ⟨true, wh.Loop, r8of f.types x.outs, wh.Next, wh.Left⟩ st ka).2 hs1) ent61 rfl (po2 rfl rfl) rfl (fun k (h : _) => by (simp only [List.mem_cons, List.not_mem_nil, or_false] at h; rcases h with rfl | rfl <;> first | exact .inl rfl | exact .inr rfl | exact .inr dC0)) rfl rfl) <| wR 11 [24, 25, 26, 27, 28, 29, 30, 31] kR0 h30 <| smR 2 rfl ?_
    refine WR.split (t := 40) rfl (fun hb40 => ?_) (fun hb40 => ?_)
    ·refine smR 2 rfl <| ryV rfl rfl rfl (oSm uT35 rfl) <| smR 2 rfl ?_
     refine WR.split (t := 45) rfl (fun hb45 => ?_) (fun hb45 => ?_)
     ·refine smR 1 rfl <| nR <| wN 32 kR0 h30 rfl rfl rfl <| wR 3 [33, 34, 35, 36, 37, 38, 39] kR0 h30 <| smR 7 rfl <| nR <| wO 40 kR0 <| wY rfl rfl rfl (fun k (h : _) => by (simp at h ⊢; omega)) (nAp rfl) (fun _ _ => ocr (z9f u f (z0t u f deep ⟨true, wh.Loop, r8of f.types x.outs, wh.Next, wh.Left⟩ (z0t u f deep ⟨true, wh.Loop, r8of f.types x.outs, wh.Next, wh.Left⟩ st ka).2 kb).2 hs2 x.outs hbo) zs2 rfl (po2 rfl rfl) rfl (fun k (h : _) => by (simp only [List.mem_cons, List.not_mem_nil, or_false] at h; rcases h with rfl | rfl <;> first | exact .inl rfl | exact .inr rfl | exact .inr dC0)) rfl rfl) <| wR 0 [41, 42] kR0 h30 <| smR 2 rfl <| nR <| wDn kR0 ?_
      refine tRt ?_
      (have h2 : (if z19 f.types st x.args [2] then andQ (z0t u f deep ⟨true, wh.Loop, r8of f.types x.outs, wh.Next, wh.Left⟩ st ka) (fun s1 => andQ (z0t u f deep ⟨true, wh.Loop, r8of f.types x.outs, wh.Next, wh.Left⟩ s1 kb) fun s2 => z1h f x s2) else (false, st)).2 = (z0v f.types (z0t u f deep ⟨true, wh.Loop, r8of f.types x.outs, wh.Next, wh.Left⟩ (z0t u f deep ⟨true, wh.Loop, r8of f.types x.outs, wh.Next, wh.Left⟩ st ka).2 kb).2 x.outs (List.replicate x.outs.length 0)).2 := (by simp_all [andQ, andP, z1h]; done)
       rw [h2]
       refine rOk rfl ?_ (po2 rfl rfl)
       clear h2
       simp_all [andQ, andP, z1h]
       done)
     refine ryV rfl rfl rfl (lEA rfl rfl uT43 rfl tS43 (lb rfl)) <| nR <| wO 32 kR0 <| wY rfl rfl rfl (fun k (h : _) => by (simp at h ⊢; omega)) nw (fun _ _ => ocq (z8p _) ent86 rfl rfl) <| wR 3 [33, 34, 35, 36, 37, 38, 39] kR0 h30 <| smR 4 rfl ?_
     refine WR.split (t := 51) rfl (fun hb51 => ?_) (fun hb51 => ?_)
     ·refine smR 3 rfl <| nR <| wO 40 kR0 <| wY rfl rfl rfl (fun k (h : _) => by (simp at h ⊢; omega)) (nAp rfl) (fun _ _ => ocr (z9f u f (z0t u f deep ⟨true, wh.Loop, r8of f.types x.outs, wh.Next, wh.Left⟩ (z0t u f deep ⟨true, wh.Loop, r8of f.types x.outs, wh.Next, wh.Left⟩ st ka).2 kb).2 hs2 x.outs hbo) zs2 rfl (po2 rfl rfl) rfl (fun k (h : _) => by (simp only [List.mem_cons, List.not_mem_nil, or_false] at h; rcases h with rfl | rfl <;> first | exact .inl rfl | exact .inr rfl | exact .inr dC0)) rfl rfl) <| wR 0 [41, 42] kR0 h30 <| smR 2 rfl <| nR <| wDn kR0 <| tRt ?_
      (have h2 : (if z19 f.types st x.args [2] then andQ (z0t u f deep ⟨true, wh.Loop, r8of f.types x.outs, wh.Next, wh.Left⟩ st ka) (fun s1 => andQ (z0t u f deep ⟨true, wh.Loop, r8of f.types x.outs, wh.Next, wh.Left⟩ s1 kb) fun s2 => z1h f x s2) else (false, st)).2 = (z0v f.types (z0t u f deep ⟨true, wh.Loop, r8of f.types x.outs, wh.Next, wh.Left⟩ (z0t u f deep ⟨true, wh.Loop, r8of f.types x.outs, wh.Next, wh.Left⟩ st ka).2 kb).2 x.outs (List.replicate x.outs.length 0)).2 := (by simp_all [andQ, andP, z1h]; done)
       rw [h2]
       refine rOk rfl ?_ (po2 rfl rfl)
       clear h2
       simp_all [andQ, andP, z1h]
       done)
     refine smR 3 rfl <| nR <| wN 40 kR0 h30 rfl rfl rfl <| wR 0 [41, 42] kR0 h30 <| smR 2 rfl <| nR <| wDn kR0 <| tRt ?_
     (have h2 : (if z19 f.types st x.args [2] then andQ (z0t u f deep ⟨true, wh.Loop, r8of f.types x.outs, wh.Next, wh.Left⟩ st ka) (fun s1 => andQ (z0t u f deep ⟨true, wh.Loop, r8of f.types x.outs, wh.Next, wh.Left⟩ s1 kb) fun s2 => z1h f x s2) else (false, st)).2 = (z0t u f deep ⟨true, wh.Loop, r8of f.types x.outs, wh.Next, wh.Left⟩ (z0t u f deep ⟨true, wh.Loop, r8of f.types x.outs, wh.Next, wh.Left⟩ st ka).2 kb).2 := (by simp_all [andQ, andP, z1h]; done)
      rw [h2]
      refine rOk rfl ?_ (po2 rfl rfl)
      clear h2
      simp_all [andQ, andP, z1h]
      done)
    refine smR 5 rfl <| nUr rfl rfl rfl rfl rfl rfl rfl <| nR <| WA.takeNoU (i := 32) rfl kR0 kR0 kR0 (h30) rfl rfl rfl rfl rfl rfl <| wR 3 [33, 34, 35, 36, 37, 38, 39] kR0 h30 <| nUr rfl rfl rfl rfl rfl rfl rfl <| smR 6 rfl <| nR <| wN 40 kR0 h30 rfl rfl rfl <| wR 0 [41, 42] kR0 h30 <| smR 2 rfl <| nR ?_
    refine wDn kR0 <| tRt ?_
    (have h2 : (if z19 f.types st x.args [2] then andQ (z0t u f deep ⟨true, wh.Loop, r8of f.types x.outs, wh.Next, wh.Left⟩ st ka) (fun s1 => andQ (z0t u f deep ⟨true, wh.Loop, r8of f.types x.outs, wh.Next, wh.Left⟩ s1 kb) fun s2 => z1h f x s2) else (false, st)).2 = (z0t u f deep ⟨true, wh.Loop, r8of f.types x.outs, wh.Next, wh.Left⟩ (z0t u f deep ⟨true, wh.Loop, r8of f.types x.outs, wh.Next, wh.Left⟩ st ka).2 kb).2 := (by simp_all [andQ, andP, z1h]; done)
     rw [h2]
     refine rOk rfl ?_ (po2 rfl rfl)
     clear h2
     simp_all [andQ, andP, z1h]
     done)
   refine smR 7 rfl <| nR <| wN 23 kR0 h30 rfl rfl rfl <| wR 11 [24, 25, 26, 27, 28, 29, 30, 31] kR0 h30 <| smR 7 rfl <| nUr rfl rfl rfl rfl rfl rfl rfl <| nR <| WA.takeNoU (i := 32) rfl kR0 kR0 kR0 (h30) rfl rfl rfl rfl rfl rfl <| wR 3 [33, 34, 35, 36, 37, 38, 39] kR0 h30 <| nUr rfl rfl rfl rfl rfl rfl rfl <| smR 6 rfl <| nR ?_
   refine wN 40 kR0 h30 rfl rfl rfl <| wR 0 [41, 42] kR0 h30 <| smR 2 rfl <| nR <| wDn kR0 <| tRt ?_
   (have h2 : (if z19 f.types st x.args [2] then andQ (z0t u f deep ⟨true, wh.Loop, r8of f.types x.outs, wh.Next, wh.Left⟩ st ka) (fun s1 => andQ (z0t u f deep ⟨true, wh.Loop, r8of f.types x.outs, wh.Next, wh.Left⟩ s1 kb) fun s2 => z1h f x s2) else (false, st)).2 = (z0t u f deep ⟨true, wh.Loop, r8of f.types x.outs, wh.Next, wh.Left⟩ st ka).2 := (by simp_all [andQ, andP, z1h]; done)
    rw [h2]
    refine rOk rfl ?_ (po2 rfl rfl)
    clear h2
    simp_all [andQ, andP, z1h]
    done)
  refine smR 7 rfl <| nR <| wN 13 kR0 h30 rfl rfl rfl <| wR 20 [14, 15, 16, 17, 18, 19, 20, 21, 22] kR0 h30 <| smR 9 rfl <| nR <| wN 23 kR0 h30 rfl rfl rfl <| wR 11 [24, 25, 26, 27, 28, 29, 30, 31] kR0 h30 <| smR 7 rfl <| nUr rfl rfl rfl rfl rfl rfl rfl <| nR <| WA.takeNoU (i := 32) rfl kR0 kR0 kR0 (h30) rfl rfl rfl rfl rfl rfl ?_
  refine wR 3 [33, 34, 35, 36, 37, 38, 39] kR0 h30 <| nUr rfl rfl rfl rfl rfl rfl rfl <| smR 6 rfl <| nR <| wN 40 kR0 h30 rfl rfl rfl <| wR 0 [41, 42] kR0 h30 <| smR 2 rfl <| nR <| wDn kR0 <| tRt ?_
  (have h2 : (if z19 f.types st x.args [2] then andQ (z0t u f deep ⟨true, wh.Loop, r8of f.types x.outs, wh.Next, wh.Left⟩ st ka) (fun s1 => andQ (z0t u f deep ⟨true, wh.Loop, r8of f.types x.outs, wh.Next, wh.Left⟩ s1 kb) fun s2 => z1h f x s2) else (false, st)).2 = st := (by simp_all [andQ, andP, z1h]; done)
   rw [h2]
   refine rOk rfl ?_ (po2 rfl rfl)
   clear h2
   simp_all [andQ, andP, z1h]
   done)
theorem y5k (u : Un) (f : Fl) (st : List Int) (hs : st.length = f.types.length) (x : Nd) (ka : List Nd) (hkids : x.kids = [ka]) (deep : Int) (hbo : x.outs.length <= 1073741824) (hbp : x.params.length <= 1073741824) (ih : ∀ q ∈ x.kids, ∀ (w : Wh) (st : List Int), st.length = f.types.length -> SC Tryz.prog 61 [.ptr 3 0, .pv (z0g q), .pv (whv w), iInt deep] (ckS u f 3 st) (fun k => k = 3) (iBool (z0t u f deep w st q).1) (ckS u f 3 (z0t u f deep w st q).2)) : SC Tryz.prog 102 [.ptr 3 0, .pv (ndv x), iInt deep] (ckS u f 3 st) (fun k => k = 3) (iBool (if z19 f.types st x.args (r8of f.types x.params) then andQ (z0v f.types st x.params (List.replicate x.params.length 0)) (fun s1 => andQ (z0t u f deep ⟨false, true, [], r8of f.types x.params, r8of f.types x.outs⟩ s1 ka) fun s2 => z1h f x (z2e s2 x.params)) else (false, st)).1) (ckS u f 3 (if z19 f.types st x.args (r8of f.types x.params) then andQ (z0v f.types st x.params (List.replicate x.params.length 0)) (fun s1 => andQ (z0t u f deep ⟨false, true, [], r8of f.types x.params, r8of f.types x.outs⟩ s1 ka) fun s2 => z1h f x (z2e s2 x.params)) else (false, st)).2) := by
  refine SC.of Tryz.func102 rfl (lb rfl) fun F ρ w => ?_
  have hi0 : (x.kids.map eKid)[0]? = some [z0g ka] := by rw [hkids]; rfl
  have hm0 : ka ∈ x.kids := by rw [hkids]; simp
  have hs1 : (z0v f.types st x.params (List.replicate x.params.length 0)).2.length = f.types.length := (z32 ..).trans hs
  have hs2 : (z0t u f deep ⟨false, true, [], r8of f.types x.params, r8of f.types x.outs⟩ (z0v f.types st x.params (List.replicate x.params.length 0)).2 ka).2.length = f.types.length := (z6w ..).trans hs1
  have hs3 : (z2e (z0t u f deep ⟨false, true, [], r8of f.types x.params, r8of f.types x.outs⟩ (z0v f.types st x.params (List.replicate x.params.length 0)).2 ka).2 x.params).length = f.types.length := (z4h ..).trans hs2
  refine tQ <| tG <| cE rfl (z1d rfl rfl) <| sm 1 rfl <| nL <| tQ ?_
  refine Tr.cut (fr' := [(7, .ptr 107 0), (4, .pv (.ept [vInt x.kind, vInt x.op, vInt x.n, vStr x.name, ints x.args, ints x.outs, ints x.params, kids x.kids] 0)), (0, .ptr 3 0), (2, iInt deep)]) (σ' := look ((107, some (.box [iBool false, iBool true, .pv (.val (.slice none 0 0)), .pv (ints (r8of f.types x.params)), .pv (ints (r8of f.types x.outs))])) :: up (ckS u f 3 st))) ?_ ?_
  ·refine tDr z1a (fun k => k ∈ ([3] : List Nat)) <| wR 5 [0, 1, 2, 4, 5, 6] kR0 (fun _ _ _ h => pn h.1) <| smR 6 rfl <| nR <| WA.all (rs := [3, 9]) kR0 sI0 ?_
   refine fmc ⟨?_, fmc ⟨?_, by simp⟩⟩
   ·refine wI rfl rfl (fun k (h : _) => by (simp at h ⊢; omega)) (nAp rfl) (fun _ _ => ocr (z5c u f st hs x.params hbp) zl6 rfl (po2 rfl rfl) rfl (fun k (h : _) => by (simp only [List.mem_cons, List.not_mem_nil, or_false] at h; rcases h with rfl <;> first | exact .inl rfl | exact .inr rfl | exact .inr dC0)) rfl rfl) <| WA.all (rs := [7, 9]) kR0 sI0 ?_
    refine fmc ⟨?_, fmc ⟨?_, by simp⟩⟩
    ·refine wI rfl rfl (fun k (h : _) => by (simp at h ⊢; omega)) (nAp rfl) (fun _ _ => ocr (z5c u f st hs x.outs hbo) zl6 rfl (po2 rfl rfl) rfl (fun k (h : _) => by (simp only [List.mem_cons, List.not_mem_nil, or_false] at h; rcases h with rfl <;> first | exact .inl rfl | exact .inr rfl | exact .inr dC0)) rfl rfl) <| wR 2 [8] kR0 (fun _ _ _ h => pn h.1) <| rV rfl rfl (bPu rfl rfl y0j tP104 rfl (fbk rfl) rfl) <| nR <| wO 9 kR0 <| wI rfl rfl (fun k (h : _) => by (simp at h ⊢; omega)) (z1g rfl) (fun _ _ => aLc (k := 107) rfl y0j rfl rfl rfl rfl) <| wO 10 kR0 <| wI rfl rfl (fun k (h : _) => by (simp at h ⊢; omega)) (nOl rfl) (fun _ _ => sBA rfl rfl rfl rfl rfl sI0 zq8 (flk rfl) (lb rfl)) <| wDn kR0 ?_
     refine ⟨rfl, Sub.of ⟨rfl, rfl, rfl, rfl, trivial⟩, ?_⟩
     funext k
     by_cases h7 : 107 = k
     ·subst h7; rfl
     simp [look, z92, z00 h7]
    refine wI rfl rfl (fun k (h : _) => by (simp at h ⊢; omega)) (z1g rfl) (fun _ _ => aLc (k := 107) rfl y0j rfl rfl rfl rfl) <| wO 7 kR0 <| wI rfl rfl (fun k (h : _) => by (simp at h ⊢; omega)) (nAp rfl) (fun _ _ => ocr (z5c u f st hs x.outs hbo) zl6 rfl (po2 rfl rfl) rfl (fun k (h : _) => by (simp only [List.mem_cons, List.not_mem_nil, or_false] at h; rcases h with rfl <;> first | exact .inl rfl | exact .inr rfl | exact .inr dC0)) rfl rfl) <| wR 1 [8] kR0 (fun _ _ _ h => pn h.1) <| rV rfl rfl (bPu rfl rfl y0j tP104 rfl (fbk rfl) rfl) <| nR <| wO 10 kR0 <| wI rfl rfl (fun k (h : _) => by (simp at h ⊢; omega)) (nOl rfl) (fun _ _ => sBA rfl rfl rfl rfl rfl sI0 zq8 (flk rfl) (lb rfl)) <| wDn kR0 ?_
    refine ⟨rfl, Sub.of ⟨rfl, rfl, rfl, rfl, trivial⟩, ?_⟩
    funext k
    by_cases h7 : 107 = k
    ·subst h7; rfl
    simp [look, z92, z00 h7]
   refine wI rfl rfl (fun k (h : _) => by (simp at h ⊢; omega)) (z1g rfl) (fun _ _ => aLc (k := 107) rfl y0j rfl rfl rfl rfl) <| wO 3 kR0 <| wI rfl rfl (fun k (h : _) => by (simp at h ⊢; omega)) (nAp rfl) (fun _ _ => ocr (z5c u f st hs x.params hbp) zl6 rfl (po2 rfl rfl) rfl (fun k (h : _) => by (simp only [List.mem_cons, List.not_mem_nil, or_false] at h; rcases h with rfl <;> first | exact .inl rfl | exact .inr rfl | exact .inr dC0)) rfl rfl) <| wO 7 kR0 <| wI rfl rfl (fun k (h : _) => by (simp at h ⊢; omega)) (nAp rfl) (fun _ _ => ocr (z5c u f st hs x.outs hbo) zl6 rfl (po2 rfl rfl) rfl (fun k (h : _) => by (simp only [List.mem_cons, List.not_mem_nil, or_false] at h; rcases h with rfl <;> first | exact .inl rfl | exact .inr rfl | exact .inr dC0)) rfl rfl) <| wR 1 [8] kR0 (fun _ _ _ h => pn h.1) <| rV rfl rfl (bPu rfl rfl y0j tP104 rfl (fbk rfl) rfl) <| nR <| wO 10 kR0 <| wI rfl rfl (fun k (h : _) => by (simp at h ⊢; omega)) (nOl rfl) (fun _ _ => sBA rfl rfl rfl rfl rfl sI0 zq8 (flk rfl) (lb rfl)) <| wDn kR0 ?_
   refine ⟨rfl, Sub.of ⟨rfl, rfl, rfl, rfl, trivial⟩, ?_⟩
   funext k
   by_cases h7 : 107 = k
   ·subst h7; rfl
   simp [look, z92, z00 h7]
  refine tQ <| tQ <| tDr z1a (fun k => k ∈ ([3, 107] : List Nat)) <| wR 20 [0, 1, 2, 3, 4] kR0 h30 <| smR 4 rfl <| rV rfl rfl (oLb uT35 rfl rfl rfl dC0) <| nR <| wO 5 kR0 <| wI rfl rfl (fun k (h : _) => by (simp at h ⊢; omega)) (nAp rfl) (fun _ _ => ocr (z1l u f st hs x.args (r8of f.types x.params)) z3o rfl (po2 rfl rfl) rfl (fun k (h : _) => .inr trivial) rfl rfl) <| wR 14 [6, 7, 8, 9, 10] kR0 h30 <| smR 2 rfl ?_
  refine WR.split (t := 24) rfl (fun hb24 => ?_) (fun hb24 => ?_)
  ·refine smR 3 rfl <| nR <| wN 11 kR0 h30 rfl rfl rfl <| wR 3 [12, 13, 14, 15, 16, 17, 18, 19, 20, 21] kR0 h30 <| smR 10 rfl <| nR <| wN 22 kR0 h30 rfl rfl rfl <| wR 0 [23, 24] kR0 h30 <| smR 2 rfl <| nR <| wDn kR0 <| Tr.condT rfl ?_
   refine tQ <| tG <| sm 1 rfl <| nL <| tRt ?_
   (have h2 : (if z19 f.types st x.args (r8of f.types x.params) then andQ (z0v f.types st x.params (List.replicate x.params.length 0)) (fun s1 => andQ (z0t u f deep ⟨false, true, [], r8of f.types x.params, r8of f.types x.outs⟩ s1 ka) fun s2 => z1h f x (z2e s2 x.params)) else (false, st)).2 = st := (by simp_all [andQ, andP, z1h]; done)
    rw [h2]
    refine rOk rfl ?_ (po2 rfl rfl)
    clear h2
    simp_all [andQ, andP, z1h]
    done)
  refine smR 3 rfl <| nR <| wO 11 kR0 <| wY rfl rfl rfl (fun k (h : _) => by (simp at h ⊢; omega)) (nAp rfl) (fun _ _ => ocr (z9f u f st hs x.params hbp) zs2 rfl (po2 rfl rfl) rfl (fun k (h : _) => by (simp only [List.mem_cons, List.not_mem_nil, or_false] at h; rcases h with rfl | rfl <;> first | exact .inl rfl | exact .inr rfl | exact .inr dC0)) rfl rfl) <| wR 3 [12, 13, 14, 15, 16, 17, 18, 19, 20, 21] kR0 h30 <| smR 3 rfl ?_
  refine WR.split (t := 31) rfl (fun hb31 => ?_) (fun hb31 => ?_)
  ·refine smR 7 rfl <| nR <| wN 22 kR0 h30 rfl rfl rfl <| wR 0 [23, 24] kR0 h30 <| smR 2 rfl <| nR <| wDn kR0 <| Tr.condT rfl <| tQ <| tG <| sm 1 rfl <| nL ?_
   refine tRt ?_
   (have h2 : (if z19 f.types st x.args (r8of f.types x.params) then andQ (z0v f.types st x.params (List.replicate x.params.length 0)) (fun s1 => andQ (z0t u f deep ⟨false, true, [], r8of f.types x.params, r8of f.types x.outs⟩ s1 ka) fun s2 => z1h f x (z2e s2 x.params)) else (false, st)).2 = (z0v f.types st x.params (List.replicate x.params.length 0)).2 := (by simp_all [andQ, andP, z1h]; done)
    rw [h2]
    refine rOk rfl ?_ (po2 rfl rfl)
    clear h2
    simp_all [andQ, andP, z1h]
    done)
  refine smR 3 rfl <| ryV rfl rfl rfl (iSq rfl rfl rfl uT41 hi0 tS44 rfl (by rfl)) <| smR 1 rfl <| ryV rfl rfl rfl (lBP rfl rfl rfl Tryz.underlying104 rfl zq8 (lb rfl) rfl dC0) <| smR 1 rfl <| nR <| wO 22 kR0 <| wY rfl rfl rfl (fun k (h : _) => by (simp at h ⊢; omega)) (nAp rfl) (fun _ _ => cRr (ih ka hm0 ⟨false, true, [], r8of f.types x.params, r8of f.types x.outs⟩ (z0v f.types st x.params (List.replicate x.params.length 0)).2 hs1) ent61 rfl rfl (sSm rfl (sSm rfl (Subs.cons (fun _ _ _ _ h => z3i (q := whv ⟨false, true, [], r8of f.types x.params, r8of f.types x.outs⟩) (PSub.agg (ps := [vBool false, vBool true, .val (.slice none 0 0), ints (r8of f.types x.params), ints (r8of f.types x.outs)]) (And.intro (PSub.refl _) (And.intro (PSub.refl _) (And.intro PSub.nil (And.intro (PSub.refl _) (And.intro (PSub.refl _) trivial)))))) h) (sSm rfl Subs.nil)))) (po2 rfl rfl) (by rfl) (fun k (h : _) => by (simp only [List.mem_cons, List.not_mem_nil, or_false] at h; rcases h with rfl | rfl <;> first | exact .inl rfl | exact .inr rfl | exact .inr dC0)) rfl (by rfl)) <| wR 0 [23, 24] kR0 h30 <| smR 2 rfl <| nR <| wDn kR0 ?_
  refine tC rfl (fun hc41 => ?_) fun hc41 => ?_
  ·refine tQ <| tG <| sm 1 rfl <| nL <| tRt ?_
   (have h2 : (if z19 f.types st x.args (r8of f.types x.params) then andQ (z0v f.types st x.params (List.replicate x.params.length 0)) (fun s1 => andQ (z0t u f deep ⟨false, true, [], r8of f.types x.params, r8of f.types x.outs⟩ s1 ka) fun s2 => z1h f x (z2e s2 x.params)) else (false, st)).2 = (z0t u f deep ⟨false, true, [], r8of f.types x.params, r8of f.types x.outs⟩ (z0v f.types st x.params (List.replicate x.params.length 0)).2 ka).2 := (by simp_all [andQ, andP, z1h]; done)
    rw [h2]
    refine rOk rfl ?_ (po2 rfl rfl)
    clear h2
    simp_all [andQ, andP, z1h]
    done)
  refine tSk <| tQ ?_
  have hpin : ∀ v ∈ x.params, 0 <= v /\ v < f.types.length := by
    have hp1 : (z0v f.types st x.params (List.replicate x.params.length 0)).1 = true := by simp_all
    exact zj4 hp1
  refine tG <| sm 3 rfl <| cE rfl (ocr (zw4 u f (z0t u f deep ⟨false, true, [], r8of f.types x.params, r8of f.types x.outs⟩ (z0v f.types st x.params (List.replicate x.params.length 0)).2 ka).2 hs2 x.params hpin) ent87 rfl (po2 rfl rfl) rfl (fun k (h : _) => .inr h) rfl rfl) <| nL <| tQ <| tG <| sm 2 rfl <| cV rfl (oSm uT35 rfl) <| sm 2 rfl ?_
  refine wS 50 rfl (fun hb50 => ?_) fun hb50 => ?_
  ·refine sm 8 rfl <| WL.yes rfl rfl rfl rfl rfl rfl (cRr (z9f u f (z2e (z0t u f deep ⟨false, true, [], r8of f.types x.params, r8of f.types x.outs⟩ (z0v f.types st x.params (List.replicate x.params.length 0)).2 ka).2 x.params) hs3 x.outs hbo) zs2 rfl rfl (sRf _ _) (po2 rfl rfl) (by rfl) (fun k (h : _) => .inr h) rfl (by rfl)) <| sm 2 rfl <| nL <| tRt ?_
   (have h2 : (if z19 f.types st x.args (r8of f.types x.params) then andQ (z0v f.types st x.params (List.replicate x.params.length 0)) (fun s1 => andQ (z0t u f deep ⟨false, true, [], r8of f.types x.params, r8of f.types x.outs⟩ s1 ka) fun s2 => z1h f x (z2e s2 x.params)) else (false, st)).2 = (z0v f.types (z2e (z0t u f deep ⟨false, true, [], r8of f.types x.params, r8of f.types x.outs⟩ (z0v f.types st x.params (List.replicate x.params.length 0)).2 ka).2 x.params) x.outs (List.replicate x.outs.length 0)).2 := (by simp_all [andQ, andP, z1h]; done)
    rw [h2]
    refine rOk rfl ?_ (po2 rfl rfl)
    clear h2
    simp_all [andQ, andP, z1h]
    done)
  refine yV rfl rfl (lEA rfl rfl uT43 rfl tS43 (lb rfl)) <| WL.yes rfl rfl rfl rfl rfl rfl (z10 (z8p _) ent86 rfl rfl (sRf _ _) rfl) <| sm 3 rfl ?_
  refine wS 55 rfl (fun hb55 => ?_) fun hb55 => ?_
  ·refine sm 3 rfl <| WL.yes rfl rfl rfl rfl rfl rfl (cRr (z9f u f (z2e (z0t u f deep ⟨false, true, [], r8of f.types x.params, r8of f.types x.outs⟩ (z0v f.types st x.params (List.replicate x.params.length 0)).2 ka).2 x.params) hs3 x.outs hbo) zs2 rfl rfl (sRf _ _) (po2 rfl rfl) (by rfl) (fun k (h : _) => .inr h) rfl (by rfl)) <| sm 2 rfl <| nL <| tRt ?_
   (have h2 : (if z19 f.types st x.args (r8of f.types x.params) then andQ (z0v f.types st x.params (List.replicate x.params.length 0)) (fun s1 => andQ (z0t u f deep ⟨false, true, [], r8of f.types x.params, r8of f.types x.outs⟩ s1 ka) fun s2 => z1h f x (z2e s2 x.params)) else (false, st)).2 = (z0v f.types (z2e (z0t u f deep ⟨false, true, [], r8of f.types x.params, r8of f.types x.outs⟩ (z0v f.types st x.params (List.replicate x.params.length 0)).2 ka).2 x.params) x.outs (List.replicate x.outs.length 0)).2 := (by simp_all [andQ, andP, z1h]; done)
    rw [h2]
    refine rOk rfl ?_ (po2 rfl rfl)
    clear h2
    simp_all [andQ, andP, z1h]
    done)
  refine sm 6 rfl <| nL <| tRt ?_
  (have h2 : (if z19 f.types st x.args (r8of f.types x.params) then andQ (z0v f.types st x.params (List.replicate x.params.length 0)) (fun s1 => andQ (z0t u f deep ⟨false, true, [], r8of f.types x.params, r8of f.types x.outs⟩ s1 ka) fun s2 => z1h f x (z2e s2 x.params)) else (false, st)).2 = (z2e (z0t u f deep ⟨false, true, [], r8of f.types x.params, r8of f.types x.outs⟩ (z0v f.types st x.params (List.replicate x.params.length 0)).2 ka).2 x.params) := (by simp_all [andQ, andP, z1h]; done)
   rw [h2]
   refine rOk rfl ?_ (po2 rfl rfl)
   clear h2
   simp_all [andQ, andP, z1h]
   done)
theorem y5l (u : Un) (f : Fl) (hg : ∀ g ∈ u.flows, 0 <= g.params /\ g.params <= g.types.length) (x : Nd) (deep : Int) (hd : 0 <= deep /\ deep <= 100) (wh : Wh) (st : List Int) (hs : st.length = f.types.length) (hbo : x.outs.length <= 1073741824) (hbp : x.params.length <= 1073741824) (ih : ∀ q ∈ x.kids, ∀ (w : Wh) (st : List Int), st.length = f.types.length -> SC Tryz.prog 61 [.ptr 3 0, .pv (z0g q), .pv (whv w), iInt (deep + 1)] (ckS u f 3 st) (fun k => k = 3) (iBool (z0t u f (deep + 1) w st q).1) (ckS u f 3 (z0t u f (deep + 1) w st q).2)) : SC Tryz.prog 85 [.ptr 3 0, .pv (ndv x), .pv (whv wh), iInt deep] (ckS u f 3 st) (fun k => k = 3) (iBool (z3f u f deep wh st x).1) (ckS u f 3 (z3f u f deep wh st x).2) := by
  refine SC.of Tryz.func85 rfl (lb rfl) fun F ρ w => ?_
  refine tQ <| tG <| cE rfl (z1d rfl rfl) <| cE rfl (z1d rfl rfl) <| sm 1 rfl <| nL <| tQ <| tBk <| tQ <| tG <| cV rfl (lEA rfl rfl uT43 rfl tS43 (lb rfl)) <| cE rfl (ocq (y5f _) ent100 rfl rfl) ?_
  refine sm 2 rfl <| nL ?_
  refine tC rfl (fun hc9 => ?_) fun hc9 => ?_
  ·refine tQ <| tG <| sm 1 rfl <| nL <| tRt ?_
   have hbare : z0k x = false := by simpa using hc9
   rw [z8q _ _ _ _ _ hbare]
   exact rOk rfl rfl (po2 rfl rfl)
  have hbare : z0k x = true := by simpa using hc9
  refine tQ <| tG <| sm 4 rfl <| nL ?_
  refine tC rfl (fun hc13 => ?_) fun hc13 => ?_
  ·have hk10 : x.kind = 10 := by simpa using hc13
   obtain ⟨ka, kb, hkids⟩ := z3t hbare hk10
   refine tQ <| tG <| sm 1 rfl <| cV rfl (lEA rfl rfl uT43 rfl tS43 (lb rfl)) <| cV rfl (lEA rfl rfl Tryz.underlying104 rfl zq8 (lb rfl)) <| sm 1 rfl <| cV rfl (oB rfl rfl (z0b rfl oM0)) <| cE rfl (ocr (y0d u f st hs x ka kb hkids wh (deep + 1) hbo ih) ent101 rfl (po2 rfl rfl) rfl (fun k (h : _) => .inr h) rfl rfl) <| sm 1 rfl <| nL <| tRt ?_
   rw [zj3 _ _ _ _ _ hbare hk10 hkids]
   exact rOk rfl rfl (po2 rfl rfl)
  refine tQ <| tG <| sm 4 rfl <| nL ?_
  refine tC rfl (fun hc23 => ?_) fun hc23 => ?_
  ·have hk11 : x.kind = 11 := by simpa using hc23
   obtain ⟨ka, hkids⟩ := z2n hbare hk11
   refine tQ <| tG <| sm 1 rfl <| cV rfl (lEA rfl rfl uT43 rfl tS43 (lb rfl)) <| sm 1 rfl <| cV rfl (oB rfl rfl (z0b rfl oM0)) <| cE rfl (ocr (y5k u f st hs x ka hkids (deep + 1) hbo hbp ih) ent102 rfl (po2 rfl rfl) rfl (fun k (h : _) => .inr h) rfl rfl) <| sm 1 rfl <| nL <| tRt ?_
   rw [z8r _ _ _ _ _ hbare hk11 hkids]
   exact rOk rfl rfl (po2 rfl rfl)
  refine tQ <| tG <| cV rfl (lEA rfl rfl uT43 rfl tS43 (lb rfl)) <| cE rfl (ocq (z7r _) zs1 rfl rfl) <| sm 1 rfl <| nL ?_
  refine tC rfl (fun hc32 => ?_) fun hc32 => ?_
  ·refine tQ <| tG <| sm 1 rfl <| cV rfl (lEA rfl rfl uT43 rfl tS43 (lb rfl)) <| cV rfl (lEA rfl rfl Tryz.underlying104 rfl zq8 (lb rfl)) <| cE rfl (ocr (sc_shEnd u f st hs x wh) ent104 rfl (po2 rfl rfl) rfl (fun k (h : _) => .inr h) rfl rfl) <| sm 1 rfl <| nL <| tRt ?_
   rw [za7 _ _ _ _ _ hbare hc13 hc23 hc32]
   exact rOk rfl rfl (po2 rfl rfl)
  refine tSk <| tQ <| tG <| sm 1 rfl <| cV rfl (lEA rfl rfl uT43 rfl tS43 (lb rfl)) <| cE rfl (ocr (y0f u f st hs hg x) ent105 rfl (po2 rfl rfl) rfl (fun k (h : _) => .inr h) rfl rfl) <| sm 1 rfl <| nL <| tRt ?_
  rw [z6x _ _ _ _ _ hbare hc13 hc23 hc32]
  exact rOk rfl rfl (po2 rfl rfl)
theorem zp9 (N : Nat) : ∀ (u : Un) (f : Fl) (hg : ∀ g ∈ u.flows, 0 <= g.params /\ g.params <= g.types.length) (l : List Nd) (deep : Int) (hd : 0 <= deep /\ deep <= 101) (wh : Wh) (st : List Int) (hs : st.length = f.types.length) (hb : lsW l <= 1073741824), SizeOf.sizeOf l < N -> SC Tryz.prog 61 [.ptr 3 0, .pv (z0g l), .pv (whv wh), iInt deep] (ckS u f 3 st) (fun k => k = 3) (iBool (z0t u f deep wh st l).1) (ckS u f 3 (z0t u f deep wh st l).2) := by
  induction N with
  | zero => intro u f hg l deep hd wh st hs hb hN; exact absurd hN (Nat.not_lt_zero _)
  | succ N ih =>
    intro u f hg l deep hd wh st hs hb hN
    refine SC.of Tryz.func61 rfl (lb rfl) fun F ρ w => ?_
    refine Tr.lenOf (t := 1) rfl (fun hl => ?_)
    simp only [List.length_map] at hl
    refine tQ <| tG <| cE rfl (z1d rfl rfl) <| sm 1 rfl <| nL <| tQ <| tQ <| tG <| sm 1 rfl <| cV rfl (oSm uT44 rfl) <| sm 1 rfl <| nL ?_
    refine tBk <| Tr.sub (Sub.of (fr' := [(15, iInt 0), (14, iInt l.length), (13, .pv (z0g l)), (6, .pv (.ept [vBool wh.If, vBool wh.Loop, ints wh.Yield, ints wh.Next, ints wh.Left] 0)), (0, .ptr 3 0), (1, .pv (z0g l)), (3, iInt deep)]) ⟨rfl, rfl, rfl, rfl, rfl, rfl, rfl, trivial⟩) ?_
    refine Tr.loop (fun fr σ m => ∃ (k : Nat) (s : List Int), (k <= l.length) /\ (shGo u f deep wh st l = shGo u f deep wh s (l.drop k)) /\ (s.length = f.types.length) /\ fr = [(15, iInt k), (14, iInt l.length), (13, .pv (z0g l)), (6, .pv (.ept [vBool wh.If, vBool wh.Loop, ints wh.Yield, ints wh.Next, ints wh.Left] 0)), (0, .ptr 3 0), (1, .pv (z0g l)), (3, iInt deep)] /\ σ = look (up (ckS u f 3 s)) /\ m = l.length - k) (n := l.length - 0) ?_ ?_
    ·exact ⟨0, st, Nat.zero_le _, rfl, hs, rfl, rfl, rfl⟩
    rintro fr σ m ⟨k, s, hI0, hI1, hI2, rfl, rfl, rfl⟩
    refine tQ <| tG <| sm 1 rfl <| nL <| tQ ?_
    refine tC rfl (fun hc16 => ?_) fun hc16 => ?_
    ·have hlt : k < l.length := by simpa using hc16
     have hd2 := List.drop_eq_getElem_cons hlt
     have hm := List.getElem_mem hlt
     have hi := z2r (List.getElem?_eq_getElem hlt)
     generalize l[k] = x at hd2 hm hi
     have hWx := z96 x
     have hWl := zo9 hm
     have hxo : x.outs.length <= 1073741824 := by omega
     have hxp : x.params.length <= 1073741824 := by omega
     refine tSk <| tQ <| tBk <| tQ <| tG <| sm 1 rfl <| cV rfl (iSq rfl rfl rfl uT44 hi tS43 rfl (by rfl)) <| cV rfl (lEA rfl rfl uT43 rfl tS43 (lb rfl)) <| cE rfl (aLc (k := 110) rfl tZ43 rfl rfl rfl rfl) <| sm 1 rfl <| c0 (sBA rfl rfl rfl rfl rfl sI0 tS43 (flk rfl) (lb rfl)) <| nL ?_
     refine tQ <| Tr.freezeBox (t := 10) (k := 110) rfl rfl rfl ?_
     refine Tr.heap (σ' := look (up (ckS u f 3 s))) (fun k => by
       simp only [look]
       by_cases h : 110 = k
       · subst h; rfl
       · simp [z00 h]) ?_
     refine tG <| sm 3 rfl ?_
     refine wS 22 rfl (fun hb22 => ?_) fun hb22 => ?_
     ·refine sm 17 rfl <| nL <| Tr.condT rfl <| tQ <| tG <| sm 1 rfl <| nL <| tRt ?_
      (have h2 : z0t u f deep wh st l = (false, s) := by
         unfold z0t
         rw [hI1, hd2]
         unfold shGo
         rw [if_pos (by simpa using hb22)]
         simp [andQ]
       rw [h2]
       exact rOk rfl rfl (po2 rfl rfl))
     refine sm 1 rfl <| yV rfl rfl (lEA rfl rfl uT43 rfl tS43 (lb rfl)) <| yV rfl rfl (lEA rfl rfl Tryz.underlying104 rfl zq8 (lb rfl)) <| sm 1 rfl <| WL.yes rfl rfl rfl rfl rfl rfl (cRr (y5l u f hg x deep ⟨hd.1, by simp at hb22; omega⟩ wh s hI2 hxo hxp (fun q hq w st hst => ih u f hg q (deep + 1) ⟨by omega, by simp at hb22; omega⟩ w st hst (by have := z9u hq; omega) (Nat.lt_of_lt_of_le (z7j hm rfl hq) (Nat.le_of_lt_succ hN)))) ent85 rfl rfl (sRf _ _) (po2 rfl rfl) (by rfl) (fun k (h : _) => .inr h) rfl (by rfl)) <| sm 3 rfl ?_
     refine wS 30 rfl (fun hb30 => ?_) fun hb30 => ?_
     ·refine sm 9 rfl <| nL <| Tr.condT rfl <| tQ <| tG <| sm 1 rfl <| nL <| tRt ?_
      (have h2 : z0t u f deep wh st l = (false, (z3f u f deep wh s x).2) := by
         unfold z0t
         rw [hI1, hd2]
         unfold shGo
         rw [if_neg (by simpa using hb22)]
         have hn1 : (z3f u f deep wh s x).1 = false := by simpa using hb30
         simp [andQ, hn1]
       rw [h2]
       exact rOk rfl rfl (po2 rfl rfl))
     refine yV rfl rfl (lEA rfl rfl uT43 rfl tS43 (lb rfl)) <| WL.yes rfl rfl rfl rfl rfl rfl (z10 (z8p x) ent86 rfl rfl (sRf _ _) rfl) <| sm 2 rfl <| yV rfl rfl (oSm uT44 rfl) <| yV rfl rfl (oB rfl rfl (z3l rfl oM0)) <| sm 1 rfl <| yV rfl rfl (zg5 rfl rfl rfl Tryz.underlying4) <| sm 1 rfl <| nL ?_
     refine tC rfl (fun hc39 => ?_) fun hc39 => ?_
     ·refine tQ <| tG <| sm 1 rfl <| nL <| tRt ?_
      (have h2 : z0t u f deep wh st l = (false, (z3f u f deep wh s x).2) := by
         unfold z0t
         rw [hI1, hd2]
         unfold shGo
         rw [if_neg (by simpa using hb22)]
         have hn1 : (z3f u f deep wh s x).1 = true := by simpa using hb30
         have hcl : (z09 x != (l.drop (k + 1)).isEmpty) = true := by rw [z5x hlt]; simpa using hc39
         simp [andQ, hn1, hcl]
       rw [h2]
       exact rOk rfl rfl (po2 rfl rfl))
     refine tSk <| tG <| cV rfl (oB rfl rfl (z0b rfl oM0)) <| sm 1 rfl <| nL ?_
     refine ⟨_, _, ?_, Sub.of (fr' := [(15, iInt (k + 1)), (14, iInt l.length), (13, .pv (z0g l)), (6, .pv (.ept [vBool wh.If, vBool wh.Loop, ints wh.Yield, ints wh.Next, ints wh.Left] 0)), (0, .ptr 3 0), (1, .pv (z0g l)), (3, iInt deep)]) ⟨rfl, rfl, rfl, rfl, rfl, rfl, rfl, trivial⟩, (k + 1), (z3f u f deep wh s x).2, ?_, ?_, ?_, rfl, (z27 rfl), rfl⟩
     ·omega
     ·omega
     ·rw [hI1, hd2]
      have hn1 : (z3f u f deep wh s x).1 = true := by simpa using hb30
      have hcl : (z09 x != (l.drop (k + 1)).isEmpty) = false := by rw [z5x hlt]; simpa using hc39
      have hdp : ¬ deep > 100 := by simpa using hb22
      conv => lhs; unfold shGo
      simp only [if_neg hdp, andQ, hn1, hcl, if_true]
      rfl
     exact (z9i ..).trans hI2
    refine tEx <| tQ <| tQ ?_
    have hgo2 : shGo u f deep wh st l = (true, s) := by rw [hI1, List.drop_eq_nil_of_le (by simpa using hc16)]; simp [shGo]
    have hgo : (shGo u f deep wh st l).1 = true := by rw [hgo2]
    have hs0 := hI2
    generalize s = s0 at hgo2 hs0 ⊢
    refine tG <| sm 1 rfl <| cV rfl (oSm uT44 rfl) <| sm 1 rfl <| nL <| tBk <| Tr.sub (Sub.of (fr' := [(43, iInt 0), (42, iInt l.length), (41, .pv (z0g l)), (0, .ptr 3 0), (1, .pv (z0g l))]) ⟨rfl, rfl, rfl, rfl, rfl, trivial⟩) ?_
    refine Tr.loop (fun fr σ m => ∃ (k : Nat) (s : List Int), (k <= l.length) /\ (z5p s0 l = z5p s (l.drop k)) /\ (s.length = f.types.length) /\ fr = [(43, iInt k), (42, iInt l.length), (41, .pv (z0g l)), (0, .ptr 3 0), (1, .pv (z0g l))] /\ σ = look (up (ckS u f 3 s)) /\ m = l.length - k) (n := l.length - 0) ?_ ?_
    ·exact ⟨0, s0, Nat.zero_le _, rfl, hs0, rfl, rfl, rfl⟩
    rintro fr σ m ⟨k, s, hJ0, hJ1, hJ2, rfl, rfl, rfl⟩
    refine tQ <| tG <| sm 1 rfl <| nL <| tQ ?_
    refine tC rfl (fun hc44 => ?_) fun hc44 => ?_
    ·have hlt : k < l.length := by simpa using hc44
     have hd2 := List.drop_eq_getElem_cons hlt
     have hm := List.getElem_mem hlt
     have hi := z2r (List.getElem?_eq_getElem hlt)
     generalize l[k] = x at hd2 hm hi
     refine tSk <| tQ <| tBk <| tQ <| tG <| cV rfl (iSq rfl rfl rfl uT44 hi tS43 rfl (by rfl)) <| cV rfl (lEA rfl rfl uT43 rfl tS43 (lb rfl)) <| cE rfl (aLc (k := 112) rfl tZ43 rfl rfl rfl rfl) <| c0 (sBA rfl rfl rfl rfl rfl sI0 tS43 (flk rfl) (lb rfl)) <| nL <| Tr.freezeBox (t := 12) (k := 112) rfl rfl rfl ?_
     refine Tr.heap (σ' := look (up (ckS u f 3 s))) (fun k => by
       simp only [look]
       by_cases h : 112 = k
       · subst h; rfl
       · simp [z00 h]) ?_
     refine tG <| sm 3 rfl <| cE rfl (ocr (zw4 u f s hJ2 x.outs (zx1 hgo x hm)) ent87 rfl (po2 rfl rfl) rfl (fun k (h : _) => .inr h) rfl rfl) <| nL <| tG <| cV rfl (oB rfl rfl (z0b rfl oM0)) <| sm 1 rfl <| nL ?_
     refine ⟨_, _, ?_, Sub.of (fr' := [(43, iInt (k + 1)), (42, iInt l.length), (41, .pv (z0g l)), (0, .ptr 3 0), (1, .pv (z0g l))]) ⟨rfl, rfl, rfl, rfl, rfl, trivial⟩, (k + 1), (z2e s x.outs), ?_, ?_, ?_, rfl, (z27 rfl), rfl⟩
     ·omega
     ·omega
     ·rw [hJ1, hd2]; rfl
     exact (z4h ..).trans hJ2
    refine tEx <| tQ <| tG <| sm 1 rfl <| cV rfl (oSm uT44 rfl) <| sm 2 rfl <| nL <| tRt ?_
    have hge : l.length <= k := by simpa using hc44
    have h2 : z0t u f deep wh st l = (decide ((l.length : Int) > 0), s) := by
      unfold z0t
      rw [hgo2]
      simp only [andQ, if_true, zx0, hJ1, List.drop_eq_nil_of_le hge]
      rfl
    rw [h2]
    exact rOk rfl rfl (po2 rfl rfl)
theorem y5j (u : Un) (f : Fl) (hg : ∀ g ∈ u.flows, 0 <= g.params /\ g.params <= g.types.length) (l : List Nd) (deep : Int) (hd : 0 <= deep /\ deep <= 101) (wh : Wh) (st : List Int) (hs : st.length = f.types.length) (hb : lsW l <= 1073741824) : SC Tryz.prog 61 [.ptr 3 0, .pv (z0g l), .pv (whv wh), iInt deep] (ckS u f 3 st) (fun k => k = 3) (iBool (z0t u f deep wh st l).1) (ckS u f 3 (z0t u f deep wh st l).2) := zp9 _ u f hg l deep hd wh st hs hb (Nat.lt_succ_self _)
theorem y5g (u : Un) (f : Fl) (hg : ∀ g ∈ u.flows, 0 <= g.params /\ g.params <= g.types.length) (hp : 0 <= f.params /\ f.params <= f.types.length) (hb : lsW f.body <= 536870912) : SC Tryz.prog 38 [.pv u.enc, .pv (.agg f.enc)] [] (fun _ => False) (iBool (z8g u f)) [] := by
  refine SC.of Tryz.func38 rfl (lb rfl) fun F ρ w => ?_
  refine tQ <| tG <| cE rfl (z1d rfl rfl) <| cE rfl (z1d rfl rfl) <| sm 1 rfl <| nL <| tQ <| tQ <| tG <| sm 4 rfl ?_
  refine wS 10 rfl (fun hb10 => ?_) fun hb10 => ?_
  ·refine sm 10 rfl <| nL <| Tr.condT rfl <| tQ <| tG <| sm 1 rfl <| nL <| tRt <| rOk rfl ?_ nPo
   have hno : (decide (f.params > 8) || decide ((f.types.length : Int) > 20000) || f.types.any (fun t => !isTy t)) = true := by
     simp_all
   simp only [z8g, hno, Bool.not_true, Bool.false_and]
  refine sm 2 rfl <| yV rfl rfl (oSm uT35 rfl) <| sm 3 rfl ?_
  refine wS 16 rfl (fun hb16 => ?_) fun hb16 => ?_
  ·refine sm 4 rfl <| nL <| Tr.condT rfl <| tQ <| tG <| sm 1 rfl <| nL <| tRt <| rOk rfl ?_ nPo
   have hno : (decide (f.params > 8) || decide ((f.types.length : Int) > 20000) || f.types.any (fun t => !isTy t)) = true := by
     simp_all
   simp only [z8g, hno, Bool.not_true, Bool.false_and]
  refine sm 2 rfl <| WL.yes rfl rfl rfl rfl rfl rfl (z10 (y2g 60 [] [] rfl ent60 (fun t => !isTy t) f.types (fun x hm => (sc_flow1 x).anyR)) ent59 rfl rfl (sSm rfl (Subs.cons (fun _ _ _ _ h => zq7 h) Subs.nil)) rfl) <| sm 1 rfl <| nL ?_
  refine tC rfl (fun hc20 => ?_) fun hc20 => ?_
  ·refine tQ <| tG <| sm 1 rfl <| nL <| tRt <| rOk rfl ?_ nPo
   have hno : (decide (f.params > 8) || decide ((f.types.length : Int) > 20000) || f.types.any (fun t => !isTy t)) = true := by
     simp_all
   simp only [z8g, hno, Bool.not_true, Bool.false_and]
  ·have hpar : f.params <= 8 /\ f.types.length <= 20000 := by
     (simp_all <;> omega)
   have hpt : f.params.toNat <= f.types.length := by omega
   have hpi : f.params = (f.params.toNat : Int) := by omega
   have hno : (decide (f.params > 8) || decide ((f.types.length : Int) > 20000) || f.types.any (fun t => !isTy t)) = false := by
     clear hpi
     simp_all
   refine tSk <| tQ <| tDr z1a (fun k => k < 3) <| wR 4 [0, 1, 2, 3, 4] kR0 h30 <| rV rfl rfl (lEA rfl rfl uT25 rfl tS25 (lb rfl)) <| rV rfl rfl (lEA rfl rfl Tryz.underlying51 rfl tS51 (lb rfl)) <| smR 2 rfl <| rV rfl rfl (oSm uT35 rfl) <| nR <| wO 5 kR0 <| wI rfl rfl nf (z1g rfl) (fun _ _ => z15 (k := 4) (s := ⟨3, 1⟩) rfl rfl rfl uT35 tZ3 tC3 rfl dC0 oM0 oM0 rfl rfl rfl rfl) <| wR 2 [6] kR0 h30 ?_
   refine rV rfl rfl (by exact z99 rfl rfl tZ101 tP101 rfl (z7h (by (simp [y0y, firm1, look, PV.one]; exact ⟨_, _, ⟨rfl, rfl⟩, by simp⟩)))) <| nR <| wO 7 kR0 <| wI rfl rfl nf (z1g rfl) (fun _ _ => z5l (k := 3) rfl rfl rfl rfl rfl rfl rfl) <| wR 0 [8] kR0 h30 <| smR 1 rfl <| nR <| wDn kR0 <| tQ <| tQ <| tG <| sm 3 rfl ?_
   refine nL <| tBk <| Tr.sub (Sub.of (fr' := [(31, iInt 0), (30, iInt f.params), (5, .ptr 3 0), (2, .pv (.ept [arrs u.arrays, flws u.flows] 0)), (3, .pv (.ept [vStr f.name, vInt f.ty, vInt f.params, ints f.types, z0g f.body] 0))]) ⟨rfl, rfl, rfl, rfl, rfl, trivial⟩) ?_
   refine Tr.heap (σ' := look (up (ckS u f 3 (z7s 0 f.types.length)))) (fun k => by
  rw [show (z7s 0 f.types.length) = List.replicate f.types.length 0 by simp [z7s]]
  simp only [ckS, up, List.map_cons, List.map_nil, look, List.length_map, List.length_replicate, List.map_replicate]
  by_cases h3 : 3 = k
  · subst h3; rfl
  · by_cases h4 : 4 = k
    · subst h4; rfl
    · simp [z00 h3, z00 h4]) ?_
   refine Tr.loop (fun fr σ m => ∃ (k : Nat), (k <= f.params.toNat) /\ fr = [(31, iInt k), (30, iInt f.params), (5, .ptr 3 0), (2, .pv (.ept [arrs u.arrays, flws u.flows] 0)), (3, .pv (.ept [vStr f.name, vInt f.ty, vInt f.params, ints f.types, z0g f.body] 0))] /\ σ = look (up (ckS u f 3 (z7s k f.types.length))) /\ m = f.params.toNat - k) (n := f.params.toNat - 0) ?_ ?_
   ·exact ⟨0, Nat.zero_le _, rfl, rfl, rfl⟩
   rintro fr σ m ⟨k, hI0, rfl, rfl, rfl⟩
   refine tQ <| tG <| sm 1 rfl <| nL <| tQ ?_
   refine tC rfl (fun hc32 => ?_) fun hc32 => ?_
   ·have hkp : k < f.params.toNat := by simp at hc32; omega
    have hkt : k < f.types.length := by omega
    have hst : ((z7s k f.types.length).map eInt)[k]? = some [vInt 0] := by
      rw [List.getElem?_map]
      simp only [z7s]
      rw [List.getElem?_append_right sI0]
      simp [List.getElem?_replicate, eInt]
      omega
    have hstl : k < ((z7s k f.types.length).map eInt).length := by rw [List.length_map, z7t oM0]; exact hkt
    refine tSk <| tQ <| tBk <| tQ <| tG <| sm 2 rfl <| nL <| tG <| sm 1 rfl <| cV rfl (nCk rfl rfl rfl) <| sm 3 rfl <| cV rfl (iRw rfl rfl rfl rfl rfl uT35 tS3 (by assumption) (by rfl)) ?_
    refine c0 (z1y rfl rfl rfl rfl rfl (Nat.add_zero _).symm (by assumption) sI0 tS3 rfl ((fun h => h))) <| nL <| tG <| cV rfl (oB rfl rfl (z0b rfl oM0)) <| sm 1 rfl <| nL ?_
    refine ⟨_, _, ?_, Sub.of (fr' := [(31, iInt (k + 1)), (30, iInt f.params), (5, .ptr 3 0), (2, .pv (.ept [arrs u.arrays, flws u.flows] 0)), (3, .pv (.ept [vStr f.name, vInt f.ty, vInt f.params, ints f.types, z0g f.body] 0))]) ⟨rfl, rfl, rfl, rfl, rfl, trivial⟩, (k + 1), ?_, rfl, (by rw [<- y5t hkt]; exact funext y3h), rfl⟩
    all_goals omega
   refine tEx <| tQ ?_
   have hkp : k = f.params.toNat := by simp at hc32; omega
   subst hkp
   refine tG <| sm 3 rfl <| cV rfl (bPu rfl rfl y0j tP104 rfl (fbk rfl) rfl) <| cE rfl (cRr (y5j u f hg f.body 1 ⟨by omega, by omega⟩ z21 (z7s f.params.toNat f.types.length) (z7t hpt) oM0) ent61 rfl rfl (sSm rfl (sSm rfl (Subs.cons (fun _ _ _ _ h => z3i (q := whv z21) (PSub.agg (ps := [vBool false, vBool false, .val (.slice none 0 0), .val (.slice none 0 0), .val (.slice none 0 0)]) (And.intro (PSub.refl _) (And.intro (PSub.refl _) (And.intro PSub.nil (And.intro PSub.nil (And.intro PSub.nil trivial)))))) h) (sSm rfl Subs.nil)))) (po2 rfl rfl) (by rfl) (fun k (h : _) => (show False from h).elim) rfl (by rfl)) <| sm 1 rfl <| nL <| tRt <| rOk rfl ?_ nPo
   simp only [z8g, hno, Bool.not_false, Bool.true_and]
theorem zj2 (n : Int) : SC Tryz.prog 79 [.pv (.val (.int .i32 n))] [] (fun _ => False) (iBool (z1z n)) [] := by
  refine SC.of Tryz.func79 rfl (lb rfl) fun F ρ w => ?_
  refine tQ <| tG <| sm 1 rfl <| nL <| tQ <| tG <| sm 3 rfl ?_
  refine wS 5 rfl (fun hb5 => ?_) fun hb5 => ?_
  ·refine sm 4 rfl ?_
   refine wS 9 rfl (fun hb9 => ?_) fun hb9 => ?_
   ·refine sm 3 rfl <| nUu rfl rfl rfl rfl rfl rfl <| nUu rfl rfl rfl rfl rfl rfl <| sm 7 rfl <| nL <| tRt <| rOk rfl ?_ nPo
    unfold z1z
    first | (simp_all; done) | (simp_all <;> omega)
   refine sm 3 rfl ?_
   refine wS 12 rfl (fun hb12 => ?_) fun hb12 => ?_
   ·refine sm 5 rfl ?_
    refine wS 17 rfl (fun hb17 => ?_) fun hb17 => ?_
    ·refine sm 4 rfl <| nL <| tRt <| rOk rfl ?_ nPo
     unfold z1z
     first | (simp_all; done) | (simp_all <;> omega)
    refine sm 4 rfl <| nL <| tRt <| rOk rfl ?_ nPo
    unfold z1z
    first | (simp_all; done) | (simp_all <;> omega)
   refine sm 9 rfl <| nL <| tRt <| rOk rfl ?_ nPo
   unfold z1z
   first | (simp_all; done) | (simp_all <;> omega)
  refine sm 7 rfl ?_
  refine wS 12 rfl (fun hb12 => ?_) fun hb12 => ?_
  ·refine sm 5 rfl ?_
   refine wS 17 rfl (fun hb17 => ?_) fun hb17 => ?_
   ·refine sm 4 rfl <| nL <| tRt <| rOk rfl ?_ nPo
    unfold z1z
    first | (simp_all; done) | (simp_all <;> omega)
   refine sm 4 rfl <| nL <| tRt <| rOk rfl ?_ nPo
   unfold z1z
   first | (simp_all; done) | (simp_all <;> omega)
  refine sm 9 rfl <| nL <| tRt <| rOk rfl ?_ nPo
  unfold z1z
  first | (simp_all; done) | (simp_all <;> omega)
theorem y2r (n : Int) : SC Tryz.prog 99 [.pv (.val (.int .i32 n))] [] (fun _ => False) (iBool (z6p n)) [] := by
  refine SC.of Tryz.func99 rfl (lb rfl) fun F ρ w => ?_
  refine tQ <| tG <| sm 1 rfl <| nL <| tQ <| tG <| sm 3 rfl ?_
  refine wS 5 rfl (fun hb5 => ?_) fun hb5 => ?_
  ·refine sm 4 rfl <| nL <| tRt <| rOk rfl ?_ nPo
   unfold z6p
   first | (simp_all; done) | (simp_all <;> omega)
  refine sm 4 rfl <| nL <| tRt <| rOk rfl ?_ nPo
  unfold z6p
  first | (simp_all; done) | (simp_all <;> omega)
theorem y5q (s : ByteArray) : SC Tryz.prog 81 [iStr s] [] (fun _ => False) (iBool (z0u s)) [] := by
  refine SC.of Tryz.func81 rfl (lb rfl) fun F ρ w => ?_
  refine tQ <| tG <| sm 1 rfl <| nL <| tQ <| tQ <| tG <| sm 1 rfl <| nL <| tBk <| tQ <| tQ ?_
  refine tG <| cV rfl (bSt rfl rfl rfl rfl) <| sm 1 rfl <| nL ?_
  refine tC rfl (fun hc4 => ?_) fun hc4 => ?_
  ·refine tSk ?_
   refine tC rfl (fun hc4 => ?_) fun hc4 => ?_
   ·refine tQ <| tG <| sm 1 rfl <| nL <| tRt <| rOk rfl ?_ nPo
    refine congrArg (fun b => iBool b) ?_
    simp_all [z0u]
   refine tSk <| tQ <| tG <| sm 1 rfl <| nL <| tRt <| rOk rfl ?_ nPo
   refine congrArg (fun b => iBool b) ?_
   simp_all [z0u]
  refine tQ <| tG <| cV rfl (bSt rfl rfl rfl rfl) <| sm 1 rfl <| nL ?_
  refine tC rfl (fun hc4 => ?_) fun hc4 => ?_
  ·refine tSk ?_
   refine tC rfl (fun hc4 => ?_) fun hc4 => ?_
   ·refine tQ <| tG <| sm 1 rfl <| nL <| tRt <| rOk rfl ?_ nPo
    refine congrArg (fun b => iBool b) ?_
    simp_all [z0u]
   refine tSk <| tQ <| tG <| sm 1 rfl <| nL <| tRt <| rOk rfl ?_ nPo
   refine congrArg (fun b => iBool b) ?_
   simp_all [z0u]
  refine tQ <| tG <| cV rfl (bSt rfl rfl rfl rfl) <| sm 1 rfl <| nL ?_
  refine tC rfl (fun hc4 => ?_) fun hc4 => ?_
  ·refine tSk ?_
   refine tC rfl (fun hc4 => ?_) fun hc4 => ?_
   ·refine tQ <| tG <| sm 1 rfl <| nL <| tRt <| rOk rfl ?_ nPo
    refine congrArg (fun b => iBool b) ?_
    simp_all [z0u]
   refine tSk <| tQ <| tG <| sm 1 rfl <| nL <| tRt <| rOk rfl ?_ nPo
   refine congrArg (fun b => iBool b) ?_
   simp_all [z0u]
  refine tQ <| tG <| cV rfl (bSt rfl rfl rfl rfl) <| sm 1 rfl <| nL ?_
  refine tC rfl (fun hc4 => ?_) fun hc4 => ?_
  ·refine tSk ?_
   refine tC rfl (fun hc4 => ?_) fun hc4 => ?_
   ·refine tQ <| tG <| sm 1 rfl <| nL <| tRt <| rOk rfl ?_ nPo
    refine congrArg (fun b => iBool b) ?_
    simp_all [z0u]
   refine tSk <| tQ <| tG <| sm 1 rfl <| nL <| tRt <| rOk rfl ?_ nPo
   refine congrArg (fun b => iBool b) ?_
   simp_all [z0u]
  refine tQ <| tG <| cV rfl (bSt rfl rfl rfl rfl) <| sm 1 rfl <| nL ?_
  refine tC rfl (fun hc4 => ?_) fun hc4 => ?_
  ·refine tSk ?_
   refine tC rfl (fun hc4 => ?_) fun hc4 => ?_
   ·refine tQ <| tG <| sm 1 rfl <| nL <| tRt <| rOk rfl ?_ nPo
    refine congrArg (fun b => iBool b) ?_
    simp_all [z0u]
   refine tSk <| tQ <| tG <| sm 1 rfl <| nL <| tRt <| rOk rfl ?_ nPo
   refine congrArg (fun b => iBool b) ?_
   simp_all [z0u]
  refine tQ <| tG <| cV rfl (bSt rfl rfl rfl rfl) <| sm 1 rfl <| nL ?_
  refine tC rfl (fun hc4 => ?_) fun hc4 => ?_
  ·refine tSk ?_
   refine tC rfl (fun hc4 => ?_) fun hc4 => ?_
   ·refine tQ <| tG <| sm 1 rfl <| nL <| tRt <| rOk rfl ?_ nPo
    refine congrArg (fun b => iBool b) ?_
    simp_all [z0u]
   refine tSk <| tQ <| tG <| sm 1 rfl <| nL <| tRt <| rOk rfl ?_ nPo
   refine congrArg (fun b => iBool b) ?_
   simp_all [z0u]
  refine tQ <| tG <| cV rfl (bSt rfl rfl rfl rfl) <| sm 1 rfl <| nL ?_
  refine tC rfl (fun hc4 => ?_) fun hc4 => ?_
  ·refine tSk ?_
   refine tC rfl (fun hc4 => ?_) fun hc4 => ?_
   ·refine tQ <| tG <| sm 1 rfl <| nL <| tRt <| rOk rfl ?_ nPo
    refine congrArg (fun b => iBool b) ?_
    simp_all [z0u]
   refine tSk <| tQ <| tG <| sm 1 rfl <| nL <| tRt <| rOk rfl ?_ nPo
   refine congrArg (fun b => iBool b) ?_
   simp_all [z0u]
  refine tQ <| tG <| cV rfl (bSt rfl rfl rfl rfl) <| sm 1 rfl <| nL ?_
  refine tC rfl (fun hc4 => ?_) fun hc4 => ?_
  ·refine tSk ?_
   refine tC rfl (fun hc4 => ?_) fun hc4 => ?_
   ·refine tQ <| tG <| sm 1 rfl <| nL <| tRt <| rOk rfl ?_ nPo
    refine congrArg (fun b => iBool b) ?_
    simp_all [z0u]
   refine tSk <| tQ <| tG <| sm 1 rfl <| nL <| tRt <| rOk rfl ?_ nPo
   refine congrArg (fun b => iBool b) ?_
   simp_all [z0u]
  refine tQ <| tG <| cV rfl (bSt rfl rfl rfl rfl) <| sm 1 rfl <| nL ?_
  refine tC rfl (fun hc4 => ?_) fun hc4 => ?_
  ·refine tSk ?_
   refine tC rfl (fun hc4 => ?_) fun hc4 => ?_
   ·refine tQ <| tG <| sm 1 rfl <| nL <| tRt <| rOk rfl ?_ nPo
    refine congrArg (fun b => iBool b) ?_
    simp_all [z0u]
   refine tSk <| tQ <| tG <| sm 1 rfl <| nL <| tRt <| rOk rfl ?_ nPo
   refine congrArg (fun b => iBool b) ?_
   simp_all [z0u]
  refine tQ <| tG <| cV rfl (bSt rfl rfl rfl rfl) <| sm 1 rfl <| nL ?_
  refine tC rfl (fun hc4 => ?_) fun hc4 => ?_
  ·refine tSk ?_
   refine tC rfl (fun hc4 => ?_) fun hc4 => ?_
   ·refine tQ <| tG <| sm 1 rfl <| nL <| tRt <| rOk rfl ?_ nPo
    refine congrArg (fun b => iBool b) ?_
    simp_all [z0u]
   refine tSk <| tQ <| tG <| sm 1 rfl <| nL <| tRt <| rOk rfl ?_ nPo
   refine congrArg (fun b => iBool b) ?_
   simp_all [z0u]
  refine tQ <| tG <| cV rfl (bSt rfl rfl rfl rfl) <| sm 1 rfl <| nL ?_
  refine tC rfl (fun hc4 => ?_) fun hc4 => ?_
  ·refine tSk ?_
   refine tC rfl (fun hc4 => ?_) fun hc4 => ?_
   ·refine tQ <| tG <| sm 1 rfl <| nL <| tRt <| rOk rfl ?_ nPo
    refine congrArg (fun b => iBool b) ?_
    simp_all [z0u]
   refine tSk <| tQ <| tG <| sm 1 rfl <| nL <| tRt <| rOk rfl ?_ nPo
   refine congrArg (fun b => iBool b) ?_
   simp_all [z0u]
  refine tQ <| tG <| cV rfl (bSt rfl rfl rfl rfl) <| sm 1 rfl <| nL ?_
  refine tC rfl (fun hc4 => ?_) fun hc4 => ?_
  ·refine tSk ?_
   refine tC rfl (fun hc4 => ?_) fun hc4 => ?_
   ·refine tQ <| tG <| sm 1 rfl <| nL <| tRt <| rOk rfl ?_ nPo
    refine congrArg (fun b => iBool b) ?_
    simp_all [z0u]
   refine tSk <| tQ <| tG <| sm 1 rfl <| nL <| tRt <| rOk rfl ?_ nPo
   refine congrArg (fun b => iBool b) ?_
   simp_all [z0u]
  refine tQ <| tG <| cV rfl (bSt rfl rfl rfl rfl) <| sm 1 rfl <| nL ?_
  refine tC rfl (fun hc4 => ?_) fun hc4 => ?_
  ·refine tSk ?_
   refine tC rfl (fun hc4 => ?_) fun hc4 => ?_
   ·refine tQ <| tG <| sm 1 rfl <| nL <| tRt <| rOk rfl ?_ nPo
    refine congrArg (fun b => iBool b) ?_
    simp_all [z0u]
   refine tSk <| tQ <| tG <| sm 1 rfl <| nL <| tRt <| rOk rfl ?_ nPo
   refine congrArg (fun b => iBool b) ?_
   simp_all [z0u]
  refine tQ <| tG <| cV rfl (bSt rfl rfl rfl rfl) <| sm 1 rfl <| nL ?_
  refine tC rfl (fun hc4 => ?_) fun hc4 => ?_
  ·refine tSk ?_
   refine tC rfl (fun hc4 => ?_) fun hc4 => ?_
   ·refine tQ <| tG <| sm 1 rfl <| nL <| tRt <| rOk rfl ?_ nPo
    refine congrArg (fun b => iBool b) ?_
    simp_all [z0u]
   refine tSk <| tQ <| tG <| sm 1 rfl <| nL <| tRt <| rOk rfl ?_ nPo
   refine congrArg (fun b => iBool b) ?_
   simp_all [z0u]
  refine tQ <| tG <| cV rfl (bSt rfl rfl rfl rfl) <| sm 1 rfl <| nL ?_
  refine tC rfl (fun hc4 => ?_) fun hc4 => ?_
  ·refine tSk ?_
   refine tC rfl (fun hc4 => ?_) fun hc4 => ?_
   ·refine tQ <| tG <| sm 1 rfl <| nL <| tRt <| rOk rfl ?_ nPo
    refine congrArg (fun b => iBool b) ?_
    simp_all [z0u]
   refine tSk <| tQ <| tG <| sm 1 rfl <| nL <| tRt <| rOk rfl ?_ nPo
   refine congrArg (fun b => iBool b) ?_
   simp_all [z0u]
  refine tQ <| tG <| cV rfl (bSt rfl rfl rfl rfl) <| sm 1 rfl <| nL ?_
  refine tC rfl (fun hc4 => ?_) fun hc4 => ?_
  ·refine tSk ?_
   refine tC rfl (fun hc4 => ?_) fun hc4 => ?_
   ·refine tQ <| tG <| sm 1 rfl <| nL <| tRt <| rOk rfl ?_ nPo
    refine congrArg (fun b => iBool b) ?_
    simp_all [z0u]
   refine tSk <| tQ <| tG <| sm 1 rfl <| nL <| tRt <| rOk rfl ?_ nPo
   refine congrArg (fun b => iBool b) ?_
   simp_all [z0u]
  refine tQ <| tG <| cV rfl (bSt rfl rfl rfl rfl) <| sm 1 rfl <| nL ?_
  refine tC rfl (fun hc4 => ?_) fun hc4 => ?_
  ·refine tSk ?_
   refine tC rfl (fun hc4 => ?_) fun hc4 => ?_
   ·refine tQ <| tG <| sm 1 rfl <| nL <| tRt <| rOk rfl ?_ nPo
    refine congrArg (fun b => iBool b) ?_
    simp_all [z0u]
   refine tSk <| tQ <| tG <| sm 1 rfl <| nL <| tRt <| rOk rfl ?_ nPo
   refine congrArg (fun b => iBool b) ?_
   simp_all [z0u]
  refine tG <| cV rfl (bSt rfl rfl rfl rfl) <| sm 1 rfl <| nL ?_
  refine tC rfl (fun hc4 => ?_) fun hc4 => ?_
  ·refine tQ <| tG <| sm 1 rfl <| nL <| tRt <| rOk rfl ?_ nPo
   refine congrArg (fun b => iBool b) ?_
   simp_all [z0u]
  refine tSk <| tQ <| tG <| sm 1 rfl <| nL <| tRt <| rOk rfl ?_ nPo
  refine congrArg (fun b => iBool b) ?_
  simp_all [z0u]
theorem sc_tkRun (s : ByteArray) : SC Tryz.prog 80 [iStr s] [] (fun _ => False) (iStr (y28 s)) [] := by
  refine SC.of Tryz.func80 rfl (lb rfl) fun F ρ w => ?_
  refine tQ <| tG <| sm 1 rfl <| nL <| tQ ?_
  refine Tr.strRange rfl rfl rfl rfl rfl rfl rfl rfl uT9 rfl rfl rfl rfl rfl rfl rfl rfl rfl rfl rfl (fun _ h => h) (fun k fr => (k <= s.toList.length /\ (s.toList.take k).all isLD = true) /\ fr = [(0, iStr s)]) ⟨[(0, iStr s)], Sub.of ⟨rfl, trivial⟩, ⟨Nat.zero_le _, rfl⟩, rfl⟩ ?_ ?_
  ·rintro b0 k _ hk ⟨hI, rfl⟩
   refine tQ <| tG <| sm 2 rfl <| nL <| tRt <| rOk rfl ?_ nPo
   have hall : s.toList.all isLD = true := by
     have := hI.2
     rwa [List.take_of_length_le (by rw [z8c]; exact hk)] at this
   simp [y28, hall]
  rintro ρ2 w2 b0 k _ hk ⟨hI, rfl⟩
  have hlt : k < s.toList.length := by rw [z8c]; exact hk
  refine tBk <| tQ <| tG <| cV rfl (z0h rfl rfl rfl) <| cV rfl (z0h rfl rfl rfl) <| sm 2 rfl <| nL <| tQ <| tG <| sm 1 rfl <| cE rfl (ocq (zj2 _) ent79 rfl rfl) <| sm 2 rfl ?_
  refine wS 14 rfl (fun hb14 => ?_) fun hb14 => ?_
  ·refine sm 1 rfl <| WL.yes rfl rfl rfl rfl rfl rfl (z10 (y2r _) ent99 rfl rfl (sRf _ _) rfl) <| sm 2 rfl <| nL ?_
   refine tC rfl (fun hc18 => ?_) fun hc18 => ?_
   ·refine tQ <| tG <| sm 2 rfl <| cV rfl (zv2 rfl rfl uT9 (.inl ⟨rfl, rfl⟩) (.inr ⟨_, _, rfl, rfl⟩) oM0 (Nat.le_of_lt (by assumption))) <| sm 1 rfl <| nL <| tRt <| rOk rfl ?_ nPo
    have hld : zk6 (Utf8.decode s k).1 = false := by
      simp only [zk6]
      simp_all
    rw [runOf_at hI.2 (List.getElem?_eq_getElem hlt) ((ze8 hlt).2 hld)]
   refine tSk ?_
   refine ⟨rfl, [(0, iStr s)], Sub.of ⟨rfl, rfl, trivial⟩, ?_, rfl⟩
   have hld : zk6 (Utf8.decode s k).1 = true := by
     simp only [zk6]
     simp_all
   obtain ⟨hw1, hb1⟩ := (ze8 hlt).1 hld
   rw [hw1]
   exact ⟨by omega, by rw [List.take_succ_eq_append_getElem hlt, List.all_append, hI.2]; simp [hb1]⟩
  refine sm 4 rfl <| nL <| Tr.condF rfl <| tSk ?_
  refine ⟨rfl, [(0, iStr s)], Sub.of ⟨rfl, rfl, trivial⟩, ?_, rfl⟩
  have hld : zk6 (Utf8.decode s k).1 = true := by
    simp only [zk6]
    simp_all
  obtain ⟨hw1, hb1⟩ := (ze8 hlt).1 hld
  rw [hw1]
  exact ⟨by omega, by rw [List.take_succ_eq_append_getElem hlt, List.all_append, hI.2]; simp [hb1]⟩
theorem zw7 (s : ByteArray) : SC Tryz.prog 56 [iStr s] [] (fun _ => False) (iBool (z45 s)) [] := by
  refine SC.of Tryz.func56 rfl (lb rfl) fun F ρ w => ?_
  refine tQ <| tG <| sm 1 rfl <| nL <| tQ <| tG <| sm 1 rfl <| cV rfl (bSt rfl rfl rfl rfl) <| sm 1 rfl ?_
  refine wS 5 rfl (fun hb5 => ?_) fun hb5 => ?_
  ·have hne : s.toList ≠ [] := by simpa using hb5
   obtain ⟨b0, r0, hs0⟩ := List.exists_cons_of_ne_nil hne
   have hi0 : s[0]? = some b0 := by rw [y0u (i := 0) (by rw [hs0]; simp)]; simp [hs0]
   have hw0 : IntKind.i32.wrap (b0.toNat : Int) = b0.toNat := by
     have : b0.toNat < 256 := b0.toNat_lt
     simp [IntKind.wrap, IntKind.bits, IntKind.signed]
     omega
   have hre := runOf_eq s
   refine sm 1 rfl <| yV rfl rfl (z5y rfl rfl rfl uT9 (by assumption) (by rfl)) <| yV rfl rfl (z4k rfl rfl ⟨_, Tryz.underlying5⟩ Tryz.underlying21) <| WL.yes rfl rfl rfl rfl rfl rfl (z10 (zj2 _) ent79 rfl rfl (sRf _ _) rfl) <| sm 2 rfl ?_
   refine wS 11 rfl (fun hb11 => ?_) fun hb11 => ?_
   ·refine sm 1 rfl <| WL.yes rfl rfl rfl rfl rfl rfl (z10 (sc_tkRun s) ent80 rfl rfl (sRf _ _) rfl) <| sm 1 rfl <| yV rfl rfl (bSt rfl rfl rfl rfl) <| sm 2 rfl ?_
    refine wS 17 rfl (fun hb17 => ?_) fun hb17 => ?_
    ·refine sm 1 rfl <| yV rfl rfl (z9x rfl rfl uT9) <| sm 3 rfl ?_
     refine wS 22 rfl (fun hb22 => ?_) fun hb22 => ?_
     ·refine sm 1 rfl <| WL.yes rfl rfl rfl rfl rfl rfl (z10 (y5q s) ent81 rfl rfl (sRf _ _) rfl) <| sm 3 rfl <| nL <| tRt <| rOk rfl ?_ nPo
      refine congrArg (fun b => iBool b) ?_
      simp_all [z45]
     refine sm 5 rfl <| nL <| tRt <| rOk rfl ?_ nPo
     refine congrArg (fun b => iBool b) ?_
     (simp_all [z45] <;> omega)
    refine sm 10 rfl <| nL <| tRt <| rOk rfl ?_ nPo
    refine congrArg (fun b => iBool b) ?_
    simp_all [z45]
   refine sm 16 rfl <| nL <| tRt <| rOk rfl ?_ nPo
   refine congrArg (fun b => iBool b) ?_
   simp_all [z45]
  refine sm 22 rfl <| nL <| tRt <| rOk rfl ?_ nPo
  refine congrArg (fun b => iBool b) ?_
  simp_all [z45]
theorem y5i (u : Un) (hW : z20 u <= 536870912) : SC Tryz.prog 37 [.pv u.enc] [] (fun _ => False) (iBool (z4g u)) [] := by
  refine SC.of Tryz.func37 rfl (lb rfl) fun F ρ w => ?_
  have hW2 : z20 u = u.arrays.length + u.flows.length + wtA u.arrays + wtF u.flows := rfl
  have hW3 : (u.arrays.length : Int) + u.flows.length <= 536870912 := by omega
  refine tQ <| tG <| cE rfl (z1d rfl rfl) <| sm 1 rfl <| nL <| tQ <| tG <| cE rfl (z6c (k := 109) rfl rfl rfl rfl rfl) <| sm 1 rfl <| nL <| tQ <| tQ ?_
  refine tG <| sm 2 rfl ?_
  refine WL.lenOf (t := 11) rfl (fun hl1 => ?_)
  simp only [List.length_map] at hl1
  refine cV rfl (oSm uT22 rfl) <| sm 1 rfl <| nL <| tBk <| Tr.sub (Sub.of (fr' := [(13, iInt 0), (12, iInt u.arrays.length), (11, .pv (arrs u.arrays)), (3, .mp 109), (1, .pv (.ept [arrs u.arrays, flws u.flows] 0))]) ⟨rfl, rfl, rfl, rfl, rfl, trivial⟩) ?_
  refine Tr.loop (fun fr σ m => ∃ (k : Nat) (es : List (Value × PV)), (k <= u.arrays.length) /\ (u.arrays.all z7a = (u.arrays.drop k).all z7a) /\ (zb5 [] u.arrays = zb5 es (u.arrays.drop k)) /\ (Cnt es) /\ fr = [(13, iInt k), (12, iInt u.arrays.length), (11, .pv (arrs u.arrays)), (3, .mp 109), (1, .pv (.ept [arrs u.arrays, flws u.flows] 0))] /\ σ = look [(109, some (.map es))] /\ m = u.arrays.length - k) (n := u.arrays.length - 0) ?_ ?_
  ·exact ⟨0, [], Nat.zero_le _, rfl, rfl, Cnt.nil, rfl, rfl, rfl⟩
  rintro fr σ m ⟨k, es, hI0, hI1, hI2, hI3, rfl, rfl, rfl⟩
  refine tQ <| tG <| sm 1 rfl <| nL <| tQ ?_
  refine tC rfl (fun hc14 => ?_) fun hc14 => ?_
  ·have hlt : k < u.arrays.length := by simpa using hc14
   have hd := List.drop_eq_getElem_cons hlt
   have hm := List.getElem_mem hlt
   have hi := z0i (f := Ar.enc) (List.getElem?_eq_getElem hlt)
   generalize u.arrays[k] = x at hd hm hi
   refine tSk <| tQ <| tBk <| tQ <| tG <| cV rfl (iSq rfl rfl rfl uT22 hi tS49 rfl (by rfl)) <| cV rfl (lEA rfl rfl Tryz.underlying49 rfl tS49 (lb rfl)) <| cE rfl (aLc (k := 105) rfl tZ49 rfl rfl rfl rfl) <| c0 (sBA rfl rfl rfl rfl rfl ((fun h => h)) tS49 (flk rfl) (lb rfl)) <| nL <| tQ <| Tr.freezeBox (t := 5) (k := 105) rfl rfl rfl ?_
   refine Tr.heap (σ' := look [(109, some (.map es))]) (fun k => by
     simp only [look]
     by_cases h : 105 = k
     · subst h; rfl
     · simp [z00 h]) ?_
   obtain ⟨n, hn⟩ := hI3.find (.string x.name)
   have hbump := zo1 hn
   have hes := hI3.1
   refine tG <| sm 3 rfl <| cV rfl (zg4 rfl rfl rfl rfl Tryz.underlying96 uT9 rfl (by assumption) tZ3 trivial) <| WL.sub (Sub.of (fr' := [(20, iInt n), (19, iStr x.name), (17, .mp 109), (5, .pv (.ept [vStr x.name, vInt x.size] 0)), (13, iInt k), (12, iInt u.arrays.length), (11, .pv (arrs u.arrays)), (3, .mp 109), (1, .pv (.ept [arrs u.arrays, flws u.flows] 0))]) ⟨congrArg (fun p => some (IV.pv p)) hn, rfl, rfl, rfl, rfl, rfl, rfl, rfl, rfl, trivial⟩) <| sm 1 rfl <| c0 (z4t rfl rfl rfl rfl rfl ((fun h => h)) Tryz.underlying96 uT9 rfl (by assumption)) <| nL <| tQ <| tG <| sm 2 rfl <| cE rfl (ocq (zw7 _) ent56 rfl rfl) <| sm 2 rfl ?_
   refine wS 26 rfl (fun hb26 => ?_) fun hb26 => ?_
   ·refine sm 9 rfl <| nL <| Tr.condT rfl <| tQ <| tG <| sm 1 rfl <| nL <| tRt <| rOk rfl ?_ nPo
    have hx : z7a x = false := by
      clear hd hm hi hI1 hI2 hn
      simp_all [z7a]
    have hA : u.arrays.all z7a = false := by rw [hI1, hd]; simp only [List.all_cons, hx, Bool.false_and]
    simp only [z4g, hA, Bool.false_and]
   refine sm 5 rfl ?_
   refine wS 31 rfl (fun hb31 => ?_) fun hb31 => ?_
   ·refine sm 4 rfl <| nL <| Tr.condT rfl <| tQ <| tG <| sm 1 rfl <| nL <| tRt <| rOk rfl ?_ nPo
    have hx : z7a x = false := by
      clear hd hm hi hI1 hI2 hn
      simp_all [z7a]
    have hA : u.arrays.all z7a = false := by rw [hI1, hd]; simp only [List.all_cons, hx, Bool.false_and]
    simp only [z4g, hA, Bool.false_and]
   refine sm 4 rfl <| nL ?_
   refine tC rfl (fun hc35 => ?_) fun hc35 => ?_
   ·refine tQ <| tG <| sm 1 rfl <| nL <| tRt <| rOk rfl ?_ nPo
    have hx : z7a x = false := by
      clear hd hm hi hI1 hI2 hn
      simp_all [z7a]
    have hA : u.arrays.all z7a = false := by rw [hI1, hd]; simp only [List.all_cons, hx, Bool.false_and]
    simp only [z4g, hA, Bool.false_and]
   refine tSk <| tG <| cV rfl (oB rfl rfl (z0b rfl oM0)) <| sm 1 rfl <| nL ?_
   refine ⟨_, _, ?_, Sub.of (fr' := [(13, iInt (k + 1)), (12, iInt u.arrays.length), (11, .pv (arrs u.arrays)), (3, .mp 109), (1, .pv (.ept [arrs u.arrays, flws u.flows] 0))]) ⟨rfl, rfl, rfl, rfl, rfl, trivial⟩, (k + 1), (bump x.name es), ?_, ?_, ?_, ?_, rfl, (funext fun j => by
   simp only [look, <- hbump]
   by_cases h : 109 = j
   · subst h; rfl
   · simp [z00 h]), rfl⟩
   ·omega
   ·omega
   ·rw [hI1, hd]
    have hx : z7a x = true := by
      clear hd hm hi hI1 hI2 hn
      simp_all [z7a]
    simp only [List.all_cons, hx, Bool.true_and]
   ·rw [hI2, hd]; rfl
   exact hI3.bump _
  refine tEx <| tQ <| tQ ?_
  have hA : u.arrays.all z7a = true := by
    rw [hI1, List.drop_eq_nil_of_le (by simpa using hc14)]; rfl
  have hcA : zb5 [] u.arrays = es := by
    rw [hI2, List.drop_eq_nil_of_le (by simpa using hc14)]; rfl
  generalize es = es0 at hcA hI3 ⊢
  refine tG <| sm 2 rfl ?_
  refine WL.lenOf (t := 38) rfl (fun hl2 => ?_)
  simp only [List.length_map] at hl2
  refine cV rfl (oSm uT23 rfl) <| sm 1 rfl <| nL <| tBk <| Tr.sub (Sub.of (fr' := [(40, iInt 0), (39, iInt u.flows.length), (38, .pv (flws u.flows)), (3, .mp 109), (1, .pv (.ept [arrs u.arrays, flws u.flows] 0))]) ⟨rfl, rfl, rfl, rfl, rfl, trivial⟩) ?_
  refine Tr.loop (fun fr σ m => ∃ (k : Nat) (es : List (Value × PV)), (k <= u.flows.length) /\ (u.flows.all z5v = (u.flows.drop k).all z5v) /\ (ze6 es0 u.flows = ze6 es (u.flows.drop k)) /\ (Cnt es) /\ fr = [(40, iInt k), (39, iInt u.flows.length), (38, .pv (flws u.flows)), (3, .mp 109), (1, .pv (.ept [arrs u.arrays, flws u.flows] 0))] /\ σ = look [(109, some (.map es))] /\ m = u.flows.length - k) (n := u.flows.length - 0) ?_ ?_
  ·exact ⟨0, es0, Nat.zero_le _, rfl, rfl, hI3, rfl, rfl, rfl⟩
  ·rintro fr σ m ⟨k, es, hJ0, hJ1, hJ2, hJ3, rfl, rfl, rfl⟩
   refine tQ <| tG <| sm 1 rfl <| nL <| tQ ?_
   refine tC rfl (fun hc41 => ?_) fun hc41 => ?_
   ·have hlt : k < u.flows.length := by simpa using hc41
    have hd := List.drop_eq_getElem_cons hlt
    have hm := List.getElem_mem hlt
    have hi := z0i (f := Fl.enc) (List.getElem?_eq_getElem hlt)
    generalize u.flows[k] = x at hd hm hi
    refine tSk <| tQ <| tBk <| tQ <| tG <| cV rfl (iSq rfl rfl rfl uT23 hi tS51 rfl (by rfl)) <| cV rfl (lEA rfl rfl Tryz.underlying51 rfl tS51 (lb rfl)) <| cE rfl (aLc (k := 107) rfl tZ51 rfl rfl rfl rfl) <| c0 (sBA rfl rfl rfl rfl rfl ((fun h => h)) tS51 (flk rfl) (lb rfl)) <| nL <| tQ <| Tr.freezeBox (t := 7) (k := 107) rfl rfl rfl ?_
    refine Tr.heap (σ' := look [(109, some (.map es))]) (fun k => by
      simp only [look]
      by_cases h : 107 = k
      · subst h; rfl
      · simp [z00 h]) ?_
    obtain ⟨n, hn⟩ := hJ3.find (.string x.name)
    have hbump := zo1 hn
    have hes := hJ3.1
    refine tG <| sm 3 rfl <| cV rfl (zg4 rfl rfl rfl rfl Tryz.underlying96 uT9 rfl (by assumption) tZ3 trivial) <| WL.sub (Sub.of (fr' := [(47, iInt n), (46, iStr x.name), (44, .mp 109), (7, .pv (.ept [vStr x.name, vInt x.ty, vInt x.params, ints x.types, z0g x.body] 0)), (40, iInt k), (39, iInt u.flows.length), (38, .pv (flws u.flows)), (3, .mp 109), (1, .pv (.ept [arrs u.arrays, flws u.flows] 0))]) ⟨congrArg (fun p => some (IV.pv p)) hn, rfl, rfl, rfl, rfl, rfl, rfl, rfl, rfl, trivial⟩) <| sm 1 rfl <| c0 (z4t rfl rfl rfl rfl rfl ((fun h => h)) Tryz.underlying96 uT9 rfl (by assumption)) <| nL <| tQ <| tG <| sm 2 rfl <| cE rfl (ocq (zw7 _) ent56 rfl rfl) <| sm 2 rfl ?_
    refine wS 53 rfl (fun hb53 => ?_) fun hb53 => ?_
    ·refine sm 18 rfl <| nL <| Tr.condT rfl <| tQ <| tG <| sm 1 rfl <| nL <| tRt <| rOk rfl ?_ nPo
     have hx : z5v x = false := by
       clear hd hm hi hJ1 hJ2 hn
       simp_all [z5v]
     have hF : u.flows.all z5v = false := by rw [hJ1, hd]; simp only [List.all_cons, hx, Bool.false_and]
     simp only [z4g, hF, Bool.false_and, Bool.and_false]
    refine sm 2 rfl <| WL.yes rfl rfl rfl rfl rfl rfl (z10 (y58 _) ent57 rfl rfl (sRf _ _) rfl) <| sm 3 rfl ?_
    refine wS 59 rfl (fun hb59 => ?_) fun hb59 => ?_
    ·refine sm 12 rfl <| nL <| Tr.condT rfl <| tQ <| tG <| sm 1 rfl <| nL <| tRt <| rOk rfl ?_ nPo
     have hx : z5v x = false := by
       clear hd hm hi hJ1 hJ2 hn
       simp_all [z5v]
     have hF : u.flows.all z5v = false := by rw [hJ1, hd]; simp only [List.all_cons, hx, Bool.false_and]
     simp only [z4g, hF, Bool.false_and, Bool.and_false]
    refine sm 5 rfl ?_
    refine wS 64 rfl (fun hb64 => ?_) fun hb64 => ?_
    ·refine sm 7 rfl <| nL <| Tr.condT rfl <| tQ <| tG <| sm 1 rfl <| nL <| tRt <| rOk rfl ?_ nPo
     have hx : z5v x = false := by
       clear hd hm hi hJ1 hJ2 hn
       simp_all [z5v]
     have hF : u.flows.all z5v = false := by rw [hJ1, hd]; simp only [List.all_cons, hx, Bool.false_and]
     simp only [z4g, hF, Bool.false_and, Bool.and_false]
    refine sm 4 rfl <| yV rfl rfl (oSm uT35 rfl) <| sm 2 rfl <| nL ?_
    refine tC rfl (fun hc71 => ?_) fun hc71 => ?_
    ·refine tQ <| tG <| sm 1 rfl <| nL <| tRt <| rOk rfl ?_ nPo
     have hx : z5v x = false := by
       clear hd hm hi hJ1 hJ2 hn
       simp_all [z5v]
     have hF : u.flows.all z5v = false := by rw [hJ1, hd]; simp only [List.all_cons, hx, Bool.false_and]
     simp only [z4g, hF, Bool.false_and, Bool.and_false]
    refine tSk <| tG <| cV rfl (oB rfl rfl (z0b rfl oM0)) <| sm 1 rfl <| nL ?_
    refine ⟨_, _, ?_, Sub.of (fr' := [(40, iInt (k + 1)), (39, iInt u.flows.length), (38, .pv (flws u.flows)), (3, .mp 109), (1, .pv (.ept [arrs u.arrays, flws u.flows] 0))]) ⟨rfl, rfl, rfl, rfl, rfl, trivial⟩, (k + 1), (bump x.name es), ?_, ?_, ?_, ?_, rfl, (funext fun j => by
  simp only [look, <- hbump]
  by_cases h : 109 = j
  · subst h; rfl
  · simp [z00 h]), rfl⟩
    ·omega
    ·omega
    ·rw [hJ1, hd]
     have hx : z5v x = true := by
       clear hd hm hi hJ1 hJ2 hn
       simp_all [z5v]
     simp only [List.all_cons, hx, Bool.true_and]
    ·rw [hJ2, hd]; rfl
    exact hJ3.bump _
   refine tEx <| tQ ?_
   have hF : u.flows.all z5v = true := by
     rw [hJ1, List.drop_eq_nil_of_le (by simpa using hc41)]; rfl
   have hcF : ze6 (zb5 [] u.arrays) u.flows = es := by
     rw [hcA, hJ2, List.drop_eq_nil_of_le (by simpa using hc41)]; rfl
   clear hJ1 hJ2 hI1 hI2
   refine tG <| cV rfl (lEA rfl rfl uT25 rfl tS25 (lb rfl)) <| cE rfl (ocq (za4 u z0f) ent58 rfl rfl) <| sm 1 rfl <| nL <| tQ <| tG <| sm 1 rfl <| cV rfl (y24 rfl rfl rfl Tryz.underlying96 trivial) <| sm 2 rfl <| cV rfl (oSm uT22 rfl) ?_
   refine WL.lenOf (t := 78) rfl (fun hl1 => ?_)
   simp only [List.length_map] at hl1
   refine sm 2 rfl <| cV rfl (oSm uT23 rfl) ?_
   refine WL.lenOf (t := 81) rfl (fun hl2 => ?_)
   simp only [List.length_map] at hl2
   refine cV rfl (oB rfl rfl (z0b rfl oM0)) <| sm 2 rfl ?_
   refine wS 85 rfl (fun hb85 => ?_) fun hb85 => ?_
   ·refine sm 4 rfl ?_
    refine wS 89 rfl (fun hb89 => ?_) fun hb89 => ?_
    ·have hk0 : z0a z0f u.flows 0 ≥ 0 := by simp_all
     obtain ⟨g, hgk, _⟩ := z6e hk0
     have hgi : (u.flows.map Fl.enc)[(z0a z0f u.flows 0).toNat]? = some g.enc := z0i hgk
     have hgd : u.flows.getD (z0a z0f u.flows 0).toNat zs7 = g := by simp [List.getD, hgk]
     refine sm 3 rfl <| yV rfl rfl (iSq rfl rfl rfl uT23 hgi tS51 rfl oM0) <| sm 5 rfl ?_
     refine wS 98 rfl (fun hb98 => ?_) fun hb98 => ?_
     ·refine sm 3 rfl <| yV rfl rfl (iSq rfl rfl rfl uT23 hgi tS51 rfl oM0) <| sm 5 rfl <| nL <| tRt <| rOk rfl ?_ nPo
      refine congrArg (fun b => iBool b) ?_
      simp only [z4g, hA, hF, hcF, z76, Bool.true_and]
      simp_all
     refine sm 9 rfl <| nL <| tRt <| rOk rfl ?_ nPo
     refine congrArg (fun b => iBool b) ?_
     simp only [z4g, hA, hF, hcF, z76, Bool.true_and]
     simp_all
    refine sm 18 rfl <| nL <| tRt <| rOk rfl ?_ nPo
    refine congrArg (fun b => iBool b) ?_
    simp only [z4g, hA, hF, hcF, z76, Bool.true_and]
    (simp_all <;> omega)
   refine sm 22 rfl <| nL <| tRt <| rOk rfl ?_ nPo
   refine congrArg (fun b => iBool b) ?_
   simp only [z4g, hA, hF, hcF, z76, Bool.true_and]
   simp_all
theorem y2p (u : Un) (hW : z20 u <= 536870912) : SC Tryz.prog 22 [.pv u.enc] [] (fun _ => False) (.tup [iInt (z3z u).1, iInt (z3z u).2]) [] := by
  refine SC.of Tryz.func22 rfl (lb rfl) fun F ρ w => ?_
  refine tQ <| tG <| cE rfl (z1d rfl rfl) <| sm 2 rfl <| nL <| tQ <| tQ <| tG <| cV rfl (lEA rfl rfl uT25 rfl tS25 (lb rfl)) <| cE rfl (ocq (y5i u hW) ent37 rfl rfl) <| sm 1 rfl <| nL ?_
  refine tC rfl (fun hc8 => ?_) fun hc8 => ?_
  ·refine tQ <| tG <| sm 2 rfl <| nL <| tRt <| rOk rfl ?_ nPo
   have hg : z4g u = false := by simpa using hc8
   simp [z3z, hg]
  have hg : z4g u = true := by simpa using hc8
  refine tSk <| tQ <| tQ <| tG <| sm 2 rfl ?_
  refine WL.lenOf (t := 10) rfl (fun hl1 => ?_)
  simp only [List.length_map] at hl1
  refine cV rfl (oSm uT23 rfl) <| sm 1 rfl <| nL <| tBk <| Tr.sub (Sub.of (fr' := [(12, iInt 0), (11, iInt u.flows.length), (10, .pv (flws u.flows)), (1, .pv (.ept [arrs u.arrays, flws u.flows] 0))]) ⟨rfl, rfl, rfl, rfl, trivial⟩) ?_
  refine Tr.loop (fun fr σ m => ∃ (k : Nat), (k <= u.flows.length) /\ (z6z u u.flows 0 = z6z u (u.flows.drop k) k) /\ fr = [(12, iInt k), (11, iInt u.flows.length), (10, .pv (flws u.flows)), (1, .pv (.ept [arrs u.arrays, flws u.flows] 0))] /\ σ = look [] /\ m = u.flows.length - k) (n := u.flows.length - 0) ?_ ?_
  ·exact ⟨0, Nat.zero_le _, rfl, rfl, rfl, rfl⟩
  rintro fr σ m ⟨k, hI0, hI1, rfl, rfl, rfl⟩
  refine tQ <| tG <| sm 1 rfl <| nL <| tQ ?_
  refine tC rfl (fun hc13 => ?_) fun hc13 => ?_
  ·have hlt : k < u.flows.length := by simpa using hc13
   have hd := List.drop_eq_getElem_cons hlt
   have hm := List.getElem_mem hlt
   have hi := z0i (f := Fl.enc) (List.getElem?_eq_getElem hlt)
   generalize u.flows[k] = x at hd hm hi
   refine tSk <| tQ <| tBk <| tQ <| tG <| sm 1 rfl <| cV rfl (iSq rfl rfl rfl uT23 hi tS51 rfl (by rfl)) <| cV rfl (lEA rfl rfl Tryz.underlying51 rfl tS51 (lb rfl)) <| cE rfl (aLc (k := 105) rfl tZ51 rfl rfl rfl rfl) <| sm 1 rfl <| c0 (sBA rfl rfl rfl rfl rfl ((fun h => h)) tS51 (flk rfl) (lb rfl)) <| nL ?_
   refine tQ <| Tr.freezeBox (t := 5) (k := 105) rfl rfl rfl <| Tr.heap (σ' := look []) (fun k => by simp only [look]; cases Nat.beq 105 k <;> rfl) <| tG <| cV rfl (lEA rfl rfl uT25 rfl tS25 (lb rfl)) <| cV rfl (lEA rfl rfl Tryz.underlying51 rfl tS51 (lb rfl)) <| cE rfl (ocq (y5g u x (z9h hg) (z9h hg x hm) (zo3 hW hm)) ent38 rfl rfl) <| sm 1 rfl <| nL ?_
   refine tC rfl (fun hc20 => ?_) fun hc20 => ?_
   ·refine tQ <| tG <| sm 3 rfl <| nL <| tRt <| rOk rfl ?_ nPo
    have hx : z8g u x = false := by simpa using hc20
    simp only [z3z, hg, if_true, hI1, hd, z6z, hx, Bool.false_eq_true, if_false]
   refine tSk <| tG <| cV rfl (oB rfl rfl (z0b rfl oM0)) <| sm 1 rfl <| nL ?_
   refine ⟨_, _, ?_, Sub.of (fr' := [(12, iInt (k + 1)), (11, iInt u.flows.length), (10, .pv (flws u.flows)), (1, .pv (.ept [arrs u.arrays, flws u.flows] 0))]) ⟨rfl, rfl, rfl, rfl, trivial⟩, (k + 1), ?_, ?_, rfl, rfl, rfl⟩
   ·omega
   ·omega
   rw [hI1, hd]
   have hx : z8g u x = true := by simpa using hc20
   simp only [z6z, hx, if_true]
   rfl
  refine tEx <| tQ <| tG <| sm 2 rfl <| nL <| tRt <| rOk rfl ?_ nPo
  have hge : u.flows.length <= k := by simpa using hc13
  simp only [z3z, hg, if_true, hI1, List.drop_eq_nil_of_le hge, z6z]
def inR (n : Nat) (ds : List Int) : Prop := ∀ v ∈ ds, 0 <= v /\ v < n
def Frs (set : List Bool) (ds : List Int) : Prop := ds.Nodup /\ ∀ v ∈ ds, set.getD v.toNat false = false
def z2j (set : List Bool) (ds : List Int) : List Bool := ds.foldl (fun s v => s.set v.toNat true) set
theorem z3d : ∀ (ds : List Int) (set : List Bool), (z2j set ds).length = set.length
  | [], _ => rfl
  | v :: r, set => by have := z3d r (set.set v.toNat true); simpa [z2j] using this
theorem z7k (set : List Bool) (a b : List Int) : z2j set (a ++ b) = z2j (z2j set a) b := by simp [z2j]
theorem zf9 {n : Nat} : ∀ (ds : List Int) (set : List Bool), set.length = n -> inR n ds -> ∀ v : Int, 0 <= v -> v < n -> (z2j set ds).getD v.toNat false = (ds.contains v || set.getD v.toNat false)
  | [], set, _, _, v, _, _ => by simp [z2j]
  | d :: r, set, hn, hr, v, h0, h1 => by
    have ih := zf9 r (set.set d.toNat true) (by simpa using hn) (fun v hv => hr v (.tail _ hv)) v h0 h1
    obtain ⟨d0, d1⟩ := hr d (.head _)
    show (z2j (set.set d.toNat true) r).getD v.toNat false = _
    rw [ih, z8z, List.contains_cons]
    by_cases e : v = d
    ·subst e
     rw [if_pos ⟨rfl, by omega⟩]; simp
    have e2 : ¬ (d.toNat = v.toNat /\ d.toNat < set.length) := by omega
    have e3 : (v == d) = false := by simpa using e
    rw [if_neg e2, e3, Bool.false_or]
theorem zf3 {n : Nat} {set : List Bool} {a b : List Int} (hn : set.length = n) (ha : inR n a) (hb : inR n b) : Frs set (a ++ b) ↔ Frs set a /\ Frs (z2j set a) b := by
  unfold Frs
  rw [List.nodup_append]
  constructor
  ·rintro ⟨⟨h1, h2, h3⟩, h4⟩
   refine ⟨⟨h1, fun v hv => h4 v (by simp [hv])⟩, h2, fun v hv => ?_⟩
   rw [zf9 a set hn ha v (hb v hv).1 (hb v hv).2, h4 v (by simp [hv])]
   have : a.contains v = false := by
     rw [<- Bool.not_eq_true, List.contains_iff_mem]
     exact fun hm => h3 v hm v hv rfl
   rw [this]; rfl
  rintro ⟨⟨h1, h2⟩, h3, h4⟩
  have hkey : ∀ v ∈ b, a.contains v = false /\ set.getD v.toNat false = false := fun v hv => by
    have := h4 v hv
    rw [zf9 a set hn ha v (hb v hv).1 (hb v hv).2, Bool.or_eq_false_iff] at this
    exact this
  refine ⟨⟨h1, h3, fun x hx y hy e => ?_⟩, fun v hv => ?_⟩
  ·subst e
   have := (hkey x hy).1
   rw [<- Bool.not_eq_true, List.contains_iff_mem] at this
   exact this hx
  rcases List.mem_append.1 hv with hv | hv
  ·exact h2 v hv
  exact (hkey v hv).2
def z1x (tys : List Int) : List Int -> List Int -> Bool
  | [], [] => true
  | v :: r, w :: ws => z46 tys v w && z1x tys r ws
  | _, _ => false
theorem z3x {tys : List Int} : ∀ {l want : List Int}, z1x tys l want = true -> inR tys.length l
  | [], [], _ => fun v hv => by simp at hv
  | [], _ :: _, h => by simp [z1x] at h
  | _ :: _, [], h => by simp [z1x] at h
  | x :: r, w :: ws, h => by
    simp only [z1x, Bool.and_eq_true, z46, decide_eq_true_eq] at h
    intro v hv
    rcases List.mem_cons.1 hv with rfl | hv
    ·exact ⟨h.1.1.1, h.1.1.2⟩
    exact z3x h.2 v hv
theorem zy0 {tys : List Int} : ∀ {l want : List Int}, z1x tys l want = true -> l.length = want.length
  | [], [], _ => rfl
  | [], _ :: _, h => by simp [z1x] at h
  | _ :: _, [], h => by simp [z1x] at h
  | x :: r, w :: ws, h => by
    simp only [z1x, Bool.and_eq_true] at h
    simp [zy0 h.2]
theorem y39 (tys : List Int) (set : List Bool) (v w : Int) : z79 tys set v w = false ↔ z46 tys v w = true /\ set.getD v.toNat false = false := by
  unfold z79 z46
  simp only [Bool.or_eq_false_iff, decide_eq_false_iff_not, Bool.and_eq_true, decide_eq_true_eq, Bool.or_eq_true]
  constructor
  ·rintro ⟨⟨⟨h1, h2⟩, h3⟩, h4⟩
   refine ⟨⟨⟨by omega, by omega⟩, ?_⟩, h3⟩
   cases hw : (w == 0) with
   | true => exact .inl rfl
   | false => exact .inr (by simpa [bne, hw] using h4)
  rintro ⟨⟨⟨h1, h2⟩, h4⟩, h3⟩
  refine ⟨⟨⟨by omega, by omega⟩, h3⟩, ?_⟩
  rcases h4 with h4 | h4
  ·simp [bne, h4]
  rw [show (tys.getD v.toNat 0 != w) = false from by rw [bne, h4]; rfl, Bool.and_false]
theorem zn4 (tys : List Int) : ∀ (l want : List Int) (set : List Bool), l.length = want.length -> set.length = tys.length ->
    ((z1o tys set l want).1 = true ↔ z1x tys l want = true /\ Frs set l) /\ ((z1o tys set l want).1 = true -> (z1o tys set l want).2 = z2j set l)
  | [], [], set, _, _ => by simp [z1o, z1x, Frs, z2j]
  | [], _ :: _, _, h, _ => by simp at h
  | _ :: _, [], _, h, _ => by simp at h
  | x :: r, w :: ws, set, hl, hn => by
    obtain ⟨ih1, ih2⟩ := zn4 tys r ws (set.set x.toNat true) (by simpa using hl) (by simpa using hn)
    simp only [z1o]
    cases hb : z79 tys set x w with
    | true =>
      simp only [if_true, Bool.false_eq_true, false_iff, not_and, false_implies, and_true]
      intro h1 h2
      simp only [z1x, Bool.and_eq_true] at h1
      have := (y39 tys set x w).2 ⟨h1.1, h2.2 x (.head _)⟩
      rw [hb] at this; cases this
    | false =>
      obtain ⟨b1, b2⟩ := (y39 tys set x w).1 hb
      simp only [Bool.false_eq_true, if_false]
      refine ⟨?_, fun h => ih2 h⟩
      rw [ih1]
      simp only [z1x, b1, Bool.true_and]
      refine and_congr_right fun hv => ?_
      have hx : inR tys.length [x] := fun v hv => by
        obtain rfl := List.mem_singleton.1 hv
        simp only [z46, Bool.and_eq_true, decide_eq_true_eq] at b1
        exact ⟨b1.1.1, b1.1.2⟩
      have := zf3 (a := [x]) (b := r) hn hx (z3x hv)
      rw [show x :: r = [x] ++ r from rfl, this]
      exact ⟨fun h => ⟨⟨by simp, fun v hv => by obtain rfl := List.mem_singleton.1 hv; exact b2⟩, h⟩, fun h => h.2⟩
theorem zq3 (tys : List Int) (set : List Bool) (l want : List Int) (hn : set.length = tys.length) :
    ((z0p tys set l want).1 = true ↔ z1x tys l want = true /\ Frs set l) /\ ((z0p tys set l want).1 = true -> (z0p tys set l want).2 = z2j set l) := by
  unfold z0p
  by_cases hl : l.length = want.length
  ·have e : ((l.length : Int) == want.length) = true := by simp; omega
   rw [if_pos e]
   exact zn4 tys l want set hl hn
  have e : ¬ ((l.length : Int) == want.length) = true := by simp; omega
  rw [if_neg e]
  refine ⟨⟨fun h => (by cases h), fun h => absurd (zy0 h.1) hl⟩, fun h => by cases h⟩
structure SForm where
  b : Bool
  want : Option (List Int)
def SForm.run (s : SForm) (tys : List Int) (outs : List Int) (set : List Bool) : Bool × List Bool := match s.want with
  | some wt => andS s.b set (z0p tys set outs wt)
  | none => (s.b && (outs.length : Int) == 0, set)
def SForm.ok (s : SForm) (tys : List Int) (outs : List Int) : Bool := match s.want with
  | some wt => s.b && z1x tys outs wt
  | none => s.b && (outs.length : Int) == 0
def z3u (u : Un) (f : Fl) (x : Nd) (seen : List Int) (w : Wh) : SForm :=
  if x.kind == 1 then ⟨z07 f.types seen x.args [], some [1]⟩
  else if x.kind == 2 then ⟨(x.n == 0 || x.n == 1) && z07 f.types seen x.args [], some [2]⟩
  else if x.kind == 3 then ⟨z2h x.op && z07 f.types seen x.args [(z08 x.op).1], some [(z08 x.op).2]⟩
  else if x.kind == 4 then ⟨z2m x.op && z07 f.types seen x.args [(z08 x.op).1, (z08 x.op).1] && f.types.getD (x.args.getD 0 0).toNat 0 == f.types.getD (x.args.getD 1 0).toNat 0, some [(z08 x.op).2]⟩
  else if x.kind == 5 then ⟨decide (z1j x.name u.arrays 0 ≥ 0) && z07 f.types seen x.args [1], some [1]⟩
  else if x.kind == 6 then ⟨decide (z1j x.name u.arrays 0 ≥ 0) && z07 f.types seen x.args [1, 1], none⟩
  else if x.kind == 7 then (if decide (z0a x.name u.flows 0 ≥ 0) = true then match u.flows[(z0a x.name u.flows 0).toNat]? with
      | some g => ⟨z07 f.types seen x.args (g.types.take g.params.toNat), some [g.ty]⟩
      | none => ⟨false, none⟩
    else ⟨false, none⟩)
  else if x.kind == 8 then ⟨(x.args.length : Int) == 0, some [1]⟩
  else if x.kind == 9 then ⟨z07 f.types seen x.args [1], none⟩
  else if x.kind == 12 then ⟨w.If && z07 f.types seen x.args w.Yield, none⟩
  else if x.kind == 13 then ⟨w.Loop && z07 f.types seen x.args w.Next, none⟩
  else if x.kind == 14 then ⟨w.Loop && z07 f.types seen x.args w.Left, none⟩
  else if x.kind == 15 then ⟨z07 f.types seen x.args [f.ty], none⟩
  else ⟨false, none⟩
theorem y0h (u : Un) (f : Fl) (set : List Bool) (x : Nd) (seen : List Int) (w : Wh) : z02 u f set x seen w = (z3u u f x seen w).run f.types x.outs set := by
  unfold z02 z3u z0r
  by_cases k1 : (x.kind == 1) = true
  ·rw [if_pos k1, if_pos k1]; rfl
  rw [if_neg k1, if_neg k1]
  by_cases k2 : (x.kind == 2) = true
  ·rw [if_pos k2, if_pos k2]; rfl
  rw [if_neg k2, if_neg k2]
  by_cases k3 : (x.kind == 3) = true
  ·rw [if_pos k3, if_pos k3]; rfl
  rw [if_neg k3, if_neg k3]
  by_cases k4 : (x.kind == 4) = true
  ·rw [if_pos k4, if_pos k4]; rfl
  rw [if_neg k4, if_neg k4]
  by_cases k5 : (x.kind == 5) = true
  ·rw [if_pos k5, if_pos k5]; rfl
  rw [if_neg k5, if_neg k5]
  by_cases k6 : (x.kind == 6) = true
  ·rw [if_pos k6, if_pos k6]; rfl
  rw [if_neg k6, if_neg k6]
  by_cases k7 : (x.kind == 7) = true
  ·rw [if_pos k7, if_pos k7]
   by_cases hp : decide (z0a x.name u.flows 0 ≥ 0) = true
   ·rw [if_pos hp, if_pos hp]
    cases u.flows[(z0a x.name u.flows 0).toNat]? with
    | none => rfl
    | some g => rfl
   rw [if_neg hp, if_neg hp]; rfl
  rw [if_neg k7, if_neg k7]
  by_cases k8 : (x.kind == 8) = true
  ·rw [if_pos k8, if_pos k8]; rfl
  rw [if_neg k8, if_neg k8]
  by_cases k9 : (x.kind == 9) = true
  ·rw [if_pos k9, if_pos k9]; rfl
  rw [if_neg k9, if_neg k9]
  by_cases k12 : (x.kind == 12) = true
  ·rw [if_pos k12, if_pos k12]; rfl
  rw [if_neg k12, if_neg k12]
  by_cases k13 : (x.kind == 13) = true
  ·rw [if_pos k13, if_pos k13]; rfl
  rw [if_neg k13, if_neg k13]
  by_cases k14 : (x.kind == 14) = true
  ·rw [if_pos k14, if_pos k14]; rfl
  rw [if_neg k14, if_neg k14]
  by_cases k15 : (x.kind == 15) = true
  ·rw [if_pos k15, if_pos k15]; rfl
  rw [if_neg k15, if_neg k15]
  rfl
theorem run_iff {tys outs : List Int} {set : List Bool} (s : SForm) (hn : set.length = tys.length) : ((s.run tys outs set).1 = true ↔ s.ok tys outs = true /\ Frs set outs) /\ ((s.run tys outs set).1 = true -> (s.run tys outs set).2 = z2j set outs) := by
  obtain ⟨b, want⟩ := s
  cases want with
  | some wt =>
    obtain ⟨h1, h2⟩ := zq3 tys set outs wt hn
    simp only [SForm.run, SForm.ok, andS]
    cases b with
    | false => simp
    | true => simp only [if_true, Bool.true_and]; exact ⟨h1, h2⟩
  | none =>
    simp only [SForm.run, SForm.ok]
    constructor
    ·constructor
     ·intro h
      refine ⟨h, ?_⟩
      simp only [Bool.and_eq_true, beq_iff_eq] at h
      have : outs = [] := List.eq_nil_of_length_eq_zero oM0
      subst this
      exact ⟨by simp, fun v hv => by simp at hv⟩
     exact fun h => h.1
    intro h
    simp only [Bool.and_eq_true, beq_iff_eq] at h
    have : outs = [] := List.eq_nil_of_length_eq_zero oM0
    subst this
    rfl
theorem ok_in {tys outs : List Int} {s : SForm} (h : s.ok tys outs = true) : inR tys.length outs := by
  obtain ⟨b, want⟩ := s
  cases want with
  | some wt => simp only [SForm.ok, Bool.and_eq_true] at h; exact z3x h.2
  | none =>
    simp only [SForm.ok, Bool.and_eq_true, beq_iff_eq] at h
    have : outs = [] := List.eq_nil_of_length_eq_zero oM0
    subst this
    exact fun v hv => by simp at hv
mutual
def dN : Nd -> List Int
  | .mk _ _ _ _ _ outs params ks => params ++ (dK ks ++ outs)
def dL : List Nd -> List Int
  | [] => []
  | x :: r => dN x ++ dL r
def dK : List (List Nd) -> List Int
  | [] => []
  | l :: r => dL l ++ dK r
end
theorem y1m (x : Nd) : dN x = x.params ++ (dK x.kids ++ x.outs) := by cases x; simp [dN, Nd.params, Nd.kids, Nd.outs]
def zer (l : List Int) : List Int := List.replicate l.length 0
def w1 (w : Wh) (f : Fl) (x : Nd) : Wh := ⟨true, w.Loop, r8of f.types x.outs, w.Next, w.Left⟩
def w2 (f : Fl) (x : Nd) : Wh := ⟨false, true, [], r8of f.types x.params, r8of f.types x.outs⟩
def za0 (x : Nd) : Bool := (x.outs.length : Int) == 0 || !z09 x
mutual
def z4n (u : Un) (f : Fl) (deep : Int) (w : Wh) (seen : List Int) : Nd -> Bool
  | .mk kind op n name args outs params kids =>
    z0k (.mk kind op n name args outs params kids) &&
    (if kind == 10 then
      match kids with
      | a :: b :: _ => z07 f.types seen args [2] && (!a.isEmpty && vGo u f (deep + 1) (w1 w f (.mk kind op n name args outs params kids)) seen a) && (!b.isEmpty && vGo u f (deep + 1) (w1 w f (.mk kind op n name args outs params kids)) seen b) &&
          za0 (.mk kind op n name args outs params kids) && z1x f.types outs (zer outs)
      | _ => false
    else if kind == 11 then
      match kids with
      | a :: _ => z07 f.types seen args (r8of f.types params) && z1x f.types params (zer params) && (!a.isEmpty && vGo u f (deep + 1) (w2 f (.mk kind op n name args outs params kids)) (seen ++ params) a) &&
          za0 (.mk kind op n name args outs params kids) && z1x f.types outs (zer outs)
      | _ => false
    else (z3u u f (.mk kind op n name args outs params kids) seen w).ok f.types outs)
def vGo (u : Un) (f : Fl) (deep : Int) (w : Wh) (all : List Int) : List Nd -> Bool
  | [] => true
  | x :: r => !decide (deep > 100) && z4n u f deep w all x && (z09 x == r.isEmpty) && vGo u f deep w (all ++ x.outs) r
end
def z43 (u : Un) (f : Fl) (deep : Int) (w : Wh) (all : List Int) (l : List Nd) : Bool := !l.isEmpty && vGo u f deep w all l
theorem z62 (u : Un) (f : Fl) (deep : Int) (w : Wh) (seen : List Int) {x : Nd} {a b : List Nd} (h : z0k x = true) (hk : x.kind = 10) (hx : x.kids = [a, b]) :
    z4n u f deep w seen x = (z07 f.types seen x.args [2] && z43 u f (deep + 1) (w1 w f x) seen a && z43 u f (deep + 1) (w1 w f x) seen b && za0 x && z1x f.types x.outs (zer x.outs)) := by
  cases x
  simp only [Nd.kind, Nd.kids] at hk hx
  subst hk hx
  unfold z4n
  simp only [h, Bool.true_and, Nd.args, Nd.outs]
  rfl
theorem z4o (u : Un) (f : Fl) (deep : Int) (w : Wh) (seen : List Int) {x : Nd} {a : List Nd} (h : z0k x = true) (hk : x.kind = 11) (hx : x.kids = [a]) :
    z4n u f deep w seen x = (z07 f.types seen x.args (r8of f.types x.params) && z1x f.types x.params (zer x.params) && z43 u f (deep + 1) (w2 f x) (seen ++ x.params) a && za0 x && z1x f.types x.outs (zer x.outs)) := by
  cases x
  simp only [Nd.kind, Nd.kids] at hk hx
  subst hk hx
  unfold z4n
  simp only [h, Bool.true_and, Nd.args, Nd.outs, Nd.params]
  rfl
theorem z2l (u : Un) (f : Fl) (deep : Int) (w : Wh) (seen : List Int) {x : Nd} (h : z0k x = true) (h1 : (x.kind == 10) = false) (h2 : (x.kind == 11) = false) :
    z4n u f deep w seen x = (z3u u f x seen w).ok f.types x.outs := by
  cases x
  simp only [Nd.kind] at h1 h2
  unfold z4n
  simp only [h, Bool.true_and, Nd.outs, h1, h2, Bool.false_eq_true, if_false]
theorem z6j (u : Un) (f : Fl) (deep : Int) (w : Wh) (seen : List Int) {x : Nd} (h : z4n u f deep w seen x = true) : z0k x = true := by
  cases x
  unfold z4n at h
  simp only [Bool.and_eq_true] at h
  exact h.1
theorem ze3 {x : Nd} (h : z0k x = true) (hk : (x.kind == 11) = false) : x.params = [] := by
  simp only [z0k, Bool.and_eq_true, hk, Bool.false_or, beq_iff_eq] at h
  exact List.eq_nil_of_length_eq_zero oM0
theorem z7w {x : Nd} (h : z0k x = true) (h1 : (x.kind == 10) = false) (h2 : (x.kind == 11) = false) : x.kids = [] := by
  have := z8n h
  simp only [r8kn, h1, h2, Bool.false_eq_true, if_false] at this
  exact List.eq_nil_of_length_eq_zero oM0
theorem zr9 {x : Nd} (h : z0k x = true) (h1 : (x.kind == 10) = false) (h2 : (x.kind == 11) = false) : dN x = x.outs := by
  rw [y1m, ze3 h h2, z7w h h1 h2]; rfl
theorem dN_if {x : Nd} {a b : List Nd} (h : z0k x = true) (hk : x.kind = 10) (hx : x.kids = [a, b]) : dN x = dL a ++ (dL b ++ x.outs) := by
  rw [y1m, ze3 h (by rw [hk]; rfl), hx]; simp [dK]
theorem y3k {x : Nd} {a : List Nd} (hx : x.kids = [a]) : dN x = x.params ++ (dL a ++ x.outs) := by
  rw [y1m, hx]; simp [dK]
theorem z9t {n : Nat} {a b : List Int} : inR n (a ++ b) ↔ inR n a /\ inR n b :=
  ⟨fun h => ⟨fun v hv => h v (by simp [hv]), fun v hv => h v (by simp [hv])⟩, fun h v hv => (List.mem_append.1 hv).elim (h.1 v) (h.2 v)⟩
theorem zd0 {n : Nat} {set : List Bool} {a b d : List Int} (hn : set.length = n) (ha : inR n a) (hb : inR n b) (hd : inR n d) : Frs set (a ++ (b ++ d)) ↔ Frs set a /\ Frs (z2j set a) b /\ Frs (z2j (z2j set a) b) d := by
  rw [zf3 hn ha (z9t.2 ⟨hb, hd⟩), zf3 ((z3d a set).trans hn) hb hd]
def RG (u : Un) (f : Fl) (l : List Nd) : Prop := ∀ (deep : Int) (w : Wh) (all : List Int), vGo u f deep w all l = true -> inR f.types.length (dL l)
theorem zz5 (u : Un) (f : Fl) (x : Nd) (ih : ∀ q ∈ x.kids, RG u f q) (deep : Int) (w : Wh) (seen : List Int) (h : z4n u f deep w seen x = true) : inR f.types.length (dN x) := by
  have hb := z6j u f deep w seen h
  by_cases h10 : x.kind = 10
  ·obtain ⟨a, b, hk⟩ := z3t hb h10
   rw [z62 u f deep w seen hb h10 hk] at h
   simp only [Bool.and_eq_true, z43] at h
   rw [dN_if hb h10 hk]
   exact z9t.2 ⟨ih a (by rw [hk]; simp) _ _ _ h.1.1.1.2.2, z9t.2 ⟨ih b (by rw [hk]; simp) _ _ _ h.1.1.2.2, z3x h.2⟩⟩
  by_cases h11 : x.kind = 11
  ·obtain ⟨a, hk⟩ := z2n hb h11
   rw [z4o u f deep w seen hb h11 hk] at h
   simp only [Bool.and_eq_true, z43] at h
   rw [y3k hk]
   exact z9t.2 ⟨z3x h.1.1.1.2, z9t.2 ⟨ih a (by rw [hk]; simp) _ _ _ h.1.1.2.2, z3x h.2⟩⟩
  have e10 : (x.kind == 10) = false := by simpa using h10
  have e11 : (x.kind == 11) = false := by simpa using h11
  rw [z2l u f deep w seen hb e10 e11] at h
  rw [zr9 hb e10 e11]
  exact ok_in h
theorem go_in (u : Un) (f : Fl) : ∀ (l : List Nd), (∀ x ∈ l, ∀ q ∈ x.kids, RG u f q) -> RG u f l
  | [], _ => fun _ _ _ _ v hv => by simp [dL] at hv
  | x :: r, ih => fun deep w all h => by
    simp only [vGo, Bool.and_eq_true] at h
    exact z9t.2 ⟨zz5 u f x (ih x (.head _)) _ _ _ h.1.1.2, go_in u f r (fun y hy => ih y (.tail _ hy)) _ _ _ h.2⟩
theorem rg_all (u : Un) (f : Fl) : ∀ (N : Nat) (l : List Nd), SizeOf.sizeOf l < N -> RG u f l
  | 0, _, h => absurd h (Nat.not_lt_zero _)
  | N + 1, l, hN => go_in u f l fun x hx q hq => rg_all u f N q (Nat.lt_of_lt_of_le (z7j hx rfl hq) (Nat.le_of_lt_succ hN))
theorem rg (u : Un) (f : Fl) (l : List Nd) : RG u f l := rg_all u f _ l (Nat.lt_succ_self _)
def CH (u : Un) (f : Fl) (l : List Nd) : Prop := ∀ (deep : Int) (w : Wh) (seen : List Int) (set : List Bool), set.length = f.types.length ->
  ((z0l u f deep w seen set l).1 = true ↔ z43 u f deep w seen l = true /\ Frs set (dL l)) /\ ((z0l u f deep w seen set l).1 = true -> (z0l u f deep w seen set l).2 = z2j set (dL l))
theorem z3v {q : Bool × List Bool} {k : List Bool -> Bool × List Bool} : ((andT q k).1 = true ↔ q.1 = true /\ (k q.2).1 = true) /\ ((andT q k).1 = true -> (andT q k).2 = (k q.2).2) := by
  unfold andT
  cases q.1 with
  | false => simp
  | true => simp
theorem y3m (f : Fl) (x : Nd) (set : List Bool) (hn : set.length = f.types.length) : ((z1c f x set).1 = true ↔ (za0 x = true /\ z1x f.types x.outs (zer x.outs) = true) /\ Frs set x.outs) /\ ((z1c f x set).1 = true -> (z1c f x set).2 = z2j set x.outs) := by
  obtain ⟨h1, h2⟩ := zq3 f.types set x.outs (zer x.outs) hn
  unfold z1c andS
  show ((if za0 x = true then _ else _ : Bool × List Bool).1 = true ↔ _) /\ _
  by_cases ho : za0 x = true
  ·simp only [ho, if_true, true_and]
   exact ⟨h1, fun h => by
     have ho2 : ((x.outs.length : Int) == 0 || !z09 x) = true := ho
     rw [if_pos ho2] at h ⊢
     exact h2 h⟩
  have ho2 : ¬ ((x.outs.length : Int) == 0 || !z09 x) = true := ho
  rw [if_neg ho, if_neg ho2]
  simp [ho]
theorem node_iff (u : Un) (f : Fl) (x : Nd) (ih : ∀ q ∈ x.kids, CH u f q) (deep : Int) (w : Wh) (seen : List Int) (set : List Bool) (hn : set.length = f.types.length) :
    ((z14 u f deep w seen set x).1 = true ↔ z4n u f deep w seen x = true /\ Frs set (dN x)) /\ ((z14 u f deep w seen set x).1 = true -> (z14 u f deep w seen set x).2 = z2j set (dN x)) := by
  cases hb : z0k x with
  | false =>
    rw [z8o _ _ _ _ _ _ hb]
    refine ⟨⟨fun h => (by cases h), fun h => ?_⟩, fun h => by cases h⟩
    have := z6j u f deep w seen h.1
    rw [hb] at this; cases this
  | true =>
    by_cases h10 : x.kind = 10
    ·obtain ⟨a, b, hk⟩ := z3t hb h10
     rw [z16 _ _ _ _ _ _ hb h10 hk, z62 u f deep w seen hb h10 hk, dN_if hb h10 hk, show (⟨true, w.Loop, r8of f.types x.outs, w.Next, w.Left⟩ : Wh) = w1 w f x from rfl]
     by_cases ht : z07 f.types seen x.args [2] = true
     ·rw [if_pos ht]
      obtain ⟨a1, a2⟩ := ih a (by rw [hk]; simp) (deep + 1) (w1 w f x) seen set hn
      have hna : (z2j set (dL a)).length = f.types.length := (z3d _ _).trans hn
      obtain ⟨b1, b2⟩ := ih b (by rw [hk]; simp) (deep + 1) (w1 w f x) seen (z2j set (dL a)) hna
      have hnb : (z2j (z2j set (dL a)) (dL b)).length = f.types.length := (z3d _ _).trans hna
      obtain ⟨e1, e2⟩ := y3m f x (z2j (z2j set (dL a)) (dL b)) hnb
      have key : (andT (z0l u f (deep + 1) (w1 w f x) seen set a) (fun s1 => andT (z0l u f (deep + 1) (w1 w f x) seen s1 b) fun s2 => z1c f x s2)).1 = true ↔
          (z0l u f (deep + 1) (w1 w f x) seen set a).1 = true /\ (z0l u f (deep + 1) (w1 w f x) seen (z2j set (dL a)) b).1 = true /\ (z1c f x (z2j (z2j set (dL a)) (dL b))).1 = true := by
        rw [z3v.1]
        refine and_congr_right fun h => ?_
        rw [a2 h, z3v.1]
        exact and_congr_right fun h2 => by rw [b2 h2]
      refine ⟨?_, fun h => ?_⟩
      ·rw [key, a1, b1, e1]
       simp only [ht, Bool.true_and, Bool.and_eq_true]
       constructor
       ·rintro ⟨⟨c1, c2⟩, ⟨c3, c4⟩, ⟨c5, c6⟩, c7⟩
        have ra := rg u f a _ _ _ (by simp only [z43, Bool.and_eq_true] at c1; exact c1.2)
        have rb := rg u f b _ _ _ (by simp only [z43, Bool.and_eq_true] at c3; exact c3.2)
        exact ⟨⟨⟨⟨c1, c3⟩, c5⟩, c6⟩, (zd0 hn ra rb (z3x c6)).2 ⟨c2, c4, c7⟩⟩
       rintro ⟨⟨⟨⟨c1, c3⟩, c5⟩, c6⟩, c7⟩
       have ra := rg u f a _ _ _ (by simp only [z43, Bool.and_eq_true] at c1; exact c1.2)
       have rb := rg u f b _ _ _ (by simp only [z43, Bool.and_eq_true] at c3; exact c3.2)
       obtain ⟨d1, d2, d3⟩ := (zd0 hn ra rb (z3x c6)).1 c7
       exact ⟨⟨c1, d1⟩, ⟨c3, d2⟩, ⟨c5, c6⟩, d3⟩
      obtain ⟨k1, k2, k3⟩ := key.1 h
      have h' := (z3v.1.1 h).2
      rw [z3v.2 h, a2 k1]
      rw [a2 k1] at h'
      rw [z3v.2 h', b2 k2, e2 k3, z7k, z7k]
     rw [if_neg ht]
     refine ⟨⟨fun h => (by cases h), fun h => ?_⟩, fun h => by cases h⟩
     simp only [Bool.and_eq_true] at h
     exact absurd h.1.1.1.1.1 ht
    by_cases h11 : x.kind = 11
    ·obtain ⟨a, hk⟩ := z2n hb h11
     rw [z0e _ _ _ _ _ _ hb h11 hk, z4o u f deep w seen hb h11 hk, y3k hk, show (⟨false, true, [], r8of f.types x.params, r8of f.types x.outs⟩ : Wh) = w2 f x from rfl, show List.replicate x.params.length 0 = zer x.params from rfl]
     by_cases ht : z07 f.types seen x.args (r8of f.types x.params) = true
     ·rw [if_pos ht]
      obtain ⟨a1, a2⟩ := zq3 f.types set x.params (zer x.params) hn
      have hna : (z2j set x.params).length = f.types.length := (z3d _ _).trans hn
      obtain ⟨b1, b2⟩ := ih a (by rw [hk]; simp) (deep + 1) (w2 f x) (seen ++ x.params) (z2j set x.params) hna
      have hnb : (z2j (z2j set x.params) (dL a)).length = f.types.length := (z3d _ _).trans hna
      obtain ⟨e1, e2⟩ := y3m f x (z2j (z2j set x.params) (dL a)) hnb
      have key : (andT (z0p f.types set x.params (zer x.params)) (fun s1 => andT (z0l u f (deep + 1) (w2 f x) (seen ++ x.params) s1 a) fun s2 => z1c f x s2)).1 = true ↔
          (z0p f.types set x.params (zer x.params)).1 = true /\ (z0l u f (deep + 1) (w2 f x) (seen ++ x.params) (z2j set x.params) a).1 = true /\ (z1c f x (z2j (z2j set x.params) (dL a))).1 = true := by
        rw [z3v.1]
        refine and_congr_right fun h => ?_
        rw [a2 h, z3v.1]
        exact and_congr_right fun h2 => by rw [b2 h2]
      refine ⟨?_, fun h => ?_⟩
      ·rw [key, a1, b1, e1]
       simp only [ht, Bool.true_and, Bool.and_eq_true]
       constructor
       ·rintro ⟨⟨c1, c2⟩, ⟨c3, c4⟩, ⟨c5, c6⟩, c7⟩
        have rb := rg u f a _ _ _ (by simp only [z43, Bool.and_eq_true] at c3; exact c3.2)
        exact ⟨⟨⟨⟨c1, c3⟩, c5⟩, c6⟩, (zd0 hn (z3x c1) rb (z3x c6)).2 ⟨c2, c4, c7⟩⟩
       rintro ⟨⟨⟨⟨c1, c3⟩, c5⟩, c6⟩, c7⟩
       have rb := rg u f a _ _ _ (by simp only [z43, Bool.and_eq_true] at c3; exact c3.2)
       obtain ⟨d1, d2, d3⟩ := (zd0 hn (z3x c1) rb (z3x c6)).1 c7
       exact ⟨⟨c1, d1⟩, ⟨c3, d2⟩, ⟨c5, c6⟩, d3⟩
      obtain ⟨k1, k2, k3⟩ := key.1 h
      have h' := (z3v.1.1 h).2
      rw [z3v.2 h, a2 k1]
      rw [a2 k1] at h'
      rw [z3v.2 h', b2 k2, e2 k3, z7k, z7k]
     rw [if_neg ht]
     refine ⟨⟨fun h => (by cases h), fun h => ?_⟩, fun h => by cases h⟩
     simp only [Bool.and_eq_true] at h
     exact absurd h.1.1.1.1.1 ht
    have e10 : (x.kind == 10) = false := by simpa using h10
    have e11 : (x.kind == 11) = false := by simpa using h11
    rw [z6v _ _ _ _ _ _ hb e10 e11, z2l u f deep w seen hb e10 e11, zr9 hb e10 e11, y0h]
    exact run_iff _ hn
theorem go_iff (u : Un) (f : Fl) (deep : Int) (w : Wh) : ∀ (l : List Nd), (∀ x ∈ l, ∀ q ∈ x.kids, CH u f q) -> ∀ (all : List Int) (set : List Bool), set.length = f.types.length ->
    ((r8go u f deep w all set l).1 = true ↔ vGo u f deep w all l = true /\ Frs set (dL l)) /\ ((r8go u f deep w all set l).1 = true -> (r8go u f deep w all set l).2 = z2j set (dL l))
  | [], _, all, set, _ => by simp [r8go, vGo, dL, Frs, z2j]
  | x :: r, ih, all, set, hn => by
    obtain ⟨n1, n2⟩ := node_iff u f x (ih x (.head _)) deep w all set hn
    have hm : (z2j set (dN x)).length = f.types.length := (z3d _ _).trans hn
    obtain ⟨r1, r2⟩ := go_iff u f deep w r (fun y hy => ih y (.tail _ hy)) (all ++ x.outs) (z2j set (dN x)) hm
    unfold r8go vGo
    by_cases hd : deep > 100
    ·rw [if_pos hd]
     simp [hd]
    rw [if_neg hd]
    have hdb : (!decide (deep > 100)) = true := by simpa using hd
    by_cases hc : (z09 x != r.isEmpty) = true
    ·have hcb : (z09 x == r.isEmpty) = false := by
       cases hcc : (z09 x == r.isEmpty) with
       | false => rfl
       | true => simp [bne, hcc] at hc
     simp only [if_pos hc, hcb, Bool.and_false, Bool.false_and, Bool.false_eq_true, false_and, iff_false, Bool.not_eq_true]
     have : (andT (z14 u f deep w all set x) fun s1 => (false, s1)).1 = false := by
       unfold andT; split <;> rfl
     exact ⟨this, fun h => by rw [this] at h; cases h⟩
    have hcb : (z09 x == r.isEmpty) = true := by
      cases hcc : (z09 x == r.isEmpty) with
      | true => rfl
      | false => simp [bne, hcc] at hc
    simp only [if_neg hc, hcb, hdb, Bool.true_and, Bool.and_true, Bool.and_eq_true]
    have key : (andT (z14 u f deep w all set x) fun s1 => r8go u f deep w (all ++ x.outs) s1 r).1 = true ↔ (z14 u f deep w all set x).1 = true /\ (r8go u f deep w (all ++ x.outs) (z2j set (dN x)) r).1 = true := by
      rw [z3v.1]
      exact and_congr_right fun h => by rw [n2 h]
    refine ⟨?_, fun h => ?_⟩
    ·rw [key, n1, r1]
     constructor
     ·rintro ⟨⟨c1, c2⟩, c3, c4⟩
      exact ⟨⟨c1, c3⟩, (zf3 hn (zz5 u f x (fun q _ => rg u f q) _ _ _ c1) (rg u f r _ _ _ c3)).2 ⟨c2, c4⟩⟩
     rintro ⟨⟨c1, c3⟩, c4⟩
     obtain ⟨d1, d2⟩ := (zf3 hn (zz5 u f x (fun q _ => rg u f q) _ _ _ c1) (rg u f r _ _ _ c3)).1 c4
     exact ⟨⟨c1, d1⟩, c3, d2⟩
    obtain ⟨k1, k2⟩ := key.1 h
    rw [z3v.2 h, n2 k1, r2 k2]
    show _ = z2j set (dN x ++ dL r)
    rw [z7k]
theorem ch_all (u : Un) (f : Fl) : ∀ (N : Nat) (l : List Nd), SizeOf.sizeOf l < N -> CH u f l
  | 0, _, h => absurd h (Nat.not_lt_zero _)
  | N + 1, l, hN => by
    intro deep w seen set hn
    obtain ⟨h1, h2⟩ := go_iff u f deep w l (fun x hx q hq => ch_all u f N q (Nat.lt_of_lt_of_le (z7j hx rfl hq) (Nat.le_of_lt_succ hN))) seen set hn
    unfold z0l ne z43
    cases l with
    | nil => simp
    | cons x r => simpa using ⟨h1, h2⟩
theorem z83 (u : Un) (f : Fl) (l : List Nd) (deep : Int) (w : Wh) (seen : List Int) (set : List Bool) (hn : set.length = f.types.length) : (z0l u f deep w seen set l).1 = true ↔ z43 u f deep w seen l = true /\ Frs set (dL l) :=
  (ch_all u f _ l (Nat.lt_succ_self _) deep w seen set hn).1
theorem dL_app : ∀ (a b : List Nd), dL (a ++ b) = dL a ++ dL b
  | [], _ => rfl
  | x :: r, b => by simp only [List.cons_append, dL, dL_app r b, List.append_assoc]
theorem zm4 : ∀ (a b : List Nd), z0y (a ++ b) = (z0y a || z0y b)
  | [], b => by simp [z0y]
  | x :: r, b => by simp only [List.cons_append, z0y, zm4 r b, Bool.or_assoc]
theorem zy4 {kind op n : Int} {name : ByteArray} {args outs params : List Int} {ks ks' : List (List Nd)} (h : ks'.length = ks.length) : z0k (.mk kind op n name args outs params ks') = z0k (.mk kind op n name args outs params ks) := by
  unfold z0k r8op z1t z12 r8kn
  simp only [Nd.kind, Nd.op, Nd.n, Nd.name, Nd.kids, Nd.params]
  rw [h]
  rfl
theorem zs9 (u : Un) : ∀ (l : List Fl) (i : Int), (z4a u l i).1 = 0 ↔ ∀ f ∈ l, z2v u f = true
  | [], _ => by simp [z4a]
  | f :: r, i => by
    unfold z4a
    cases h : z2v u f with
    | false => simp [h]
    | true => simp [h, zs9 u r (i + 1)]
theorem zl7 (u : Un) : ∀ (l : List Fl) (i : Int), (∀ f ∈ l, z2v u f = true) -> z4a u l i = (0, 0)
  | [], _, _ => rfl
  | f :: r, i, h => by
    unfold z4a
    rw [if_pos (h f (.head _))]
    exact zl7 u r (i + 1) fun g hg => h g (.tail _ hg)
theorem z7e (u : Un) : (z2i u).1 = 0 ↔ z0z u = true /\ ∀ f ∈ u.flows, z2v u f = true := by
  unfold z2i
  cases h : z0z u with
  | false => simp
  | true => simp [zs9]
theorem z8v : ∀ (a b : List Nd), wtL (a ++ b) = wtL a + wtL b
  | [], b => by simp [wtL]
  | x :: r, b => by simp only [List.cons_append, wtL, z8v r b]; omega
section
def z49 (B : List Nd -> List Nd) (f : Fl) : Fl := ⟨f.name, f.ty, f.params, f.types, B f.body⟩
def z3q (B : List Nd -> List Nd) (u : Un) : Un := ⟨u.arrays, u.flows.map (z49 B)⟩
def z3r (B : List Nd -> List Nd) (u : Un) : Un × Int := if (z3z u).1 == 0 then (z3q B u, 0) else (⟨[], []⟩, 1)
section
variable (B : List Nd -> List Nd)
theorem zg7 (name : ByteArray) : ∀ (l : List Fl) (i : Int), z0a name (l.map (z49 B)) i = z0a name l i
  | [], _ => rfl
  | f :: r, i => by
    have ih := zg7 name r (i + 1)
    unfold z0a
    rw [List.map_cons]
    simp only [ih]
    rfl
theorem sForm_m (u : Un) (f : Fl) (x : Nd) (s : List Int) (w : Wh) : z3u (z3q B u) (z49 B f) x s w = z3u u f x s w := by
  unfold z3u
  simp only [z3q, z49, zg7, List.getElem?_map]
  cases u.flows[(z0a x.name u.flows 0).toNat]? with
  | none => rfl
  | some g => rfl
mutual
theorem vNode_m (u : Un) (f : Fl) : ∀ (x : Nd) (deep : Int) (w : Wh) (s : List Int), z4n (z3q B u) (z49 B f) deep w s x = z4n u f deep w s x
  | .mk kind op n name args outs params ks, deep, w, s => by
    unfold z4n
    rw [sForm_m]
    match ks with
    | [] => rfl
    | [a] =>
      have h1 := y32 u f a (deep + 1) (w2 f (.mk kind op n name args outs params [a])) (s ++ params)
      simp only [show w2 (z49 B f) (.mk kind op n name args outs params [a]) = w2 f (.mk kind op n name args outs params [a]) from rfl, h1]
      rfl
    | a :: b :: r =>
      have h1 := y32 u f a (deep + 1) (w2 f (.mk kind op n name args outs params (a :: b :: r))) (s ++ params)
      have h2 := y32 u f a (deep + 1) (w1 w f (.mk kind op n name args outs params (a :: b :: r))) s
      have h3 := y32 u f b (deep + 1) (w1 w f (.mk kind op n name args outs params (a :: b :: r))) s
      simp only [show w2 (z49 B f) (.mk kind op n name args outs params (a :: b :: r)) = w2 f (.mk kind op n name args outs params (a :: b :: r)) from rfl, show w1 w (z49 B f) (.mk kind op n name args outs params (a :: b :: r)) = w1 w f (.mk kind op n name args outs params (a :: b :: r)) from rfl, h1, h2, h3]
      rfl
theorem y32 (u : Un) (f : Fl) : ∀ (l : List Nd) (deep : Int) (w : Wh) (s : List Int), vGo (z3q B u) (z49 B f) deep w s l = vGo u f deep w s l
  | [], _, _, _ => by simp [vGo]
  | x :: r, deep, w, s => by
    unfold vGo
    rw [vNode_m u f x, y32 u f r]
end
def zb4 (u : Un) (f : Fl) (l : List Nd) : Prop := z43 u f 1 z21 (iota f.params.toNat) l = true /\ Frs (z2u f.params.toNat f.types.length) (dL l)
theorem z8k {u : Un} {f : Fl} (h : z2v u f = true) : f.params.toNat <= f.types.length := by
  unfold z2v at h
  simp only [Bool.and_eq_true] at h
  have a1 := h.1.1.1.1.1
  have a2 := h.1.1.1.2
  simp only [Bool.not_eq_true', decide_eq_false_iff_not] at a1 a2
  omega
theorem zs8 {u : Un} {f : Fl} (h : z2v u f = true) : zb4 u f f.body := by
  have hn : (z2u f.params.toNat f.types.length).length = f.types.length := z2x (z8k h)
  unfold z2v at h
  simp only [Bool.and_eq_true] at h
  have h2 := h.2
  rw [z83 u f f.body 1 z21 _ _ hn] at h2
  exact h2
theorem flow_m {u : Un} {f : Fl} (h : z2v u f = true) (hB : zb4 u f f.body -> zb4 u f (B f.body)) : z2v (z3q B u) (z49 B f) = true := by
  have hb := hB (zs8 h)
  have hn : (z2u f.params.toNat f.types.length).length = f.types.length := z2x (z8k h)
  unfold z2v at h ⊢
  simp only [Bool.and_eq_true] at h ⊢
  refine ⟨h.1, ?_⟩
  show (z0l (z3q B u) (z49 B f) 1 z21 (iota f.params.toNat) (z2u f.params.toNat f.types.length) (B f.body)).1 = true
  rw [z83 (z3q B u) (z49 B f) (B f.body) 1 z21 _ _ hn]
  have hv := hb.1
  simp only [z43, Bool.and_eq_true] at hv ⊢
  exact ⟨⟨hv.1, by rw [y32]; exact hv.2⟩, hb.2⟩
theorem gA_m (u : Un) : ∀ (l : List Ar) (i : Int), r8gA (z3q B u) l i = r8gA u l i
  | [], _ => rfl
  | a :: r, i => by
    have h1 : gArr (z3q B u) a i = gArr u a i := by simp only [gArr, z3q, zg7]
    simp only [r8gA, gA_m u r, h1]
theorem gF_m (u : Un) : ∀ (l : List Fl) (i : Int), r8gF (z3q B u) (l.map (z49 B)) i = r8gF u l i
  | [], _ => rfl
  | a :: r, i => by
    have h1 : gFlw (z3q B u) (z49 B a) i = gFlw u a i := by
      simp only [gFlw, z3q, zg7]
      rfl
    simp only [List.map_cons, r8gF, gF_m u r, h1]
theorem zm1 (l : List Fl) (k : Nat) : ((l.map (z49 B)).getD k zs7).ty = (l.getD k zs7).ty /\ ((l.map (z49 B)).getD k zs7).params = (l.getD k zs7).params := by
  simp only [List.getD_eq_getElem?_getD, List.getElem?_map]
  cases l[k]? with
  | none => exact ⟨rfl, rfl⟩
  | some g => exact ⟨rfl, rfl⟩
theorem y42 (u : Un) : z0z (z3q B u) = z0z u := by
  unfold z0z
  rw [show (z3q B u).arrays = u.arrays from rfl, show (z3q B u).flows = u.flows.map (z49 B) from rfl, gA_m, gF_m]
  unfold z76
  rw [show (z3q B u).flows = u.flows.map (z49 B) from rfl, zg7, (zm1 B _ _).1, (zm1 B _ _).2]
theorem check_m {u : Un} (h : (z2i u).1 = 0) (hB : ∀ f ∈ u.flows, zb4 u f f.body -> zb4 u f (B f.body)) : z2i (z3q B u) = (0, 0) := by
  obtain ⟨h1, h2⟩ := (z7e u).1 h
  unfold z2i
  rw [y42, h1, if_pos rfl]
  refine zl7 (z3q B u) _ 0 fun g hg => ?_
  obtain ⟨f, hf, rfl⟩ := List.mem_map.1 hg
  exact flow_m B (h2 f hf) (hB f hf)
theorem y3e {u : Un} (h : (z2i u).1 = 0) : ∀ f ∈ u.flows, zb4 u f f.body := fun f hf => zs8 (((z7e u).1 h).2 f hf)
theorem wtF_m (hw : ∀ l, z4c (B l) <= z4c l) : ∀ l : List Fl, wtF (l.map (z49 B)) <= wtF l
  | [] => Nat.le_refl _
  | f :: r => by
    have h1 := hw f.body
    have h2 := wtF_m hw r
    simp only [List.map_cons, wtF, z49] at h2 ⊢
    omega
theorem weight_m (hw : ∀ l, z4c (B l) <= z4c l) (u : Un) : z20 (z3q B u) <= z20 u := by
  have := wtF_m B hw u.flows
  unfold z20
  rw [show (z3q B u).flows = u.flows.map (z49 B) from rfl, List.length_map, show (z3q B u).arrays = u.arrays from rfl]
  omega
theorem zn0 {u : Un} (h : (z2i u).1 ≠ 0) : z3r B u = (⟨[], []⟩, 1) := by
  have : ((z3z u).1 == 0) = false := by rw [z6h]; simpa using h
  simp [z3r, this]
theorem z4l {u : Un} (h : (z2i u).1 = 0) : z3r B u = (z3q B u, 0) := by
  have : ((z3z u).1 == 0) = true := by rw [z6h]; simpa using h
  simp [z3r, this]
theorem z9b (hw : ∀ l, z4c (B l) <= z4c l) (u : Un) : z20 (z3r B u).1 <= z20 u := by
  unfold z3r
  split
  ·exact weight_m B hw u
  simp [z20, wtA, wtF]
end
end
section
section
variable {α β : Type} [DecidableEq α]
def aGet (k : α) : List (α × β) -> Option β
  | [] => none
  | (a, b) :: r => if k = a then some b else aGet k r
def aPut (k : α) (v : β) : List (α × β) -> List (α × β)
  | [] => [(k, v)]
  | (a, b) :: r => if k = a then (k, v) :: r else (a, b) :: aPut k v r
theorem z7v (j k : α) (v : β) : ∀ es : List (α × β), aGet j (aPut k v es) = if j = k then some v else aGet j es
  | [] => by simp [aPut, aGet]
  | (a, b) :: r => by
    have ih := z7v j k v r
    unfold aPut
    by_cases h : k = a
    ·subst h
     rw [if_pos rfl]
     unfold aGet
     by_cases h2 : j = k
     ·rw [if_pos h2, if_pos h2]
     rw [if_neg h2, if_neg h2, if_neg h2]
    rw [if_neg h]
    unfold aGet
    rw [ih]
    by_cases h2 : j = a
    ·subst h2
     rw [if_pos rfl, if_neg (fun e => h e.symm), if_pos rfl]
    rw [if_neg h2, if_neg h2]
theorem y0q {k : α} {v : β} {e : α × β} : ∀ {es : List (α × β)}, e ∈ aPut k v es -> e = (k, v) ∨ e ∈ es
  | [], h => by simp [aPut] at h; exact .inl h
  | (a, b) :: r, h => by
    unfold aPut at h
    split at h
    ·rcases List.mem_cons.1 h with h | h
     ·exact .inl h
     exact .inr (.tail _ h)
    rcases List.mem_cons.1 h with h | h
    ·exact .inr (h ▸ .head _)
    exact (y0q h).imp id (.tail _)
theorem y0p {k : α} {v : β} : ∀ {es : List (α × β)}, aGet k es = some v -> (k, v) ∈ es
  | [], h => by simp [aGet] at h
  | (a, b) :: r, h => by
    unfold aGet at h
    split at h
    ·rename_i e; subst e; cases h; exact .head _
    exact .tail _ (y0p h)
end
structure Ky where
  kind : Int
  op : Int
  n : Int
  a : Int
  b : Int
  deriving DecidableEq
abbrev TT := List (Int × Int)
structure Tb where
  seen : List (Ky × Int)
  nums : TT
def z29 (to : TT) (v : Int) : Int := (aGet v to).getD v
def z5s (op : Int) : Bool := op == 1 || op == 3 || op == 6 || op == 7 || op == 8 || op == 16 || op == 17
def z4m (x : Nd) : Ky :=
  if x.kind == 3 then ⟨x.kind, x.op, x.n, x.args.getD 0 0, 0⟩
  else if x.kind == 4 then (if z5s x.op && decide (x.args.getD 0 0 > x.args.getD 1 0) then ⟨x.kind, x.op, x.n, x.args.getD 1 0, x.args.getD 0 0⟩ else ⟨x.kind, x.op, x.n, x.args.getD 0 0, x.args.getD 1 0⟩)
  else ⟨x.kind, x.op, x.n, 0, 0⟩
def z3m (op n : Int) : Bool :=
  if op == 1 || op == 2 || op == 7 || op == 8 || op == 9 || op == 10 || op == 11 then n == 0
  else if op == 3 || op == 4 then n == 1
  else if op == 6 then n == -1 else false
def y2w (nums : TT) (v : Int) (q : Int -> Bool) : Bool := match aGet v nums with
  | some m => q m
  | none => false
def z33 (nums : TT) (x : Nd) : Option Int :=
  if x.kind != 4 then none
  else if y2w nums (x.args.getD 1 0) (z3m x.op) then some (x.args.getD 0 0)
  else if y2w nums (x.args.getD 0 0) (fun m => z5s x.op && z3m x.op m) then some (x.args.getD 1 0)
  else none
def z24 (tb : Tb) (to : TT) (x : Nd) : Bool × Tb × TT := match z33 tb.nums x with
  | some y => (false, tb, aPut (x.outs.headD 0) y to)
  | none => match aGet (z4m x) tb.seen with
    | some y => (false, tb, aPut (x.outs.headD 0) y to)
    | none => (true, ⟨aPut (z4m x) (x.outs.headD 0) tb.seen, if x.kind == 1 then aPut (x.outs.headD 0) x.n tb.nums else tb.nums⟩, to)
def stK (kind : Int) : Bool := kind == 1 || kind == 2 || kind == 3 || kind == 4
mutual
def z05 (tb : Tb) (to : TT) : Nd -> List Nd × Tb × TT
  | .mk kind op n name args outs params ks =>
    if stK kind then
      (if (z24 tb (z0o tb to ks).2 (.mk kind op n name (args.map (z29 to)) outs params (z0o tb to ks).1)).1 then [.mk kind op n name (args.map (z29 to)) outs params (z0o tb to ks).1] else [],
        (z24 tb (z0o tb to ks).2 (.mk kind op n name (args.map (z29 to)) outs params (z0o tb to ks).1)).2)
    else ([.mk kind op n name (args.map (z29 to)) outs params (z0o tb to ks).1], tb, (z0o tb to ks).2)
def z0s (tb : Tb) (to : TT) : List Nd -> List Nd × Tb × TT
  | [] => ([], tb, to)
  | x :: r => ((z05 tb to x).1 ++ (z0s (z05 tb to x).2.1 (z05 tb to x).2.2 r).1, (z0s (z05 tb to x).2.1 (z05 tb to x).2.2 r).2)
def z0o (tb : Tb) (to : TT) : List (List Nd) -> List (List Nd) × TT
  | [] => ([], to)
  | l :: r => ((z0s tb to l).1 :: (z0o tb (z0s tb to l).2.2 r).1, (z0o tb (z0s tb to l).2.2 r).2)
end
def z13 (tb : Tb) (to : TT) (x : Nd) : Nd := .mk x.kind x.op x.n x.name (x.args.map (z29 to)) x.outs x.params (z0o tb to x.kids).1
theorem z5q (tb : Tb) (to : TT) (x : Nd) : z05 tb to x =
    if stK x.kind then (if (z24 tb (z0o tb to x.kids).2 (z13 tb to x)).1 then [z13 tb to x] else [], (z24 tb (z0o tb to x.kids).2 (z13 tb to x)).2)
    else ([z13 tb to x], tb, (z0o tb to x.kids).2) := by
  cases x; simp only [z05, z13, Nd.kind, Nd.op, Nd.n, Nd.name, Nd.args, Nd.outs, Nd.params, Nd.kids]; rfl
def stB (l : List Nd) : List Nd := (z0s ⟨[], []⟩ [] l).1
mutual
def zl0 : Nd -> Bool
  | .mk kind _ _ _ args outs _ ks => (!stK kind || !outs.isEmpty) && (kind != 3 || decide (1 <= args.length)) && (kind != 4 || decide (2 <= args.length)) && zj8 ks
def zb1 : List Nd -> Bool
  | [] => true
  | x :: r => zl0 x && zb1 r
def zj8 : List (List Nd) -> Bool
  | [] => true
  | l :: r => zb1 l && zj8 r
end
theorem y1i (x : Nd) : zl0 x = ((!stK x.kind || !x.outs.isEmpty) && (x.kind != 3 || decide (1 <= x.args.length)) && (x.kind != 4 || decide (2 <= x.args.length)) && zj8 x.kids) := by
  cases x; simp only [zl0, Nd.kind, Nd.args, Nd.outs, Nd.kids]; rfl
theorem zx7 : ∀ {l : List Nd} {x : Nd}, zb1 l = true -> x ∈ l -> zl0 x = true
  | y :: r, x, hh, hx => by
    simp only [zb1, Bool.and_eq_true] at hh
    rcases List.mem_cons.1 hx with rfl | hx
    ·exact hh.1
    exact zx7 hh.2 hx
theorem zx6 : ∀ {l : List (List Nd)} {x : List Nd}, zj8 l = true -> x ∈ l -> zb1 x = true
  | y :: r, x, hh, hx => by
    simp only [zj8, Bool.and_eq_true] at hh
    rcases List.mem_cons.1 hx with rfl | hx
    ·exact hh.1
    exact zx6 hh.2 hx
theorem zn9 (tb : Tb) (to : TT) (x : Nd) : (z05 tb to x).1.length <= 1 := by
  rw [z5q]
  split
  ·dsimp only
   split <;> simp
  simp
theorem z88 : ∀ (l : List Nd) (tb : Tb) (to : TT), (z0s tb to l).1.length <= l.length
  | [], _, _ => by simp [z0s]
  | x :: r, tb, to => by
    have h1 := zn9 tb to x
    have h2 := z88 r (z05 tb to x).2.1 (z05 tb to x).2.2
    simp only [z0s, List.length_append, List.length_cons]
    omega
mutual
theorem y6c : ∀ (x : Nd) (tb : Tb) (to : TT), wtL (z05 tb to x).1 <= wtN x
  | .mk kind op n name args outs params ks, tb, to => by
    have hk := zy1 ks tb to
    unfold z05
    split
    ·dsimp only
     split
     ·simp only [wtL, wtN, List.length_map]; omega
     simp [wtL]
    simp only [wtL, wtN, List.length_map]; omega
theorem zk3 : ∀ (l : List Nd) (tb : Tb) (to : TT), wtL (z0s tb to l).1 <= wtL l
  | [], _, _ => by simp [z0s]
  | x :: r, tb, to => by
    have h1 := y6c x tb to
    have h2 := zk3 r (z05 tb to x).2.1 (z05 tb to x).2.2
    simp only [z0s, z8v, wtL]
    omega
theorem zy1 : ∀ (ks : List (List Nd)) (tb : Tb) (to : TT), wtK (z0o tb to ks).1 <= wtK ks
  | [], _, _ => by simp [z0o]
  | l :: r, tb, to => by
    have h1 := zk3 l tb to
    have h2 := zy1 r tb (z0s tb to l).2.2
    have h3 := z88 l tb to
    simp only [z0o, wtK]
    omega
end
theorem zm5 (l : List Nd) : z4c (stB l) <= z4c l := by
  have h1 := zk3 l ⟨[], []⟩ []
  have h2 := z88 l ⟨[], []⟩ []
  unfold z4c stB
  omega
theorem zn7 : ∀ (ks : List (List Nd)) (tb : Tb) (to : TT), (z0o tb to ks).1.length = ks.length
  | [], _, _ => by simp [z0o]
  | l :: r, tb, to => by simp [z0o, zn7 r]
mutual
theorem y2x : ∀ (x : Nd) (tb : Tb) (to : TT), List.Sublist (dL (z05 tb to x).1) (dN x)
  | .mk kind op n name args outs params ks, tb, to => by
    have hk := zn8 ks tb to
    have h1 : List.Sublist (params ++ (dK (z0o tb to ks).1 ++ outs)) (params ++ (dK ks ++ outs)) := (List.Sublist.refl _).append (hk.append (List.Sublist.refl _))
    unfold z05
    split
    ·dsimp only
     split
     ·simpa [dL, dN] using h1
     simp [dL]
    simpa [dL, dN] using h1
theorem za9 : ∀ (l : List Nd) (tb : Tb) (to : TT), List.Sublist (dL (z0s tb to l).1) (dL l)
  | [], _, _ => by simp [z0s, dL]
  | x :: r, tb, to => by
    simp only [z0s, dL_app, dL]
    exact (y2x x tb to).append (za9 r _ _)
theorem zn8 : ∀ (ks : List (List Nd)) (tb : Tb) (to : TT), List.Sublist (dK (z0o tb to ks).1) (dK ks)
  | [], _, _ => by simp [z0o, dK]
  | l :: r, tb, to => by
    simp only [z0o, dK]
    exact (za9 l tb to).append (zn8 r tb _)
end
mutual
theorem zq6 : ∀ (x : Nd) (tb : Tb) (to : TT), z0y (z05 tb to x).1 = z2s x
  | .mk kind op n name args outs params ks, tb, to => by
    have hk := z9k ks tb to
    unfold z05
    by_cases hK : stK kind = true
    ·have h14 : (kind == 14) = false := by
       simp only [stK, Bool.or_eq_true, beq_iff_eq] at hK; simp; omega
     have h10 : (kind == 10) = false := by
       simp only [stK, Bool.or_eq_true, beq_iff_eq] at hK; simp; omega
     rw [if_pos hK]
     dsimp only
     split <;> simp [z0y, z2s, h14, h10]
    rw [if_neg hK]
    simp [z0y, z2s, hk]
theorem z57 : ∀ (l : List Nd) (tb : Tb) (to : TT), z0y (z0s tb to l).1 = z0y l
  | [], _, _ => by simp [z0s]
  | x :: r, tb, to => by
    simp only [z0s, zm4, z0y, zq6 x tb to, z57 r]
theorem z9k : ∀ (ks : List (List Nd)) (tb : Tb) (to : TT), z2d (z0o tb to ks).1 = z2d ks
  | [], _, _ => by simp [z0o]
  | l :: r, tb, to => by
    simp only [z0o, z2d, z57 l tb to, z9k r]
end
theorem zb0 (tb : Tb) (to : TT) (x : Nd) (h : stK x.kind = false) : z05 tb to x = ([z13 tb to x], tb, (z0o tb to x.kids).2) := by
  rw [z5q, h]; rfl
theorem z8j {x : Nd} (h : z09 x = true) : stK x.kind = false := by
  cases hK : stK x.kind with
  | false => rfl
  | true =>
    simp only [stK, Bool.or_eq_true, beq_iff_eq] at hK
    have h10 : (x.kind == 10) = false := by simp; omega
    have h11 : (x.kind == 11) = false := by simp; omega
    unfold z09 at h
    simp only [h10, h11, Bool.false_and, Bool.false_eq_true, if_false] at h
    rcases hK with ((e | e) | e) | e <;> (rw [e] at h; simp [z1b] at h)
theorem last_app {A B : List Nd} (h : B ≠ []) : (A ++ B).getLast? = B.getLast? := by
  rw [List.getLast?_append]
  cases hb : B.getLast? with
  | none => exact absurd (List.getLast?_eq_none_iff.1 hb) h
  | some z => rfl
theorem z40 {u : Un} {f : Fl} {deep : Int} {w : Wh} : ∀ {l : List Nd} {all : List Int} (tb : Tb) (to : TT), vGo u f deep w all l = true -> l ≠ [] -> (z0s tb to l).1 ≠ [] /\ z4b (z0s tb to l).1 = z4b l
  | [], _, _, _, _, h => absurd rfl h
  | [x], all, tb, to, hv, _ => by
    simp only [vGo, Bool.and_eq_true, beq_iff_eq, List.isEmpty_nil] at hv
    rw [show (z0s tb to [x]).1 = (z05 tb to x).1 by simp [z0s], zb0 tb to x (z8j hv.1.2)]
    exact ⟨by simp, by cases x; rfl⟩
  | x :: y :: r, all, tb, to, hv, _ => by
    unfold vGo at hv
    simp only [Bool.and_eq_true] at hv
    obtain ⟨i1, i2⟩ := z40 (l := y :: r) (z05 tb to x).2.1 (z05 tb to x).2.2 hv.2 sI0
    have e : (z0s tb to (x :: y :: r)).1 = (z05 tb to x).1 ++ (z0s (z05 tb to x).2.1 (z05 tb to x).2.2 (y :: r)).1 := by rw [z0s]
    rw [e]
    refine ⟨fun h => i1 (List.append_eq_nil_iff.1 h).2, ?_⟩
    unfold z4b at i2 ⊢
    rw [last_app i1, i2]
    simp [List.getLast?_cons_cons]
end
section
variable {P : Program} {c : Cx} {R1 : Nat -> Prop} {o : Oper} {fr : Fr} {hp : Hp} {σ : Heap'} {Q : Exit -> Fr -> Heap' -> Prop}
theorem Names.one {Q : Nat -> Prop} {x : IV} (h : Names Q x) : ∃ k, Q k /\ Names (· = k) x := by
  induction h with
  | ptr h => exact ⟨_, h, .ptr rfl⟩
  | sl h => exact ⟨_, h, .sl rfl⟩
  | rpt h => exact ⟨_, h, .rpt rfl⟩
  | mp h => exact ⟨_, h, .mp rfl⟩
  | agg hc _ ih => obtain ⟨k, h1, h2⟩ := ih; exact ⟨k, h1, .agg hc h2⟩
  | tup hc _ ih => obtain ⟨k, h1, h2⟩ := ih; exact ⟨k, h1, .tup hc h2⟩
  | fn1 hc _ ih => obtain ⟨k, h1, h2⟩ := ih; exact ⟨k, h1, .fn1 hc h2⟩
  | fn2 hc _ ih => obtain ⟨k, h1, h2⟩ := ih; exact ⟨k, h1, .fn2 hc h2⟩
theorem mem2 {p : Nat -> Prop} {a b : Nat} (ha : p a) (hb : p b) : ∀ k ∈ [a, b], p k := fun k hk => by
  rcases List.mem_cons.1 hk with rfl | hk
  ·exact ha
  obtain rfl := List.mem_singleton.1 hk; exact hb
open Classical in
theorem SC.stepN {ns : List Nat} {f : FuncId} {args : List IV} {pre post : List (Nat × HO)} {R : Nat -> Prop} {r : IV} {hp : Hp} {ρ : Loc} {w : World} {a : Act} {vs : List Value} (hsc : SC P f args pre R r post)
    (h : All c ρ (look hp) w fr a) (hargs : RepL c.F ρ (look hp) w args vs) (hpre : ∀ k o, look (up pre) k = some o -> look hp k = some o) (hdom : post.map (·.1) = ns ++ pre.map (·.1)) (hσ0 : ∀ k ∈ ns, look hp k = none) (hc0 : ∀ k ∈ ns, c.σ k = none) (hfr0 : ∀ k ∈ ns, nmFr k fr = false) (hhp0 : ∀ k ∈ ns, nmHp k hp = false)
    (hR : ∀ k, c.R k -> look (up pre) k = none ∨ R k) (hr : only (post.map (·.1)) r = true) (hpost : z34 (post.map (·.1)) post = true) :
    Calls P f vs.toArray w fun e w' => ∃ ρ' v, e = .returned v /\ All c ρ' (look (up post ++ hp)) w' fr a /\ RepI c.F ρ' (look (up post ++ hp)) w' r v := by
  have hd : ∀ k, look (up post) k = none ↔ look (up pre) k = none /\ k ∉ ns := fun k => by
    rw [z1u, z1u, hdom, List.mem_append, not_or]
    exact And.comm
  have hpp : ∀ k, look (up post) k ≠ none -> look hp k ≠ none -> look (up pre) k ≠ none := fun k e e1 e2 => by
    by_cases e3 : k ∈ ns
    ·exact e1 (hσ0 k e3)
    exact e ((hd k).2 ⟨e2, e3⟩)
  let ρ1 : Loc := fun k => if look (up pre) k = none then none else ρ k
  let F1 : Nat -> Prop := fun b => c.F b ∨ ∃ k cc, ρ k = some (b, cc) /\ look (up pre) k = none
  have h1in : ∀ k, look (up pre) k ≠ none -> ρ1 k = ρ k := fun k hk => if_neg hk
  have h1out : ∀ k, look (up pre) k = none -> ρ1 k = none := fun k hk => if_pos hk
  have h1 : ∀ k l, ρ1 k = some l -> look (up pre) k ≠ none /\ ρ k = some l := fun k l hk => by
    by_cases e : look (up pre) k = none
    ·rw [h1out k e] at hk; cases hk
    exact ⟨e, (h1in k e) ▸ hk⟩
  have hown1 : ∀ b, owned F1 ρ1 b -> owned c.F ρ b := fun b hb => by
    rcases hb with (hb | ⟨k, cc, hk, _⟩) | ⟨k, cc, hk⟩
    ·exact .inl hb
    ·exact .inr ⟨k, cc, hk⟩
    exact .inr ⟨k, cc, (h1 k _ hk).2⟩
  have hconv : ∀ x : IV, ¬ Names (fun k => ¬ ∀ o, look (up pre) k = some o -> look hp k = some o /\ ρ1 k = ρ k) x := fun x hx => by
    obtain ⟨k, hk⟩ := hx.some
    exact hk fun o ho => ⟨hpre k o ho, h1in k (by simp [ho])⟩
  have hrel1 : RelH F1 ρ1 (look (up pre)) w := by
    refine ⟨fun k k' b cc cc' hk hk' => h.rel.inj k k' b cc cc' (h1 _ _ hk).2 (h1 _ _ hk').2, fun k b cc hk hb => ?_, fun b hb => ?_, fun k b cc hk => ?_, fun k o hk hρ => ?_⟩
    ·rcases hb with hb | ⟨k', cc', hk', hn⟩
     ·exact h.rel.apart k b cc (h1 _ _ hk).2 hb
     obtain rfl := h.rel.inj _ _ _ _ _ (h1 _ _ hk).2 hk'
     exact (h1 _ _ hk).1 hn
    ·rcases hb with hb | ⟨k', cc', hk', _⟩
     ·exact h.rel.old b hb
     exact h.rel.lt hk'
    ·obtain ⟨hne, hk2⟩ := h1 _ _ hk
     obtain ⟨o1, ho1, ho2⟩ := h.rel.obj k b cc hk2
     cases hl : look (up pre) k with
     | none => exact absurd hl hne
     | some o2 =>
       rw [hpre k o2 hl] at ho1; cases ho1
       exact ⟨_, rfl, ho2.conv hown1 fun x _ => hconv x⟩
    rw [h1in k (by simp [hk])] at hρ
    exact h.rel.real k o (hpre k o hk) hρ
  refine (hsc F1 ρ1 w vs hrel1 ⟨hargs.1, fun j x hj => ?_⟩).mono ?_
  ·obtain ⟨v, hv, hx⟩ := hargs.2 j x hj
   exact ⟨v, hv, hx.conv hown1 (hconv x)⟩
  rintro e w' ⟨ρ2, v, rfl, hv, hrel2, t⟩
  let ρ' : Loc := fun k => if look (up post) k = none then ρ k else ρ2 k
  have h2in : ∀ k, look (up post) k ≠ none -> ρ' k = ρ2 k := fun k hk => if_neg hk
  have h2out : ∀ k, look (up post) k = none -> ρ' k = ρ k := fun k hk => if_pos hk
  have h2none : ∀ k, look (up post) k = none -> ρ2 k = none := fun k hk => by
    cases h3 : ρ2 k with
    | none => rfl
    | some l =>
      obtain ⟨o1, ho1, _⟩ := hrel2.obj k l.1 l.2 h3
      rw [hk] at ho1; cases ho1
  have hσin : ∀ k, look (up post) k ≠ none -> look (up post ++ hp) k = look (up post) k := fun k hk => by
    rw [z2c]
    cases h3 : look (up post) k with
    | none => exact absurd h3 hk
    | some o => rfl
  have hσout : ∀ k, look (up post) k = none -> look (up post ++ hp) k = look hp k := fun k hk => by
    rw [z2c, hk]; rfl
  have hown2 : ∀ b, owned c.F ρ' b -> owned F1 ρ2 b := fun b hb => by
    rcases hb with hb | ⟨k, cc, hk⟩
    ·exact .inl (.inl hb)
    by_cases e : look (up post) k = none
    ·rw [h2out k e] at hk; exact .inl (.inr ⟨k, cc, hk, ((hd k).1 e).1⟩)
    rw [h2in k e] at hk; exact .inr ⟨k, cc, hk⟩
  have hconv2 : ∀ x : IV, only (post.map (·.1)) x = true -> ¬ Names (fun k => ¬ ∀ o, look (up post ++ hp) k = some o -> look (up post) k = some o /\ ρ' k = ρ2 k) x := fun x hx hn => by
    refine z9z hx (hn.imp fun k hk hmem => hk fun o ho => ?_)
    have hne : look (up post) k ≠ none := fun e => (z1u.1 e) hmem
    rw [hσin k hne] at ho
    exact ⟨ho, h2in k hne⟩
  have T : Trans c.F (fun k => look (up pre) k = none ∨ R k) ρ (look hp) w ρ' (look (up post ++ hp)) w' := by
    refine ⟨t.os, t.tape, t.output, t.size, fun b hb hall => t.blk b hb fun k cc hk => ?_, fun k b cc hk hb => ?_, fun k cs cs' e1 e2 => ?_, fun k cs cs' e1 e2 => ?_, fun k s s' els els' e1 e2 hl => ?_, fun k s s' els els' e1 e2 => ?_, fun k cs' e2 => ?_, fun k cs' e2 => ?_, fun k s els' e2 => ?_⟩
    ·obtain ⟨hne, hk2⟩ := h1 _ _ hk
     exact (hall k cc hk2).resolve_left hne
    ·by_cases e : look (up post) k = none
     ·rwa [h2out k e] at hk
     rw [h2in k e] at hk; exact (h1 _ _ (t.own k b cc hk hb)).2
    all_goals by_cases e : look (up post) k = none
    ·exact h2out k e
    ·cases h3 : look (up pre) k with
     | none => exact absurd h3 (hpp k e (by simp [e1]))
     | some o =>
       rw [hpre k o h3] at e1; cases e1
       rw [hσin k e] at e2
       rw [h2in k e, t.box k _ _ h3 e2, h1in k (by simp [h3])]
    ·exact h2out k e
    ·cases h3 : look (up pre) k with
     | none => exact absurd h3 (hpp k e (by simp [e1]))
     | some o =>
       rw [hpre k o h3] at e1; cases e1
       rw [hσin k e] at e2
       rw [h2in k e, t.map k _ _ h3 e2, h1in k (by simp [h3])]
    ·exact h2out k e
    ·cases h3 : look (up pre) k with
     | none => exact absurd h3 (hpp k e (by simp [e1]))
     | some o =>
       rw [hpre k o h3] at e1; cases e1
       rw [hσin k e] at e2
       rw [h2in k e, t.row k _ _ _ _ h3 e2 hl, h1in k (by simp [h3])]
    ·rw [hσout k e, e1] at e2; cases e2; exact Nat.le_refl _
    ·cases h3 : look (up pre) k with
     | none => exact absurd h3 (hpp k e (by simp [e1]))
     | some o =>
       rw [hpre k o h3] at e1; cases e1
       rw [hσin k e] at e2
       exact t.grow k _ _ _ _ h3 e2
    ·rw [hσout k e] at e2; exact .inr ⟨_, e2⟩
    ·rw [hσin k e] at e2
     rcases t.kindB k _ e2 with h3 | ⟨cs, h3⟩
     ·by_cases e3 : k ∈ ns
      ·exact .inl (hσ0 k e3)
      exact absurd ((hd k).2 ⟨h3, e3⟩) e
     exact .inr ⟨cs, hpre k _ h3⟩
    ·rw [hσout k e] at e2; exact .inr ⟨_, e2⟩
    ·rw [hσin k e] at e2
     rcases t.kindM k _ e2 with h3 | ⟨cs, h3⟩
     ·by_cases e3 : k ∈ ns
      ·exact .inl (hσ0 k e3)
      exact absurd ((hd k).2 ⟨h3, e3⟩) e
     exact .inr ⟨cs, hpre k _ h3⟩
    ·rw [hσout k e] at e2; exact .inr ⟨_, e2⟩
    rw [hσin k e] at e2
    rcases t.kindR k _ _ e2 with h3 | ⟨cs, h3⟩
    ·by_cases e3 : k ∈ ns
     ·exact .inl (hσ0 k e3)
     exact absurd ((hd k).2 ⟨h3, e3⟩) e
    exact .inr ⟨cs, hpre k _ h3⟩
  have hnone : ∀ k, (look hp k = none /\ look (up post ++ hp) k ≠ none) -> k ∈ ns := fun k hk => by
    by_cases e : look (up post) k = none
    ·rw [hσout k e] at hk; exact absurd hk.1 hk.2
    refine Classical.byContradiction fun e3 => ?_
    have e4 : look (up pre) k ≠ none := fun h3 => e ((hd k).2 ⟨h3, e3⟩)
    cases h3 : look (up pre) k with
    | none => exact e4 h3
    | some o => rw [hpre k o h3] at hk; cases hk.1
  have hnn : ∀ x : IV, (∀ k ∈ ns, nm k x = false) -> ¬ Names (fun k => look hp k = none /\ look (up post ++ hp) k ≠ none) x := fun x hx hn => by
    obtain ⟨k, hk, hk2⟩ := (hn.imp hnone).one
    have := hx k hk
    rw [zd5 hk2] at this; cases this
  refine ⟨ρ', v, rfl, h.step T hR ⟨fun k k' b cc cc' hk hk' => ?_, fun k b cc hk hb => ?_, fun b hb => Nat.lt_of_lt_of_le (h.rel.old b hb) t.size, fun k b cc hk => ?_, fun k o hk hρ => ?_⟩ (fun k e1 e2 => hc0 k (hnone k ⟨e1, e2⟩)) fun _ x hx => hnn x fun k hk => z98 (hfr0 k hk) hx, hv.conv hown2 (hconv2 r hr)⟩
  ·by_cases e : look (up post) k = none <;> by_cases e' : look (up post) k' = none
   ·rw [h2out k e] at hk; rw [h2out k' e'] at hk'; exact h.rel.inj _ _ _ _ _ hk hk'
   ·rw [h2out k e] at hk; rw [h2in k' e'] at hk'
    exact absurd (.inr ⟨k, cc, hk, ((hd k).1 e).1⟩) (hrel2.apart _ _ _ hk')
   ·rw [h2in k e] at hk; rw [h2out k' e'] at hk'
    exact absurd (.inr ⟨k', cc', hk', ((hd k').1 e').1⟩) (hrel2.apart _ _ _ hk)
   rw [h2in k e] at hk; rw [h2in k' e'] at hk'; exact hrel2.inj _ _ _ _ _ hk hk'
  ·by_cases e : look (up post) k = none
   ·rw [h2out k e] at hk; exact h.rel.apart _ _ _ hk hb
   rw [h2in k e] at hk; exact hrel2.apart _ _ _ hk (.inl hb)
  ·by_cases e : look (up post) k = none
   ·rw [h2out k e] at hk
    obtain ⟨o1, ho1, ho2⟩ := h.rel.obj k b cc hk
    refine ⟨o1, (hσout k e).trans ho1, ho2.keep T (t.blk b (h.rel.lt hk) fun k' cc' hk' => ?_) fun x ⟨cs, h3, h4⟩ => hnn x fun k hk => by subst h3; exact z66 (z7l (hhp0 k hk) ho1) h4⟩
    obtain ⟨hne, hk2⟩ := h1 _ _ hk'
    obtain rfl := h.rel.inj _ _ _ _ _ hk hk2
    exact absurd ((hd _).1 e).1 hne
   rw [h2in k e] at hk
   obtain ⟨o1, ho1, ho2⟩ := hrel2.obj k b cc hk
   refine ⟨o1, (hσin k e).trans ho1, ho2.conv hown2 fun x ⟨cs, h3, h4⟩ => hconv2 x ?_⟩
   subst h3
   exact z4u (z5a hpost (z3y ho1)) h4
  by_cases e : look (up post) k = none
  ·rw [hσout k e] at hk; rw [h2out k e] at hρ; exact h.rel.real k o hk hρ
  rw [hσin k e] at hk; rw [h2in k e] at hρ; exact hrel2.real k o hk hρ
theorem y4n {ns : List Nat} {f : FuncId} {os : Array Operand} {tys : Array TypeId} {xs args : List IV} {pre post : List (Nat × HO)} {R : Nat -> Prop} {r : IV} {hp : Hp} (hsc : SC P f args pre R r post) (hf : z06 P f)
    (ho : o.op = .call { callee := .value (.func f), args := os, argTypes := tys }) (hx : evs fr os.toList = some xs) (hs : Subs (look hp) xs args) (hpre : ∀ k o, look (up pre) k = some o -> look hp k = some o) (hdom : post.map (·.1) = ns ++ pre.map (·.1)) (hσ0 : ∀ k ∈ ns, look hp k = none) (hc0 : ∀ k ∈ ns, c.σ k = none) (hfr0 : ∀ k ∈ ns, nmFr k fr = false) (hhp0 : ∀ k ∈ ns, nmHp k hp = false)
    (hR : ∀ k, c.R k -> look (up pre) k = none ∨ R k) (hr : only (post.map (·.1)) r = true) (hpost : z34 (post.map (·.1)) post = true) : Ok P c o fr (look hp) r (look (up post ++ hp)) := by
  intro ρ w a K Q h hK
  obtain ⟨fn, hfn, hname, hbody⟩ := hf
  have hargs := hs _ _ _ _ (z7g h hx)
  have hrun : (execOp a.eval o).run P w = .ok (.enter f (os.toList.map a.eval).toArray) w := by
    have hcall : (callFunc f (os.toList.map a.eval).toArray).run P w = .ok (.enter f (os.toList.map a.eval).toArray) w := by
      unfold callFunc
      simp only [Sem.run_bind]
      show (Result.andThen (.ok P w) _) = _
      simp only [Result.andThen_ok, hfn, hname, hbody]
      rfl
    simp only [execOp, ho, resolve, Act.eval, Deferred.ofValue, Sem.run_bind, Sem.run_pure, Result.andThen_ok, invoke]
    rw [<- hcall]
    congr 2
    apply Array.ext'
    simp
  unfold Oper.wp
  rw [hrun, Oper.upon_enter]
  refine (hsc.stepN h hargs hpre hdom hσ0 hc0 hfr0 hhp0 hR hr hpost).mono ?_
  rintro e w' ⟨ρ', v, rfl, h1, h2⟩
  exact hK ρ' w' v h1 h2
def kyV (k : Ky) : Value := .agg #[.int .i64 k.kind, .int .i64 k.op, .int .i64 k.n, .int .i64 k.a, .int .i64 k.b]
abbrev kyP (k : Ky) : PV := .agg [vInt k.kind, vInt k.op, vInt k.n, vInt k.a, vInt k.b]
def kyEs (l : List (Ky × Int)) : List (Value × PV) := l.map fun e => (kyV e.1, vInt e.2)
theorem y49 {own : Nat -> Prop} {w : World} {k : Ky} {v : Value} (h : RepP own w (kyP k) v) : v = kyV k := by
  cases h with
  | agg _ vs u hl hv hr =>
    have h0 := hv 0 _ rfl; have h1 := hv 1 _ rfl; have h2 := hv 2 _ rfl; have h3 := hv 3 _ rfl; have h4 := hv 4 _ rfl
    have r0 := hr 0 _ rfl; have r1 := hr 1 _ rfl; have r2 := hr 2 _ rfl; have r3 := hr 3 _ rfl; have r4 := hr 4 _ rfl
    cases hu0 : u 0 <;> rw [hu0] at r0 <;> cases r0
    cases hu1 : u 1 <;> rw [hu1] at r1 <;> cases r1
    cases hu2 : u 2 <;> rw [hu2] at r2 <;> cases r2
    cases hu3 : u 3 <;> rw [hu3] at r3 <;> cases r3
    cases hu4 : u 4 <;> rw [hu4] at r4 <;> cases r4
    rw [hu0] at h0; rw [hu1] at h1; rw [hu2] at h2; rw [hu3] at h3; rw [hu4] at h4
    unfold kyV
    congr 1
    apply Array.ext_getElem?
    intro i
    match i with
    | 0 => simpa using h0
    | 1 => simpa using h1
    | 2 => simpa using h2
    | 3 => simpa using h3
    | 4 => simpa using h4
    | i + 5 => rw [Array.getElem?_eq_none (by simp at hl; omega), Array.getElem?_eq_none sI0]
structure K5 (P : Program) (t : TypeId) (f0 f1 f2 f3 f4 : Field) : Prop where
  hu : P.underlying t = some (.struct #[f0, f1, f2, f3, f4])
  hs : P.stoodInHeld t = false
  t0 : P.underlying f0.type = some (.int .i64)
  t1 : P.underlying f1.type = some (.int .i64)
  t2 : P.underlying f2.type = some (.int .i64)
  t3 : P.underlying f3.type = some (.int .i64)
  t4 : P.underlying f4.type = some (.int .i64)
  n0 : f0.name ≠ "_"
  n1 : f1.name ≠ "_"
  n2 : f2.name ≠ "_"
  n3 : f3.name ≠ "_"
  n4 : f4.name ≠ "_"
  o0 : f0.offset = 0
  o1 : f1.offset = 1
  o2 : f2.offset = 2
  o3 : f3.offset = 3
  o4 : f4.offset = 4
section
variable {kt : TypeId} {f0 f1 f2 f3 f4 : Field}
theorem K5.part0 (K : K5 P kt f0 f1 f2 f3 f4) (w : World) (a b c d e : Int) : (part f0.type #[.int .i64 a, .int .i64 b, .int .i64 c, .int .i64 d, .int .i64 e] f0.offset).run P w = .ok (.int .i64 a) w := by simp [part, z3e K.t0, TypeDesc.isRow, K.o0, Sem.run_bind]
theorem K5.part1 (K : K5 P kt f0 f1 f2 f3 f4) (w : World) (a b c d e : Int) : (part f1.type #[.int .i64 a, .int .i64 b, .int .i64 c, .int .i64 d, .int .i64 e] f1.offset).run P w = .ok (.int .i64 b) w := by simp [part, z3e K.t1, TypeDesc.isRow, K.o1, Sem.run_bind]
theorem K5.part2 (K : K5 P kt f0 f1 f2 f3 f4) (w : World) (a b c d e : Int) : (part f2.type #[.int .i64 a, .int .i64 b, .int .i64 c, .int .i64 d, .int .i64 e] f2.offset).run P w = .ok (.int .i64 c) w := by simp [part, z3e K.t2, TypeDesc.isRow, K.o2, Sem.run_bind]
theorem K5.part3 (K : K5 P kt f0 f1 f2 f3 f4) (w : World) (a b c d e : Int) : (part f3.type #[.int .i64 a, .int .i64 b, .int .i64 c, .int .i64 d, .int .i64 e] f3.offset).run P w = .ok (.int .i64 d) w := by simp [part, z3e K.t3, TypeDesc.isRow, K.o3, Sem.run_bind]
theorem K5.part4 (K : K5 P kt f0 f1 f2 f3 f4) (w : World) (a b c d e : Int) : (part f4.type #[.int .i64 a, .int .i64 b, .int .i64 c, .int .i64 d, .int .i64 e] f4.offset).run P w = .ok (.int .i64 e) w := by simp [part, z3e K.t4, TypeDesc.isRow, K.o4, Sem.run_bind]
theorem K5.eq (K : K5 P kt f0 f1 f2 f3 f4) (w : World) (k k' : Ky) : (Op.equal kt (kyV k) (kyV k')).run P w = .ok (decide (k = k')) w := by
  have hfs : P.fieldsOf kt = #[f0, f1, f2, f3, f4] := by simp [Program.fieldsOf, K.hu]
  show (Op.equalIn (9999 + 1) kt (.agg _) (.agg _)).run P w = _
  rw [run_equalIn_struct w 9999 kt _ _ (by rw [hfs]; exact K.hu) K.hs, hfs]
  have e0 : ∀ a b : Int, (Op.equalIn 9999 f0.type (.int .i64 a) (.int .i64 b)).run P w = .ok (a == b) w := fun a b => run_equalIn_int w 9998 f0.type .i64 .i64 a b K.t0
  have e1 : ∀ a b : Int, (Op.equalIn 9999 f1.type (.int .i64 a) (.int .i64 b)).run P w = .ok (a == b) w := fun a b => run_equalIn_int w 9998 f1.type .i64 .i64 a b K.t1
  have e2 : ∀ a b : Int, (Op.equalIn 9999 f2.type (.int .i64 a) (.int .i64 b)).run P w = .ok (a == b) w := fun a b => run_equalIn_int w 9998 f2.type .i64 .i64 a b K.t2
  have e3 : ∀ a b : Int, (Op.equalIn 9999 f3.type (.int .i64 a) (.int .i64 b)).run P w = .ok (a == b) w := fun a b => run_equalIn_int w 9998 f3.type .i64 .i64 a b K.t3
  have e4 : ∀ a b : Int, (Op.equalIn 9999 f4.type (.int .i64 a) (.int .i64 b)).run P w = .ok (a == b) w := fun a b => run_equalIn_int w 9998 f4.type .i64 .i64 a b K.t4
  obtain ⟨a0, a1, a2, a3, a4⟩ := k
  obtain ⟨b0, b1, b2, b3, b4⟩ := k'
  have S : ∀ (f : Field) (fs : List Field) (xs ys : Array Value) (a b : Int), f.name ≠ "_" -> (part f.type xs f.offset).run P w = .ok (.int .i64 a) w -> (part f.type ys f.offset).run P w = .ok (.int .i64 b) w -> (Op.equalIn 9999 f.type (.int .i64 a) (.int .i64 b)).run P w = .ok (a == b) w ->
      (Op.eqFields 9999 xs ys (f :: fs)).run P w = if a = b then (Op.eqFields 9999 xs ys fs).run P w else .ok false w := fun f fs xs ys a b hn hx hy he => by
    simp only [Op.eqFields, hn, ne_eq, not_false_eq_true, if_true, Sem.run_bind, hx, hy, he, Result.andThen_ok]
    by_cases h : a = b
    ·simp [h]
    have : (a == b) = false := by simpa using h
    simp [h]
  rw [S f0 _ _ _ a0 b0 K.n0 (K.part0 ..) (K.part0 ..) (e0 ..), S f1 _ _ _ a1 b1 K.n1 (K.part1 ..) (K.part1 ..) (e1 ..), S f2 _ _ _ a2 b2 K.n2 (K.part2 ..) (K.part2 ..) (e2 ..), S f3 _ _ _ a3 b3 K.n3 (K.part3 ..) (K.part3 ..) (e3 ..), S f4 _ _ _ a4 b4 K.n4 (K.part4 ..) (K.part4 ..) (e4 ..)]
  have hn : (Op.eqFields 9999 #[.int .i64 a0, .int .i64 a1, .int .i64 a2, .int .i64 a3, .int .i64 a4] #[.int .i64 b0, .int .i64 b1, .int .i64 b2, .int .i64 b3, .int .i64 b4] []).run P w = .ok true w := by simp [Op.eqFields]
  rw [hn]
  by_cases h0 : a0 = b0 <;> by_cases h1 : a1 = b1 <;> by_cases h2 : a2 = b2 <;> by_cases h3 : a3 = b3 <;> by_cases h4 : a4 = b4 <;> simp [h0, h1, h2, h3, h4]
theorem K5.check (K : K5 P kt f0 f1 f2 f3 f4) (w : World) (em : Bool) (k : Ky) : (Instr.checkKey em 10000 kt (kyV k)).run P w = .ok () w := by
  show (Instr.checkKey em (9999 + 1) kt (.agg _)).run P w = _
  rw [Instr.checkKey]
  have c : ∀ (t : TypeId) (a : Int), P.underlying t = some (.int .i64) -> (Instr.checkKey em 9999 t (.int .i64 a)).run P w = .ok () w := fun t a h => MapKept.run_checkKey (w := w) h (k := .int .i64 a) (by simp [MapKept.IsKey]) em 9998
  simp only [Sem.run_bind, run_underlying K.hu, Result.andThen_ok]
  rw [<- Array.forIn_toList]
  simp [Sem.run_bind, K.n0, K.n1, K.n2, K.n3, K.n4, K.part0, K.part1, K.part2, K.part3, K.part4, c _ _ K.t0, c _ _ K.t1, c _ _ K.t2, c _ _ K.t3, c _ _ K.t4]
theorem K5.find (K : K5 P kt f0 f1 f2 f3 f4) (w : World) (k : Ky) : ∀ (l : List (Ky × Int)) (es : List MapEntry) (i : Nat), es.length = l.length -> (∀ (j : Nat) (a : Ky) (v : Int), l[j]? = some (a, v) -> ∃ m : MapEntry, es[j]? = some m /\ m.key = kyV a) ->
    ((Instr.findAsking kt (kyV k) es i).run P w = .ok none w /\ aGet k l = none) ∨ ∃ j m v, (Instr.findAsking kt (kyV k) es i).run P w = .ok (some (i + j, m.val)) w /\ es[j]? = some m /\ l[j]? = some (k, v) /\ aGet k l = some v
  | [], [], _, _, _ => .inl ⟨by simp [Instr.findAsking], rfl⟩
  | (a, v) :: l, m :: es, i, hl, h => by
    obtain ⟨m', hm', e⟩ := h 0 a v rfl
    cases hm'
    have hr := K.eq w k a
    rw [<- e] at hr
    by_cases hk : k = a
    ·subst hk
     exact .inr ⟨0, m, v, by simp [Instr.findAsking, hr], rfl, rfl, by simp [aGet]⟩
    rcases K.find w k l es (i + 1) (by simpa using hl) (fun j a v hj => by simpa using h (j + 1) a v (by simpa using hj)) with ⟨h1, h2⟩ | ⟨j, m', v', h1, h2, h3, h4⟩
    ·exact .inl ⟨by simp [Instr.findAsking, hr, hk, h1], by simp [aGet, hk, h2]⟩
    exact .inr ⟨j + 1, m', v', by simp [Instr.findAsking, hr, hk, h1, Nat.add_assoc, Nat.add_comm 1 j], by simpa using h2, by simpa using h3, by simp [aGet, hk, h4]⟩
theorem zd2 {l : List (Ky × Int)} {j : Nat} {a : Ky} {v : Int} (h : l[j]? = some (a, v)) : (kyEs l)[j]? = some (kyV a, vInt v) := by
  unfold kyEs; rw [List.getElem?_map, h]; rfl
theorem y12 (l : List (Ky × Int)) : (kyEs l).length = l.length := by simp [kyEs]
theorem zz7 {t et : TypeId} {x y : Operand} {k : Nat} {l : List (Ky × Int)} {q : Ky} (K : K5 P kt f0 f1 f2 f3 f4) (ho : o.op = .lookup t x y true) (hx : fr.ev x = some (.mp k)) (hy : fr.ev y = some (.pv (kyP q))) (hk : look hp k = some (.map (kyEs l)))
    (hu : P.underlying t = some (.map kt et)) (hzv : ((P.info? et).bind (·.zero)) = some (.int .i64 0)) (hR : R1 k) : OkV P c R1 o fr (look hp) (.tup [iInt ((aGet q l).getD 0), iBool (aGet q l).isSome]) := by
  intro ρ w a h
  obtain ⟨b, cc, r, ck, u, hv, hρ, h3, h4, h5, h6⟩ := h.mapAt hx hk
  have h3' : ∀ w2, SameFor c.F R1 ρ w w2 -> w2.heap[b]? = some (.map r ck) := fun w2 h2 => (h2 b (h.rel.lt hρ) (.inr ⟨k, cc, hR, hρ⟩)).trans h3
  have hyv : a.eval y = kyV q := by
    have := h.ev hy
    generalize a.eval y = vy at this
    cases this with
    | pv _ _ hp => exact y49 hp
  have two : ∀ {n : Int} {g : Bool}, RepI c.F ρ (look hp) w (.tup [iInt n, iBool g]) (.tuple #[.int .i64 n, .bool g]) := fun {n g} => .tup _ _ (fun j => if j = 0 then .int .i64 n else .bool g) rfl (fun j x hj => by
      match j, hj with
      | 0, hj => rfl
      | 1, hj => rfl
      | j + 2, hj => simp at hj) fun j x hj => by
      match j, hj with
      | 0, hj => cases hj; exact z37 _
      | 1, hj => cases hj; exact z37 _
      | j + 2, hj => simp at hj
  have hfk : ∀ w2, (Instr.findKey kt (kyV q) r.toList).run P w2 = (Instr.findAsking kt (kyV q) r.toList).run P w2 := fun w2 => run_findKey_eq w2 (by rw [K.hu]) _ _
  have hz : ∀ w2, (zeroValue et).run P w2 = .ok (.int .i64 0) w2 := fun w2 => by
    cases hq : P.info? et with
    | none => simp [hq] at hzv
    | some i => simp [hq] at hzv; simp [zeroValue, typeInfo, hq, hzv]
  have F := fun w2 => K.find w2 q l r.toList 0 (by simpa [y12] using h4) (fun j a v hj => by obtain ⟨m, h1, h2, _⟩ := h5 j _ _ (zd2 hj); exact ⟨m, by simpa using h1, h2⟩)
  cases hg : aGet q l with
  | none =>
    refine ⟨.tuple #[.int .i64 0, .bool false], fun w2 hw2 => ?_, two⟩
    rcases F w2 with ⟨h1, _⟩ | ⟨j, m, v, _, _, _, h2⟩
    ·simp only [execOp, ho, hv, hyv, Sem.run_bind, Instr.lookup, run_underlying hu, Result.andThen_ok, MapKept.run_getObj_map (h3' w2 hw2), Sem.run_pure, K.check, hfk, h1, hz]
     rfl
    rw [hg] at h2; cases h2
  | some v =>
    refine ⟨.tuple #[.int .i64 v, .bool true], fun w2 hw2 => ?_, two⟩
    rcases F w2 with ⟨_, h2⟩ | ⟨j, m, v', h1, h2, h7, h8⟩
    ·rw [hg] at h2; cases h2
    rw [hg] at h8; cases h8
    obtain ⟨m', hm', _, e2⟩ := h5 j _ _ (zd2 h7)
    have hmm : m' = m := by
      have e : r[j]? = some m := by simpa using h2
      rw [e] at hm'; exact (Option.some.inj hm').symm
    subst hmm
    have hval : m'.val = .int .i64 v := by
      have := h6 j _ _ (zd2 h7)
      rw [<- e2] at this
      cases hmv : m'.val <;> rw [hmv] at this <;> cases this
      rfl
    simp only [execOp, ho, hv, hyv, Sem.run_bind, Instr.lookup, run_underlying hu, Result.andThen_ok, MapKept.run_getObj_map (h3' w2 hw2), Sem.run_pure, K.check, hfk, h1, hval]
    rfl
theorem y0r {α β : Type} [DecidableEq α] {k : α} {v : β} : ∀ {l : List (α × β)}, aGet k l = none -> aPut k v l = l ++ [(k, v)]
  | [], _ => rfl
  | (a, b) :: r, h => by
    unfold aGet at h
    split at h
    ·cases h
    rename_i e
    unfold aPut
    rw [if_neg e, y0r h]; rfl
theorem zp2 {t et : TypeId} {x y z : Operand} {k : Nat} {l : List (Ky × Int)} {q : Ky} {v : Int} (K : K5 P kt f0 f1 f2 f3 f4) (ho : o.op = .mapUpdate t x y z) (hx : fr.ev x = some (.mp k)) (hy : fr.ev y = some (.pv (kyP q))) (hz : fr.ev z = some (iInt v)) (hk : look hp k = some (.map (kyEs l)))
    (hR : ¬ c.R k) (hu : P.underlying t = some (.map kt et)) (hnew : aGet q l = none) : Ok P c o fr (look hp) (.pv (.val undef)) (look ((k, some (.map (kyEs (aPut q v l)))) :: hp)) := by
  refine z9y fun ρ w a h => ?_
  obtain ⟨b, cc, r, ck, u, hv, hρ, h3, h4, h5, h6⟩ := h.mapAt hx hk
  have hyv : a.eval y = kyV q := by
    have := h.ev hy
    generalize a.eval y = vy at this
    cases this with
    | pv _ _ hp => exact y49 hp
  have hzv : a.eval z = .int .i64 v := z1f h hz
  have hset : ∀ o', (setObj b o').run P w = .ok () { w with heap := w.heap.setIfInBounds b o' } := fun o' => MapKept.run_setObj_map o' h3
  have hb : b < w.heap.size := (Array.getElem?_eq_some_iff.1 h3).1
  have hfk : (Instr.findKey kt (kyV q) r.toList).run P w = .ok none w := by
    rw [run_findKey_eq w (by rw [K.hu])]
    rcases K.find w q l r.toList 0 (by simpa [y12] using h4) (fun j a v hj => by obtain ⟨m, h1, h2, _⟩ := h5 j _ _ (zd2 hj); exact ⟨m, by simpa using h1, h2⟩) with ⟨h1, _⟩ | ⟨j, m, v', _, _, _, h2⟩
    ·exact h1
    rw [hnew] at h2; cases h2
  have hen : kyEs (aPut q v l) = kyEs l ++ [(kyV q, vInt v)] := by rw [y0r hnew]; simp [kyEs]
  refine ⟨ρ, { w with heap := w.heap.setIfInBounds b (.map (r.push ⟨kyV q, .int .i64 v, ck⟩) (ck + 1)) }, by simp [execOp, ho, hv, hyv, hzv, Instr.mapUpdate, Sem.run_bind, run_underlying hu, MapKept.run_getObj_map h3, K.check, hfk, hset], ?_⟩
  refine h.write hρ hk trivial hR rfl rfl rfl sI0 (fun j hj => by simp [Ne.symm hj]) fun keep keepP => ?_
  refine .map _ (r.push ⟨kyV q, .int .i64 v, ck⟩) (ck + 1) (fun i => if i = (kyEs l).length then .int .i64 v else u i) (by simp [hb]) (by rw [hen]; simp [h4]) (fun i k' p' hi => ?_) fun i k' p' hi => ?_
  ·rw [hen] at hi
   by_cases e : i = (kyEs l).length
   ·subst e
    simp only [List.getElem?_concat_length, Option.some.injEq, Prod.mk.injEq] at hi
    obtain ⟨rfl, rfl⟩ := hi
    exact ⟨⟨kyV q, .int .i64 v, ck⟩, by rw [<- h4]; simp, rfl, by simp⟩
   have hlt : i < (kyEs l).length := by
     have := (List.getElem?_eq_some_iff.1 hi).1
     simp at this; omega
   rw [List.getElem?_append_left hlt] at hi
   obtain ⟨m, hm, e1, e2⟩ := h5 i k' p' hi
   refine ⟨m, ?_, e1, by simp [e, e2]⟩
   rw [Array.getElem?_push, if_neg oM0]
   exact hm
  rw [hen] at hi
  by_cases e : i = (kyEs l).length
  ·subst e
   simp only [List.getElem?_concat_length, Option.some.injEq, Prod.mk.injEq] at hi
   obtain ⟨rfl, rfl⟩ := hi
   simpa using RepP.val _
  have hlt : i < (kyEs l).length := by
    have := (List.getElem?_eq_some_iff.1 hi).1
    simp at this; omega
  rw [List.getElem?_append_left hlt] at hi
  simpa [e] using keepP _ _ (h6 i k' p' hi)
end
theorem y15 {f : FuncId} {x : Operand} {tys : Array TypeId} {k k2 : Nat} {es : List (Value × PV)} (hcl : ∀ (b : Nat) (r : Array MapEntry) (ck : Nat) (w : World), w.heap[b]? = some (.map r ck) -> Calls P f #[.map (some b)] w fun e w' => e = .returned (.map (some w.heap.size)) /\ w' = w.alloc (.map r ck)) (hf : z06 P f)
    (ho : o.op = .call { callee := .value (.func f), args := #[x], argTypes := tys }) (hx : fr.ev x = some (.mp k)) (hk : look hp k = some (.map es)) (hσ : look hp k2 = none) (hc : c.σ k2 = none) (hfr : nmFr k2 fr = false) (hhp : nmHp k2 hp = false) :
    Ok P c o fr (look hp) (.mp k2) (look ((k2, some (.map es)) :: hp)) := by
  intro ρ w a K Q h hK
  obtain ⟨fn, hfn, hname, hbody⟩ := hf
  obtain ⟨b, cc, r, ck, u, hv, hρ, h3, h4, h5, h6⟩ := h.mapAt hx hk
  have hrun : (execOp a.eval o).run P w = .ok (.enter f #[.map (some b)]) w := by
    have hcall : (callFunc f #[.map (some b)]).run P w = .ok (.enter f #[.map (some b)]) w := by
      unfold callFunc
      simp only [Sem.run_bind]
      show (Result.andThen (.ok P w) _) = _
      simp only [Result.andThen_ok, hfn, hname, hbody]
      rfl
    simp only [execOp, ho, resolve, Act.eval, Deferred.ofValue, Sem.run_bind, Sem.run_pure, Result.andThen_ok, invoke]
    rw [<- hcall]
    congr 2
    simp [<- hv]
  unfold Oper.wp
  rw [hrun, Oper.upon_enter]
  refine (hcl b r ck w h3).mono ?_
  rintro e w' ⟨rfl, rfl⟩
  refine hK (z1w ρ k2 (some (w.heap.size, 1))) _ _ (h.alloc hσ hc hfr hhp 1 _ _ fun _ keepP => ?_) (.mp _ _ fun es' _ => ⟨w.heap.size, 1, z0j, rfl⟩)
  exact .map es r ck u (z3w w _) h4 h5 fun i k p hi => keepP _ _ (h6 i k p hi)
end
set_option maxRecDepth 100000 in
set_option maxHeartbeats 4000000 in
theorem zr7 (b : Nat) (r : Array MapEntry) (ck : Nat) (w : World) (hb : w.heap[b]? = some (.map r ck)) :
    Calls Tryz.prog 63 #[.map (some b)] w fun e w' => e = .returned (.map (some w.heap.size)) /\ w' = w.alloc (.map r ck) := by
  have hq := fun w => run_eql_map_nil_sl (P := Tryz.prog) w 60 _ _ (some b) Tryz.underlying60
  go_enter Tryz.func63, Tryz.ntmps63
  go_wp2
  rw [run_callFunc_extern Tryz.func88 kR0 kR0 kR0 (e := Extern.MapsClone.clone) kR0, run_maps_clone_sl w 60 hb]
  simp only [Result.andThen]
  rw [Oper.upon_value]
  go_wp2
  rw [run_typeAssert_map_sl _ 60 20 _ _ _ Tryz.underlying60]
  simp only [Result.andThen]
  rw [Oper.upon_value]
  go_wp2
  go_ret
  exact ⟨rfl, rfl⟩
set_option maxRecDepth 100000 in
set_option maxHeartbeats 4000000 in
theorem zr8 (b : Nat) (r : Array MapEntry) (ck : Nat) (w : World) (hb : w.heap[b]? = some (.map r ck)) :
    Calls Tryz.prog 62 #[.map (some b)] w fun e w' => e = .returned (.map (some w.heap.size)) /\ w' = w.alloc (.map r ck) := by
  have hq := fun w => run_eql_map_nil_sl (P := Tryz.prog) w 59 _ _ (some b) Tryz.underlying59
  go_enter Tryz.func62, Tryz.ntmps62
  go_wp2
  rw [run_callFunc_extern Tryz.func88 kR0 kR0 kR0 (e := Extern.MapsClone.clone) kR0, run_maps_clone_sl w 59 hb]
  simp only [Result.andThen]
  rw [Oper.upon_value]
  go_wp2
  rw [run_typeAssert_map_sl _ 59 20 _ _ _ Tryz.underlying59]
  simp only [Result.andThen]
  rw [Oper.upon_value]
  go_wp2
  go_ret
  exact ⟨rfl, rfl⟩
theorem key5E : ∃ f0 f1 f2 f3 f4, K5 Tryz.prog 108 f0 f1 f2 f3 f4 := ⟨_, _, _, _, _, ⟨Tryz.underlying108, by kernel_rfl, uT3, uT3, uT3, uT3, uT3, by decide, by decide, by decide, by decide, by decide, rfl, rfl, rfl, rfl, rfl⟩⟩
def Vis (tys all : List Int) (y t : Int) : Prop := all.contains y = true /\ 0 <= y /\ y < tys.length /\ tys.getD y.toNat 0 = t
theorem Vis.mono {tys all : List Int} {y t : Int} (h : Vis tys all y t) (c : List Int) : Vis tys (all ++ c) y t := ⟨by rw [List.contains_append, h.1]; rfl, h.2⟩
def Rel (tys : List Int) (to : TT) (all all' : List Int) : Prop := ∀ v, all.contains v = true -> 0 <= v -> v < tys.length -> Vis tys all' (z29 to v) (tys.getD v.toNat 0)
theorem zb3 {tys seen : List Int} {v w : Int} : z54 tys seen v w = true ↔ seen.contains v = true /\ 0 <= v /\ v < tys.length /\ (w = 0 ∨ tys.getD v.toNat 0 = w) := by
  unfold z54
  simp only [Bool.not_eq_true', Bool.or_eq_false_iff, decide_eq_false_iff_not, Bool.not_eq_false', Bool.and_eq_false_iff, bne_eq_false_iff_eq]
  constructor
  ·rintro ⟨⟨⟨h1, h2⟩, h3⟩, h4⟩
   exact ⟨h3, by omega, by omega, h4⟩
  rintro ⟨h3, h1, h2, h4⟩
  exact ⟨⟨⟨by omega, by omega⟩, h3⟩, h4⟩
theorem use_rel {tys all all' : List Int} {to : TT} (hr : Rel tys to all all') {v w : Int} (h : z54 tys all v w = true) : z54 tys all' (z29 to v) w = true := by
  obtain ⟨h1, h2, h3, h4⟩ := zb3.1 h
  obtain ⟨k1, k2, k3, k4⟩ := hr v h1 h2 h3
  exact zb3.2 ⟨k1, k2, k3, by rw [k4]; exact h4⟩
theorem zk0 {tys all all' : List Int} {to : TT} (hr : Rel tys to all all') : ∀ {l want : List Int}, z17 tys all l want = true -> z17 tys all' (l.map (z29 to)) want = true
  | [], _, _ => by simp [z17]
  | _ :: _, [], _ => by simp [z17]
  | v :: r, w :: ws, h => by
    simp only [z17, Bool.and_eq_true, List.map_cons] at h ⊢
    exact ⟨use_rel hr h.1, zk0 hr h.2⟩
theorem zk1 {tys all all' : List Int} {to : TT} (hr : Rel tys to all all') {l want : List Int} (h : z07 tys all l want = true) : z07 tys all' (l.map (z29 to)) want = true := by
  unfold z07 at h ⊢
  simp only [Bool.and_eq_true, List.length_map] at h ⊢
  exact ⟨h.1, zk0 hr h.2⟩
theorem Rel.outs {tys all all' outs : List Int} {to : TT} (hr : Rel tys to all all') (hn : ∀ v ∈ outs, aGet v to = none) : Rel tys to (all ++ outs) (all' ++ outs) := fun v hv h0 h1 => by
  rw [List.contains_append, Bool.or_eq_true] at hv
  by_cases ho : outs.contains v = true
  ·have e : z29 to v = v := by unfold z29; rw [hn v (List.contains_iff_mem.1 ho)]; rfl
   rw [e]
   exact ⟨by rw [List.contains_append, ho, Bool.or_true], h0, h1, rfl⟩
  exact (hr v (hv.resolve_right ho) h0 h1).mono _
theorem Rel.congr {tys all all' : List Int} {to to' : TT} (hr : Rel tys to all all') (hn : ∀ v, all.contains v = true -> aGet v to' = aGet v to) : Rel tys to' all all' := fun v hv h0 h1 => by
  have e : z29 to' v = z29 to v := by unfold z29; rw [hn v hv]
  rw [e]
  exact hr v hv h0 h1
def kTy (k : Ky) : Int := if k.kind == 1 then 1 else if k.kind == 2 then 2 else (z08 k.op).2
def TabOk (tys : List Int) (tb : Tb) (all : List Int) : Prop := ∀ e ∈ tb.seen, Vis tys all e.2 (kTy e.1)
theorem TabOk.mono {tys all : List Int} {tb : Tb} (h : TabOk tys tb all) (c : List Int) : TabOk tys tb (all ++ c) := fun e he => (h e he).mono c
theorem zw9 {u : Un} {f : Fl} {to : TT} {all all' : List Int} {w : Wh} {outs : List Int} {x y : Nd} (ek : y.kind = x.kind) (eo : y.op = x.op) (en : y.n = x.n) (em : y.name = x.name) (ea : y.args = x.args.map (z29 to)) (hr : Rel f.types to all all')
    (h : (z3u u f x all w).ok f.types outs = true) : (z3u u f y all' w).ok f.types outs = true := by
  have M : ∀ want, z07 f.types all x.args want = true -> z07 f.types all' (x.args.map (z29 to)) want = true := fun want => zk1 hr
  have F : ∀ (b b' : Bool) (want : Option (List Int)), (b = true -> b' = true) -> SForm.ok ⟨b, want⟩ f.types outs = true -> SForm.ok ⟨b', want⟩ f.types outs = true := fun b b' want hb h => by
    cases want <;> simp only [SForm.ok, Bool.and_eq_true] at h ⊢ <;> exact ⟨hb h.1, h.2⟩
  unfold z3u at h ⊢
  rw [ek, eo, en, em, ea]
  by_cases k1 : (x.kind == 1) = true
  ·rw [if_pos k1] at h ⊢
   exact F _ _ _ (fun hb => M _ hb) h
  rw [if_neg k1] at h ⊢
  by_cases k2 : (x.kind == 2) = true
  ·rw [if_pos k2] at h ⊢
   exact F _ _ _ (fun hb => by simp only [Bool.and_eq_true] at hb ⊢; exact ⟨hb.1, M _ hb.2⟩) h
  rw [if_neg k2] at h ⊢
  by_cases k3 : (x.kind == 3) = true
  ·rw [if_pos k3] at h ⊢
   exact F _ _ _ (fun hb => by simp only [Bool.and_eq_true] at hb ⊢; exact ⟨hb.1, M _ hb.2⟩) h
  rw [if_neg k3] at h ⊢
  by_cases k4 : (x.kind == 4) = true
  ·rw [if_pos k4] at h ⊢
   refine F _ _ _ (fun hb => ?_) h
   simp only [Bool.and_eq_true] at hb ⊢
   refine ⟨⟨hb.1.1, M _ hb.1.2⟩, ?_⟩
   have ht := hb.1.2
   unfold z07 at ht
   simp only [Bool.and_eq_true, beq_iff_eq, List.length_cons, List.length_nil] at ht
   match x.args, ht, hb.2 with
   | [a, b], ht, h2 =>
     simp only [z17, Bool.and_eq_true] at ht
     obtain ⟨a1, a2, a3, _⟩ := zb3.1 ht.2.1
     obtain ⟨b1, b2, b3, _⟩ := zb3.1 ht.2.2.1
     have e1 := (hr a a1 a2 a3).2.2.2
     have e2 := (hr b b1 b2 b3).2.2.2
     simp only [List.map_cons, List.map_nil, List.getD_cons_zero, List.getD_cons_succ] at h2 ⊢
     rw [e1, e2]
     exact h2
  rw [if_neg k4] at h ⊢
  by_cases k5 : (x.kind == 5) = true
  ·rw [if_pos k5] at h ⊢
   exact F _ _ _ (fun hb => by simp only [Bool.and_eq_true] at hb ⊢; exact ⟨hb.1, M _ hb.2⟩) h
  rw [if_neg k5] at h ⊢
  by_cases k6 : (x.kind == 6) = true
  ·rw [if_pos k6] at h ⊢
   exact F _ _ _ (fun hb => by simp only [Bool.and_eq_true] at hb ⊢; exact ⟨hb.1, M _ hb.2⟩) h
  rw [if_neg k6] at h ⊢
  by_cases k7 : (x.kind == 7) = true
  ·rw [if_pos k7] at h ⊢
   by_cases hp : decide (z0a x.name u.flows 0 ≥ 0) = true
   ·rw [if_pos hp] at h ⊢
    cases hg : u.flows[(z0a x.name u.flows 0).toNat]? with
    | none => rw [hg] at h; exact h
    | some g => rw [hg] at h; exact F _ _ _ (fun hb => M _ hb) h
   rw [if_neg hp] at h ⊢; exact h
  rw [if_neg k7] at h ⊢
  by_cases k8 : (x.kind == 8) = true
  ·rw [if_pos k8] at h ⊢
   exact F _ _ _ (fun hb => by simpa using hb) h
  rw [if_neg k8] at h ⊢
  by_cases k9 : (x.kind == 9) = true
  ·rw [if_pos k9] at h ⊢
   exact F _ _ _ (fun hb => M _ hb) h
  rw [if_neg k9] at h ⊢
  by_cases k12 : (x.kind == 12) = true
  ·rw [if_pos k12] at h ⊢
   exact F _ _ _ (fun hb => by simp only [Bool.and_eq_true] at hb ⊢; exact ⟨hb.1, M _ hb.2⟩) h
  rw [if_neg k12] at h ⊢
  by_cases k13 : (x.kind == 13) = true
  ·rw [if_pos k13] at h ⊢
   exact F _ _ _ (fun hb => by simp only [Bool.and_eq_true] at hb ⊢; exact ⟨hb.1, M _ hb.2⟩) h
  rw [if_neg k13] at h ⊢
  by_cases k14 : (x.kind == 14) = true
  ·rw [if_pos k14] at h ⊢
   exact F _ _ _ (fun hb => by simp only [Bool.and_eq_true] at hb ⊢; exact ⟨hb.1, M _ hb.2⟩) h
  rw [if_neg k14] at h ⊢
  by_cases k15 : (x.kind == 15) = true
  ·rw [if_pos k15] at h ⊢
   exact F _ _ _ (fun hb => M _ hb) h
  rw [if_neg k15] at h ⊢
  exact h
theorem zd6 {tys outs : List Int} {t : Int} (h : z1x tys outs [t] = true) (ht : t ≠ 0) : ∃ v, outs = [v] /\ 0 <= v /\ v < tys.length /\ tys.getD v.toNat 0 = t := by
  match outs, h with
  | [v], h =>
    simp only [z1x, Bool.and_true, z46, Bool.and_eq_true, decide_eq_true_eq, Bool.or_eq_true, beq_iff_eq] at h
    exact ⟨v, rfl, h.1.1, h.1.2, h.2.resolve_left ht⟩
  | [], h => simp [z1x] at h
  | _ :: _ :: _, h => simp [z1x] at h
theorem op2 (op : Int) : (z08 op).2 ≠ 0 := by
  unfold z08
  repeat' split
  all_goals simp
theorem y18 {u : Un} {f : Fl} {x : Nd} {s : List Int} {w : Wh} (hK : stK x.kind = true) (h : (z3u u f x s w).ok f.types x.outs = true) :
    ∃ v, x.outs = [v] /\ 0 <= v /\ v < f.types.length /\ f.types.getD v.toNat 0 = (if x.kind == 1 then 1 else if x.kind == 2 then 2 else (z08 x.op).2) := by
  unfold z3u at h
  simp only [stK, Bool.or_eq_true] at hK
  by_cases k1 : (x.kind == 1) = true
  ·rw [if_pos k1] at h ⊢
   simp only [SForm.ok, Bool.and_eq_true] at h
   exact zd6 h.2 dC0
  rw [if_neg k1] at h ⊢
  by_cases k2 : (x.kind == 2) = true
  ·rw [if_pos k2] at h ⊢
   simp only [SForm.ok, Bool.and_eq_true] at h
   exact zd6 h.2 dC0
  rw [if_neg k2] at h ⊢
  by_cases k3 : (x.kind == 3) = true
  ·rw [if_pos k3] at h
   simp only [SForm.ok, Bool.and_eq_true] at h
   exact zd6 h.2 (op2 _)
  rw [if_neg k3] at h
  have k4 : (x.kind == 4) = true := by
    rcases hK with ((h' | h') | h') | h'
    ·exact absurd h' k1
    ·exact absurd h' k2
    ·exact absurd h' k3
    exact h'
  rw [if_pos k4] at h
  simp only [SForm.ok, Bool.and_eq_true] at h
  exact zd6 h.2 (op2 _)
theorem y1c {op m : Int} (h : z3m op m = true) : z08 op = (1, 1) := by
  have h2 : op = 1 ∨ op = 2 ∨ op = 3 ∨ op = 4 ∨ op = 6 ∨ op = 7 ∨ op = 8 ∨ op = 9 ∨ op = 10 ∨ op = 11 := by
    unfold z3m at h
    split at h
    ·rename_i e; simp only [Bool.or_eq_true, beq_iff_eq] at e; omega
    split at h
    ·rename_i e; simp only [Bool.or_eq_true, beq_iff_eq] at e; omega
    split at h
    ·rename_i e; simp only [beq_iff_eq] at e; omega
    cases h
  rcases h2 with rfl | rfl | rfl | rfl | rfl | rfl | rfl | rfl | rfl | rfl <;> rfl
theorem y4r {u : Un} {f : Fl} {x : Nd} {s : List Int} {w : Wh} {nums : TT} {y : Int} (hp : z33 nums x = some y) {outs : List Int} (h : (z3u u f x s w).ok f.types outs = true) :
    x.kind = 4 /\ Vis f.types s y 1 /\ (z08 x.op).2 = 1 := by
  unfold z33 at hp
  split at hp
  ·cases hp
  rename_i hk
  have k4 : x.kind = 4 := by simpa using hk
  have hop : (y = x.args.getD 0 0 ∨ y = x.args.getD 1 0) /\ z08 x.op = (1, 1) := by
    split at hp
    ·rename_i hh
     cases hp
     refine ⟨.inl rfl, ?_⟩
     unfold y2w at hh
     split at hh
     ·exact y1c hh
     cases hh
    split at hp
    ·rename_i hh
     cases hp
     refine ⟨.inr rfl, ?_⟩
     unfold y2w at hh
     split at hh
     ·simp only [Bool.and_eq_true] at hh; exact y1c hh.2
     cases hh
    cases hp
  refine ⟨k4, ?_, by rw [hop.2]⟩
  unfold z3u at h
  simp only [k4] at h
  simp only [SForm.ok, Bool.and_eq_true, show ((4 : Int) == 1) = false from rfl, show ((4 : Int) == 2) = false from rfl, show ((4 : Int) == 3) = false from rfl, show ((4 : Int) == 4) = true from rfl, Bool.false_eq_true, if_false, if_true] at h
  have ht := h.1.1.2
  rw [hop.2] at ht
  unfold z07 at ht
  simp only [Bool.and_eq_true, beq_iff_eq, List.length_cons, List.length_nil] at ht
  match hx : x.args, ht with
  | [a, b], ht =>
    simp only [z17, Bool.and_eq_true] at ht
    obtain ⟨a1, a2, a3, a4⟩ := zb3.1 ht.2.1
    obtain ⟨b1, b2, b3, b4⟩ := zb3.1 ht.2.2.1
    rw [hx] at hop
    rcases hop.1 with rfl | rfl
    ·exact ⟨a1, a2, a3, a4.resolve_left dC0⟩
    exact ⟨b1, b2, b3, b4.resolve_left dC0⟩
theorem key_kind (x : Nd) : (z4m x).kind = x.kind /\ (z4m x).op = x.op := by
  unfold z4m
  repeat' split
  all_goals exact ⟨rfl, rfl⟩
theorem y4u {tb : Tb} {to : TT} {x : Nd} (h : x.outs ≠ []) {v : Int} (hv : v ∉ x.outs) : aGet v (z24 tb to x).2.2 = aGet v to := by
  have hne : v ≠ x.outs.headD 0 := fun e => hv (by rw [e]; cases ho : x.outs with | nil => exact absurd ho h | cons a r => simp)
  unfold z24
  split
  ·rw [z7v, if_neg hne]
  split
  ·rw [z7v, if_neg hne]
  rfl
mutual
theorem zj7 : ∀ (x : Nd) (tb : Tb) (to : TT), zl0 x = true -> ∀ v, v ∉ dN x -> aGet v (z05 tb to x).2.2 = aGet v to
  | .mk kind op n name args outs params ks, tb, to, h, v, hv => by
    simp only [zl0, Bool.and_eq_true] at h
    simp only [dN, List.mem_append, not_or] at hv
    have hk := z8s ks tb to h.2 v hv.2.1
    unfold z05
    by_cases hK : stK kind = true
    ·rw [if_pos hK]
     dsimp only
     rw [y4u (by rw [hK] at h; simp at h; exact h.1.1.1) hv.2.2]
     exact hk
    rw [if_neg hK]
    exact hk
theorem z8t : ∀ (l : List Nd) (tb : Tb) (to : TT), zb1 l = true -> ∀ v, v ∉ dL l -> aGet v (z0s tb to l).2.2 = aGet v to
  | [], _, _, _, _, _ => by simp [z0s]
  | x :: r, tb, to, h, v, hv => by
    simp only [zb1, Bool.and_eq_true] at h
    simp only [dL, List.mem_append, not_or] at hv
    simp only [z0s]
    rw [z8t r _ _ h.2 v hv.2, zj7 x tb to h.1 v hv.1]
theorem z8s : ∀ (ks : List (List Nd)) (tb : Tb) (to : TT), zj8 ks = true -> ∀ v, v ∉ dK ks -> aGet v (z0o tb to ks).2 = aGet v to
  | [], _, _, _, _, _ => by simp [z0o]
  | l :: r, tb, to, h, v, hv => by
    simp only [zj8, Bool.and_eq_true] at h
    simp only [dK, List.mem_append, not_or] at hv
    simp only [z0o]
    rw [z8s r _ _ h.2 v hv.2, z8t l tb to h.1 v hv.1]
end
mutual
theorem z8u (u : Un) (f : Fl) : ∀ (x : Nd) (deep : Int) (w : Wh) (all : List Int), z4n u f deep w all x = true -> zl0 x = true
  | .mk kind op n name args outs params ks, deep, w, all, hv => by
    have hb := z6j u f deep _ all hv
    by_cases h10 : kind = 10
    ·obtain ⟨a, b, hk⟩ := z3t hb h10
     rw [z62 u f deep _ all hb h10 hk] at hv
     simp only [Bool.and_eq_true, z43] at hv
     simp only [Nd.kids] at hk
     match ks, hk with
     | [a', b'], hk =>
       cases hk
       subst h10
       simp only [zl0, zj8, Bool.and_eq_true, Bool.and_true]
       exact ⟨⟨⟨rfl, rfl⟩, rfl⟩, z5r u f a _ _ _ hv.1.1.1.2.2, z5r u f b _ _ _ hv.1.1.2.2⟩
    by_cases h11 : kind = 11
    ·obtain ⟨a, hk⟩ := z2n hb h11
     rw [z4o u f deep _ all hb h11 hk] at hv
     simp only [Bool.and_eq_true, z43] at hv
     simp only [Nd.kids] at hk
     match ks, hk with
     | [a'], hk =>
       cases hk
       subst h11
       simp only [zl0, zj8, Bool.and_eq_true, Bool.and_true]
       exact ⟨⟨⟨rfl, rfl⟩, rfl⟩, z5r u f a _ _ _ hv.1.1.2.2⟩
    have e10 : (kind == 10) = false := by simpa using h10
    have e11 : (kind == 11) = false := by simpa using h11
    rw [z2l u f deep _ all hb e10 e11] at hv
    have hk0 : ks = [] := z7w hb e10 e11
    subst hk0
    simp only [zl0, zj8, Bool.and_true, Bool.and_eq_true]
    refine ⟨⟨?_, ?_⟩, ?_⟩
    ·cases hK : stK kind with
     | false => rfl
     | true =>
       obtain ⟨v, ho, _⟩ := y18 (x := .mk kind op n name args outs params []) hK hv
       simp only [Nd.outs] at ho
       rw [ho]; rfl
    ·by_cases h3 : kind = 3
     ·subst h3
      have ht := (show (z2h op && z07 f.types all args [(z08 op).1] && z1x f.types outs [(z08 op).2]) = true from hv)
      simp only [Bool.and_eq_true, z07, beq_iff_eq, List.length_cons, List.length_nil] at ht
      simp; omega
     simp [h3]
    by_cases h4 : kind = 4
    ·subst h4
     have ht := (show (z2m op && z07 f.types all args [(z08 op).1, (z08 op).1] && f.types.getD (args.getD 0 0).toNat 0 == f.types.getD (args.getD 1 0).toNat 0 && z1x f.types outs [(z08 op).2]) = true from hv)
     simp only [Bool.and_eq_true, z07, beq_iff_eq, List.length_cons, List.length_nil] at ht
     simp; omega
    simp [h4]
theorem z5r (u : Un) (f : Fl) : ∀ (l : List Nd) (deep : Int) (w : Wh) (all : List Int), vGo u f deep w all l = true -> zb1 l = true
  | [], _, _, _, _ => rfl
  | x :: r, deep, w, all, hv => by
    simp only [vGo, Bool.and_eq_true] at hv
    simp only [zb1, Bool.and_eq_true]
    exact ⟨z8u u f x deep w all hv.1.1.2, z5r u f r deep w _ hv.2⟩
end
def EP (u : Un) (f : Fl) (l : List Nd) : Prop := ∀ (deep : Int) (w : Wh) (all all' : List Int) (tb : Tb) (to : TT), (dL l).Nodup -> (∀ v ∈ dL l, all.contains v = false) -> (∀ v ∈ dL l, aGet v to = none) ->
  Rel f.types to all all' -> TabOk f.types tb all' -> vGo u f deep w all l = true -> vGo u f deep w all' (z0s tb to l).1 = true
theorem EP.list {u : Un} {f : Fl} {l : List Nd} (hh : EP u f l) {deep : Int} {w : Wh} {all all' : List Int} {tb : Tb} {to : TT} (h1 : (dL l).Nodup) (h2 : ∀ v ∈ dL l, all.contains v = false) (h3 : ∀ v ∈ dL l, aGet v to = none)
    (hr : Rel f.types to all all') (ht : TabOk f.types tb all') (hv : z43 u f deep w all l = true) : z43 u f deep w all' (z0s tb to l).1 = true := by
  simp only [z43, Bool.and_eq_true] at hv ⊢
  refine ⟨?_, hh deep w all all' tb to h1 h2 h3 hr ht hv.2⟩
  have hne : l ≠ [] := by intro e; subst e; simp at hv
  obtain ⟨h1, _⟩ := z40 tb to hv.2 hne
  cases hq : (z0s tb to l).1 with
  | nil => exact absurd hq h1
  | cons _ _ => rfl
def NodeE (u : Un) (f : Fl) (deep : Int) (w : Wh) (all all' : List Int) (tb : Tb) (to : TT) (x : Nd) : Prop :=
  ((z05 tb to x).1 = [] /\ z09 x = false /\ Rel f.types (z05 tb to x).2.2 (all ++ x.outs) all' /\ TabOk f.types (z05 tb to x).2.1 all') ∨
  ∃ y, (z05 tb to x).1 = [y] /\ z4n u f deep w all' y = true /\ z09 y = z09 x /\ y.outs = x.outs /\ Rel f.types (z05 tb to x).2.2 (all ++ x.outs) (all' ++ x.outs) /\ TabOk f.types (z05 tb to x).2.1 (all' ++ x.outs)
theorem zd4 {tb : Tb} {to : TT} {x : Nd} (h : z0k x = true) : z0k (z13 tb to x) = true := by
  cases x with
  | mk kind op n name args outs params ks => exact ((zy4 (zn7 ks tb to)).trans (show z0k (.mk kind op n name (args.map (z29 to)) outs params ks) = z0k (.mk kind op n name args outs params ks) from rfl)).trans h
theorem y4v {tys all all' : List Int} {to : TT} {v y : Int} (hr : Rel tys to all all') (hy : Vis tys all' y (tys.getD v.toNat 0)) : Rel tys (aPut v y to) (all ++ [v]) all' := fun z hz z0 z1 => by
  by_cases e : z = v
  ·subst e
   have : z29 (aPut z y to) z = y := by unfold z29; rw [z7v, if_pos rfl]; rfl
   rw [this]; exact hy
  have : z29 (aPut v y to) z = z29 to z := by unfold z29; rw [z7v, if_neg e]
  rw [this]
  refine hr z ?_ z0 z1
  rw [List.contains_append, Bool.or_eq_true] at hz
  exact hz.resolve_right (by simpa using e)
theorem pure_e (u : Un) (f : Fl) (x : Nd) (deep : Int) (w : Wh) (all all' : List Int) (tb : Tb) (to : TT) (hK : stK x.kind = true) (hto : ∀ v ∈ x.outs, aGet v to = none)
    (hr : Rel f.types to all all') (ht : TabOk f.types tb all') (hb : z0k x = true) (hv : z4n u f deep w all x = true) : NodeE u f deep w all all' tb to x := by
  have h10 : (x.kind == 10) = false := by simp only [stK, Bool.or_eq_true, beq_iff_eq] at hK; simp; omega
  have h11 : (x.kind == 11) = false := by simp only [stK, Bool.or_eq_true, beq_iff_eq] at hK; simp; omega
  have hk0 : x.kids = [] := z7w hb h10 h11
  have e2 : (z0o tb to x.kids).2 = to := by rw [hk0]; simp [z0o]
  rw [z2l u f deep w all hb h10 h11] at hv
  obtain ⟨v, ho, v0, v1, vt⟩ := y18 hK hv
  have hy : (z3u u f (z13 tb to x) all' w).ok f.types x.outs = true := zw9 (x := x) rfl rfl rfl rfl rfl hr hv
  have hcl : z09 x = false := by
    cases hc : z09 x with
    | false => rfl
    | true => rw [z8j hc] at hK; cases hK
  have hvn := hto v (by rw [ho]; exact .head _)
  have hno : (z13 tb to x).outs = x.outs := rfl
  have hnk : (z13 tb to x).kind = x.kind := rfl
  have hnp : (z13 tb to x).op = x.op := rfl
  unfold NodeE
  rw [z5q, if_pos hK, e2, ho]
  unfold z24
  rw [hno, ho]
  cases hp : z33 tb.nums (z13 tb to x) with
  | some y =>
    obtain ⟨k4, vis, t1⟩ := y4r hp hy
    refine .inl ⟨rfl, hcl, y4v hr ?_, ht⟩
    show Vis f.types all' y (f.types.getD v.toNat 0)
    rw [vt]
    have k4' : x.kind = 4 := k4
    have t1' : (z08 x.op).2 = 1 := t1
    rw [k4', t1']
    exact vis
  | none =>
    dsimp only
    have hkk := key_kind (z13 tb to x)
    cases hs : aGet (z4m (z13 tb to x)) tb.seen with
    | some y =>
      refine .inl ⟨rfl, hcl, y4v hr ?_, ht⟩
      have := ht _ (y0p hs)
      unfold kTy at this
      rw [hkk.1, hkk.2, hnk, hnp] at this
      show Vis f.types all' y (f.types.getD v.toNat 0)
      rw [vt]
      exact this
    | none =>
      refine .inr ⟨z13 tb to x, rfl, ?_, ?_, ho, ?_, ?_⟩
      ·rw [z2l u f deep w all' (zd4 hb) h10 h11]
       exact hy
      ·rw [hcl]
       cases hc : z09 (z13 tb to x) with
       | false => rfl
       | true => have := z8j hc; rw [hnk, hK] at this; cases this
      ·exact hr.outs fun z hz => by obtain rfl := List.mem_singleton.1 hz; exact hvn
      intro e he
      rcases y0q he with rfl | he
      ·refine ⟨by simp, v0, v1, ?_⟩
       show _ = kTy (z4m (z13 tb to x))
       unfold kTy
       rw [hkk.1, hkk.2, hnk, hnp]
       exact vt
      exact (ht e he).mono _
theorem node_e (u : Un) (f : Fl) (x : Nd) (ih : ∀ q ∈ x.kids, EP u f q) (deep : Int) (w : Wh) (all all' : List Int) (tb : Tb) (to : TT) (hnd : (dN x).Nodup) (hall : ∀ v ∈ dN x, all.contains v = false) (hto : ∀ v ∈ dN x, aGet v to = none)
    (hr : Rel f.types to all all') (ht : TabOk f.types tb all') (hv : z4n u f deep w all x = true) : NodeE u f deep w all all' tb to x := by
  have hb := z6j u f deep _ all hv
  have hok := z8u u f x deep w all hv
  rw [y1m] at hnd hall hto
  rw [y1i] at hok
  simp only [Bool.and_eq_true] at hok
  by_cases hK : stK x.kind = true
  ·exact pure_e u f x deep w all all' tb to hK (fun v hv => hto v (by simp [hv])) hr ht hb hv
  have hK2 : stK x.kind = false := by simpa using hK
  obtain ⟨n1, n2, n3⟩ := List.nodup_append.1 hnd
  obtain ⟨n4, n5, n6⟩ := List.nodup_append.1 n2
  have hkeys : ∀ v, v ∉ dK x.kids -> aGet v (z0o tb to x.kids).2 = aGet v to := z8s x.kids tb to hok.2
  have hrel2 : Rel f.types (z0o tb to x.kids).2 (all ++ x.outs) (all' ++ x.outs) := by
    refine (hr.congr fun v hv => hkeys v fun hm => ?_).outs fun v hv => ?_
    ·have := hall v (by simp [hm]); rw [hv] at this; cases this
    rw [hkeys v fun hm => n6 v hm v hv rfl]; exact hto v (by simp [hv])
  unfold NodeE
  rw [zb0 tb to x hK2]
  refine .inr ⟨z13 tb to x, rfl, ?_, ?_, rfl, hrel2, ht.mono _⟩
  ·by_cases h10 : x.kind = 10
   ·obtain ⟨a, b, hk⟩ := z3t hb h10
    rw [z62 u f deep w all hb h10 hk] at hv
    simp only [Bool.and_eq_true] at hv
    simp only [hk, dK, List.append_nil] at hall hto n4
    obtain ⟨m1, m2, m3⟩ := List.nodup_append.1 n4
    rw [hk] at hok
    simp only [zj8, Bool.and_true, Bool.and_eq_true] at hok
    have ka := z8t a tb to hok.2.1
    have hva := hv.1.1.1.2
    have hvb := hv.1.1.2
    have ha := (ih a (by rw [hk]; simp)).list m1 (fun v hv => hall v (by simp [hv])) (fun v hv => hto v (by simp [hv])) hr ht hva
    have hrb : Rel f.types (z0s tb to a).2.2 all all' := hr.congr fun v hv => ka v fun hm => by
      have := hall v (by simp [hm]); rw [hv] at this; cases this
    have hbb := (ih b (by rw [hk]; simp)).list m2 (fun v hv => hall v (by simp [hv])) (fun v hv => (ka v fun hm => m3 v hm v hv rfl).trans (hto v (by simp [hv]))) hrb ht hvb
    simp only [z43, Bool.and_eq_true] at hva hvb
    have hla := (z40 tb to hva.2 (by intro e; simp [e] at hva)).2
    have hlb := (z40 tb (z0s tb to a).2.2 hvb.2 (by intro e; simp [e] at hvb)).2
    have hkn : (z13 tb to x).kids = [(z0s tb to a).1, (z0s tb (z0s tb to a).2.2 b).1] := by
      show (z0o tb to x.kids).1 = _
      rw [hk]; simp [z0o]
    have hc : z09 (z13 tb to x) = z09 x := by
      unfold z09
      rw [hkn, hk, show (z13 tb to x).kind = x.kind from rfl]
      simp [kid0, kid1, hla, hlb]
    rw [z62 u f deep w all' (zd4 hb) h10 hkn]
    simp only [Bool.and_eq_true]
    exact ⟨⟨⟨⟨zk1 hr hv.1.1.1.1, ha⟩, hbb⟩, by unfold za0 at hv ⊢; rw [hc]; exact hv.1.2⟩, hv.2⟩
   by_cases h11 : x.kind = 11
   ·obtain ⟨a, hk⟩ := z2n hb h11
    rw [z4o u f deep w all hb h11 hk] at hv
    simp only [Bool.and_eq_true] at hv
    simp only [hk, dK, List.append_nil] at hall hto n4 n3
    have hrp : Rel f.types to (all ++ x.params) (all' ++ x.params) := hr.outs fun v hv => hto v (by simp [hv])
    have ha := (ih a (by rw [hk]; simp)).list n4 (fun v hm => by
      rw [List.contains_append, hall v (by simp [hm]), Bool.false_or, <- Bool.not_eq_true, List.contains_iff_mem]
      exact fun hp => n3 v hp v (by simp [hm]) rfl) (fun v hv => hto v (by simp [hv])) hrp (ht.mono _) hv.1.1.2
    have hkn : (z13 tb to x).kids = [(z0s tb to a).1] := by
      show (z0o tb to x.kids).1 = _
      rw [hk]; simp [z0o]
    have hc : z09 (z13 tb to x) = z09 x := by
      unfold z09
      rw [hkn, hk, show (z13 tb to x).kind = x.kind from rfl]
      simp [kid0, z57]
    rw [z4o u f deep w all' (zd4 hb) h11 hkn]
    simp only [Bool.and_eq_true]
    exact ⟨⟨⟨⟨zk1 hr hv.1.1.1.1, hv.1.1.1.2⟩, ha⟩, by unfold za0 at hv ⊢; rw [hc]; exact hv.1.2⟩, hv.2⟩
   have e10 : (x.kind == 10) = false := by simpa using h10
   have e11 : (x.kind == 11) = false := by simpa using h11
   rw [z2l u f deep w all hb e10 e11] at hv
   rw [z2l u f deep w all' (zd4 hb) e10 e11]
   exact zw9 (x := x) rfl rfl rfl rfl rfl hr hv
  by_cases h10 : x.kind = 10
  ·obtain ⟨a, b, hk⟩ := z3t hb h10
   rw [z62 u f deep w all hb h10 hk] at hv
   simp only [Bool.and_eq_true, z43] at hv
   have hla := (z40 tb to hv.1.1.1.2.2 (by intro e; simp [e] at hv)).2
   have hlb := (z40 tb (z0s tb to a).2.2 hv.1.1.2.2 (by intro e; simp [e] at hv)).2
   unfold z09
   rw [show (z13 tb to x).kind = x.kind from rfl, show (z13 tb to x).kids = (z0o tb to x.kids).1 from rfl, hk]
   simp [z0o, kid0, kid1, hla, hlb]
  by_cases h11 : x.kind = 11
  ·obtain ⟨a, hk⟩ := z2n hb h11
   unfold z09
   rw [show (z13 tb to x).kind = x.kind from rfl, show (z13 tb to x).kids = (z0o tb to x.kids).1 from rfl, hk]
   simp [z0o, kid0, z57]
  have e10 : (x.kind == 10) = false := by simpa using h10
  have e11 : (x.kind == 11) = false := by simpa using h11
  unfold z09
  rw [show (z13 tb to x).kind = x.kind from rfl]
  simp only [e10, e11, Bool.false_and, Bool.false_eq_true, if_false]
theorem go_e (u : Un) (f : Fl) : ∀ (l : List Nd), (∀ x ∈ l, ∀ q ∈ x.kids, EP u f q) -> EP u f l
  | [], _ => fun _ _ _ _ _ _ _ _ _ _ _ _ => by simp [z0s, vGo]
  | x :: r, ih => fun deep w all all' tb to hnd hall hto hr ht hv => by
    have hv0 := hv
    simp only [vGo, Bool.and_eq_true] at hv
    obtain ⟨⟨⟨hd, hx⟩, hc⟩, hrr⟩ := hv
    simp only [dL] at hnd hall hto
    obtain ⟨n1, n2, n3⟩ := List.nodup_append.1 hnd
    have hkx := zj7 x tb to (z8u u f x deep w all hx)
    have hall2 : ∀ v ∈ dL r, (all ++ x.outs).contains v = false := fun v hm => by
      rw [List.contains_append, hall v (by simp [hm]), Bool.false_or, <- Bool.not_eq_true, List.contains_iff_mem]
      exact fun ho => n3 v (by rw [y1m]; simp [ho]) v hm rfl
    have hto2 : ∀ v ∈ dL r, aGet v (z05 tb to x).2.2 = none := fun v hm => (hkx v fun hn => n3 v hn v hm rfl).trans (hto v (by simp [hm]))
    have IH := go_e u f r (fun z hz => ih z (.tail _ hz))
    rw [show (z0s tb to (x :: r)).1 = (z05 tb to x).1 ++ (z0s (z05 tb to x).2.1 (z05 tb to x).2.2 r).1 by rw [z0s]]
    rcases node_e u f x (ih x (.head _)) deep w all all' tb to n1 (fun v hv => hall v (by simp [hv])) (fun v hv => hto v (by simp [hv])) hr ht hx with ⟨h1, h2, h3, h4⟩ | ⟨y, h1, h2, h3, h4, h5, h6⟩
    ·rw [h1, List.nil_append]
     exact IH deep w _ all' _ _ n2 hall2 hto2 h3 h4 hrr
    rw [h1, List.singleton_append]
    simp only [vGo, Bool.and_eq_true]
    rw [h3, h4]
    refine ⟨⟨⟨hd, h2⟩, ?_⟩, IH deep w _ _ _ _ n2 hall2 hto2 h5 h6 hrr⟩
    have he : (z0s (z05 tb to x).2.1 (z05 tb to x).2.2 r).1.isEmpty = r.isEmpty := by
      cases r with
      | nil => simp [z0s]
      | cons z r' =>
        obtain ⟨g1, _⟩ := z40 (z05 tb to x).2.1 (z05 tb to x).2.2 hrr sI0
        cases hq : (z0s (z05 tb to x).2.1 (z05 tb to x).2.2 (z :: r')).1 with
        | nil => exact absurd hq g1
        | cons _ _ => rfl
    rw [he]; exact hc
theorem ep_all (u : Un) (f : Fl) : ∀ (N : Nat) (l : List Nd), SizeOf.sizeOf l < N -> EP u f l
  | 0, _, h => absurd h (Nat.not_lt_zero _)
  | N + 1, l, hN => go_e u f l fun x hx q hq => ep_all u f N q (Nat.lt_of_lt_of_le (z7j hx rfl hq) (Nat.le_of_lt_succ hN))
theorem zy9 {k n : Nat} {v : Int} (hk : k <= n) (h : (iota k).contains v = true) : (z2u k n).getD v.toNat false = true := by
  rw [List.contains_iff_mem] at h
  obtain ⟨i, hi, rfl⟩ := List.mem_map.1 h
  rw [List.mem_range] at hi
  simp only [z2u, List.getD_eq_getElem?_getD]
  rw [List.getElem?_append_left (by simpa using hi)]
  simp [hi]
theorem y3f {u : Un} {f : Fl} (hp : f.params.toNat <= f.types.length) (h : zb4 u f f.body) : zb4 u f (stB f.body) := by
  refine ⟨(ep_all u f _ f.body (Nat.lt_succ_self _)).list (tb := ⟨[], []⟩) (to := []) h.2.1 (fun v hv => ?_) (fun _ _ => rfl) (fun v hv v0 v1 => ⟨hv, v0, v1, rfl⟩) (fun e he => by simp at he) h.1, ?_⟩
  ·have := h.2.2 v hv
   cases hc : (iota f.params.toNat).contains v with
   | false => rfl
   | true => rw [zy9 hp hc] at this; cases this
  have hs := za9 f.body ⟨[], []⟩ []
  exact ⟨h.2.1.sublist hs, fun v hv => h.2.2 v (hs.subset hv)⟩
theorem zl2 {u : Un} (h : (z2i u).1 = 0) : z2i (z3q stB u) = (0, 0) :=
  check_m stB h fun f hf => y3f (z8k (((z7e u).1 h).2 f hf))
theorem z6i {u : Un} (h : (z3z u).1 = 0) : ∀ f ∈ u.flows, zb1 f.body = true := by
  rw [z6h] at h
  intro f hf
  have hb := (y3e h f hf).1
  simp only [z43, Bool.and_eq_true] at hb
  exact z5r u f f.body 1 _ _ hb.2
mutual
def kdN : Nd -> Bool
  | .mk kind _ _ _ _ _ _ ks => decide (1 <= kind) && kdK ks
def kdL : List Nd -> Bool
  | [] => true
  | x :: r => kdN x && kdL r
def kdK : List (List Nd) -> Bool
  | [] => true
  | l :: r => kdL l && kdK r
end
theorem kdN_eq (x : Nd) : kdN x = (decide (1 <= x.kind) && kdK x.kids) := by cases x; simp only [kdN]; rfl
theorem y2b {u : Un} {f : Fl} {x : Nd} {s : List Int} {w : Wh} {tys outs : List Int} (h : (z3u u f x s w).ok tys outs = true) : 1 <= x.kind := by
  rcases Int.lt_or_le x.kind 1 with hk | hk
  ·exfalso
   have e : ∀ n : Int, 1 <= n -> (x.kind == n) = false := fun n hn => by simp only [beq_eq_false_iff_ne]; omega
   unfold z3u at h
   simp only [e 1 oM0, e 2 oM0, e 3 oM0, e 4 oM0, e 5 oM0, e 6 oM0, e 7 oM0, e 8 oM0, e 9 oM0, e 12 oM0, e 13 oM0, e 14 oM0, e 15 oM0, Bool.false_eq_true, if_false] at h
   simp [SForm.ok] at h
  exact hk
mutual
theorem y47 (u : Un) (f : Fl) : ∀ (x : Nd) (deep : Int) (w : Wh) (s : List Int), z4n u f deep w s x = true -> kdN x = true
  | .mk kind op n name args outs params ks, deep, w, s, h => by
    have hb := z6j u f deep w s h
    simp only [kdN, Bool.and_eq_true, decide_eq_true_eq]
    by_cases h10 : kind = 10
    ·refine ⟨by omega, ?_⟩
     obtain ⟨a, b, hk⟩ := z3t hb h10
     rw [z62 u f deep w s hb h10 hk] at h
     simp only [Bool.and_eq_true, z43] at h
     simp only [Nd.kids] at hk
     match ks, hk with
     | [a', b'], hk =>
       cases hk
       simp only [kdK, Bool.and_eq_true, Bool.and_true]
       exact ⟨z7i u f a _ _ _ h.1.1.1.2.2, z7i u f b _ _ _ h.1.1.2.2⟩
    by_cases h11 : kind = 11
    ·refine ⟨by omega, ?_⟩
     obtain ⟨a, hk⟩ := z2n hb h11
     rw [z4o u f deep w s hb h11 hk] at h
     simp only [Bool.and_eq_true, z43] at h
     simp only [Nd.kids] at hk
     match ks, hk with
     | [a'], hk =>
       cases hk
       simp only [kdK, Bool.and_true]
       exact z7i u f a _ _ _ h.1.1.2.2
    have e10 : (kind == 10) = false := by simpa using h10
    have e11 : (kind == 11) = false := by simpa using h11
    have hk0 := z7w hb e10 e11
    simp only [Nd.kids] at hk0
    rw [z2l u f deep w s hb e10 e11] at h
    exact ⟨y2b h, by rw [hk0]; rfl⟩
theorem z7i (u : Un) (f : Fl) : ∀ (l : List Nd) (deep : Int) (w : Wh) (s : List Int), vGo u f deep w s l = true -> kdL l = true
  | [], _, _, _, _ => rfl
  | x :: r, deep, w, s, h => by
    simp only [vGo, Bool.and_eq_true] at h
    simp only [kdL, Bool.and_eq_true]
    exact ⟨y47 u f x _ _ _ h.1.1.2, z7i u f r _ _ _ h.2⟩
end
theorem kd_valid {u : Un} (h : (z3z u).1 = 0) : ∀ f ∈ u.flows, kdL f.body = true := by
  rw [z6h] at h
  intro f hf
  have hF := ((z7e u).1 h).2 f hf
  unfold z2v at hF
  simp only [Bool.and_eq_true] at hF
  obtain ⟨h1, h2⟩ := hF
  have hp : f.params.toNat <= f.types.length := by
    have a1 := h1.1.1.1.1
    have a2 := h1.1.1.2
    simp only [Bool.not_eq_true', decide_eq_false_iff_not] at a1 a2
    omega
  have hn : (z2u f.params.toNat f.types.length).length = f.types.length := z2x hp
  rw [z83 u f f.body 1 z21 _ _ hn] at h2
  have hv := h2.1
  simp only [z43, Bool.and_eq_true] at hv
  exact z7i u f f.body _ _ _ hv.2
def z2p (a b : Nd) : Bool := a.kind == b.kind && a.op == b.op && a.n == b.n && decide (a.kind <= 4) && a.args == b.args
mutual
def onN (pre : List Nd) : Nd -> Bool
  | .mk kind op n name args outs params ks => !(pre.any fun y => z2p y (.mk kind op n name args outs params ks)) && onK ks
def onL (pre : List Nd) : List Nd -> Bool
  | [] => true
  | x :: r => onN pre x && onL (pre ++ [x]) r
def onK : List (List Nd) -> Bool
  | [] => true
  | l :: r => onL [] l && onK r
end
theorem zv3 (pre : List Nd) (x : Nd) : onN pre x = (!(pre.any fun y => z2p y x) && onK x.kids) := by cases x; simp only [onN, Nd.kids]
def zv8 (u : Un) : Bool := u.flows.all fun f => onL [] f.body
theorem zr4 {y x : Nd} (h : z2p y x = true) : y.kind = x.kind /\ y.kind <= 4 /\ z4m y = z4m x := by
  simp only [z2p, Bool.and_eq_true, beq_iff_eq, decide_eq_true_eq] at h
  obtain ⟨⟨⟨⟨h1, h2⟩, h3⟩, h4⟩, h5⟩ := h
  refine ⟨h1, h4, ?_⟩
  unfold z4m
  rw [h1, h2, h3, h5]
theorem y4t {pre : List Nd} {x : Nd} (h : ∀ y ∈ pre, z2p y x = false) : (pre.any fun y => z2p y x) = false := by
  rw [List.any_eq_false]
  exact fun y hy => by rw [h y hy]; simp
def Known (tb : Tb) (pre : List Nd) : Prop := ∀ y ∈ pre, stK y.kind = true -> aGet (z4m y) tb.seen ≠ none
mutual
theorem on_node : ∀ (x : Nd) (tb : Tb) (to : TT) (pre : List Nd), Known tb pre -> kdN x = true -> onL pre (z05 tb to x).1 = true /\ Known (z05 tb to x).2.1 (pre ++ (z05 tb to x).1)
  | .mk kind op n name args outs params ks, tb, to, pre, hk, hd => by
    rw [kdN_eq] at hd
    simp only [Bool.and_eq_true, decide_eq_true_eq, Nd.kids] at hd
    have hks := y4o ks tb to hd.2
    unfold z05
    by_cases hK : stK kind = true
    ·rw [if_pos hK]
     dsimp only
     unfold z24
     cases hp : z33 tb.nums (.mk kind op n name (args.map (z29 to)) outs params (z0o tb to ks).1) with
     | some y => exact ⟨by simp [onL], by simpa using hk⟩
     | none =>
       dsimp only
       cases hs : aGet (z4m (.mk kind op n name (args.map (z29 to)) outs params (z0o tb to ks).1)) tb.seen with
       | some y => exact ⟨by simp [onL], by simpa using hk⟩
       | none =>
         refine ⟨?_, fun y hy hyk => ?_⟩
         ·simp only [if_true, onL, Bool.and_true]
          rw [zv3]
          have := y4t (pre := pre) (x := .mk kind op n name (args.map (z29 to)) outs params (z0o tb to ks).1) fun y hy => by
            cases ha : z2p y (.mk kind op n name (args.map (z29 to)) outs params (z0o tb to ks).1) with
            | false => rfl
            | true =>
              obtain ⟨e1, e2, e3⟩ := zr4 ha
              exact absurd (e3 ▸ hs) (hk y hy (by rw [e1]; exact hK))
          rw [this, Bool.not_false, Bool.true_and]
          exact hks
         simp only [if_true] at hy
         rw [z7v]
         by_cases e : z4m y = z4m (.mk kind op n name (args.map (z29 to)) outs params (z0o tb to ks).1)
         ·rw [if_pos e]; simp
         rw [if_neg e]
         rcases List.mem_append.1 hy with hy | hy
         ·exact hk y hy hyk
         obtain rfl := List.mem_singleton.1 hy
         exact absurd rfl e
    rw [if_neg hK]
    refine ⟨?_, fun y hy hyk => ?_⟩
    ·simp only [onL, Bool.and_true]
     rw [zv3]
     have := y4t (pre := pre) (x := .mk kind op n name (args.map (z29 to)) outs params (z0o tb to ks).1) fun y hy => by
       cases ha : z2p y (.mk kind op n name (args.map (z29 to)) outs params (z0o tb to ks).1) with
       | false => rfl
       | true =>
         obtain ⟨e1, e2, _⟩ := zr4 ha
         have h1 : 1 <= kind := hd.1
         have e1' : y.kind = kind := e1
         exfalso
         apply hK
         simp only [stK, Bool.or_eq_true, beq_iff_eq]
         omega
     rw [this, Bool.not_false, Bool.true_and]
     exact hks
    rcases List.mem_append.1 hy with hy | hy
    ·exact hk y hy hyk
    obtain rfl := List.mem_singleton.1 hy
    exact absurd hyk hK
theorem zz9 : ∀ (l : List Nd) (tb : Tb) (to : TT) (pre : List Nd), Known tb pre -> kdL l = true -> onL pre (z0s tb to l).1 = true
  | [], _, _, _, _, _ => by simp [z0s, onL]
  | x :: r, tb, to, pre, hk, hd => by
    simp only [kdL, Bool.and_eq_true] at hd
    obtain ⟨h1, h2⟩ := on_node x tb to pre hk hd.1
    have h3 := zz9 r (z05 tb to x).2.1 (z05 tb to x).2.2 _ h2 hd.2
    simp only [z0s]
    have hl := zn9 tb to x
    match hn : (z05 tb to x).1, hl with
    | [], _ => rw [hn] at h3; simpa using h3
    | [y], _ =>
      rw [hn] at h1 h3
      simp only [onL, Bool.and_true] at h1
      simp only [List.singleton_append, onL, h1, Bool.true_and]
      exact h3
theorem y4o : ∀ (ks : List (List Nd)) (tb : Tb) (to : TT), kdK ks = true -> onK (z0o tb to ks).1 = true
  | [], _, _, _ => by simp [z0o, onK]
  | l :: r, tb, to, hd => by
    simp only [kdK, Bool.and_eq_true] at hd
    simp only [z0o, onK, Bool.and_eq_true]
    exact ⟨zz9 l tb to [] (fun y hy => by simp at hy) hd.1, y4o r tb _ hd.2⟩
end
theorem y27 (u : Un) : zv8 (z3r stB u).1 = true := by
  by_cases h : (z2i u).1 = 0
  ·rw [z4l stB h]
   unfold zv8
   rw [List.all_eq_true]
   intro g hg
   obtain ⟨f, hf, rfl⟩ := List.mem_map.1 (show g ∈ u.flows.map (z49 stB) from hg)
   exact zz9 f.body _ _ [] (fun y hy => by simp at hy) (kd_valid (by rw [z6h]; exact h) f hf)
  rw [zn0 stB h]
  rfl
def inEs (l : TT) : List (Value × PV) := l.map fun e => (vKey e.1, vInt e.2)
def tH (tb : Tb) (to : TT) : List (Nat × HO) := [(3001, .map (kyEs tb.seen)), (3002, .map (inEs tb.nums)), (3003, .map (inEs to))]
abbrev tV : IV := .agg [.mp 3001, .mp 3002, .mp 3003]
theorem z5j (l : TT) : ∀ e ∈ inEs l, z36 (.int .i64) e.1 = true := fun e he => by
  obtain ⟨x, _, rfl⟩ := List.mem_map.1 he
  rfl
theorem y48 (a b : Int) : keyB (vKey a) (vKey b) = decide (a = b) := by
  show (a == b) = _
  by_cases h : a = b <;> simp [h]
theorem zt4 (v : Int) : ∀ l : TT, z4s (vKey v) (inEs l) = (aGet v l).map vInt
  | [] => rfl
  | (a, b) :: r => by
    have ih := zt4 v r
    unfold inEs at ih ⊢
    simp only [List.map_cons, z4s, aGet, y48, decide_eq_true_eq]
    by_cases h : v = a
    · rw [if_pos h, if_pos h]; rfl
    · rw [if_neg h, if_neg h]; exact ih
theorem zd1 (k v : Int) : ∀ l : TT, mput (vKey k) (vInt v) (inEs l) = inEs (aPut k v l)
  | [] => rfl
  | (a, b) :: r => by
    have ih := zd1 k v r
    unfold inEs at ih ⊢
    simp only [List.map_cons, mput, aPut, y48, decide_eq_true_eq]
    by_cases h : k = a
    · rw [if_pos h, if_pos h]; rfl
    · rw [if_neg h, if_neg h, ih]; rfl
theorem zf6 (v : Int) (l : TT) : ((z4s (vKey v) (inEs l)).getD (.val (.int .i64 0)), (z4s (vKey v) (inEs l)).isSome) = (vInt ((aGet v l).getD 0), (aGet v l).isSome) := by
  rw [zt4]
  cases aGet v l <;> rfl
theorem y2z {to : TT} {v : Int} (h : (aGet v to).isSome = true) : (aGet v to).getD 0 = z29 to v := by
  unfold z29
  cases hg : aGet v to with
  | none => rw [hg] at h; cases h
  | some y => rfl
theorem y2y {to : TT} {v : Int} (h : (aGet v to).isSome = false) : z29 to v = v := by
  unfold z29
  cases hg : aGet v to with
  | none => rfl
  | some y => rw [hg] at h; cases h
theorem z4q {nums : TT} {v : Int} {q : Int -> Bool} : y2w nums v q = ((aGet v nums).isSome && q ((aGet v nums).getD 0)) := by
  unfold y2w
  cases aGet v nums <;> rfl
theorem ls_len : ∀ l : List Nd, l.length <= lsW l
  | [] => by simp
  | x :: r => by
    have h1 := ls_len r
    have h2 : 1 <= ndW x := by cases x; simp only [ndW]; omega
    simp only [lsW, List.length_cons]
    omega
theorem zj9 {α : Type} : ∀ {l : List α} {k : Nat} {x : α} {r : List α}, l.drop k = x :: r -> l.take (k + 1) = l.take k ++ [x]
  | [], k, x, r, h => by simp at h
  | y :: l, 0, x, r, h => by simp at h; simp [h.1]
  | y :: l, k + 1, x, r, h => by
    have := zj9 (l := l) (k := k) (x := x) (r := r) (by simpa using h)
    simp only [List.take_succ_cons, List.cons_append, this]
theorem zz4 {α : Type} {l : List α} {j k : Nat} (hj : j < k) (hl : j < l.length) : l[j] ∈ l.take k := by
  have h : j < (l.take k).length := by rw [List.length_take]; omega
  have e : (l.take k)[j] = l[j] := List.getElem_take
  exact e ▸ List.getElem_mem h
theorem args_ne {l m : List Int} (h : ¬ (l.length : Int) = m.length) : (l == m) = false := by
  cases hb : (l == m) with
  | false => rfl
  | true => exact absurd (by rw [eq_of_beq hb]) h
theorem firm3 {hp : Hp} {a b c : Nat} (h1 : ∃ es, look hp a = some (.map es)) (h2 : ∃ es, look hp b = some (.map es)) (h3 : ∃ es, look hp c = some (.map es)) : ∀ z ∈ [IV.mp a, .mp b, .mp c], z.firm (look hp) := fun z hz => by
  rcases List.mem_cons.1 hz with rfl | hz
  · exact h1
  · rcases List.mem_cons.1 hz with rfl | hz
    · exact h2
    · obtain rfl := List.mem_singleton.1 hz; exact h3
theorem z91 {l : List Int} {i : Nat} (h : i < l.length) : (l.map eInt)[i]? = some [vInt (l.getD i 0)] := by
  rw [List.getElem?_map, List.getD_eq_getElem?_getD, List.getElem?_eq_getElem h]; rfl
theorem y3l (B : List Nd -> List Nd) (l : List Fl) (x : Fl) : (l ++ [z49 B x]).map Fl.enc = l.map Fl.enc ++ [[vStr x.name, vInt x.ty, vInt x.params, ints x.types, z0g (B x.body)]] := by
  rw [List.map_append]; rfl
theorem za6 (op : Int) : SC Tryz.prog 90 [iInt op] [] (fun _ => False) (iBool (z5s op)) [] := by
  refine SC.of Tryz.func90 rfl (lb rfl) fun F ρ w => ?_
  refine tQ <| tG <| sm 1 rfl <| nL <| tQ <| tQ <| tG <| sm 1 rfl <| nL <| tBk <| tQ <| tQ ?_
  refine tG <| sm 2 rfl <| nL ?_
  refine tC rfl (fun hc4 => ?_) fun hc4 => ?_
  ·refine tSk ?_
   refine tC rfl (fun hd4 => ?_) fun hd4 => ?_
   ·refine tQ <| tG <| sm 1 rfl <| nL <| tRt <| rOk rfl ?_ nPo
    simp_all [z5s]
   exact absurd (hc4.symm.trans hd4) dC0
  refine tQ <| tG <| sm 2 rfl <| nL ?_
  refine tC rfl (fun hc4 => ?_) fun hc4 => ?_
  ·refine tSk ?_
   refine tC rfl (fun hd4 => ?_) fun hd4 => ?_
   ·refine tQ <| tG <| sm 1 rfl <| nL <| tRt <| rOk rfl ?_ nPo
    simp_all [z5s]
   exact absurd (hc4.symm.trans hd4) dC0
  refine tQ <| tG <| sm 2 rfl <| nL ?_
  refine tC rfl (fun hc4 => ?_) fun hc4 => ?_
  ·refine tSk ?_
   refine tC rfl (fun hd4 => ?_) fun hd4 => ?_
   ·refine tQ <| tG <| sm 1 rfl <| nL <| tRt <| rOk rfl ?_ nPo
    simp_all [z5s]
   exact absurd (hc4.symm.trans hd4) dC0
  refine tQ <| tG <| sm 2 rfl <| nL ?_
  refine tC rfl (fun hc4 => ?_) fun hc4 => ?_
  ·refine tSk ?_
   refine tC rfl (fun hd4 => ?_) fun hd4 => ?_
   ·refine tQ <| tG <| sm 1 rfl <| nL <| tRt <| rOk rfl ?_ nPo
    simp_all [z5s]
   exact absurd (hc4.symm.trans hd4) dC0
  refine tQ <| tG <| sm 2 rfl <| nL ?_
  refine tC rfl (fun hc4 => ?_) fun hc4 => ?_
  ·refine tSk ?_
   refine tC rfl (fun hd4 => ?_) fun hd4 => ?_
   ·refine tQ <| tG <| sm 1 rfl <| nL <| tRt <| rOk rfl ?_ nPo
    simp_all [z5s]
   exact absurd (hc4.symm.trans hd4) dC0
  refine tQ <| tG <| sm 2 rfl <| nL ?_
  refine tC rfl (fun hc4 => ?_) fun hc4 => ?_
  ·refine tSk ?_
   refine tC rfl (fun hd4 => ?_) fun hd4 => ?_
   ·refine tQ <| tG <| sm 1 rfl <| nL <| tRt <| rOk rfl ?_ nPo
    simp_all [z5s]
   exact absurd (hc4.symm.trans hd4) dC0
  refine tG <| sm 2 rfl <| nL ?_
  refine tC rfl (fun hc4 => ?_) fun hc4 => ?_
  ·refine tQ <| tG <| sm 1 rfl <| nL <| tRt <| rOk rfl ?_ nPo
   simp_all [z5s]
  refine tSk <| tQ <| tG <| sm 1 rfl <| nL <| tRt <| rOk rfl ?_ nPo
  simp_all [z5s]
theorem za5 (op n : Int) : SC Tryz.prog 89 [iInt op, iInt n] [] (fun _ => False) (iBool (z3m op n)) [] := by
  refine SC.of Tryz.func89 rfl (lb rfl) fun F ρ w => ?_
  refine tQ <| tG <| sm 1 rfl <| nL <| tQ <| tQ <| tG <| sm 1 rfl <| nL <| tBk <| tQ <| tQ ?_
  refine tG <| sm 2 rfl <| nL ?_
  refine tC rfl (fun hc6 => ?_) fun hc6 => ?_
  ·refine tSk ?_
   refine tC rfl (fun hd6 => ?_) fun hd6 => ?_
   ·refine tQ <| tG <| sm 3 rfl <| nL <| tRt <| rOk rfl ?_ nPo
    simp_all [z3m]
   exact absurd (hc6.symm.trans hd6) dC0
  refine tQ <| tG <| sm 2 rfl <| nL ?_
  refine tC rfl (fun hc6 => ?_) fun hc6 => ?_
  ·refine tSk ?_
   refine tC rfl (fun hd6 => ?_) fun hd6 => ?_
   ·refine tQ <| tG <| sm 3 rfl <| nL <| tRt <| rOk rfl ?_ nPo
    simp_all [z3m]
   exact absurd (hc6.symm.trans hd6) dC0
  refine tQ <| tG <| sm 2 rfl <| nL ?_
  refine tC rfl (fun hc6 => ?_) fun hc6 => ?_
  ·refine tSk ?_
   refine tC rfl (fun hd6 => ?_) fun hd6 => ?_
   ·refine tQ <| tG <| sm 3 rfl <| nL <| tRt <| rOk rfl ?_ nPo
    simp_all [z3m]
   exact absurd (hc6.symm.trans hd6) dC0
  refine tQ <| tG <| sm 2 rfl <| nL ?_
  refine tC rfl (fun hc6 => ?_) fun hc6 => ?_
  ·refine tSk ?_
   refine tC rfl (fun hd6 => ?_) fun hd6 => ?_
   ·refine tQ <| tG <| sm 3 rfl <| nL <| tRt <| rOk rfl ?_ nPo
    simp_all [z3m]
   exact absurd (hc6.symm.trans hd6) dC0
  refine tQ <| tG <| sm 2 rfl <| nL ?_
  refine tC rfl (fun hc6 => ?_) fun hc6 => ?_
  ·refine tSk ?_
   refine tC rfl (fun hd6 => ?_) fun hd6 => ?_
   ·refine tQ <| tG <| sm 3 rfl <| nL <| tRt <| rOk rfl ?_ nPo
    simp_all [z3m]
   exact absurd (hc6.symm.trans hd6) dC0
  refine tQ <| tG <| sm 2 rfl <| nL ?_
  refine tC rfl (fun hc6 => ?_) fun hc6 => ?_
  ·refine tSk ?_
   refine tC rfl (fun hd6 => ?_) fun hd6 => ?_
   ·refine tQ <| tG <| sm 3 rfl <| nL <| tRt <| rOk rfl ?_ nPo
    simp_all [z3m]
   exact absurd (hc6.symm.trans hd6) dC0
  refine tG <| sm 2 rfl <| nL ?_
  refine tC rfl (fun hc6 => ?_) fun hc6 => ?_
  ·refine tQ <| tG <| sm 3 rfl <| nL <| tRt <| rOk rfl ?_ nPo
   simp_all [z3m]
  refine tQ <| tQ <| tG <| sm 2 rfl <| nL ?_
  refine tC rfl (fun hc16 => ?_) fun hc16 => ?_
  ·refine tSk ?_
   refine tC rfl (fun hd16 => ?_) fun hd16 => ?_
   ·refine tQ <| tG <| sm 3 rfl <| nL <| tRt <| rOk rfl ?_ nPo
    simp_all [z3m]
   exact absurd (hc16.symm.trans hd16) dC0
  refine tG <| sm 2 rfl <| nL ?_
  refine tC rfl (fun hc16 => ?_) fun hc16 => ?_
  ·refine tQ <| tG <| sm 3 rfl <| nL <| tRt <| rOk rfl ?_ nPo
   simp_all [z3m]
  refine tQ <| tG <| sm 2 rfl <| nL ?_
  refine tC rfl (fun hc21 => ?_) fun hc21 => ?_
  ·refine tQ <| tG <| sm 3 rfl <| nL <| tRt <| rOk rfl ?_ nPo
   simp_all [z3m]
  refine tSk <| tQ <| tG <| sm 1 rfl <| nL <| tRt <| rOk rfl ?_ nPo
  simp_all [z3m]
theorem sc_stKey (x : Nd) (h3 : x.kind = 3 -> 0 < x.args.length) (h4 : x.kind = 4 -> 1 < x.args.length) : SC Tryz.prog 65 [.pv (ndv x)] [] (fun _ => False) (.pv (kyP (z4m x))) [] := by
  refine SC.ofC Tryz.func65 rfl (lb rfl) rfl fun F ρ w => ?_
  refine tQ <| tG <| cE rfl (z1d rfl rfl) <| cE rfl (aLc (k := 102) rfl tZ108 rfl rfl rfl rfl) <| nL <| tQ <| tG <| sm 6 rfl <| cV rfl (bPu rfl rfl tZ108 tP108 rfl (fbk rfl) rfl) <| cE rfl (aLc (k := 103) rfl tZ108 rfl rfl rfl rfl) <| c0 (sBA rfl rfl rfl rfl rfl ((fun h => h)) z70 (flk rfl) (lb rfl)) <| nL ?_
  refine tQ <| tQ <| tG <| sm 2 rfl <| nL <| tBk <| tQ <| tG <| sm 2 rfl <| nL ?_
  refine tC rfl (fun hc13 => ?_) fun hc13 => ?_
  ·have hk : x.kind = 3 := by simpa using hc13
   have hi0 := z91 (h3 hk)
   refine tG <| sm 2 rfl <| cV rfl (iSq rfl rfl rfl uT35 hi0 tS3 rfl (by rfl)) <| sm 2 rfl <| c0 (sBx rfl rfl rfl rfl ((fun h => h)) tS3 (rfl) (lb rfl)) <| nL <| tQ <| tG <| cV rfl (lBP rfl rfl rfl Tryz.underlying108 rfl z70 (lb rfl) rfl trivial) <| c0 (sBA rfl rfl rfl rfl rfl ((fun h => h)) z70 (flk rfl) (lb rfl)) <| nL <| tRt <| rCk (.inl rfl) (fun _ _ ho => lBP ho rfl rfl Tryz.underlying108 rfl z70 (lb rfl) rfl trivial) ?_ nPo
   simp_all [z4m, kyP]
  have hk3 : (x.kind == 3) = false := hc13
  refine tQ <| tG <| sm 2 rfl <| nL ?_
  refine tC rfl (fun hc20 => ?_) fun hc20 => ?_
  ·have hk : x.kind = 4 := by simpa using hc20
   have hl := h4 hk
   have hi0 := z91 (l := x.args) (i := 0) oM0
   have hi1 := z91 (l := x.args) (i := 1) hl
   refine tQ <| tDr z1a (fun k => k ∈ ([] : List Nat)) <| wR 3 [0, 1, 2, 3, 4, 5, 6, 7, 8] kR0 h30 <| smR 2 rfl <| rV rfl rfl (iSq rfl rfl rfl uT35 hi0 tS3 rfl (by rfl)) <| smR 3 rfl <| rV rfl rfl (iSq rfl rfl rfl uT35 hi1 tS3 rfl (by rfl)) <| smR 2 rfl <| nR <| wO 9 kR0 <| wI rfl rfl nf (nOl rfl) (fun _ _ => sBx rfl rfl rfl rfl sI0 tS3 (rfl) (lb rfl)) <| wR 1 [10] kR0 h30 ?_
   refine smR 1 rfl <| nR <| wO 11 kR0 <| wI rfl rfl nf (nOl rfl) (fun _ _ => sBx rfl rfl rfl rfl sI0 tS3 (rfl) (lb rfl)) <| wDn kR0 <| tQ <| tG <| sm 2 rfl <| cE rfl (ocq (za6 x.op) ent90 rfl rfl) <| sm 1 rfl ?_
   refine wS 35 rfl (fun hb35 => ?_) fun hb35 => ?_
   ·refine sm 6 rfl <| nL ?_
    refine tC rfl (fun hc41 => ?_) fun hc41 => ?_
    ·refine tG <| sm 5 rfl <| c0 (sBx rfl rfl rfl rfl ((fun h => h)) tS3 (rfl) (lb rfl)) <| sm 1 rfl <| c0 (sBx rfl rfl rfl rfl ((fun h => h)) tS3 (rfl) (lb rfl)) <| nL <| tQ <| tG <| cV rfl (lBP rfl rfl rfl Tryz.underlying108 rfl z70 (lb rfl) rfl trivial) <| c0 (sBA rfl rfl rfl rfl rfl ((fun h => h)) z70 (flk rfl) (lb rfl)) <| nL <| tRt <| rCk (.inl rfl) (fun _ _ ho => lBP ho rfl rfl Tryz.underlying108 rfl z70 (lb rfl) rfl trivial) ?_ nPo
     simp_all [z4m, kyP]
    refine tSk <| tQ <| tG <| cV rfl (lBP rfl rfl rfl Tryz.underlying108 rfl z70 (lb rfl) rfl trivial) <| c0 (sBA rfl rfl rfl rfl rfl ((fun h => h)) z70 (flk rfl) (lb rfl)) <| nL <| tRt <| rCk (.inl rfl) (fun _ _ ho => lBP ho rfl rfl Tryz.underlying108 rfl z70 (lb rfl) rfl trivial) ?_ nPo
    (simp_all [z4m, kyP]; rw [if_neg oM0]; simp)
   refine sm 6 rfl <| nL <| Tr.condF rfl <| tSk <| tQ <| tG <| cV rfl (lBP rfl rfl rfl Tryz.underlying108 rfl z70 (lb rfl) rfl trivial) <| c0 (sBA rfl rfl rfl rfl rfl ((fun h => h)) z70 (flk rfl) (lb rfl)) <| nL <| tRt <| rCk (.inl rfl) (fun _ _ ho => lBP ho rfl rfl Tryz.underlying108 rfl z70 (lb rfl) rfl trivial) ?_ nPo
   simp_all [z4m, kyP]
  have hk4 : (x.kind == 4) = false := hc20
  refine tSk <| tQ <| tG <| cV rfl (lBP rfl rfl rfl Tryz.underlying108 rfl z70 (lb rfl) rfl trivial) <| c0 (sBA rfl rfl rfl rfl rfl ((fun h => h)) z70 (flk rfl) (lb rfl)) <| nL <| tRt <| rCk (.inl rfl) (fun _ _ ho => lBP ho rfl rfl Tryz.underlying108 rfl z70 (lb rfl) rfl trivial) ?_ nPo
  simp_all [z4m, kyP]
theorem y5p (l : List Int) (tb : Tb) (to : TT) (hb : l.length <= 1073741824) : SC Tryz.prog 39 [tV, .pv (ints l)] (tH tb to) (fun k => k = 3001 ∨ k = 3002 ∨ k = 3003) (.pv (ints (l.map (z29 to)))) (tH tb to) := by
  refine SC.of Tryz.func39 rfl (lb rfl) fun F ρ w => ?_
  refine Tr.lenOf (t := 1) rfl (fun hl => ?_)
  simp only [List.length_map] at hl
  refine tQ <| tG <| cE rfl (z5l (k := 102) rfl rfl rfl rfl rfl rfl rfl) <| sm 1 rfl <| nL <| tQ <| tQ <| Tr.grow (t := 4) (k := 104) ⟨3, 1⟩ rfl rfl rfl rfl rfl <| tG <| sm 1 rfl <| cV rfl (oSm uT35 rfl) <| sm 1 rfl ?_
  refine nL <| tBk <| Tr.sub (Sub.of (fr' := [(11, iInt 0), (10, iInt l.length), (9, .pv (ints l)), (4, .sl 104 (([] : List Int).map eInt).length), (2, .ptr 102 0)]) ⟨rfl, rfl, rfl, rfl, rfl, trivial⟩) ?_
  refine Tr.loop (fun fr σ m => ∃ (k : Nat) (acc : List Int), (k <= l.length) /\ (acc ++ (l.drop k).map (z29 to) = l.map (z29 to)) /\ fr = [(11, iInt k), (10, iInt l.length), (9, .pv (ints l)), (4, .sl 104 (acc.map eInt).length), (2, .ptr 102 0)] /\ σ = look [(104, some (.row ⟨3, 1⟩ (acc.map eInt))), (102, some (.box [.mp 3001, .mp 3002, .mp 3003])), (3001, some (.map (kyEs tb.seen))), (3002, some (.map (inEs tb.nums))), (3003, some (.map (inEs to)))] /\ m = l.length - k) (n := l.length - 0) ?_ ?_
  ·exact ⟨0, ([] : List Int), Nat.zero_le _, rfl, rfl, rfl, rfl⟩
  rintro fr σ m ⟨k, acc, hI0, hI1, rfl, rfl, rfl⟩
  refine tQ <| tG <| sm 1 rfl <| nL <| tQ ?_
  refine tC rfl (fun hc12 => ?_) fun hc12 => ?_
  ·have hlt : k < l.length := by simpa using hc12
   have hd := List.drop_eq_getElem_cons hlt
   have hm := List.getElem_mem hlt
   have hi := z0i (f := eInt) (List.getElem?_eq_getElem hlt)
   generalize l[k] = x at hd hm hi
   have hal : (acc.map eInt).length = acc.length := by simp
   have hol : acc.length + 1 <= 1073741824 := by
     have := congrArg List.length hI1
     rw [hd] at this
     simp only [List.length_append, List.length_map, List.length_cons] at this
     omega
   have hgd := zf6 x to
   have hg1 := congrArg Prod.fst hgd
   have hg2 := congrArg Prod.snd hgd
   dsimp only at hg1 hg2
   refine tSk <| tQ <| tBk <| tQ <| tG <| cV rfl (iSq rfl rfl rfl uT35 hi tS3 rfl (by rfl)) <| sm 2 rfl <| nL <| tQ <| tQ <| tG <| sm 3 rfl ?_
   refine cV rfl (z82 (kv := vKey x) rfl rfl rfl rfl Tryz.underlying60 uT3 rfl (z5j _) tZ3 (by trivial)) ?_
   rw [hg1, hg2]
   refine sm 1 rfl <| cV rfl (z0h rfl rfl rfl) <| cV rfl (z0h rfl rfl rfl) <| sm 2 rfl <| nL <| tQ <| tG <| sm 1 rfl <| nL ?_
   refine tC rfl (fun hc22 => ?_) fun hc22 => ?_
   ·have hval : (aGet x to).getD 0 = z29 to x := y2z hc22
    refine tG <| sm 2 rfl <| nL <| tG <| sm 2 rfl <| cE rfl (bSl rfl rfl uT35 tZ3 tS3 rfl rfl rfl rfl (fbk rfl) rfl) ?_
    refine cE rfl (aPp rfl rfl rfl rfl (by rfl) sI0 uT35 tB3 dC0 (by (simp [z03]; done)) (by (simp [z03, PV.one]; rfl)) (by simp [maxLen, z03]; omega) (by simp [z03]; omega)) ?_
    refine sm 1 rfl <| nL ?_
    refine Tr.heap (σ' := look [(104, some (.row ⟨3, 1⟩ ((acc ++ [z29 to x]).map eInt))), (102, some (.box [.mp 3001, .mp 3002, .mp 3003])), (3001, some (.map (kyEs tb.seen))), (3002, some (.map (inEs tb.nums))), (3003, some (.map (inEs to)))]) (by
      rw [List.map_append, <- hval]
      intro j
      try simp only [look]
      by_cases h104 : 104 = j
      · subst h104; rfl
      · by_cases h102 : 102 = j
        · subst h102; rfl
        · by_cases h3001 : 3001 = j
          · subst h3001; rfl
          · by_cases h3002 : 3002 = j
            · subst h3002; rfl
            · by_cases h3003 : 3003 = j
              · subst h3003; rfl
              · simp [tH, look, up, z00 h104, z00 h102, z00 h3001, z00 h3002, z00 h3003]) ?_
    refine tG <| cV rfl (oB rfl rfl (z0b rfl oM0)) <| sm 1 rfl <| nL ?_
    refine ⟨_, _, ?_, Sub.of (fr' := [(11, iInt (k + 1)), (10, iInt l.length), (9, .pv (ints l)), (4, .sl 104 ((acc ++ [z29 to x]).map eInt).length), (2, .ptr 102 0)]) ⟨rfl, rfl, rfl, congrArg (fun z => some (IV.sl _ z)) (by rw [List.map_append]; simp [z03]), rfl, trivial⟩, (k + 1), (acc ++ [z29 to x]), ?_, ?_, rfl, rfl, rfl⟩
    ·omega
    ·omega
    rw [<- hI1, hd, List.append_assoc]; rfl
   have hval : x = z29 to x := (y2y hc22).symm
   refine tSk <| tG <| sm 2 rfl <| cE rfl (bSl rfl rfl uT35 tZ3 tS3 rfl rfl rfl rfl (fbk rfl) rfl) ?_
   refine cE rfl (aPp rfl rfl rfl rfl (by rfl) sI0 uT35 tB3 dC0 (by (simp [z03]; done)) (by (simp [z03, PV.one]; rfl)) (by simp [maxLen, z03]; omega) (by simp [z03]; omega)) ?_
   refine sm 1 rfl <| nL ?_
   refine Tr.heap (σ' := look [(104, some (.row ⟨3, 1⟩ ((acc ++ [z29 to x]).map eInt))), (102, some (.box [.mp 3001, .mp 3002, .mp 3003])), (3001, some (.map (kyEs tb.seen))), (3002, some (.map (inEs tb.nums))), (3003, some (.map (inEs to)))]) (by
     rw [List.map_append, <- hval]
     intro j
     try simp only [look]
     by_cases h104 : 104 = j
     · subst h104; rfl
     · by_cases h102 : 102 = j
       · subst h102; rfl
       · by_cases h3001 : 3001 = j
         · subst h3001; rfl
         · by_cases h3002 : 3002 = j
           · subst h3002; rfl
           · by_cases h3003 : 3003 = j
             · subst h3003; rfl
             · simp [tH, look, up, z00 h104, z00 h102, z00 h3001, z00 h3002, z00 h3003]) ?_
   refine tG <| cV rfl (oB rfl rfl (z0b rfl oM0)) <| sm 1 rfl <| nL ?_
   refine ⟨_, _, ?_, Sub.of (fr' := [(11, iInt (k + 1)), (10, iInt l.length), (9, .pv (ints l)), (4, .sl 104 ((acc ++ [z29 to x]).map eInt).length), (2, .ptr 102 0)]) ⟨rfl, rfl, rfl, congrArg (fun z => some (IV.sl _ z)) (by rw [List.map_append]; simp [z03]), rfl, trivial⟩, (k + 1), (acc ++ [z29 to x]), ?_, ?_, rfl, rfl, rfl⟩
   ·omega
   ·omega
   rw [<- hI1, hd, List.append_assoc]; rfl
  refine tEx <| tQ <| Tr.freeze (t := 4) (k := 104) rfl rfl sI0 <| tG <| sm 2 rfl <| nL <| tRt <| rOk rfl ?_ (po3 rfl rfl rfl)
  have hge : l.length <= k := by simpa using hc12
  have he : acc = l.map (z29 to) := by rw [<- hI1, List.drop_eq_nil_of_le hge]; simp
  rw [he]
  rfl
theorem y2q (x : Nd) (tb : Tb) (to : TT) (h4 : x.kind = 4 -> 1 < x.args.length) : SC Tryz.prog 64 [tV, .pv (ndv x)] (tH tb to) (fun k => k = 3001 ∨ k = 3002 ∨ k = 3003) (.tup [iInt ((z33 tb.nums x).getD 0), iBool (z33 tb.nums x).isSome]) (tH tb to) := by
  refine SC.of Tryz.func64 rfl (lb rfl) fun F ρ w => ?_
  refine tQ <| tG <| cE rfl (z5l (k := 102) rfl rfl rfl rfl rfl rfl rfl) <| cE rfl (z1d rfl rfl) <| sm 2 rfl <| nL <| tQ <| tQ <| tG <| sm 3 rfl <| nL ?_
  refine tC rfl (fun hc12 => ?_) fun hc12 => ?_
  ·refine tQ <| tG <| sm 2 rfl <| nL <| tRt <| rOk rfl ?_ (po3 rfl rfl rfl)
   simp_all [z33, z4q]
  have hk : x.kind = 4 := by simpa using hc12
  have hl := h4 hk
  have hi0 := z91 (l := x.args) (i := 0) oM0
  have hi1 := z91 (l := x.args) (i := 1) hl
  have hgda := zf6 (x.args.getD 0 0) tb.nums
  have hg1a := congrArg Prod.fst hgda
  have hg2a := congrArg Prod.snd hgda
  dsimp only at hg1a hg2a
  have hgdb := zf6 (x.args.getD 1 0) tb.nums
  have hg1b := congrArg Prod.fst hgdb
  have hg2b := congrArg Prod.snd hgdb
  dsimp only at hg1b hg2b
  refine tSk <| tQ <| tQ <| Tr.still z1a kR0 rfl <| smS 4 rfl <| sV rfl (iSq rfl rfl rfl uT35 hi1 tS3 rfl (by rfl)) <| smS 1 rfl <| sV rfl (z82 (kv := vKey (x.args.getD 1 0)) rfl rfl rfl rfl Tryz.underlying60 uT3 rfl (z5j _) tZ3 (by trivial)) ?_
  rw [hg1b, hg2b]
  refine smS 1 rfl <| sV rfl (z0h rfl rfl rfl) <| sV rfl (z0h rfl rfl rfl) <| smS 2 rfl <| WS.nil <| tQ <| tG <| sm 2 rfl ?_
  refine wS 24 rfl (fun hb24 => ?_) fun hb24 => ?_
  ·refine sm 3 rfl <| WL.yes rfl rfl rfl rfl rfl rfl (z10 (za5 x.op ((aGet (x.args.getD 1 0) tb.nums).getD 0)) ent89 rfl rfl (sRf _ _) rfl) <| sm 1 rfl <| nL ?_
   refine tC rfl (fun hc29 => ?_) fun hc29 => ?_
   ·refine tQ <| tG <| sm 2 rfl <| cV rfl (iSq rfl rfl rfl uT35 hi0 tS3 rfl (by rfl)) <| sm 3 rfl <| nL <| tRt <| rOk rfl ?_ (po3 rfl rfl rfl)
    simp_all [z33, z4q]
   refine tSk <| tQ <| tQ <| Tr.still z1a kR0 rfl <| smS 4 rfl <| sV rfl (iSq rfl rfl rfl uT35 hi0 tS3 rfl (by rfl)) <| smS 1 rfl <| sV rfl (z82 (kv := vKey (x.args.getD 0 0)) rfl rfl rfl rfl Tryz.underlying60 uT3 rfl (z5j _) tZ3 (by trivial)) ?_
   rw [hg1a, hg2a]
   refine smS 1 rfl <| sV rfl (z0h rfl rfl rfl) <| sV rfl (z0h rfl rfl rfl) <| smS 2 rfl <| WS.nil <| tQ <| tG <| sm 2 rfl ?_
   refine wS 45 rfl (fun hb45 => ?_) fun hb45 => ?_
   ·refine sm 2 rfl <| WL.yes rfl rfl rfl rfl rfl rfl (z10 (za6 x.op) ent90 rfl rfl (sRf _ _) rfl) <| sm 2 rfl ?_
    refine wS 50 rfl (fun hb50 => ?_) fun hb50 => ?_
    ·refine sm 3 rfl <| WL.yes rfl rfl rfl rfl rfl rfl (z10 (za5 x.op ((aGet (x.args.getD 0 0) tb.nums).getD 0)) ent89 rfl rfl (sRf _ _) rfl) <| sm 1 rfl <| nL ?_
     refine tC rfl (fun hc55 => ?_) fun hc55 => ?_
     ·refine tQ <| tG <| sm 2 rfl <| cV rfl (iSq rfl rfl rfl uT35 hi1 tS3 rfl (by rfl)) <| sm 3 rfl <| nL <| tRt <| rOk rfl ?_ (po3 rfl rfl rfl)
      simp_all [z33, z4q]
     refine tSk <| tQ <| tG <| sm 2 rfl <| nL <| tRt <| rOk rfl ?_ (po3 rfl rfl rfl)
     simp_all [z33, z4q]
    refine sm 5 rfl <| nL <| Tr.condF rfl <| tSk <| tQ <| tG <| sm 2 rfl <| nL <| tRt <| rOk rfl ?_ (po3 rfl rfl rfl)
    simp_all [z33, z4q]
   refine sm 10 rfl <| nL <| Tr.condF rfl <| tSk <| tQ <| tG <| sm 2 rfl <| nL <| tRt <| rOk rfl ?_ (po3 rfl rfl rfl)
   simp_all [z33, z4q]
  refine sm 5 rfl <| nL <| Tr.condF rfl <| tSk <| tQ <| tQ <| Tr.still z1a kR0 rfl <| smS 4 rfl <| sV rfl (iSq rfl rfl rfl uT35 hi0 tS3 rfl (by rfl)) <| smS 1 rfl <| sV rfl (z82 (kv := vKey (x.args.getD 0 0)) rfl rfl rfl rfl Tryz.underlying60 uT3 rfl (z5j _) tZ3 (by trivial)) ?_
  rw [hg1a, hg2a]
  refine smS 1 rfl <| sV rfl (z0h rfl rfl rfl) <| sV rfl (z0h rfl rfl rfl) <| smS 2 rfl <| WS.nil <| tQ <| tG <| sm 2 rfl ?_
  refine wS 45 rfl (fun hb45 => ?_) fun hb45 => ?_
  ·refine sm 2 rfl <| WL.yes rfl rfl rfl rfl rfl rfl (z10 (za6 x.op) ent90 rfl rfl (sRf _ _) rfl) <| sm 2 rfl ?_
   refine wS 50 rfl (fun hb50 => ?_) fun hb50 => ?_
   ·refine sm 3 rfl <| WL.yes rfl rfl rfl rfl rfl rfl (z10 (za5 x.op ((aGet (x.args.getD 0 0) tb.nums).getD 0)) ent89 rfl rfl (sRf _ _) rfl) <| sm 1 rfl <| nL ?_
    refine tC rfl (fun hc55 => ?_) fun hc55 => ?_
    ·refine tQ <| tG <| sm 2 rfl <| cV rfl (iSq rfl rfl rfl uT35 hi1 tS3 rfl (by rfl)) <| sm 3 rfl <| nL <| tRt <| rOk rfl ?_ (po3 rfl rfl rfl)
     simp_all [z33, z4q]
    refine tSk <| tQ <| tG <| sm 2 rfl <| nL <| tRt <| rOk rfl ?_ (po3 rfl rfl rfl)
    simp_all [z33, z4q]
   refine sm 5 rfl <| nL <| Tr.condF rfl <| tSk <| tQ <| tG <| sm 2 rfl <| nL <| tRt <| rOk rfl ?_ (po3 rfl rfl rfl)
   simp_all [z33, z4q]
  refine sm 10 rfl <| nL <| Tr.condF rfl <| tSk <| tQ <| tG <| sm 2 rfl <| nL <| tRt <| rOk rfl ?_ (po3 rfl rfl rfl)
  simp_all [z33, z4q]
theorem z9g (x : Nd) (tb : Tb) (to : TT) (ho : x.outs ≠ []) (h3 : x.kind = 3 -> 0 < x.args.length) (h4 : x.kind = 4 -> 1 < x.args.length) : SC Tryz.prog 41 [tV, .pv (ndv x)] (tH tb to) (fun _ => False) (iBool (z24 tb to x).1) (tH (z24 tb to x).2.1 (z24 tb to x).2.2) := by
  refine SC.of Tryz.func41 rfl (lb rfl) fun F ρ w => ?_
  obtain ⟨f0, f1, f2, f3, f4, key5⟩ := key5E
  have hi0 : (x.outs.map eInt)[0]? = some [vInt (x.outs.headD 0)] := by
    cases hx : x.outs with
    | nil => exact absurd hx ho
    | cons a r => rfl
  refine tQ <| tG <| cE rfl (z5l (k := 102) rfl rfl rfl rfl rfl rfl rfl) <| cE rfl (z1d rfl rfl) <| sm 1 rfl <| nL <| tQ <| tG <| sm 2 rfl <| cV rfl (iSq rfl rfl rfl uT35 hi0 tS3 rfl (by rfl)) <| sm 2 rfl <| nL ?_
  refine tQ <| tQ <| tG <| cV rfl (z1q rfl rfl rfl Tryz.underlying62 rfl tS62 (lb rfl) trivial) <| cV rfl (lEA rfl rfl uT43 rfl tS43 (lb rfl)) <| cE rfl (ocr (y2q x tb to h4) ent64 rfl (po3 rfl rfl rfl) rfl nf rfl rfl) <| sm 1 rfl <| cV rfl (z0h rfl rfl rfl) <| cV rfl (z0h rfl rfl rfl) <| sm 2 rfl <| nL <| tQ ?_
  refine tG <| sm 1 rfl <| nL ?_
  refine tC rfl (fun hc21 => ?_) fun hc21 => ?_
  ·obtain ⟨y, hy⟩ := Option.isSome_iff_exists.1 hc21
   have hP : z24 tb to x = (false, tb, aPut (x.outs.headD 0) y to) := by simp [z24, hy]
   have hy2 : (z33 tb.nums x).getD 0 = y := by rw [hy]; rfl
   refine tQ <| tG <| sm 4 rfl <| c0 (z4t (kv := vKey (x.outs.headD 0)) rfl rfl rfl rfl rfl ((fun h => h)) Tryz.underlying60 uT3 rfl (z5j _)) <| nL <| tQ ?_
   refine Tr.heap (σ' := look [(102, some (.box [.mp 3001, .mp 3002, .mp 3003])), (3001, some (.map (kyEs tb.seen))), (3002, some (.map (inEs tb.nums))), (3003, some (.map (inEs (aPut (x.outs.headD 0) y to))))]) (by
     rw [<- zd1, <- hy2]
     intro j
     try simp only [look]
     by_cases h102 : 102 = j
     · subst h102; rfl
     · by_cases h3001 : 3001 = j
       · subst h3001; rfl
       · by_cases h3002 : 3002 = j
         · subst h3002; rfl
         · by_cases h3003 : 3003 = j
           · subst h3003; rfl
           · simp [tH, look, up, z00 h102, z00 h3001, z00 h3002, z00 h3003]) ?_
   refine tG <| sm 1 rfl <| nL <| tRt ?_
   rw [hP]
   refine rOk rfl rfl (po3 rfl rfl rfl)
  have hnp : z33 tb.nums x = none := by simpa using hc21
  refine tSk <| tQ <| tG <| cV rfl (lEA rfl rfl uT43 rfl tS43 (lb rfl)) <| cE rfl (ocq (sc_stKey x h3 h4) ent65 rfl rfl) <| cE rfl (aLc (k := 108) rfl tZ108 rfl rfl rfl rfl) <| c0 (sBA rfl rfl rfl rfl rfl ((fun h => h)) z70 (flk rfl) (lb rfl)) <| nL <| tQ <| tQ <| tG <| sm 2 rfl ?_
  refine cV rfl (lBP rfl rfl rfl Tryz.underlying108 rfl z70 (lb rfl) rfl trivial) <| cV rfl (zz7 (q := z4m x) key5 rfl rfl rfl rfl Tryz.underlying59 tZ3 trivial) <| sm 1 rfl <| cV rfl (z0h rfl rfl rfl) <| cV rfl (z0h rfl rfl rfl) <| sm 2 rfl <| nL <| tQ <| tG <| sm 1 rfl <| nL ?_
  refine tC rfl (fun hc35 => ?_) fun hc35 => ?_
  ·obtain ⟨y, hy⟩ := Option.isSome_iff_exists.1 hc35
   have hP : z24 tb to x = (false, tb, aPut (x.outs.headD 0) y to) := by simp [z24, hnp, hy]
   have hy2 : (aGet (z4m x) tb.seen).getD 0 = y := by rw [hy]; rfl
   refine tQ <| tG <| sm 4 rfl <| c0 (z4t (kv := vKey (x.outs.headD 0)) rfl rfl rfl rfl rfl ((fun h => h)) Tryz.underlying60 uT3 rfl (z5j _)) <| nL <| tQ <| Tr.drop (k := 108) ?_
   refine Tr.heap (σ' := look [(102, some (.box [.mp 3001, .mp 3002, .mp 3003])), (3001, some (.map (kyEs tb.seen))), (3002, some (.map (inEs tb.nums))), (3003, some (.map (inEs (aPut (x.outs.headD 0) y to))))]) (by
     rw [<- zd1, <- hy2]
     intro j
     try simp only [look]
     by_cases h108 : 108 = j
     · subst h108; rfl
     · by_cases h102 : 102 = j
       · subst h102; rfl
       · by_cases h3001 : 3001 = j
         · subst h3001; rfl
         · by_cases h3002 : 3002 = j
           · subst h3002; rfl
           · by_cases h3003 : 3003 = j
             · subst h3003; rfl
             · simp [tH, look, up, z00 h108, z00 h102, z00 h3001, z00 h3002, z00 h3003]) ?_
   refine tG <| sm 1 rfl <| nL <| tRt ?_
   rw [hP]
   refine rOk rfl rfl (po3 rfl rfl rfl)
  have hnk : aGet (z4m x) tb.seen = none := by simpa using hc35
  have hP : z24 tb to x = (true, ⟨aPut (z4m x) (x.outs.headD 0) tb.seen, if x.kind == 1 then aPut (x.outs.headD 0) x.n tb.nums else tb.nums⟩, to) := by simp only [z24, hnp, hnk]
  refine tSk <| tQ <| tG <| sm 2 rfl <| cV rfl (lBP rfl rfl rfl Tryz.underlying108 rfl z70 (lb rfl) rfl trivial) <| sm 1 rfl <| c0 (zp2 (q := z4m x) (v := (x.outs.headD 0)) key5 rfl rfl rfl rfl rfl ((fun h => h)) Tryz.underlying59 hnk) <| nL <| tQ <| tQ <| tG <| sm 3 rfl ?_
  refine nL ?_
  refine tC rfl (fun hc46 => ?_) fun hc46 => ?_
  ·refine tG <| sm 5 rfl <| c0 (z4t (kv := vKey (x.outs.headD 0)) rfl rfl rfl rfl rfl ((fun h => h)) Tryz.underlying60 uT3 rfl (z5j _)) <| nL <| tQ ?_
   have hk1 : (x.kind == 1) = true := hc46
   rw [hk1] at hP
   simp only [if_true] at hP
   refine Tr.drop (k := 108) ?_
   refine Tr.heap (σ' := look [(102, some (.box [.mp 3001, .mp 3002, .mp 3003])), (3001, some (.map (kyEs (aPut (z4m x) (x.outs.headD 0) tb.seen)))), (3002, some (.map (inEs (aPut (x.outs.headD 0) x.n tb.nums)))), (3003, some (.map (inEs to)))]) (by
     rw [<- zd1]
     intro j
     try simp only [look]
     by_cases h108 : 108 = j
     · subst h108; rfl
     · by_cases h102 : 102 = j
       · subst h102; rfl
       · by_cases h3001 : 3001 = j
         · subst h3001; rfl
         · by_cases h3002 : 3002 = j
           · subst h3002; rfl
           · by_cases h3003 : 3003 = j
             · subst h3003; rfl
             · simp [tH, look, up, z00 h108, z00 h102, z00 h3001, z00 h3002, z00 h3003]) ?_
   refine tG <| sm 1 rfl <| nL <| tRt ?_
   rw [hP]
   refine rOk rfl rfl (po3 rfl rfl rfl)
  refine tSk <| tQ ?_
  have hk1 : (x.kind == 1) = false := hc46
  rw [hk1] at hP
  simp only [Bool.false_eq_true, if_false] at hP
  refine Tr.drop (k := 108) ?_
  refine Tr.heap (σ' := look [(102, some (.box [.mp 3001, .mp 3002, .mp 3003])), (3001, some (.map (kyEs (aPut (z4m x) (x.outs.headD 0) tb.seen)))), (3002, some (.map (inEs tb.nums))), (3003, some (.map (inEs to)))]) (by
    skip
    intro j
    try simp only [look]
    by_cases h108 : 108 = j
    · subst h108; rfl
    · by_cases h102 : 102 = j
      · subst h102; rfl
      · by_cases h3001 : 3001 = j
        · subst h3001; rfl
        · by_cases h3002 : 3002 = j
          · subst h3002; rfl
          · by_cases h3003 : 3003 = j
            · subst h3003; rfl
            · simp [tH, look, up, z00 h108, z00 h102, z00 h3001, z00 h3002, z00 h3003]) ?_
  refine tG <| sm 1 rfl <| nL <| tRt ?_
  rw [hP]
  refine rOk rfl rfl (po3 rfl rfl rfl)
theorem sc_stKid (tb : Tb) (to : TT) : SC Tryz.prog 40 [tV] (tH tb to) (fun k => k = 3001 ∨ k = 3002 ∨ k = 3003) (.agg [.mp 3101, .mp 3102, .mp 3003]) ([(3101, .map (kyEs tb.seen)), (3102, .map (inEs tb.nums))] ++ tH tb to) := by
  refine SC.ofC Tryz.func40 rfl (lb rfl) rfl fun F ρ w => ?_
  refine tQ <| tG <| cE rfl (z5l (k := 101) rfl rfl rfl rfl rfl rfl rfl) <| cE rfl (aLc (k := 102) rfl tZ62 rfl rfl rfl rfl) <| nL <| tQ <| tDr z1a (fun k => k ∈ ([3001, 3002, 3003, 101] : List Nat)) <| wR 4 [0, 1, 3, 4, 6, 7] kR0 h30 <| smR 1 rfl <| rV rfl rfl (oLb Tryz.underlying59 rfl rfl rfl dC0) <| smR 1 rfl <| rV rfl rfl (oLb Tryz.underlying60 rfl rfl rfl dC0) ?_
  refine smR 1 rfl <| rV rfl rfl (oLb Tryz.underlying60 rfl rfl rfl dC0) <| nR <| wO 2 kR0 <| wI rfl rfl (fun k (h : _) => by (simp at h ⊢; omega)) (z1g rfl) (fun _ _ => y15 (k2 := 3101) zr8 ent62 rfl rfl rfl rfl rfl rfl rfl) <| wO 5 kR0 <| wI rfl rfl (fun k (h : _) => by (simp at h ⊢; omega)) (z1g rfl) (fun _ _ => y15 (k2 := 3102) zr7 ent63 rfl rfl rfl rfl rfl rfl rfl) <| wR 1 [8] kR0 h30 <| rV rfl rfl (z99 rfl rfl tZ62 tP62 rfl (z7h ⟨⟨_, rfl⟩, ⟨_, rfl⟩, ⟨_, rfl⟩, trivial⟩)) <| nR <| wO 9 kR0 <| wI rfl rfl (fun k (h : _) => by (simp at h ⊢; omega)) (nOl rfl) (fun _ _ => sBA rfl rfl rfl rfl rfl sI0 tS62 (firm3 ⟨_, rfl⟩ ⟨_, rfl⟩ ⟨_, rfl⟩) (lb rfl)) ?_
  refine wDn kR0 <| tRt <| rCk (.inl rfl) (fun _ _ ho => z1q ho rfl rfl Tryz.underlying62 rfl tS62 (lb rfl) trivial) ?_ (z28 (And.intro rfl (And.intro rfl (And.intro rfl (And.intro rfl (And.intro rfl trivial))))))
  rfl
end Go.Proofs.YthbcibeddfacbaaGreat
