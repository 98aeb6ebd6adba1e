/- PART 5 of 6 of a proof: see the last part. -/
import Derived.Test.YtiflpehjefhnmaaGreatWg4
set_option maxRecDepth 8000
set_option maxHeartbeats 2000000
set_option linter.unusedSimpArgs false
set_option linter.unusedVariables false
set_option linter.unusedSectionVars false
namespace Go.Proofs.YtiflpehjefhnmaaGreat
open Go
theorem y0j (u : Un) (f : Fl) (st : List Int) (hs : st.length = f.types.length) (hg : ∀ g ∈ u.flows, 0 <= g.params /\ g.params <= g.types.length) (x : Nd) : SC Tryz.prog 103 [.ptr 3 0, .pv (ndv x)] (ckS u f 3 st) (fun k => k = 3) (iBool (z04 u f st x).1) (ckS u f 3 (z04 u f st x).2) := by
  refine SC.of Tryz.func103 rfl (lb rfl) fun F ρ w => ?_
  refine tQ <| tG <| cE rfl (z19 rfl rfl) <| sm 1 rfl <| nL <| tQ <| tQ <| tG <| sm 2 rfl <| nL <| tBk <| tQ ?_
  refine tG <| sm 2 rfl <| nL ?_
  refine tC rfl (fun hc9 => ?_) fun hc9 => ?_
  ·refine tQ <| tG <| sm 3 rfl <| cE rfl (cRr (z1j u f st hs x.args []) z3n rfl rfl (sSm rfl (sSm rfl (Subs.cons (fun _ _ _ _ h => z3x h) Subs.nil))) (po2 rfl rfl) (by rfl) (fun k (h : _) => .inr trivial) rfl (by rfl)) <| sm 1 rfl ?_
   refine wS 15 rfl (fun hb15 => ?_) fun hb15 => ?_
   ·refine sm 3 rfl <| WL.yes rfl rfl rfl rfl rfl rfl (bSl rfl rfl uT35 tZ3 tS3 rfl rfl rfl rfl (fbk rfl) rfl) <| WL.yes rfl rfl rfl rfl rfl rfl (cRr (z20 u f st hs x.outs [1]) z4t rfl rfl (sRf _ _) (po2 rfl rfl) (by rfl) (fun k (h : _) => .inr h) rfl (by rfl)) <| sm 2 rfl <| nL <| tRt ?_
    (have h2 : (z04 u f st x).2 = (z0r f.types st x.outs [1]).2 := (by simp_all [z04, andP]; done)
     rw [h2]
     refine rOk rfl ?_ (po2 rfl rfl)
     clear h2
     skip
     simp_all [z04, andP]
     done)
   refine sm 7 rfl <| nL <| tRt ?_
   (have h2 : (z04 u f st x).2 = st := (by simp_all [z04, andP]; done)
    rw [h2]
    refine rOk rfl ?_ (po2 rfl rfl)
    clear h2
    skip
    simp_all [z04, andP]
    done)
  refine tQ <| tG <| sm 2 rfl <| nL ?_
  refine tC rfl (fun hc22 => ?_) fun hc22 => ?_
  ·refine tQ <| tG <| sm 4 rfl ?_
   refine wS 27 rfl (fun hb27 => ?_) fun hb27 => ?_
   ·refine sm 8 rfl <| WL.yes rfl rfl rfl rfl rfl rfl (cRr (z1j u f st hs x.args []) z3n rfl rfl (sSm rfl (sSm rfl (Subs.cons (fun _ _ _ _ h => z3x h) Subs.nil))) (po2 rfl rfl) (by rfl) (fun k (h : _) => .inr trivial) rfl (by rfl)) <| sm 2 rfl ?_
    refine wS 38 rfl (fun hb38 => ?_) fun hb38 => ?_
    ·refine sm 3 rfl <| WL.yes rfl rfl rfl rfl rfl rfl (bSl rfl rfl uT35 tZ3 tS3 rfl rfl rfl rfl (fbk rfl) rfl) <| WL.yes rfl rfl rfl rfl rfl rfl (cRr (z20 u f st hs x.outs [2]) z4t rfl rfl (sRf _ _) (po2 rfl rfl) (by rfl) (fun k (h : _) => .inr h) rfl (by rfl)) <| sm 2 rfl <| nL <| tRt ?_
     (have h2 : (z04 u f st x).2 = (z0r f.types st x.outs [2]).2 := (by simp_all [z04, andP]; done)
      rw [h2]
      refine rOk rfl ?_ (po2 rfl rfl)
      clear h2
      skip
      simp_all [z04, andP]
      done)
    refine sm 7 rfl <| nL <| tRt ?_
    (have h2 : (z04 u f st x).2 = st := (by simp_all [z04, andP]; done)
     rw [h2]
     refine rOk rfl ?_ (po2 rfl rfl)
     clear h2
     skip
     simp_all [z04, andP]
     done)
   refine sm 5 rfl ?_
   refine wS 32 rfl (fun hb32 => ?_) fun hb32 => ?_
   ·refine sm 3 rfl <| WL.yes rfl rfl rfl rfl rfl rfl (cRr (z1j u f st hs x.args []) z3n rfl rfl (sSm rfl (sSm rfl (Subs.cons (fun _ _ _ _ h => z3x h) Subs.nil))) (po2 rfl rfl) (by rfl) (fun k (h : _) => .inr trivial) rfl (by rfl)) <| sm 2 rfl ?_
    refine wS 38 rfl (fun hb38 => ?_) fun hb38 => ?_
    ·refine sm 3 rfl <| WL.yes rfl rfl rfl rfl rfl rfl (bSl rfl rfl uT35 tZ3 tS3 rfl rfl rfl rfl (fbk rfl) rfl) <| WL.yes rfl rfl rfl rfl rfl rfl (cRr (z20 u f st hs x.outs [2]) z4t rfl rfl (sRf _ _) (po2 rfl rfl) (by rfl) (fun k (h : _) => .inr h) rfl (by rfl)) <| sm 2 rfl <| nL <| tRt ?_
     (have h2 : (z04 u f st x).2 = (z0r f.types st x.outs [2]).2 := (by simp_all [z04, andP]; done)
      rw [h2]
      refine rOk rfl ?_ (po2 rfl rfl)
      clear h2
      skip
      simp_all [z04, andP]
      done)
    refine sm 7 rfl <| nL <| tRt ?_
    (have h2 : (z04 u f st x).2 = st := (by simp_all [z04, andP]; done)
     rw [h2]
     refine rOk rfl ?_ (po2 rfl rfl)
     clear h2
     skip
     simp_all [z04, andP]
     done)
   refine sm 13 rfl <| nL <| tRt ?_
   (have h2 : (z04 u f st x).2 = st := (by simp_all [z04, andP]; done)
    rw [h2]
    refine rOk rfl ?_ (po2 rfl rfl)
    clear h2
    skip
    simp_all [z04, andP]
    done)
  refine tQ <| tQ <| tG <| sm 2 rfl <| nL ?_
  refine tC rfl (fun hc45 => ?_) fun hc45 => ?_
  ·refine tSk ?_
   refine tC rfl (fun hc45 => ?_) fun hc45 => ?_
   ·refine tQ <| tG <| sm 1 rfl <| cV rfl (lEA rfl rfl uT43 rfl tS43 (lb rfl)) <| cE rfl (ocr (y1c u f st hs x) ent115 rfl (po2 rfl rfl) rfl (fun k (h : _) => .inr h) rfl rfl) <| sm 1 rfl <| nL <| tRt ?_
    have h2 : z04 u f st x = z30 f st x := by simp_all [z04]
    rw [h2]
    exact rOk rfl rfl (po2 rfl rfl)
   refine tQ <| tG <| sm 2 rfl <| nL ?_
   refine tC rfl (fun hc51 => ?_) fun hc51 => ?_
   ·refine tQ <| tDr z10 (fun k => k ∈ ([3] : List Nat)) <| wR 16 [0, 1, 2, 3, 4, 5] kR0 h30 <| smR 1 rfl <| rV rfl rfl (nCk rfl rfl rfl) <| smR 1 rfl <| rV rfl rfl (lBP rfl rfl rfl uT25 rfl tS25 (lb rfl) rfl dC0) <| smR 2 rfl <| nR <| wO 6 kR0 <| wI rfl rfl (fun k (h : _) => by (simp at h ⊢; omega)) nw (fun _ _ => ocq (zd5 _ _) y0w rfl rfl) <| wR 11 [7, 8, 9, 10] kR0 h30 ?_
    refine smR 1 rfl ?_
    refine WR.split (t := 60) rfl (fun hb60 => ?_) (fun hb60 => ?_)
    ·refine smR 3 rfl <| nR <| wO 11 kR0 <| wY rfl rfl rfl (fun k (h : _) => by (simp at h ⊢; omega)) nw (fun _ _ => bSl rfl rfl uT35 tZ3 tS3 rfl rfl rfl rfl (fbk rfl) rfl) <| wO 12 kR0 <| wY rfl rfl rfl (fun k (h : _) => by (simp at h ⊢; omega)) (nAp rfl) (fun _ _ => ocr (z1j u f st hs x.args [1]) z3n rfl (po2 rfl rfl) rfl (fun k (h : _) => .inr trivial) rfl rfl) <| wR 4 [13, 14, 15, 16, 17] kR0 h30 <| smR 2 rfl ?_
     refine WR.split (t := 67) rfl (fun hb67 => ?_) (fun hb67 => ?_)
     ·refine smR 3 rfl <| nR <| wO 18 kR0 <| wY rfl rfl rfl (fun k (h : _) => by (simp at h ⊢; omega)) nw (fun _ _ => bSl rfl rfl uT35 tZ3 tS3 rfl rfl rfl rfl (fbk rfl) rfl) <| wO 19 kR0 <| wY rfl rfl rfl (fun k (h : _) => by (simp at h ⊢; omega)) (nAp rfl) (fun _ _ => ocr (z20 u f st hs x.outs [1]) z4t rfl (po2 rfl rfl) rfl (fun k (h : _) => by (simp only [List.mem_cons, List.not_mem_nil, or_false] at h; rcases h with rfl <;> first | exact .inl rfl | exact .inr rfl | exact .inr dC0)) rfl rfl) <| wR 0 [20, 21] kR0 h30 <| smR 2 rfl <| nR <| wDn kR0 <| tRt ?_
      (have h2 : (z04 u f st x).2 = (z0r f.types st x.outs [1]).2 := (by simp_all [z04, andP]; done)
       rw [h2]
       refine rOk rfl ?_ (po2 rfl rfl)
       clear h2
       skip
       simp_all [z04, andP]
       done)
     refine smR 3 rfl <| nR <| wN 18 kR0 h30 rfl rfl rfl <| wN 19 kR0 h30 rfl rfl rfl <| wR 0 [20, 21] kR0 h30 <| smR 2 rfl <| nR <| wDn kR0 <| tRt ?_
     (have h2 : (z04 u f st x).2 = st := (by simp_all [z04, andP]; done)
      rw [h2]
      refine rOk rfl ?_ (po2 rfl rfl)
      clear h2
      skip
      simp_all [z04, andP]
      done)
    refine smR 3 rfl <| nR <| wN 11 kR0 h30 rfl rfl rfl <| wN 12 kR0 h30 rfl rfl rfl <| wR 4 [13, 14, 15, 16, 17] kR0 h30 <| smR 5 rfl <| nR <| wN 18 kR0 h30 rfl rfl rfl <| wN 19 kR0 h30 rfl rfl rfl <| wR 0 [20, 21] kR0 h30 <| smR 2 rfl <| nR ?_
    refine wDn kR0 <| tRt ?_
    (have h2 : (z04 u f st x).2 = st := (by simp_all [z04, andP]; done)
     rw [h2]
     refine rOk rfl ?_ (po2 rfl rfl)
     clear h2
     skip
     simp_all [z04, andP]
     done)
   refine tQ <| tG <| sm 2 rfl <| nL ?_
   refine tC rfl (fun hc74 => ?_) fun hc74 => ?_
   ·refine tQ <| tDr z10 (fun k => k ∈ ([3] : List Nat)) <| wR 15 [0, 1, 2, 3, 4, 5] kR0 h30 <| smR 1 rfl <| rV rfl rfl (nCk rfl rfl rfl) <| smR 1 rfl <| rV rfl rfl (lBP rfl rfl rfl uT25 rfl tS25 (lb rfl) rfl dC0) <| smR 2 rfl <| nR <| wO 6 kR0 <| wI rfl rfl (fun k (h : _) => by (simp at h ⊢; omega)) nw (fun _ _ => ocq (zd5 _ _) y0w rfl rfl) <| wR 10 [7, 8, 9, 10] kR0 h30 ?_
    refine smR 1 rfl ?_
    refine WR.split (t := 83) rfl (fun hb83 => ?_) (fun hb83 => ?_)
    ·refine smR 3 rfl <| nR <| wO 11 kR0 <| wY rfl rfl rfl (fun k (h : _) => by (simp at h ⊢; omega)) nw (fun _ _ => bSl rfl rfl uT35 tZ3 tS3 rfl rfl rfl rfl (fbk rfl) rfl) <| wO 12 kR0 <| wY rfl rfl rfl (fun k (h : _) => by (simp at h ⊢; omega)) (nAp rfl) (fun _ _ => ocr (z1j u f st hs x.args [1, 1]) z3n rfl (po2 rfl rfl) rfl (fun k (h : _) => .inr trivial) rfl rfl) <| wR 3 [13, 14, 15, 16, 17] kR0 h30 <| smR 2 rfl ?_
     refine WR.split (t := 90) rfl (fun hb90 => ?_) (fun hb90 => ?_)
     ·refine smR 3 rfl <| nR <| wO 18 kR0 <| wY rfl rfl rfl (fun k (h : _) => by (simp at h ⊢; omega)) (nAp rfl) (fun _ _ => cRr (z20 u f st hs x.outs []) z4t rfl rfl (sSm rfl (sSm rfl (Subs.cons (fun _ _ _ _ h => z3x h) Subs.nil))) (po2 rfl rfl) (by rfl) (fun k (h : _) => by (simp only [List.mem_cons, List.not_mem_nil, or_false] at h; rcases h with rfl <;> first | exact .inl rfl | exact .inr rfl | exact .inr dC0)) rfl (by rfl)) <| wR 0 [19, 20] kR0 h30 <| smR 2 rfl <| nR <| wDn kR0 <| tRt ?_
      (have h2 : (z04 u f st x).2 = (z0r f.types st x.outs []).2 := (by simp_all [z04, andP]; done)
       rw [h2]
       refine rOk rfl ?_ (po2 rfl rfl)
       clear h2
       skip
       simp_all [z04, andP]
       done)
     refine smR 3 rfl <| nR <| wN 18 kR0 h30 rfl rfl rfl <| wR 0 [19, 20] kR0 h30 <| smR 2 rfl <| nR <| wDn kR0 <| tRt ?_
     (have h2 : (z04 u f st x).2 = st := (by simp_all [z04, andP]; done)
      rw [h2]
      refine rOk rfl ?_ (po2 rfl rfl)
      clear h2
      skip
      simp_all [z04, andP]
      done)
    refine smR 3 rfl <| nR <| wN 11 kR0 h30 rfl rfl rfl <| wN 12 kR0 h30 rfl rfl rfl <| wR 3 [13, 14, 15, 16, 17] kR0 h30 <| smR 5 rfl <| nR <| wN 18 kR0 h30 rfl rfl rfl <| wR 0 [19, 20] kR0 h30 <| smR 2 rfl <| nR <| wDn kR0 ?_
    refine tRt ?_
    (have h2 : (z04 u f st x).2 = st := (by simp_all [z04, andP]; done)
     rw [h2]
     refine rOk rfl ?_ (po2 rfl rfl)
     clear h2
     skip
     simp_all [z04, andP]
     done)
   refine tQ <| tG <| sm 2 rfl <| nL ?_
   refine tC rfl (fun hc96 => ?_) fun hc96 => ?_
   ·refine tQ <| tG <| sm 3 rfl <| cE rfl (cRr (z1j u f st hs x.args []) z3n rfl rfl (sSm rfl (sSm rfl (Subs.cons (fun _ _ _ _ h => z3x h) Subs.nil))) (po2 rfl rfl) (by rfl) (fun k (h : _) => .inr trivial) rfl (by rfl)) <| sm 1 rfl ?_
    refine wS 102 rfl (fun hb102 => ?_) fun hb102 => ?_
    ·refine sm 3 rfl <| WL.yes rfl rfl rfl rfl rfl rfl (bSl rfl rfl uT35 tZ3 tS3 rfl rfl rfl rfl (fbk rfl) rfl) <| WL.yes rfl rfl rfl rfl rfl rfl (cRr (z20 u f st hs x.outs [1]) z4t rfl rfl (sRf _ _) (po2 rfl rfl) (by rfl) (fun k (h : _) => .inr h) rfl (by rfl)) <| sm 2 rfl <| nL <| tRt ?_
     (have h2 : (z04 u f st x).2 = (z0r f.types st x.outs [1]).2 := (by simp_all [z04, andP]; done)
      rw [h2]
      refine rOk rfl ?_ (po2 rfl rfl)
      clear h2
      skip
      simp_all [z04, andP]
      done)
    refine sm 7 rfl <| nL <| tRt ?_
    (have h2 : (z04 u f st x).2 = st := (by simp_all [z04, andP]; done)
     rw [h2]
     refine rOk rfl ?_ (po2 rfl rfl)
     clear h2
     skip
     simp_all [z04, andP]
     done)
   refine tQ <| tG <| sm 2 rfl <| nL ?_
   refine tC rfl (fun hc109 => ?_) fun hc109 => ?_
   ·refine tQ <| tG <| sm 3 rfl <| cE rfl (bSl rfl rfl uT35 tZ3 tS3 rfl rfl rfl rfl (fbk rfl) rfl) <| cE rfl (ocr (z1j u f st hs x.args [1]) z3n rfl (po2 rfl rfl) rfl (fun k (h : _) => .inr trivial) rfl rfl) <| sm 1 rfl ?_
    refine wS 116 rfl (fun hb116 => ?_) fun hb116 => ?_
    ·refine sm 3 rfl <| WL.yes rfl rfl rfl rfl rfl rfl (cRr (z20 u f st hs x.outs []) z4t rfl rfl (sSm rfl (sSm rfl (Subs.cons (fun _ _ _ _ h => z3x h) Subs.nil))) (po2 rfl rfl) (by rfl) (fun k (h : _) => .inr h) rfl (by rfl)) <| sm 2 rfl <| nL <| tRt ?_
     (have h2 : (z04 u f st x).2 = (z0r f.types st x.outs []).2 := (by simp_all [z04, andP]; done)
      rw [h2]
      refine rOk rfl ?_ (po2 rfl rfl)
      clear h2
      skip
      simp_all [z04, andP]
      done)
    refine sm 6 rfl <| nL <| tRt ?_
    (have h2 : (z04 u f st x).2 = st := (by simp_all [z04, andP]; done)
     rw [h2]
     refine rOk rfl ?_ (po2 rfl rfl)
     clear h2
     skip
     simp_all [z04, andP]
     done)
   refine tQ <| tG <| sm 2 rfl <| nL ?_
   refine tC rfl (fun hc122 => ?_) fun hc122 => ?_
   ·refine tQ <| tDr z10 (fun k => k ∈ ([3] : List Nat)) <| wR 2 [0, 1, 2, 3, 4, 5] kR0 h30 <| smR 1 rfl <| rV rfl rfl (nCk rfl rfl rfl) <| smR 1 rfl <| rV rfl rfl (lBP rfl rfl rfl uT25 rfl tS25 (lb rfl) rfl dC0) <| smR 2 rfl <| nR <| wO 6 kR0 <| wI rfl rfl (fun k (h : _) => by (simp at h ⊢; omega)) nw (fun _ _ => ocq (za4 _ _) ent57 rfl rfl) <| wR 0 [7] kR0 h30 ?_
    refine smR 1 rfl <| nR <| wDn kR0 <| tQ <| tQ <| tG <| sm 2 rfl <| nL ?_
    refine tC rfl (fun hc132 => ?_) fun hc132 => ?_
    ·refine tQ <| tG <| sm 1 rfl <| nL <| tRt ?_
     (have h2 : (z04 u f st x).2 = st := (by simp_all [z04, z4n, andP]; done)
      rw [h2]
      refine rOk rfl ?_ (po2 rfl rfl)
      clear h2
      skip
      simp_all [z04, z4n, andP]
      done)
    have hk0 : z09 x.name u.flows 0 ≥ 0 := by simp at hc132; omega
    obtain ⟨g, hgk, _⟩ := z6c hk0
    obtain ⟨hgp0, hgpl⟩ := hg g (List.mem_of_getElem? hgk)
    have hgp : g.params = (g.params.toNat : Int) := by omega
    have hgi : (u.flows.map Fl.enc)[(z09 x.name u.flows 0).toNat]? = some (Fl.enc g) := by rw [List.getElem?_map, hgk]; rfl
    have hkn : z09 x.name u.flows 0 = ((z09 x.name u.flows 0).toNat : Int) := by omega
    have hnl : ¬ z09 x.name u.flows 0 < 0 := by omega
    have hcall : z4n u f st x = andP (z17 f.types st x.args (g.types.take g.params.toNat)) st (z0r f.types st x.outs [g.ty]) := by
      unfold z4n
      rw [if_neg hnl, hgk]
    refine tSk <| tQ <| tG <| sm 1 rfl <| cV rfl (nCk rfl rfl rfl) <| sm 4 rfl <| cV rfl (iSq rfl rfl rfl uT23 hgi tS51 rfl oM0) <| cV rfl (lEA rfl rfl uT51 rfl tS51 (lb rfl)) <| cE rfl (aLc (k := 106) rfl tZ51 rfl rfl rfl rfl) <| c0 (sBA rfl rfl rfl rfl rfl sI0 tS51 (flk rfl) (lb rfl)) <| nL <| tQ ?_
    refine Tr.freezeBox (t := 6) (k := 106) rfl rfl rfl ?_
    refine Tr.heap (σ' := look (up (ckS u f 3 st))) (fun k => by
      simp only [look]
      by_cases h : 106 = k
      · subst h; rfl
      · simp [z02 h]) ?_
    refine tDr z10 (fun k => k ∈ ([3] : List Nat)) <| wR 11 [0, 1, 2, 3, 4, 5, 6, 7] kR0 h30 <| smR 7 rfl ?_
    refine rV rfl rfl (z5w (j := g.params.toNat) rfl rfl uT35 tS3 (.inl ⟨rfl, rfl⟩) (.inr ⟨_, _, rfl, congrArg (fun z => some (IV.pv (.val (.int .i64 z)))) hgp⟩) (Nat.zero_le _) (by simp; omega) (by simp [eInt])) ?_
    refine nR <| wO 8 kR0 ?_
    refine wI rfl rfl (fun k (h : _) => by (simp at h ⊢; omega)) (nAp rfl) (fun _ _ => cRr (z1j u f st hs x.args (g.types.take g.params.toNat)) z3n rfl rfl (sSm rfl (sSm rfl (sSm (by simp [ints, List.map_take]) Subs.nil))) (po2 rfl rfl) (by rfl) (fun k (h : _) => .inr trivial) rfl (by rfl)) ?_
    refine wR 4 [9, 10, 11, 12, 13, 14] kR0 h30 <| smR 1 rfl ?_
    refine WR.split (t := 150) rfl (fun hb150 => ?_) (fun hb150 => ?_)
    ·refine smR 5 rfl <| nR <| wO 15 kR0 <| wY rfl rfl rfl (fun k (h : _) => by (simp at h ⊢; omega)) nw (fun _ _ => bSl rfl rfl uT35 tZ3 tS3 rfl rfl rfl rfl (fbk rfl) rfl) <| wO 16 kR0 <| wY rfl rfl rfl (fun k (h : _) => by (simp at h ⊢; omega)) (nAp rfl) (fun _ _ => ocr (z20 u f st hs x.outs [g.ty]) z4t rfl (po2 rfl rfl) rfl (fun k (h : _) => by (simp only [List.mem_cons, List.not_mem_nil, or_false] at h; rcases h with rfl <;> first | exact .inl rfl | exact .inr rfl | exact .inr dC0)) rfl rfl) <| wR 0 [17, 18] kR0 h30 <| smR 2 rfl <| nR <| wDn kR0 <| tRt ?_
     have hsim : z04 u f st x = z4n u f st x := by
       clear hkn hgp hcall hnl
       simp_all [z04]
     rw [hsim, hcall]
     clear hsim hcall
     (have h2 : (andP (z17 f.types st x.args (g.types.take g.params.toNat)) st (z0r f.types st x.outs [g.ty])).2 = (z0r f.types st x.outs [g.ty]).2 := (by (try (clear hkn hgp)); simp_all [andP, andP]; done)
      rw [h2]
      refine rOk rfl ?_ (po2 rfl rfl)
      clear h2
      try (clear hkn hgp)
      simp_all [andP, andP]
      done)
    refine smR 5 rfl <| nR <| wN 15 kR0 h30 rfl rfl rfl <| wN 16 kR0 h30 rfl rfl rfl <| wR 0 [17, 18] kR0 h30 <| smR 2 rfl <| nR <| wDn kR0 <| tRt ?_
    have hsim : z04 u f st x = z4n u f st x := by
      clear hkn hgp hcall hnl
      simp_all [z04]
    rw [hsim, hcall]
    clear hsim hcall
    (have h2 : (andP (z17 f.types st x.args (g.types.take g.params.toNat)) st (z0r f.types st x.outs [g.ty])).2 = st := (by (try (clear hkn hgp)); simp_all [andP, andP]; done)
     rw [h2]
     refine rOk rfl ?_ (po2 rfl rfl)
     clear h2
     try (clear hkn hgp)
     simp_all [andP, andP]
     done)
   refine tSk <| tQ <| tG <| sm 1 rfl <| nL <| tRt ?_
   (have h2 : (z04 u f st x).2 = st := (by simp_all [z04, andP]; done)
    rw [h2]
    refine rOk rfl ?_ (po2 rfl rfl)
    clear h2
    skip
    simp_all [z04, andP]
    done)
  refine tG <| sm 2 rfl <| nL ?_
  refine tC rfl (fun hc45 => ?_) fun hc45 => ?_
  ·refine tQ <| tG <| sm 1 rfl <| cV rfl (lEA rfl rfl uT43 rfl tS43 (lb rfl)) <| cE rfl (ocr (y1c u f st hs x) ent115 rfl (po2 rfl rfl) rfl (fun k (h : _) => .inr h) rfl rfl) <| sm 1 rfl <| nL <| tRt ?_
   have h2 : z04 u f st x = z30 f st x := by simp_all [z04]
   rw [h2]
   exact rOk rfl rfl (po2 rfl rfl)
  refine tQ <| tG <| sm 2 rfl <| nL ?_
  refine tC rfl (fun hc51 => ?_) fun hc51 => ?_
  ·refine tQ <| tDr z10 (fun k => k ∈ ([3] : List Nat)) <| wR 16 [0, 1, 2, 3, 4, 5] kR0 h30 <| smR 1 rfl <| rV rfl rfl (nCk rfl rfl rfl) <| smR 1 rfl <| rV rfl rfl (lBP rfl rfl rfl uT25 rfl tS25 (lb rfl) rfl dC0) <| smR 2 rfl <| nR <| wO 6 kR0 <| wI rfl rfl (fun k (h : _) => by (simp at h ⊢; omega)) nw (fun _ _ => ocq (zd5 _ _) y0w rfl rfl) <| wR 11 [7, 8, 9, 10] kR0 h30 ?_
   refine smR 1 rfl ?_
   refine WR.split (t := 60) rfl (fun hb60 => ?_) (fun hb60 => ?_)
   ·refine smR 3 rfl <| nR <| wO 11 kR0 <| wY rfl rfl rfl (fun k (h : _) => by (simp at h ⊢; omega)) nw (fun _ _ => bSl rfl rfl uT35 tZ3 tS3 rfl rfl rfl rfl (fbk rfl) rfl) <| wO 12 kR0 <| wY rfl rfl rfl (fun k (h : _) => by (simp at h ⊢; omega)) (nAp rfl) (fun _ _ => ocr (z1j u f st hs x.args [1]) z3n rfl (po2 rfl rfl) rfl (fun k (h : _) => .inr trivial) rfl rfl) <| wR 4 [13, 14, 15, 16, 17] kR0 h30 <| smR 2 rfl ?_
    refine WR.split (t := 67) rfl (fun hb67 => ?_) (fun hb67 => ?_)
    ·refine smR 3 rfl <| nR <| wO 18 kR0 <| wY rfl rfl rfl (fun k (h : _) => by (simp at h ⊢; omega)) nw (fun _ _ => bSl rfl rfl uT35 tZ3 tS3 rfl rfl rfl rfl (fbk rfl) rfl) <| wO 19 kR0 <| wY rfl rfl rfl (fun k (h : _) => by (simp at h ⊢; omega)) (nAp rfl) (fun _ _ => ocr (z20 u f st hs x.outs [1]) z4t rfl (po2 rfl rfl) rfl (fun k (h : _) => by (simp only [List.mem_cons, List.not_mem_nil, or_false] at h; rcases h with rfl <;> first | exact .inl rfl | exact .inr rfl | exact .inr dC0)) rfl rfl) <| wR 0 [20, 21] kR0 h30 <| smR 2 rfl <| nR <| wDn kR0 <| tRt ?_
     (have h2 : (z04 u f st x).2 = (z0r f.types st x.outs [1]).2 := (by simp_all [z04, andP]; done)
      rw [h2]
      refine rOk rfl ?_ (po2 rfl rfl)
      clear h2
      skip
      simp_all [z04, andP]
      done)
    refine smR 3 rfl <| nR <| wN 18 kR0 h30 rfl rfl rfl <| wN 19 kR0 h30 rfl rfl rfl <| wR 0 [20, 21] kR0 h30 <| smR 2 rfl <| nR <| wDn kR0 <| tRt ?_
    (have h2 : (z04 u f st x).2 = st := (by simp_all [z04, andP]; done)
     rw [h2]
     refine rOk rfl ?_ (po2 rfl rfl)
     clear h2
     skip
     simp_all [z04, andP]
     done)
   refine smR 3 rfl <| nR <| wN 11 kR0 h30 rfl rfl rfl <| wN 12 kR0 h30 rfl rfl rfl <| wR 4 [13, 14, 15, 16, 17] kR0 h30 <| smR 5 rfl <| nR <| wN 18 kR0 h30 rfl rfl rfl <| wN 19 kR0 h30 rfl rfl rfl <| wR 0 [20, 21] kR0 h30 <| smR 2 rfl <| nR ?_
   refine wDn kR0 <| tRt ?_
   (have h2 : z04 u f st x = (false, st) := (by (first | (simp_all [z04, andP]; done) | (simp_all [z04, andP] <;> omega)))
    rw [h2]
    exact rOk rfl rfl (po2 rfl rfl))
  refine tQ <| tG <| sm 2 rfl <| nL ?_
  refine tC rfl (fun hc74 => ?_) fun hc74 => ?_
  ·refine tQ <| tDr z10 (fun k => k ∈ ([3] : List Nat)) <| wR 15 [0, 1, 2, 3, 4, 5] kR0 h30 <| smR 1 rfl <| rV rfl rfl (nCk rfl rfl rfl) <| smR 1 rfl <| rV rfl rfl (lBP rfl rfl rfl uT25 rfl tS25 (lb rfl) rfl dC0) <| smR 2 rfl <| nR <| wO 6 kR0 <| wI rfl rfl (fun k (h : _) => by (simp at h ⊢; omega)) nw (fun _ _ => ocq (zd5 _ _) y0w rfl rfl) <| wR 10 [7, 8, 9, 10] kR0 h30 ?_
   refine smR 1 rfl ?_
   refine WR.split (t := 83) rfl (fun hb83 => ?_) (fun hb83 => ?_)
   ·refine smR 3 rfl <| nR <| wO 11 kR0 <| wY rfl rfl rfl (fun k (h : _) => by (simp at h ⊢; omega)) nw (fun _ _ => bSl rfl rfl uT35 tZ3 tS3 rfl rfl rfl rfl (fbk rfl) rfl) <| wO 12 kR0 <| wY rfl rfl rfl (fun k (h : _) => by (simp at h ⊢; omega)) (nAp rfl) (fun _ _ => ocr (z1j u f st hs x.args [1, 1]) z3n rfl (po2 rfl rfl) rfl (fun k (h : _) => .inr trivial) rfl rfl) <| wR 3 [13, 14, 15, 16, 17] kR0 h30 <| smR 2 rfl ?_
    refine WR.split (t := 90) rfl (fun hb90 => ?_) (fun hb90 => ?_)
    ·refine smR 3 rfl <| nR <| wO 18 kR0 <| wY rfl rfl rfl (fun k (h : _) => by (simp at h ⊢; omega)) (nAp rfl) (fun _ _ => cRr (z20 u f st hs x.outs []) z4t rfl rfl (sSm rfl (sSm rfl (Subs.cons (fun _ _ _ _ h => z3x h) Subs.nil))) (po2 rfl rfl) (by rfl) (fun k (h : _) => by (simp only [List.mem_cons, List.not_mem_nil, or_false] at h; rcases h with rfl <;> first | exact .inl rfl | exact .inr rfl | exact .inr dC0)) rfl (by rfl)) <| wR 0 [19, 20] kR0 h30 <| smR 2 rfl <| nR <| wDn kR0 <| tRt ?_
     (have h2 : (z04 u f st x).2 = (z0r f.types st x.outs []).2 := (by simp_all [z04, andP]; done)
      rw [h2]
      refine rOk rfl ?_ (po2 rfl rfl)
      clear h2
      skip
      simp_all [z04, andP]
      done)
    refine smR 3 rfl <| nR <| wN 18 kR0 h30 rfl rfl rfl <| wR 0 [19, 20] kR0 h30 <| smR 2 rfl <| nR <| wDn kR0 <| tRt ?_
    (have h2 : (z04 u f st x).2 = st := (by simp_all [z04, andP]; done)
     rw [h2]
     refine rOk rfl ?_ (po2 rfl rfl)
     clear h2
     skip
     simp_all [z04, andP]
     done)
   refine smR 3 rfl <| nR <| wN 11 kR0 h30 rfl rfl rfl <| wN 12 kR0 h30 rfl rfl rfl <| wR 3 [13, 14, 15, 16, 17] kR0 h30 <| smR 5 rfl <| nR <| wN 18 kR0 h30 rfl rfl rfl <| wR 0 [19, 20] kR0 h30 <| smR 2 rfl <| nR <| wDn kR0 ?_
   refine tRt ?_
   (have h2 : z04 u f st x = (false, st) := (by (first | (simp_all [z04, andP]; done) | (simp_all [z04, andP] <;> omega)))
    rw [h2]
    exact rOk rfl rfl (po2 rfl rfl))
  refine tQ <| tG <| sm 2 rfl <| nL ?_
  refine tC rfl (fun hc96 => ?_) fun hc96 => ?_
  ·refine tQ <| tG <| sm 3 rfl <| cE rfl (cRr (z1j u f st hs x.args []) z3n rfl rfl (sSm rfl (sSm rfl (Subs.cons (fun _ _ _ _ h => z3x h) Subs.nil))) (po2 rfl rfl) (by rfl) (fun k (h : _) => .inr trivial) rfl (by rfl)) <| sm 1 rfl ?_
   refine wS 102 rfl (fun hb102 => ?_) fun hb102 => ?_
   ·refine sm 3 rfl <| WL.yes rfl rfl rfl rfl rfl rfl (bSl rfl rfl uT35 tZ3 tS3 rfl rfl rfl rfl (fbk rfl) rfl) <| WL.yes rfl rfl rfl rfl rfl rfl (cRr (z20 u f st hs x.outs [1]) z4t rfl rfl (sRf _ _) (po2 rfl rfl) (by rfl) (fun k (h : _) => .inr h) rfl (by rfl)) <| sm 2 rfl <| nL <| tRt ?_
    (have h2 : (z04 u f st x).2 = (z0r f.types st x.outs [1]).2 := (by simp_all [z04, andP]; done)
     rw [h2]
     refine rOk rfl ?_ (po2 rfl rfl)
     clear h2
     skip
     simp_all [z04, andP]
     done)
   refine sm 7 rfl <| nL <| tRt ?_
   (have h2 : (z04 u f st x).2 = st := (by simp_all [z04, andP]; done)
    rw [h2]
    refine rOk rfl ?_ (po2 rfl rfl)
    clear h2
    skip
    simp_all [z04, andP]
    done)
  refine tQ <| tG <| sm 2 rfl <| nL ?_
  refine tC rfl (fun hc109 => ?_) fun hc109 => ?_
  ·refine tQ <| tG <| sm 3 rfl <| cE rfl (bSl rfl rfl uT35 tZ3 tS3 rfl rfl rfl rfl (fbk rfl) rfl) <| cE rfl (ocr (z1j u f st hs x.args [1]) z3n rfl (po2 rfl rfl) rfl (fun k (h : _) => .inr trivial) rfl rfl) <| sm 1 rfl ?_
   refine wS 116 rfl (fun hb116 => ?_) fun hb116 => ?_
   ·refine sm 3 rfl <| WL.yes rfl rfl rfl rfl rfl rfl (cRr (z20 u f st hs x.outs []) z4t rfl rfl (sSm rfl (sSm rfl (Subs.cons (fun _ _ _ _ h => z3x h) Subs.nil))) (po2 rfl rfl) (by rfl) (fun k (h : _) => .inr h) rfl (by rfl)) <| sm 2 rfl <| nL <| tRt ?_
    (have h2 : (z04 u f st x).2 = (z0r f.types st x.outs []).2 := (by simp_all [z04, andP]; done)
     rw [h2]
     refine rOk rfl ?_ (po2 rfl rfl)
     clear h2
     skip
     simp_all [z04, andP]
     done)
   refine sm 6 rfl <| nL <| tRt ?_
   (have h2 : (z04 u f st x).2 = st := (by simp_all [z04, andP]; done)
    rw [h2]
    refine rOk rfl ?_ (po2 rfl rfl)
    clear h2
    skip
    simp_all [z04, andP]
    done)
  refine tQ <| tG <| sm 2 rfl <| nL ?_
  refine tC rfl (fun hc122 => ?_) fun hc122 => ?_
  ·refine tQ <| tDr z10 (fun k => k ∈ ([3] : List Nat)) <| wR 2 [0, 1, 2, 3, 4, 5] kR0 h30 <| smR 1 rfl <| rV rfl rfl (nCk rfl rfl rfl) <| smR 1 rfl <| rV rfl rfl (lBP rfl rfl rfl uT25 rfl tS25 (lb rfl) rfl dC0) <| smR 2 rfl <| nR <| wO 6 kR0 <| wI rfl rfl (fun k (h : _) => by (simp at h ⊢; omega)) nw (fun _ _ => ocq (za4 _ _) ent57 rfl rfl) <| wR 0 [7] kR0 h30 ?_
   refine smR 1 rfl <| nR <| wDn kR0 <| tQ <| tQ <| tG <| sm 2 rfl <| nL ?_
   refine tC rfl (fun hc132 => ?_) fun hc132 => ?_
   ·refine tQ <| tG <| sm 1 rfl <| nL <| tRt ?_
    (have h2 : (z04 u f st x).2 = st := (by simp_all [z04, z4n, andP]; done)
     rw [h2]
     refine rOk rfl ?_ (po2 rfl rfl)
     clear h2
     skip
     simp_all [z04, z4n, andP]
     done)
   have hk0 : z09 x.name u.flows 0 ≥ 0 := by simp at hc132; omega
   obtain ⟨g, hgk, _⟩ := z6c hk0
   obtain ⟨hgp0, hgpl⟩ := hg g (List.mem_of_getElem? hgk)
   have hgp : g.params = (g.params.toNat : Int) := by omega
   have hgi : (u.flows.map Fl.enc)[(z09 x.name u.flows 0).toNat]? = some (Fl.enc g) := by rw [List.getElem?_map, hgk]; rfl
   have hkn : z09 x.name u.flows 0 = ((z09 x.name u.flows 0).toNat : Int) := by omega
   have hnl : ¬ z09 x.name u.flows 0 < 0 := by omega
   have hcall : z4n u f st x = andP (z17 f.types st x.args (g.types.take g.params.toNat)) st (z0r f.types st x.outs [g.ty]) := by
     unfold z4n
     rw [if_neg hnl, hgk]
   refine tSk <| tQ <| tG <| sm 1 rfl <| cV rfl (nCk rfl rfl rfl) <| sm 4 rfl <| cV rfl (iSq rfl rfl rfl uT23 hgi tS51 rfl oM0) <| cV rfl (lEA rfl rfl uT51 rfl tS51 (lb rfl)) <| cE rfl (aLc (k := 106) rfl tZ51 rfl rfl rfl rfl) <| c0 (sBA rfl rfl rfl rfl rfl sI0 tS51 (flk rfl) (lb rfl)) <| nL <| tQ ?_
   refine Tr.freezeBox (t := 6) (k := 106) rfl rfl rfl ?_
   refine Tr.heap (σ' := look (up (ckS u f 3 st))) (fun k => by
     simp only [look]
     by_cases h : 106 = k
     · subst h; rfl
     · simp [z02 h]) ?_
   refine tDr z10 (fun k => k ∈ ([3] : List Nat)) <| wR 11 [0, 1, 2, 3, 4, 5, 6, 7] kR0 h30 <| smR 7 rfl ?_
   refine rV rfl rfl (z5w (j := g.params.toNat) rfl rfl uT35 tS3 (.inl ⟨rfl, rfl⟩) (.inr ⟨_, _, rfl, congrArg (fun z => some (IV.pv (.val (.int .i64 z)))) hgp⟩) (Nat.zero_le _) (by simp; omega) (by simp [eInt])) ?_
   refine nR <| wO 8 kR0 ?_
   refine wI rfl rfl (fun k (h : _) => by (simp at h ⊢; omega)) (nAp rfl) (fun _ _ => cRr (z1j u f st hs x.args (g.types.take g.params.toNat)) z3n rfl rfl (sSm rfl (sSm rfl (sSm (by simp [ints, List.map_take]) Subs.nil))) (po2 rfl rfl) (by rfl) (fun k (h : _) => .inr trivial) rfl (by rfl)) ?_
   refine wR 4 [9, 10, 11, 12, 13, 14] kR0 h30 <| smR 1 rfl ?_
   refine WR.split (t := 150) rfl (fun hb150 => ?_) (fun hb150 => ?_)
   ·refine smR 5 rfl <| nR <| wO 15 kR0 <| wY rfl rfl rfl (fun k (h : _) => by (simp at h ⊢; omega)) nw (fun _ _ => bSl rfl rfl uT35 tZ3 tS3 rfl rfl rfl rfl (fbk rfl) rfl) <| wO 16 kR0 <| wY rfl rfl rfl (fun k (h : _) => by (simp at h ⊢; omega)) (nAp rfl) (fun _ _ => ocr (z20 u f st hs x.outs [g.ty]) z4t rfl (po2 rfl rfl) rfl (fun k (h : _) => by (simp only [List.mem_cons, List.not_mem_nil, or_false] at h; rcases h with rfl <;> first | exact .inl rfl | exact .inr rfl | exact .inr dC0)) rfl rfl) <| wR 0 [17, 18] kR0 h30 <| smR 2 rfl <| nR <| wDn kR0 <| tRt ?_
    have hsim : z04 u f st x = z4n u f st x := by
      clear hkn hgp hcall hnl
      simp_all [z04]
    rw [hsim, hcall]
    clear hsim hcall
    (have h2 : (andP (z17 f.types st x.args (g.types.take g.params.toNat)) st (z0r f.types st x.outs [g.ty])).2 = (z0r f.types st x.outs [g.ty]).2 := (by (try (clear hkn hgp)); simp_all [andP, andP]; done)
     rw [h2]
     refine rOk rfl ?_ (po2 rfl rfl)
     clear h2
     try (clear hkn hgp)
     simp_all [andP, andP]
     done)
   refine smR 5 rfl <| nR <| wN 15 kR0 h30 rfl rfl rfl <| wN 16 kR0 h30 rfl rfl rfl <| wR 0 [17, 18] kR0 h30 <| smR 2 rfl <| nR <| wDn kR0 <| tRt ?_
   have hsim : z04 u f st x = z4n u f st x := by
     clear hkn hgp hcall hnl
     simp_all [z04]
   rw [hsim, hcall]
   clear hsim hcall
   (have h2 : (andP (z17 f.types st x.args (g.types.take g.params.toNat)) st (z0r f.types st x.outs [g.ty])).2 = st := (by (try (clear hkn hgp)); simp_all [andP, andP]; done)
    rw [h2]
    refine rOk rfl ?_ (po2 rfl rfl)
    clear h2
    try (clear hkn hgp)
    simp_all [andP, andP]
    done)
  refine tSk <| tQ <| tG <| sm 1 rfl <| nL <| tRt ?_
  (have h2 : (z04 u f st x).2 = st := (by simp_all [z04, andP]; done)
   rw [h2]
   refine rOk rfl ?_ (po2 rfl rfl)
   clear h2
   skip
   simp_all [z04, andP]
   done)
theorem y0h (u : Un) (f : Fl) (st : List Int) (hs : st.length = f.types.length) (x : Nd) (ka kb : List Nd) (hkids : x.kids = [ka, kb]) (wh : Wh) (deep : Int) (hbo : x.outs.length <= 1073741824) (ih : ∀ q ∈ x.kids, ∀ (w : Wh) (st : List Int), st.length = f.types.length -> SC Tryz.prog 60 [.ptr 3 0, .pv (z07 q), .pv (whv w), iInt deep] (ckS u f 3 st) (fun k => k = 3) (iBool (z0o u f deep w st q).1) (ckS u f 3 (z0o u f deep w st q).2)) : SC Tryz.prog 99 [.ptr 3 0, .pv (ndv x), .pv (whv wh), iInt deep] (ckS u f 3 st) (fun k => k = 3) (iBool (if z17 f.types st x.args [2] then andQ (z0o u f deep ⟨true, wh.Loop, r8of f.types x.outs, wh.Next, wh.Left⟩ st ka) (fun s1 => andQ (z0o u f deep ⟨true, wh.Loop, r8of f.types x.outs, wh.Next, wh.Left⟩ s1 kb) fun s2 => z1e f x s2) else (false, st)).1) (ckS u f 3 (if z17 f.types st x.args [2] then andQ (z0o u f deep ⟨true, wh.Loop, r8of f.types x.outs, wh.Next, wh.Left⟩ st ka) (fun s1 => andQ (z0o u f deep ⟨true, wh.Loop, r8of f.types x.outs, wh.Next, wh.Left⟩ s1 kb) fun s2 => z1e f x s2) else (false, st)).2) := by
  refine SC.of Tryz.func99 rfl (lb rfl) fun F ρ w => ?_
  have hi0 : (x.kids.map eKid)[0]? = some [z07 ka] := by rw [hkids]; rfl
  have hi1 : (x.kids.map eKid)[1]? = some [z07 kb] := by rw [hkids]; rfl
  have hm0 : ka ∈ x.kids := by rw [hkids]; simp
  have hm1 : kb ∈ x.kids := by rw [hkids]; simp
  have hs1 : (z0o u f deep ⟨true, wh.Loop, r8of f.types x.outs, wh.Next, wh.Left⟩ st ka).2.length = f.types.length := (z6v ..).trans hs
  have hs2 : (z0o u f deep ⟨true, wh.Loop, r8of f.types x.outs, wh.Next, wh.Left⟩ (z0o u f deep ⟨true, wh.Loop, r8of f.types x.outs, wh.Next, wh.Left⟩ st ka).2 kb).2.length = f.types.length := (z6v ..).trans hs1
  refine tQ <| tG <| cE rfl (z19 rfl rfl) <| cE rfl (z55 (k := 106) rfl rfl rfl rfl rfl rfl) <| sm 1 rfl <| nL <| tQ <| tG <| sm 3 rfl <| cE rfl (ocr (z57 u f st hs x.outs hbo) zm0 rfl (po2 rfl rfl) rfl (fun k (h : _) => by (subst h; first | exact .inl rfl | exact .inr rfl | exact .inr dC0)) rfl rfl) <| sm 1 rfl <| c0 (sBx rfl rfl rfl rfl sI0 tS4 (rfl) (lb rfl)) ?_
  refine sm 1 rfl <| c0 (sBx rfl rfl rfl rfl sI0 tS35 (rfl) (lb rfl)) <| nL <| tQ <| tDr z10 (fun k => k ∈ ([3, 106] : List Nat)) <| wR 40 [0, 1, 2] kR0 h30 <| smR 3 rfl <| nR <| wO 3 kR0 <| wI rfl rfl (fun k (h : _) => by (simp at h ⊢; omega)) nw (fun _ _ => bSl rfl rfl uT35 tZ3 tS3 rfl rfl rfl rfl (fbk rfl) rfl) <| wO 4 kR0 <| wI rfl rfl (fun k (h : _) => by (simp at h ⊢; omega)) (nAp rfl) (fun _ _ => ocr (z1j u f st hs x.args [2]) z3n rfl (po2 rfl rfl) rfl (fun k (h : _) => .inr trivial) rfl rfl) ?_
  refine wR 30 [5, 6, 7, 8, 9, 10, 11, 12] kR0 h30 <| smR 1 rfl ?_
  refine WR.split (t := 20) rfl (fun hb20 => ?_) (fun hb20 => ?_)
  ·refine smR 3 rfl <| ryV rfl rfl rfl (iSq rfl rfl rfl uT41 hi0 tS44 rfl (by rfl)) <| smR 1 rfl <| ryV rfl rfl rfl (lBP rfl rfl rfl Tryz.underlying107 rfl zr2 (lb rfl) rfl dC0) <| smR 1 rfl <| nR <| wO 13 kR0 <| wY rfl rfl rfl (fun k (h : _) => by (simp at h ⊢; omega)) (nAp rfl) (fun _ _ => ocr (ih ka hm0 ⟨true, wh.Loop, r8of f.types x.outs, wh.Next, wh.Left⟩ st hs) ent60 rfl (po2 rfl rfl) rfl (fun k (h : _) => by (simp only [List.mem_cons, List.not_mem_nil, or_false] at h; rcases h with rfl | rfl <;> first | exact .inl rfl | exact .inr rfl | exact .inr dC0)) rfl rfl) <| wR 20 [14, 15, 16, 17, 18, 19, 20, 21, 22] kR0 h30 <| smR 2 rfl ?_
   refine WR.split (t := 30) rfl (fun hb30 => ?_) (fun hb30 => ?_)
   ·refine smR 3 rfl <| ryV rfl rfl rfl (iSq rfl rfl rfl uT41 hi1 tS44 rfl (by rfl)) <| smR 1 rfl <| ryV rfl rfl rfl (lBP rfl rfl rfl Tryz.underlying107 rfl zr2 (lb rfl) rfl dC0) <| smR 1 rfl <| nR <| wO 23 kR0 <| wY rfl rfl rfl (fun k (h : _) => by (simp at h ⊢; omega)) (nAp rfl) (fun _ _ => ocr (ih kb hm1 ⟨true, wh.Loop, r8of f.types x.outs, wh.Next, wh.Left⟩ (z0o u f deep ⟨true, wh.Loop, r8of f.types x.outs, wh.Next, wh.Left⟩ st ka).2 hs1) ent60 rfl (po2 rfl rfl) rfl (fun k (h : _) => by (simp only [List.mem_cons, List.not_mem_nil, or_false] at h; rcases h with rfl | rfl <;> first | exact .inl rfl | exact .inr rfl | exact .inr dC0)) rfl rfl) <| wR 11 [24, 25, 26, 27, 28, 29, 30, 31] kR0 h30 <| smR 2 rfl ?_
    refine WR.split (t := 40) rfl (fun hb40 => ?_) (fun hb40 => ?_)
    ·refine smR 2 rfl <| ryV rfl rfl rfl (oSm uT35 rfl) <| smR 2 rfl ?_
     refine WR.split (t := 45) rfl (fun hb45 => ?_) (fun hb45 => ?_)
     ·refine smR 1 rfl <| nR <| wN 32 kR0 h30 rfl rfl rfl <| wR 3 [33, 34, 35, 36, 37, 38, 39] kR0 h30 <| smR 7 rfl <| nR <| wO 40 kR0 <| wY rfl rfl rfl (fun k (h : _) => by (simp at h ⊢; omega)) (nAp rfl) (fun _ _ => ocr (z9h u f (z0o u f deep ⟨true, wh.Loop, r8of f.types x.outs, wh.Next, wh.Left⟩ (z0o u f deep ⟨true, wh.Loop, r8of f.types x.outs, wh.Next, wh.Left⟩ st ka).2 kb).2 hs2 x.outs hbo) zt0 rfl (po2 rfl rfl) rfl (fun k (h : _) => by (simp only [List.mem_cons, List.not_mem_nil, or_false] at h; rcases h with rfl | rfl <;> first | exact .inl rfl | exact .inr rfl | exact .inr dC0)) rfl rfl) <| wR 0 [41, 42] kR0 h30 <| smR 2 rfl <| nR <| wDn kR0 ?_
      refine tRt ?_
      (have h2 : (if z17 f.types st x.args [2] then andQ (z0o u f deep ⟨true, wh.Loop, r8of f.types x.outs, wh.Next, wh.Left⟩ st ka) (fun s1 => andQ (z0o u f deep ⟨true, wh.Loop, r8of f.types x.outs, wh.Next, wh.Left⟩ s1 kb) fun s2 => z1e f x s2) else (false, st)).2 = (z0r f.types (z0o u f deep ⟨true, wh.Loop, r8of f.types x.outs, wh.Next, wh.Left⟩ (z0o u f deep ⟨true, wh.Loop, r8of f.types x.outs, wh.Next, wh.Left⟩ st ka).2 kb).2 x.outs (List.replicate x.outs.length 0)).2 := (by simp_all [andQ, andP, z1e]; done)
       rw [h2]
       refine rOk rfl ?_ (po2 rfl rfl)
       clear h2
       simp_all [andQ, andP, z1e]
       done)
     refine ryV rfl rfl rfl (lEA rfl rfl uT43 rfl tS43 (lb rfl)) <| nR <| wO 32 kR0 <| wY rfl rfl rfl (fun k (h : _) => by (simp at h ⊢; omega)) nw (fun _ _ => ocq (z8p _) ent85 rfl rfl) <| wR 3 [33, 34, 35, 36, 37, 38, 39] kR0 h30 <| smR 4 rfl ?_
     refine WR.split (t := 51) rfl (fun hb51 => ?_) (fun hb51 => ?_)
     ·refine smR 3 rfl <| nR <| wO 40 kR0 <| wY rfl rfl rfl (fun k (h : _) => by (simp at h ⊢; omega)) (nAp rfl) (fun _ _ => ocr (z9h u f (z0o u f deep ⟨true, wh.Loop, r8of f.types x.outs, wh.Next, wh.Left⟩ (z0o u f deep ⟨true, wh.Loop, r8of f.types x.outs, wh.Next, wh.Left⟩ st ka).2 kb).2 hs2 x.outs hbo) zt0 rfl (po2 rfl rfl) rfl (fun k (h : _) => by (simp only [List.mem_cons, List.not_mem_nil, or_false] at h; rcases h with rfl | rfl <;> first | exact .inl rfl | exact .inr rfl | exact .inr dC0)) rfl rfl) <| wR 0 [41, 42] kR0 h30 <| smR 2 rfl <| nR <| wDn kR0 <| tRt ?_
      (have h2 : (if z17 f.types st x.args [2] then andQ (z0o u f deep ⟨true, wh.Loop, r8of f.types x.outs, wh.Next, wh.Left⟩ st ka) (fun s1 => andQ (z0o u f deep ⟨true, wh.Loop, r8of f.types x.outs, wh.Next, wh.Left⟩ s1 kb) fun s2 => z1e f x s2) else (false, st)).2 = (z0r f.types (z0o u f deep ⟨true, wh.Loop, r8of f.types x.outs, wh.Next, wh.Left⟩ (z0o u f deep ⟨true, wh.Loop, r8of f.types x.outs, wh.Next, wh.Left⟩ st ka).2 kb).2 x.outs (List.replicate x.outs.length 0)).2 := (by simp_all [andQ, andP, z1e]; done)
       rw [h2]
       refine rOk rfl ?_ (po2 rfl rfl)
       clear h2
       simp_all [andQ, andP, z1e]
       done)
     refine smR 3 rfl <| nR <| wN 40 kR0 h30 rfl rfl rfl <| wR 0 [41, 42] kR0 h30 <| smR 2 rfl <| nR <| wDn kR0 <| tRt ?_
     (have h2 : (if z17 f.types st x.args [2] then andQ (z0o u f deep ⟨true, wh.Loop, r8of f.types x.outs, wh.Next, wh.Left⟩ st ka) (fun s1 => andQ (z0o u f deep ⟨true, wh.Loop, r8of f.types x.outs, wh.Next, wh.Left⟩ s1 kb) fun s2 => z1e f x s2) else (false, st)).2 = (z0o u f deep ⟨true, wh.Loop, r8of f.types x.outs, wh.Next, wh.Left⟩ (z0o u f deep ⟨true, wh.Loop, r8of f.types x.outs, wh.Next, wh.Left⟩ st ka).2 kb).2 := (by simp_all [andQ, andP, z1e]; done)
      rw [h2]
      refine rOk rfl ?_ (po2 rfl rfl)
      clear h2
      simp_all [andQ, andP, z1e]
      done)
    refine smR 5 rfl <| nUr rfl rfl rfl rfl rfl rfl rfl <| nR <| WA.takeNoU (i := 32) rfl kR0 kR0 kR0 (h30) rfl rfl rfl rfl rfl rfl <| wR 3 [33, 34, 35, 36, 37, 38, 39] kR0 h30 <| nUr rfl rfl rfl rfl rfl rfl rfl <| smR 6 rfl <| nR <| wN 40 kR0 h30 rfl rfl rfl <| wR 0 [41, 42] kR0 h30 <| smR 2 rfl <| nR ?_
    refine wDn kR0 <| tRt ?_
    (have h2 : (if z17 f.types st x.args [2] then andQ (z0o u f deep ⟨true, wh.Loop, r8of f.types x.outs, wh.Next, wh.Left⟩ st ka) (fun s1 => andQ (z0o u f deep ⟨true, wh.Loop, r8of f.types x.outs, wh.Next, wh.Left⟩ s1 kb) fun s2 => z1e f x s2) else (false, st)).2 = (z0o u f deep ⟨true, wh.Loop, r8of f.types x.outs, wh.Next, wh.Left⟩ (z0o u f deep ⟨true, wh.Loop, r8of f.types x.outs, wh.Next, wh.Left⟩ st ka).2 kb).2 := (by simp_all [andQ, andP, z1e]; done)
     rw [h2]
     refine rOk rfl ?_ (po2 rfl rfl)
     clear h2
     simp_all [andQ, andP, z1e]
     done)
   refine smR 7 rfl <| nR <| wN 23 kR0 h30 rfl rfl rfl <| wR 11 [24, 25, 26, 27, 28, 29, 30, 31] kR0 h30 <| smR 7 rfl <| nUr rfl rfl rfl rfl rfl rfl rfl <| nR <| WA.takeNoU (i := 32) rfl kR0 kR0 kR0 (h30) rfl rfl rfl rfl rfl rfl <| wR 3 [33, 34, 35, 36, 37, 38, 39] kR0 h30 <| nUr rfl rfl rfl rfl rfl rfl rfl <| smR 6 rfl <| nR ?_
   refine wN 40 kR0 h30 rfl rfl rfl <| wR 0 [41, 42] kR0 h30 <| smR 2 rfl <| nR <| wDn kR0 <| tRt ?_
   (have h2 : (if z17 f.types st x.args [2] then andQ (z0o u f deep ⟨true, wh.Loop, r8of f.types x.outs, wh.Next, wh.Left⟩ st ka) (fun s1 => andQ (z0o u f deep ⟨true, wh.Loop, r8of f.types x.outs, wh.Next, wh.Left⟩ s1 kb) fun s2 => z1e f x s2) else (false, st)).2 = (z0o u f deep ⟨true, wh.Loop, r8of f.types x.outs, wh.Next, wh.Left⟩ st ka).2 := (by simp_all [andQ, andP, z1e]; done)
    rw [h2]
    refine rOk rfl ?_ (po2 rfl rfl)
    clear h2
    simp_all [andQ, andP, z1e]
    done)
  refine smR 7 rfl <| nR <| wN 13 kR0 h30 rfl rfl rfl <| wR 20 [14, 15, 16, 17, 18, 19, 20, 21, 22] kR0 h30 <| smR 9 rfl <| nR <| wN 23 kR0 h30 rfl rfl rfl <| wR 11 [24, 25, 26, 27, 28, 29, 30, 31] kR0 h30 <| smR 7 rfl <| nUr rfl rfl rfl rfl rfl rfl rfl <| nR <| WA.takeNoU (i := 32) rfl kR0 kR0 kR0 (h30) rfl rfl rfl rfl rfl rfl ?_
  refine wR 3 [33, 34, 35, 36, 37, 38, 39] kR0 h30 <| nUr rfl rfl rfl rfl rfl rfl rfl <| smR 6 rfl <| nR <| wN 40 kR0 h30 rfl rfl rfl <| wR 0 [41, 42] kR0 h30 <| smR 2 rfl <| nR <| wDn kR0 <| tRt ?_
  (have h2 : (if z17 f.types st x.args [2] then andQ (z0o u f deep ⟨true, wh.Loop, r8of f.types x.outs, wh.Next, wh.Left⟩ st ka) (fun s1 => andQ (z0o u f deep ⟨true, wh.Loop, r8of f.types x.outs, wh.Next, wh.Left⟩ s1 kb) fun s2 => z1e f x s2) else (false, st)).2 = st := (by simp_all [andQ, andP, z1e]; done)
   rw [h2]
   refine rOk rfl ?_ (po2 rfl rfl)
   clear h2
   simp_all [andQ, andP, z1e]
   done)
theorem y4r (u : Un) (f : Fl) (st : List Int) (hs : st.length = f.types.length) (x : Nd) (ka : List Nd) (hkids : x.kids = [ka]) (deep : Int) (hbo : x.outs.length <= 1073741824) (hbp : x.params.length <= 1073741824) (ih : ∀ q ∈ x.kids, ∀ (w : Wh) (st : List Int), st.length = f.types.length -> SC Tryz.prog 60 [.ptr 3 0, .pv (z07 q), .pv (whv w), iInt deep] (ckS u f 3 st) (fun k => k = 3) (iBool (z0o u f deep w st q).1) (ckS u f 3 (z0o u f deep w st q).2)) : SC Tryz.prog 100 [.ptr 3 0, .pv (ndv x), iInt deep] (ckS u f 3 st) (fun k => k = 3) (iBool (if z17 f.types st x.args (r8of f.types x.params) then andQ (z0r f.types st x.params (List.replicate x.params.length 0)) (fun s1 => andQ (z0o u f deep ⟨false, true, [], r8of f.types x.params, r8of f.types x.outs⟩ s1 ka) fun s2 => z1e f x (z29 s2 x.params)) else (false, st)).1) (ckS u f 3 (if z17 f.types st x.args (r8of f.types x.params) then andQ (z0r f.types st x.params (List.replicate x.params.length 0)) (fun s1 => andQ (z0o u f deep ⟨false, true, [], r8of f.types x.params, r8of f.types x.outs⟩ s1 ka) fun s2 => z1e f x (z29 s2 x.params)) else (false, st)).2) := by
  refine SC.of Tryz.func100 rfl (lb rfl) fun F ρ w => ?_
  have hi0 : (x.kids.map eKid)[0]? = some [z07 ka] := by rw [hkids]; rfl
  have hm0 : ka ∈ x.kids := by rw [hkids]; simp
  have hs1 : (z0r f.types st x.params (List.replicate x.params.length 0)).2.length = f.types.length := (z2v ..).trans hs
  have hs2 : (z0o u f deep ⟨false, true, [], r8of f.types x.params, r8of f.types x.outs⟩ (z0r f.types st x.params (List.replicate x.params.length 0)).2 ka).2.length = f.types.length := (z6v ..).trans hs1
  have hs3 : (z29 (z0o u f deep ⟨false, true, [], r8of f.types x.params, r8of f.types x.outs⟩ (z0r f.types st x.params (List.replicate x.params.length 0)).2 ka).2 x.params).length = f.types.length := (z4c ..).trans hs2
  refine tQ <| tG <| cE rfl (z19 rfl rfl) <| sm 1 rfl <| nL <| tQ ?_
  refine Tr.cut (fr' := [(7, .ptr 107 0), (4, .pv (.ept [vInt x.kind, vInt x.op, vInt x.n, vStr x.name, ints x.args, ints x.outs, ints x.params, kids x.kids] 0)), (0, .ptr 3 0), (2, iInt deep)]) (σ' := look ((107, some (.box [iBool false, iBool true, .pv (.val (.slice none 0 0)), .pv (ints (r8of f.types x.params)), .pv (ints (r8of f.types x.outs))])) :: up (ckS u f 3 st))) ?_ ?_
  ·refine tDr z10 (fun k => k ∈ ([3] : List Nat)) <| wR 5 [0, 1, 2, 4, 5, 6] kR0 (fun _ _ _ h => pn h.1) <| smR 6 rfl <| nR <| WA.all (rs := [3, 9]) kR0 sI0 ?_
   refine fmc ⟨?_, fmc ⟨?_, by simp⟩⟩
   ·refine wI rfl rfl (fun k (h : _) => by (simp at h ⊢; omega)) (nAp rfl) (fun _ _ => ocr (z57 u f st hs x.params hbp) zm0 rfl (po2 rfl rfl) rfl (fun k (h : _) => by (simp only [List.mem_cons, List.not_mem_nil, or_false] at h; rcases h with rfl <;> first | exact .inl rfl | exact .inr rfl | exact .inr dC0)) rfl rfl) <| WA.all (rs := [7, 9]) kR0 sI0 ?_
    refine fmc ⟨?_, fmc ⟨?_, by simp⟩⟩
    ·refine wI rfl rfl (fun k (h : _) => by (simp at h ⊢; omega)) (nAp rfl) (fun _ _ => ocr (z57 u f st hs x.outs hbo) zm0 rfl (po2 rfl rfl) rfl (fun k (h : _) => by (simp only [List.mem_cons, List.not_mem_nil, or_false] at h; rcases h with rfl <;> first | exact .inl rfl | exact .inr rfl | exact .inr dC0)) rfl rfl) <| wR 2 [8] kR0 (fun _ _ _ h => pn h.1) <| rV rfl rfl (bPu rfl rfl y0o tP107 rfl (fbk rfl) rfl) <| nR <| wO 9 kR0 <| wI rfl rfl (fun k (h : _) => by (simp at h ⊢; omega)) (z1a rfl) (fun _ _ => aLc (k := 107) rfl y0o rfl rfl rfl rfl) <| wO 10 kR0 <| wI rfl rfl (fun k (h : _) => by (simp at h ⊢; omega)) (nOl rfl) (fun _ _ => sBA rfl rfl rfl rfl rfl sI0 zr2 (flk rfl) (lb rfl)) <| wDn kR0 ?_
     refine ⟨rfl, Sub.of ⟨rfl, rfl, rfl, rfl, trivial⟩, ?_⟩
     funext k
     by_cases h7 : 107 = k
     ·subst h7; rfl
     simp [look, z92, z02 h7]
    refine wI rfl rfl (fun k (h : _) => by (simp at h ⊢; omega)) (z1a rfl) (fun _ _ => aLc (k := 107) rfl y0o rfl rfl rfl rfl) <| wO 7 kR0 <| wI rfl rfl (fun k (h : _) => by (simp at h ⊢; omega)) (nAp rfl) (fun _ _ => ocr (z57 u f st hs x.outs hbo) zm0 rfl (po2 rfl rfl) rfl (fun k (h : _) => by (simp only [List.mem_cons, List.not_mem_nil, or_false] at h; rcases h with rfl <;> first | exact .inl rfl | exact .inr rfl | exact .inr dC0)) rfl rfl) <| wR 1 [8] kR0 (fun _ _ _ h => pn h.1) <| rV rfl rfl (bPu rfl rfl y0o tP107 rfl (fbk rfl) rfl) <| nR <| wO 10 kR0 <| wI rfl rfl (fun k (h : _) => by (simp at h ⊢; omega)) (nOl rfl) (fun _ _ => sBA rfl rfl rfl rfl rfl sI0 zr2 (flk rfl) (lb rfl)) <| wDn kR0 ?_
    refine ⟨rfl, Sub.of ⟨rfl, rfl, rfl, rfl, trivial⟩, ?_⟩
    funext k
    by_cases h7 : 107 = k
    ·subst h7; rfl
    simp [look, z92, z02 h7]
   refine wI rfl rfl (fun k (h : _) => by (simp at h ⊢; omega)) (z1a rfl) (fun _ _ => aLc (k := 107) rfl y0o rfl rfl rfl rfl) <| wO 3 kR0 <| wI rfl rfl (fun k (h : _) => by (simp at h ⊢; omega)) (nAp rfl) (fun _ _ => ocr (z57 u f st hs x.params hbp) zm0 rfl (po2 rfl rfl) rfl (fun k (h : _) => by (simp only [List.mem_cons, List.not_mem_nil, or_false] at h; rcases h with rfl <;> first | exact .inl rfl | exact .inr rfl | exact .inr dC0)) rfl rfl) <| wO 7 kR0 <| wI rfl rfl (fun k (h : _) => by (simp at h ⊢; omega)) (nAp rfl) (fun _ _ => ocr (z57 u f st hs x.outs hbo) zm0 rfl (po2 rfl rfl) rfl (fun k (h : _) => by (simp only [List.mem_cons, List.not_mem_nil, or_false] at h; rcases h with rfl <;> first | exact .inl rfl | exact .inr rfl | exact .inr dC0)) rfl rfl) <| wR 1 [8] kR0 (fun _ _ _ h => pn h.1) <| rV rfl rfl (bPu rfl rfl y0o tP107 rfl (fbk rfl) rfl) <| nR <| wO 10 kR0 <| wI rfl rfl (fun k (h : _) => by (simp at h ⊢; omega)) (nOl rfl) (fun _ _ => sBA rfl rfl rfl rfl rfl sI0 zr2 (flk rfl) (lb rfl)) <| wDn kR0 ?_
   refine ⟨rfl, Sub.of ⟨rfl, rfl, rfl, rfl, trivial⟩, ?_⟩
   funext k
   by_cases h7 : 107 = k
   ·subst h7; rfl
   simp [look, z92, z02 h7]
  refine tQ <| tQ <| tDr z10 (fun k => k ∈ ([3, 107] : List Nat)) <| wR 20 [0, 1, 2, 3, 4] kR0 h30 <| smR 4 rfl <| rV rfl rfl (oLb uT35 rfl rfl rfl dC0) <| nR <| wO 5 kR0 <| wI rfl rfl (fun k (h : _) => by (simp at h ⊢; omega)) (nAp rfl) (fun _ _ => ocr (z1j u f st hs x.args (r8of f.types x.params)) z3n rfl (po2 rfl rfl) rfl (fun k (h : _) => .inr trivial) rfl rfl) <| wR 14 [6, 7, 8, 9, 10] kR0 h30 <| smR 2 rfl ?_
  refine WR.split (t := 24) rfl (fun hb24 => ?_) (fun hb24 => ?_)
  ·refine smR 3 rfl <| nR <| wN 11 kR0 h30 rfl rfl rfl <| wR 3 [12, 13, 14, 15, 16, 17, 18, 19, 20, 21] kR0 h30 <| smR 10 rfl <| nR <| wN 22 kR0 h30 rfl rfl rfl <| wR 0 [23, 24] kR0 h30 <| smR 2 rfl <| nR <| wDn kR0 <| Tr.condT rfl ?_
   refine tQ <| tG <| sm 1 rfl <| nL <| tRt ?_
   (have h2 : (if z17 f.types st x.args (r8of f.types x.params) then andQ (z0r f.types st x.params (List.replicate x.params.length 0)) (fun s1 => andQ (z0o u f deep ⟨false, true, [], r8of f.types x.params, r8of f.types x.outs⟩ s1 ka) fun s2 => z1e f x (z29 s2 x.params)) else (false, st)).2 = st := (by simp_all [andQ, andP, z1e]; done)
    rw [h2]
    refine rOk rfl ?_ (po2 rfl rfl)
    clear h2
    simp_all [andQ, andP, z1e]
    done)
  refine smR 3 rfl <| nR <| wO 11 kR0 <| wY rfl rfl rfl (fun k (h : _) => by (simp at h ⊢; omega)) (nAp rfl) (fun _ _ => ocr (z9h u f st hs x.params hbp) zt0 rfl (po2 rfl rfl) rfl (fun k (h : _) => by (simp only [List.mem_cons, List.not_mem_nil, or_false] at h; rcases h with rfl | rfl <;> first | exact .inl rfl | exact .inr rfl | exact .inr dC0)) rfl rfl) <| wR 3 [12, 13, 14, 15, 16, 17, 18, 19, 20, 21] kR0 h30 <| smR 3 rfl ?_
  refine WR.split (t := 31) rfl (fun hb31 => ?_) (fun hb31 => ?_)
  ·refine smR 7 rfl <| nR <| wN 22 kR0 h30 rfl rfl rfl <| wR 0 [23, 24] kR0 h30 <| smR 2 rfl <| nR <| wDn kR0 <| Tr.condT rfl <| tQ <| tG <| sm 1 rfl <| nL ?_
   refine tRt ?_
   (have h2 : (if z17 f.types st x.args (r8of f.types x.params) then andQ (z0r f.types st x.params (List.replicate x.params.length 0)) (fun s1 => andQ (z0o u f deep ⟨false, true, [], r8of f.types x.params, r8of f.types x.outs⟩ s1 ka) fun s2 => z1e f x (z29 s2 x.params)) else (false, st)).2 = (z0r f.types st x.params (List.replicate x.params.length 0)).2 := (by simp_all [andQ, andP, z1e]; done)
    rw [h2]
    refine rOk rfl ?_ (po2 rfl rfl)
    clear h2
    simp_all [andQ, andP, z1e]
    done)
  refine smR 3 rfl <| ryV rfl rfl rfl (iSq rfl rfl rfl uT41 hi0 tS44 rfl (by rfl)) <| smR 1 rfl <| ryV rfl rfl rfl (lBP rfl rfl rfl Tryz.underlying107 rfl zr2 (lb rfl) rfl dC0) <| smR 1 rfl <| nR <| wO 22 kR0 <| wY rfl rfl rfl (fun k (h : _) => by (simp at h ⊢; omega)) (nAp rfl) (fun _ _ => cRr (ih ka hm0 ⟨false, true, [], r8of f.types x.params, r8of f.types x.outs⟩ (z0r f.types st x.params (List.replicate x.params.length 0)).2 hs1) ent60 rfl rfl (sSm rfl (sSm rfl (Subs.cons (fun _ _ _ _ h => z2m (q := whv ⟨false, true, [], r8of f.types x.params, r8of f.types x.outs⟩) (PSub.agg (ps := [vBool false, vBool true, .val (.slice none 0 0), ints (r8of f.types x.params), ints (r8of f.types x.outs)]) (And.intro (PSub.refl _) (And.intro (PSub.refl _) (And.intro PSub.nil (And.intro (PSub.refl _) (And.intro (PSub.refl _) trivial)))))) h) (sSm rfl Subs.nil)))) (po2 rfl rfl) (by rfl) (fun k (h : _) => by (simp only [List.mem_cons, List.not_mem_nil, or_false] at h; rcases h with rfl | rfl <;> first | exact .inl rfl | exact .inr rfl | exact .inr dC0)) rfl (by rfl)) <| wR 0 [23, 24] kR0 h30 <| smR 2 rfl <| nR <| wDn kR0 ?_
  refine tC rfl (fun hc41 => ?_) fun hc41 => ?_
  ·refine tQ <| tG <| sm 1 rfl <| nL <| tRt ?_
   (have h2 : (if z17 f.types st x.args (r8of f.types x.params) then andQ (z0r f.types st x.params (List.replicate x.params.length 0)) (fun s1 => andQ (z0o u f deep ⟨false, true, [], r8of f.types x.params, r8of f.types x.outs⟩ s1 ka) fun s2 => z1e f x (z29 s2 x.params)) else (false, st)).2 = (z0o u f deep ⟨false, true, [], r8of f.types x.params, r8of f.types x.outs⟩ (z0r f.types st x.params (List.replicate x.params.length 0)).2 ka).2 := (by simp_all [andQ, andP, z1e]; done)
    rw [h2]
    refine rOk rfl ?_ (po2 rfl rfl)
    clear h2
    simp_all [andQ, andP, z1e]
    done)
  refine tSk <| tQ ?_
  have hpin : ∀ v ∈ x.params, 0 <= v /\ v < f.types.length := by
    have hp1 : (z0r f.types st x.params (List.replicate x.params.length 0)).1 = true := by simp_all
    exact zj5 hp1
  refine tG <| sm 3 rfl <| cE rfl (ocr (zx2 u f (z0o u f deep ⟨false, true, [], r8of f.types x.params, r8of f.types x.outs⟩ (z0r f.types st x.params (List.replicate x.params.length 0)).2 ka).2 hs2 x.params hpin) ent86 rfl (po2 rfl rfl) rfl (fun k (h : _) => .inr h) rfl rfl) <| nL <| tQ <| tG <| sm 2 rfl <| cV rfl (oSm uT35 rfl) <| sm 2 rfl ?_
  refine wS 50 rfl (fun hb50 => ?_) fun hb50 => ?_
  ·refine sm 8 rfl <| WL.yes rfl rfl rfl rfl rfl rfl (cRr (z9h u f (z29 (z0o u f deep ⟨false, true, [], r8of f.types x.params, r8of f.types x.outs⟩ (z0r f.types st x.params (List.replicate x.params.length 0)).2 ka).2 x.params) hs3 x.outs hbo) zt0 rfl rfl (sRf _ _) (po2 rfl rfl) (by rfl) (fun k (h : _) => .inr h) rfl (by rfl)) <| sm 2 rfl <| nL <| tRt ?_
   (have h2 : (if z17 f.types st x.args (r8of f.types x.params) then andQ (z0r f.types st x.params (List.replicate x.params.length 0)) (fun s1 => andQ (z0o u f deep ⟨false, true, [], r8of f.types x.params, r8of f.types x.outs⟩ s1 ka) fun s2 => z1e f x (z29 s2 x.params)) else (false, st)).2 = (z0r f.types (z29 (z0o u f deep ⟨false, true, [], r8of f.types x.params, r8of f.types x.outs⟩ (z0r f.types st x.params (List.replicate x.params.length 0)).2 ka).2 x.params) x.outs (List.replicate x.outs.length 0)).2 := (by simp_all [andQ, andP, z1e]; done)
    rw [h2]
    refine rOk rfl ?_ (po2 rfl rfl)
    clear h2
    simp_all [andQ, andP, z1e]
    done)
  refine yV rfl rfl (lEA rfl rfl uT43 rfl tS43 (lb rfl)) <| WL.yes rfl rfl rfl rfl rfl rfl (z0t (z8p _) ent85 rfl rfl (sRf _ _) rfl) <| sm 3 rfl ?_
  refine wS 55 rfl (fun hb55 => ?_) fun hb55 => ?_
  ·refine sm 3 rfl <| WL.yes rfl rfl rfl rfl rfl rfl (cRr (z9h u f (z29 (z0o u f deep ⟨false, true, [], r8of f.types x.params, r8of f.types x.outs⟩ (z0r f.types st x.params (List.replicate x.params.length 0)).2 ka).2 x.params) hs3 x.outs hbo) zt0 rfl rfl (sRf _ _) (po2 rfl rfl) (by rfl) (fun k (h : _) => .inr h) rfl (by rfl)) <| sm 2 rfl <| nL <| tRt ?_
   (have h2 : (if z17 f.types st x.args (r8of f.types x.params) then andQ (z0r f.types st x.params (List.replicate x.params.length 0)) (fun s1 => andQ (z0o u f deep ⟨false, true, [], r8of f.types x.params, r8of f.types x.outs⟩ s1 ka) fun s2 => z1e f x (z29 s2 x.params)) else (false, st)).2 = (z0r f.types (z29 (z0o u f deep ⟨false, true, [], r8of f.types x.params, r8of f.types x.outs⟩ (z0r f.types st x.params (List.replicate x.params.length 0)).2 ka).2 x.params) x.outs (List.replicate x.outs.length 0)).2 := (by simp_all [andQ, andP, z1e]; done)
    rw [h2]
    refine rOk rfl ?_ (po2 rfl rfl)
    clear h2
    simp_all [andQ, andP, z1e]
    done)
  refine sm 6 rfl <| nL <| tRt ?_
  (have h2 : (if z17 f.types st x.args (r8of f.types x.params) then andQ (z0r f.types st x.params (List.replicate x.params.length 0)) (fun s1 => andQ (z0o u f deep ⟨false, true, [], r8of f.types x.params, r8of f.types x.outs⟩ s1 ka) fun s2 => z1e f x (z29 s2 x.params)) else (false, st)).2 = (z29 (z0o u f deep ⟨false, true, [], r8of f.types x.params, r8of f.types x.outs⟩ (z0r f.types st x.params (List.replicate x.params.length 0)).2 ka).2 x.params) := (by simp_all [andQ, andP, z1e]; done)
   rw [h2]
   refine rOk rfl ?_ (po2 rfl rfl)
   clear h2
   simp_all [andQ, andP, z1e]
   done)
theorem y4s (u : Un) (f : Fl) (hg : ∀ g ∈ u.flows, 0 <= g.params /\ g.params <= g.types.length) (x : Nd) (deep : Int) (hd : 0 <= deep /\ deep <= 100) (wh : Wh) (st : List Int) (hs : st.length = f.types.length) (hbo : x.outs.length <= 1073741824) (hbp : x.params.length <= 1073741824) (ih : ∀ q ∈ x.kids, ∀ (w : Wh) (st : List Int), st.length = f.types.length -> SC Tryz.prog 60 [.ptr 3 0, .pv (z07 q), .pv (whv w), iInt (deep + 1)] (ckS u f 3 st) (fun k => k = 3) (iBool (z0o u f (deep + 1) w st q).1) (ckS u f 3 (z0o u f (deep + 1) w st q).2)) : SC Tryz.prog 84 [.ptr 3 0, .pv (ndv x), .pv (whv wh), iInt deep] (ckS u f 3 st) (fun k => k = 3) (iBool (z37 u f deep wh st x).1) (ckS u f 3 (z37 u f deep wh st x).2) := by
  refine SC.of Tryz.func84 rfl (lb rfl) fun F ρ w => ?_
  refine tQ <| tG <| cE rfl (z19 rfl rfl) <| cE rfl (z19 rfl rfl) <| sm 1 rfl <| nL <| tQ <| tBk <| tQ <| tG <| cV rfl (lEA rfl rfl uT43 rfl tS43 (lb rfl)) <| cE rfl (ocq (y4m _) ent98 rfl rfl) ?_
  refine sm 2 rfl <| nL ?_
  refine tC rfl (fun hc9 => ?_) fun hc9 => ?_
  ·refine tQ <| tG <| sm 1 rfl <| nL <| tRt ?_
   have hbare : z0n x = false := by simpa using hc9
   rw [z8r _ _ _ _ _ hbare]
   exact rOk rfl rfl (po2 rfl rfl)
  have hbare : z0n x = true := by simpa using hc9
  refine tQ <| tG <| sm 4 rfl <| nL ?_
  refine tC rfl (fun hc13 => ?_) fun hc13 => ?_
  ·have hk10 : x.kind = 10 := by simpa using hc13
   obtain ⟨ka, kb, hkids⟩ := z3r hbare hk10
   refine tQ <| tG <| sm 1 rfl <| cV rfl (lEA rfl rfl uT43 rfl tS43 (lb rfl)) <| cV rfl (lEA rfl rfl Tryz.underlying107 rfl zr2 (lb rfl)) <| sm 1 rfl <| cV rfl (oB rfl rfl (z06 rfl oM0)) <| cE rfl (ocr (y0h u f st hs x ka kb hkids wh (deep + 1) hbo ih) ent99 rfl (po2 rfl rfl) rfl (fun k (h : _) => .inr h) rfl rfl) <| sm 1 rfl <| nL <| tRt ?_
   rw [zj4 _ _ _ _ _ hbare hk10 hkids]
   exact rOk rfl rfl (po2 rfl rfl)
  refine tQ <| tG <| sm 4 rfl <| nL ?_
  refine tC rfl (fun hc23 => ?_) fun hc23 => ?_
  ·have hk11 : x.kind = 11 := by simpa using hc23
   obtain ⟨ka, hkids⟩ := z28 hbare hk11
   refine tQ <| tG <| sm 1 rfl <| cV rfl (lEA rfl rfl uT43 rfl tS43 (lb rfl)) <| sm 1 rfl <| cV rfl (oB rfl rfl (z06 rfl oM0)) <| cE rfl (ocr (y4r u f st hs x ka hkids (deep + 1) hbo hbp ih) ent100 rfl (po2 rfl rfl) rfl (fun k (h : _) => .inr h) rfl rfl) <| sm 1 rfl <| nL <| tRt ?_
   rw [z8s _ _ _ _ _ hbare hk11 hkids]
   exact rOk rfl rfl (po2 rfl rfl)
  refine tQ <| tG <| cV rfl (lEA rfl rfl uT43 rfl tS43 (lb rfl)) <| cE rfl (ocq (z7q _) zs9 rfl rfl) <| sm 1 rfl <| nL ?_
  refine tC rfl (fun hc32 => ?_) fun hc32 => ?_
  ·refine tQ <| tG <| sm 1 rfl <| cV rfl (lEA rfl rfl uT43 rfl tS43 (lb rfl)) <| cV rfl (lEA rfl rfl Tryz.underlying107 rfl zr2 (lb rfl)) <| cE rfl (ocr (sc_shEnd u f st hs x wh) ent102 rfl (po2 rfl rfl) rfl (fun k (h : _) => .inr h) rfl rfl) <| sm 1 rfl <| nL <| tRt ?_
   rw [za5 _ _ _ _ _ hbare hc13 hc23 hc32]
   exact rOk rfl rfl (po2 rfl rfl)
  refine tSk <| tQ <| tG <| sm 1 rfl <| cV rfl (lEA rfl rfl uT43 rfl tS43 (lb rfl)) <| cE rfl (ocr (y0j u f st hs hg x) ent103 rfl (po2 rfl rfl) rfl (fun k (h : _) => .inr h) rfl rfl) <| sm 1 rfl <| nL <| tRt ?_
  rw [z6w _ _ _ _ _ hbare hc13 hc23 hc32]
  exact rOk rfl rfl (po2 rfl rfl)
theorem zq2 (N : Nat) : ∀ (u : Un) (f : Fl) (hg : ∀ g ∈ u.flows, 0 <= g.params /\ g.params <= g.types.length) (l : List Nd) (deep : Int) (hd : 0 <= deep /\ deep <= 101) (wh : Wh) (st : List Int) (hs : st.length = f.types.length) (hb : lsW l <= 1073741824), SizeOf.sizeOf l < N -> SC Tryz.prog 60 [.ptr 3 0, .pv (z07 l), .pv (whv wh), iInt deep] (ckS u f 3 st) (fun k => k = 3) (iBool (z0o u f deep wh st l).1) (ckS u f 3 (z0o u f deep wh st l).2) := by
  induction N with
  | zero => intro u f hg l deep hd wh st hs hb hN; exact absurd hN (Nat.not_lt_zero _)
  | succ N ih =>
    intro u f hg l deep hd wh st hs hb hN
    refine SC.of Tryz.func60 rfl (lb rfl) fun F ρ w => ?_
    refine Tr.lenOf (t := 1) rfl (fun hl => ?_)
    simp only [List.length_map] at hl
    refine tQ <| tG <| cE rfl (z19 rfl rfl) <| sm 1 rfl <| nL <| tQ <| tQ <| tG <| sm 1 rfl <| cV rfl (oSm uT44 rfl) <| sm 1 rfl <| nL ?_
    refine tBk <| Tr.sub (Sub.of (fr' := [(15, iInt 0), (14, iInt l.length), (13, .pv (z07 l)), (6, .pv (.ept [vBool wh.If, vBool wh.Loop, ints wh.Yield, ints wh.Next, ints wh.Left] 0)), (0, .ptr 3 0), (1, .pv (z07 l)), (3, iInt deep)]) ⟨rfl, rfl, rfl, rfl, rfl, rfl, rfl, trivial⟩) ?_
    refine Tr.loop (fun fr σ m => ∃ (k : Nat) (s : List Int), (k <= l.length) /\ (shGo u f deep wh st l = shGo u f deep wh s (l.drop k)) /\ (s.length = f.types.length) /\ fr = [(15, iInt k), (14, iInt l.length), (13, .pv (z07 l)), (6, .pv (.ept [vBool wh.If, vBool wh.Loop, ints wh.Yield, ints wh.Next, ints wh.Left] 0)), (0, .ptr 3 0), (1, .pv (z07 l)), (3, iInt deep)] /\ σ = look (up (ckS u f 3 s)) /\ m = l.length - k) (n := l.length - 0) ?_ ?_
    ·exact ⟨0, st, Nat.zero_le _, rfl, hs, rfl, rfl, rfl⟩
    rintro fr σ m ⟨k, s, hI0, hI1, hI2, rfl, rfl, rfl⟩
    refine tQ <| tG <| sm 1 rfl <| nL <| tQ ?_
    refine tC rfl (fun hc16 => ?_) fun hc16 => ?_
    ·have hlt : k < l.length := by simpa using hc16
     have hd2 := List.drop_eq_getElem_cons hlt
     have hm := List.getElem_mem hlt
     have hi := z2f (List.getElem?_eq_getElem hlt)
     generalize l[k] = x at hd2 hm hi
     have hWx := z97 x
     have hWl := zp3 hm
     have hxo : x.outs.length <= 1073741824 := by omega
     have hxp : x.params.length <= 1073741824 := by omega
     refine tSk <| tQ <| tBk <| tQ <| tG <| sm 1 rfl <| cV rfl (iSq rfl rfl rfl uT44 hi tS43 rfl (by rfl)) <| cV rfl (lEA rfl rfl uT43 rfl tS43 (lb rfl)) <| cE rfl (aLc (k := 110) rfl tZ43 rfl rfl rfl rfl) <| sm 1 rfl <| c0 (sBA rfl rfl rfl rfl rfl sI0 tS43 (flk rfl) (lb rfl)) <| nL ?_
     refine tQ <| Tr.freezeBox (t := 10) (k := 110) rfl rfl rfl ?_
     refine Tr.heap (σ' := look (up (ckS u f 3 s))) (fun k => by
       simp only [look]
       by_cases h : 110 = k
       · subst h; rfl
       · simp [z02 h]) ?_
     refine tG <| sm 3 rfl ?_
     refine wS 22 rfl (fun hb22 => ?_) fun hb22 => ?_
     ·refine sm 17 rfl <| nL <| Tr.condT rfl <| tQ <| tG <| sm 1 rfl <| nL <| tRt ?_
      (have h2 : z0o u f deep wh st l = (false, s) := by
         unfold z0o
         rw [hI1, hd2]
         unfold shGo
         rw [if_pos (by simpa using hb22)]
         simp [andQ]
       rw [h2]
       exact rOk rfl rfl (po2 rfl rfl))
     refine sm 1 rfl <| yV rfl rfl (lEA rfl rfl uT43 rfl tS43 (lb rfl)) <| yV rfl rfl (lEA rfl rfl Tryz.underlying107 rfl zr2 (lb rfl)) <| sm 1 rfl <| WL.yes rfl rfl rfl rfl rfl rfl (cRr (y4s u f hg x deep ⟨hd.1, by simp at hb22; omega⟩ wh s hI2 hxo hxp (fun q hq w st hst => ih u f hg q (deep + 1) ⟨by omega, by simp at hb22; omega⟩ w st hst (by have := z7h hq; omega) (Nat.lt_of_lt_of_le (z5g hm rfl hq) (Nat.le_of_lt_succ hN)))) ent84 rfl rfl (sRf _ _) (po2 rfl rfl) (by rfl) (fun k (h : _) => .inr h) rfl (by rfl)) <| sm 3 rfl ?_
     refine wS 30 rfl (fun hb30 => ?_) fun hb30 => ?_
     ·refine sm 9 rfl <| nL <| Tr.condT rfl <| tQ <| tG <| sm 1 rfl <| nL <| tRt ?_
      (have h2 : z0o u f deep wh st l = (false, (z37 u f deep wh s x).2) := by
         unfold z0o
         rw [hI1, hd2]
         unfold shGo
         rw [if_neg (by simpa using hb22)]
         have hn1 : (z37 u f deep wh s x).1 = false := by simpa using hb30
         simp [andQ, hn1]
       rw [h2]
       exact rOk rfl rfl (po2 rfl rfl))
     refine yV rfl rfl (lEA rfl rfl uT43 rfl tS43 (lb rfl)) <| WL.yes rfl rfl rfl rfl rfl rfl (z0t (z8p x) ent85 rfl rfl (sRf _ _) rfl) <| sm 2 rfl <| yV rfl rfl (oSm uT44 rfl) <| yV rfl rfl (oB rfl rfl (z3i rfl oM0)) <| sm 1 rfl <| yV rfl rfl (zh0 rfl rfl rfl Tryz.underlying4) <| sm 1 rfl <| nL ?_
     refine tC rfl (fun hc39 => ?_) fun hc39 => ?_
     ·refine tQ <| tG <| sm 1 rfl <| nL <| tRt ?_
      (have h2 : z0o u f deep wh st l = (false, (z37 u f deep wh s x).2) := by
         unfold z0o
         rw [hI1, hd2]
         unfold shGo
         rw [if_neg (by simpa using hb22)]
         have hn1 : (z37 u f deep wh s x).1 = true := by simpa using hb30
         have hcl : (z0e x != (l.drop (k + 1)).isEmpty) = true := by rw [z5u hlt]; simpa using hc39
         simp [andQ, hn1, hcl]
       rw [h2]
       exact rOk rfl rfl (po2 rfl rfl))
     refine tSk <| tG <| cV rfl (oB rfl rfl (z06 rfl oM0)) <| sm 1 rfl <| nL ?_
     refine ⟨_, _, ?_, Sub.of (fr' := [(15, iInt (k + 1)), (14, iInt l.length), (13, .pv (z07 l)), (6, .pv (.ept [vBool wh.If, vBool wh.Loop, ints wh.Yield, ints wh.Next, ints wh.Left] 0)), (0, .ptr 3 0), (1, .pv (z07 l)), (3, iInt deep)]) ⟨rfl, rfl, rfl, rfl, rfl, rfl, rfl, trivial⟩, (k + 1), (z37 u f deep wh s x).2, ?_, ?_, ?_, rfl, (z22 rfl), rfl⟩
     ·omega
     ·omega
     ·rw [hI1, hd2]
      have hn1 : (z37 u f deep wh s x).1 = true := by simpa using hb30
      have hcl : (z0e x != (l.drop (k + 1)).isEmpty) = false := by rw [z5u hlt]; simpa using hc39
      have hdp : ¬ deep > 100 := by simpa using hb22
      conv => lhs; unfold shGo
      simp only [if_neg hdp, andQ, hn1, hcl, if_true]
      rfl
     exact (z9i ..).trans hI2
    refine tEx <| tQ <| tQ ?_
    have hgo2 : shGo u f deep wh st l = (true, s) := by rw [hI1, List.drop_eq_nil_of_le (by simpa using hc16)]; simp [shGo]
    have hgo : (shGo u f deep wh st l).1 = true := by rw [hgo2]
    have hs0 := hI2
    generalize s = s0 at hgo2 hs0 ⊢
    refine tG <| sm 1 rfl <| cV rfl (oSm uT44 rfl) <| sm 1 rfl <| nL <| tBk <| Tr.sub (Sub.of (fr' := [(43, iInt 0), (42, iInt l.length), (41, .pv (z07 l)), (0, .ptr 3 0), (1, .pv (z07 l))]) ⟨rfl, rfl, rfl, rfl, rfl, trivial⟩) ?_
    refine Tr.loop (fun fr σ m => ∃ (k : Nat) (s : List Int), (k <= l.length) /\ (z5n s0 l = z5n s (l.drop k)) /\ (s.length = f.types.length) /\ fr = [(43, iInt k), (42, iInt l.length), (41, .pv (z07 l)), (0, .ptr 3 0), (1, .pv (z07 l))] /\ σ = look (up (ckS u f 3 s)) /\ m = l.length - k) (n := l.length - 0) ?_ ?_
    ·exact ⟨0, s0, Nat.zero_le _, rfl, hs0, rfl, rfl, rfl⟩
    rintro fr σ m ⟨k, s, hJ0, hJ1, hJ2, rfl, rfl, rfl⟩
    refine tQ <| tG <| sm 1 rfl <| nL <| tQ ?_
    refine tC rfl (fun hc44 => ?_) fun hc44 => ?_
    ·have hlt : k < l.length := by simpa using hc44
     have hd2 := List.drop_eq_getElem_cons hlt
     have hm := List.getElem_mem hlt
     have hi := z2f (List.getElem?_eq_getElem hlt)
     generalize l[k] = x at hd2 hm hi
     refine tSk <| tQ <| tBk <| tQ <| tG <| cV rfl (iSq rfl rfl rfl uT44 hi tS43 rfl (by rfl)) <| cV rfl (lEA rfl rfl uT43 rfl tS43 (lb rfl)) <| cE rfl (aLc (k := 112) rfl tZ43 rfl rfl rfl rfl) <| c0 (sBA rfl rfl rfl rfl rfl sI0 tS43 (flk rfl) (lb rfl)) <| nL <| Tr.freezeBox (t := 12) (k := 112) rfl rfl rfl ?_
     refine Tr.heap (σ' := look (up (ckS u f 3 s))) (fun k => by
       simp only [look]
       by_cases h : 112 = k
       · subst h; rfl
       · simp [z02 h]) ?_
     refine tG <| sm 3 rfl <| cE rfl (ocr (zx2 u f s hJ2 x.outs (zy0 hgo x hm)) ent86 rfl (po2 rfl rfl) rfl (fun k (h : _) => .inr h) rfl rfl) <| nL <| tG <| cV rfl (oB rfl rfl (z06 rfl oM0)) <| sm 1 rfl <| nL ?_
     refine ⟨_, _, ?_, Sub.of (fr' := [(43, iInt (k + 1)), (42, iInt l.length), (41, .pv (z07 l)), (0, .ptr 3 0), (1, .pv (z07 l))]) ⟨rfl, rfl, rfl, rfl, rfl, trivial⟩, (k + 1), (z29 s x.outs), ?_, ?_, ?_, rfl, (z22 rfl), rfl⟩
     ·omega
     ·omega
     ·rw [hJ1, hd2]; rfl
     exact (z4c ..).trans hJ2
    refine tEx <| tQ <| tG <| sm 1 rfl <| cV rfl (oSm uT44 rfl) <| sm 2 rfl <| nL <| tRt ?_
    have hge : l.length <= k := by simpa using hc44
    have h2 : z0o u f deep wh st l = (decide ((l.length : Int) > 0), s) := by
      unfold z0o
      rw [hgo2]
      simp only [andQ, if_true, zx9, hJ1, List.drop_eq_nil_of_le hge]
      rfl
    rw [h2]
    exact rOk rfl rfl (po2 rfl rfl)
theorem y4q (u : Un) (f : Fl) (hg : ∀ g ∈ u.flows, 0 <= g.params /\ g.params <= g.types.length) (l : List Nd) (deep : Int) (hd : 0 <= deep /\ deep <= 101) (wh : Wh) (st : List Int) (hs : st.length = f.types.length) (hb : lsW l <= 1073741824) : SC Tryz.prog 60 [.ptr 3 0, .pv (z07 l), .pv (whv wh), iInt deep] (ckS u f 3 st) (fun k => k = 3) (iBool (z0o u f deep wh st l).1) (ckS u f 3 (z0o u f deep wh st l).2) := zq2 _ u f hg l deep hd wh st hs hb (Nat.lt_succ_self _)
theorem y4n (u : Un) (f : Fl) (hg : ∀ g ∈ u.flows, 0 <= g.params /\ g.params <= g.types.length) (hp : 0 <= f.params /\ f.params <= f.types.length) (hb : lsW f.body <= 536870912) : SC Tryz.prog 38 [.pv u.enc, .pv (.agg f.enc)] [] (fun _ => False) (iBool (z8d u f)) [] := by
  refine SC.of Tryz.func38 rfl (lb rfl) fun F ρ w => ?_
  refine tQ <| tG <| cE rfl (z19 rfl rfl) <| cE rfl (z19 rfl rfl) <| sm 1 rfl <| nL <| tQ <| tQ <| tG <| sm 4 rfl ?_
  refine wS 10 rfl (fun hb10 => ?_) fun hb10 => ?_
  ·refine sm 10 rfl <| nL <| Tr.condT rfl <| tQ <| tG <| sm 1 rfl <| nL <| tRt <| rOk rfl ?_ nPo
   have hno : (decide (f.params > 8) || decide ((f.types.length : Int) > 20000) || f.types.any (fun t => !isTy t)) = true := by
     simp_all
   simp only [z8d, hno, Bool.not_true, Bool.false_and]
  refine sm 2 rfl <| yV rfl rfl (oSm uT35 rfl) <| sm 3 rfl ?_
  refine wS 16 rfl (fun hb16 => ?_) fun hb16 => ?_
  ·refine sm 4 rfl <| nL <| Tr.condT rfl <| tQ <| tG <| sm 1 rfl <| nL <| tRt <| rOk rfl ?_ nPo
   have hno : (decide (f.params > 8) || decide ((f.types.length : Int) > 20000) || f.types.any (fun t => !isTy t)) = true := by
     simp_all
   simp only [z8d, hno, Bool.not_true, Bool.false_and]
  refine sm 2 rfl <| WL.yes rfl rfl rfl rfl rfl rfl (z0t (y26 59 [] [] rfl ent59 (fun t => !isTy t) f.types (fun x hm => (sc_flow1 x).anyR)) ent58 rfl rfl (sSm rfl (Subs.cons (fun _ _ _ _ h => zr1 h) Subs.nil)) rfl) <| sm 1 rfl <| nL ?_
  refine tC rfl (fun hc20 => ?_) fun hc20 => ?_
  ·refine tQ <| tG <| sm 1 rfl <| nL <| tRt <| rOk rfl ?_ nPo
   have hno : (decide (f.params > 8) || decide ((f.types.length : Int) > 20000) || f.types.any (fun t => !isTy t)) = true := by
     simp_all
   simp only [z8d, hno, Bool.not_true, Bool.false_and]
  ·have hpar : f.params <= 8 /\ f.types.length <= 20000 := by
     (simp_all <;> omega)
   have hpt : f.params.toNat <= f.types.length := by omega
   have hpi : f.params = (f.params.toNat : Int) := by omega
   have hno : (decide (f.params > 8) || decide ((f.types.length : Int) > 20000) || f.types.any (fun t => !isTy t)) = false := by
     clear hpi
     simp_all
   refine tSk <| tQ <| tDr z10 (fun k => k < 3) <| wR 4 [0, 1, 2, 3, 4] kR0 h30 <| rV rfl rfl (lEA rfl rfl uT25 rfl tS25 (lb rfl)) <| rV rfl rfl (lEA rfl rfl uT51 rfl tS51 (lb rfl)) <| smR 2 rfl <| rV rfl rfl (oSm uT35 rfl) <| nR <| wO 5 kR0 <| wI rfl rfl nf (z1a rfl) (fun _ _ => z13 (k := 4) (s := ⟨3, 1⟩) rfl rfl rfl uT35 tZ3 tC3 rfl dC0 oM0 oM0 rfl rfl rfl rfl) <| wR 2 [6] kR0 h30 ?_
   refine rV rfl rfl (by exact zd3 rfl rfl tZ104 tP104 rfl (z8v (by (simp [y0x, firm1, look, PV.one]; exact ⟨_, _, ⟨rfl, rfl⟩, by simp⟩)))) <| nR <| wO 7 kR0 <| wI rfl rfl nf (z1a rfl) (fun _ _ => zg7 (k := 3) rfl rfl rfl rfl rfl rfl rfl) <| wR 0 [8] kR0 h30 <| smR 1 rfl <| nR <| wDn kR0 <| tQ <| tQ <| tG <| sm 3 rfl ?_
   refine nL <| tBk <| Tr.sub (Sub.of (fr' := [(31, iInt 0), (30, iInt f.params), (5, .ptr 3 0), (2, .pv (.ept [arrs u.arrays, flws u.flows] 0)), (3, .pv (.ept [vStr f.name, vInt f.ty, vInt f.params, ints f.types, z07 f.body] 0))]) ⟨rfl, rfl, rfl, rfl, rfl, trivial⟩) ?_
   refine Tr.heap (σ' := look (up (ckS u f 3 (z7r 0 f.types.length)))) (fun k => by
  rw [show (z7r 0 f.types.length) = List.replicate f.types.length 0 by simp [z7r]]
  simp only [ckS, up, List.map_cons, List.map_nil, look, List.length_map, List.length_replicate, List.map_replicate]
  by_cases h3 : 3 = k
  · subst h3; rfl
  · by_cases h4 : 4 = k
    · subst h4; rfl
    · simp [z02 h3, z02 h4]) ?_
   refine Tr.loop (fun fr σ m => ∃ (k : Nat), (k <= f.params.toNat) /\ fr = [(31, iInt k), (30, iInt f.params), (5, .ptr 3 0), (2, .pv (.ept [arrs u.arrays, flws u.flows] 0)), (3, .pv (.ept [vStr f.name, vInt f.ty, vInt f.params, ints f.types, z07 f.body] 0))] /\ σ = look (up (ckS u f 3 (z7r k f.types.length))) /\ m = f.params.toNat - k) (n := f.params.toNat - 0) ?_ ?_
   ·exact ⟨0, Nat.zero_le _, rfl, rfl, rfl⟩
   rintro fr σ m ⟨k, hI0, rfl, rfl, rfl⟩
   refine tQ <| tG <| sm 1 rfl <| nL <| tQ ?_
   refine tC rfl (fun hc32 => ?_) fun hc32 => ?_
   ·have hkp : k < f.params.toNat := by simp at hc32; omega
    have hkt : k < f.types.length := by omega
    have hst : ((z7r k f.types.length).map eInt)[k]? = some [vInt 0] := by
      rw [List.getElem?_map]
      simp only [z7r]
      rw [List.getElem?_append_right sI0]
      simp [List.getElem?_replicate, eInt]
      omega
    have hstl : k < ((z7r k f.types.length).map eInt).length := by rw [List.length_map, z7s oM0]; exact hkt
    refine tSk <| tQ <| tBk <| tQ <| tG <| sm 2 rfl <| nL <| tG <| sm 1 rfl <| cV rfl (nCk rfl rfl rfl) <| sm 3 rfl <| cV rfl (iRw rfl rfl rfl rfl rfl uT35 tS3 (by assumption) (by rfl)) ?_
    refine c0 (z1v rfl rfl rfl rfl rfl (Nat.add_zero _).symm (by assumption) sI0 tS3 rfl ((fun h => h))) <| nL <| tG <| cV rfl (oB rfl rfl (z06 rfl oM0)) <| sm 1 rfl <| nL ?_
    refine ⟨_, _, ?_, Sub.of (fr' := [(31, iInt (k + 1)), (30, iInt f.params), (5, .ptr 3 0), (2, .pv (.ept [arrs u.arrays, flws u.flows] 0)), (3, .pv (.ept [vStr f.name, vInt f.ty, vInt f.params, ints f.types, z07 f.body] 0))]) ⟨rfl, rfl, rfl, rfl, rfl, trivial⟩, (k + 1), ?_, rfl, (by rw [<- y4z hkt]; exact funext y2z), rfl⟩
    all_goals omega
   refine tEx <| tQ ?_
   have hkp : k = f.params.toNat := by simp at hc32; omega
   subst hkp
   refine tG <| sm 3 rfl <| cV rfl (bPu rfl rfl y0o tP107 rfl (fbk rfl) rfl) <| cE rfl (cRr (y4q u f hg f.body 1 ⟨by omega, by omega⟩ z3d (z7r f.params.toNat f.types.length) (z7s hpt) oM0) ent60 rfl rfl (sSm rfl (sSm rfl (Subs.cons (fun _ _ _ _ h => z2m (q := whv z3d) (PSub.agg (ps := [vBool false, vBool false, .val (.slice none 0 0), .val (.slice none 0 0), .val (.slice none 0 0)]) (And.intro (PSub.refl _) (And.intro (PSub.refl _) (And.intro PSub.nil (And.intro PSub.nil (And.intro PSub.nil trivial)))))) h) (sSm rfl Subs.nil)))) (po2 rfl rfl) (by rfl) (fun k (h : _) => (show False from h).elim) rfl (by rfl)) <| sm 1 rfl <| nL <| tRt <| rOk rfl ?_ nPo
   simp only [z8d, hno, Bool.not_false, Bool.true_and]
theorem zj3 (n : Int) : SC Tryz.prog 78 [.pv (.val (.int .i32 n))] [] (fun _ => False) (iBool (z1w n)) [] := by
  refine SC.of Tryz.func78 rfl (lb rfl) fun F ρ w => ?_
  refine tQ <| tG <| sm 1 rfl <| nL <| tQ <| tG <| sm 3 rfl ?_
  refine wS 5 rfl (fun hb5 => ?_) fun hb5 => ?_
  ·refine sm 4 rfl ?_
   refine wS 9 rfl (fun hb9 => ?_) fun hb9 => ?_
   ·refine sm 3 rfl <| nUu rfl rfl rfl rfl rfl rfl <| nUu rfl rfl rfl rfl rfl rfl <| sm 7 rfl <| nL <| tRt <| rOk rfl ?_ nPo
    unfold z1w
    first | (simp_all; done) | (simp_all <;> omega)
   refine sm 3 rfl ?_
   refine wS 12 rfl (fun hb12 => ?_) fun hb12 => ?_
   ·refine sm 5 rfl ?_
    refine wS 17 rfl (fun hb17 => ?_) fun hb17 => ?_
    ·refine sm 4 rfl <| nL <| tRt <| rOk rfl ?_ nPo
     unfold z1w
     first | (simp_all; done) | (simp_all <;> omega)
    refine sm 4 rfl <| nL <| tRt <| rOk rfl ?_ nPo
    unfold z1w
    first | (simp_all; done) | (simp_all <;> omega)
   refine sm 9 rfl <| nL <| tRt <| rOk rfl ?_ nPo
   unfold z1w
   first | (simp_all; done) | (simp_all <;> omega)
  refine sm 7 rfl ?_
  refine wS 12 rfl (fun hb12 => ?_) fun hb12 => ?_
  ·refine sm 5 rfl ?_
   refine wS 17 rfl (fun hb17 => ?_) fun hb17 => ?_
   ·refine sm 4 rfl <| nL <| tRt <| rOk rfl ?_ nPo
    unfold z1w
    first | (simp_all; done) | (simp_all <;> omega)
   refine sm 4 rfl <| nL <| tRt <| rOk rfl ?_ nPo
   unfold z1w
   first | (simp_all; done) | (simp_all <;> omega)
  refine sm 9 rfl <| nL <| tRt <| rOk rfl ?_ nPo
  unfold z1w
  first | (simp_all; done) | (simp_all <;> omega)
theorem y2f (n : Int) : SC Tryz.prog 97 [.pv (.val (.int .i32 n))] [] (fun _ => False) (iBool (z6l n)) [] := by
  refine SC.of Tryz.func97 rfl (lb rfl) fun F ρ w => ?_
  refine tQ <| tG <| sm 1 rfl <| nL <| tQ <| tG <| sm 3 rfl ?_
  refine wS 5 rfl (fun hb5 => ?_) fun hb5 => ?_
  ·refine sm 4 rfl <| nL <| tRt <| rOk rfl ?_ nPo
   unfold z6l
   first | (simp_all; done) | (simp_all <;> omega)
  refine sm 4 rfl <| nL <| tRt <| rOk rfl ?_ nPo
  unfold z6l
  first | (simp_all; done) | (simp_all <;> omega)
theorem y4v (s : ByteArray) : SC Tryz.prog 80 [iStr s] [] (fun _ => False) (iBool (z0q s)) [] := by
  refine SC.of Tryz.func80 rfl (lb rfl) fun F ρ w => ?_
  refine tQ <| tG <| sm 1 rfl <| nL <| tQ <| tQ <| tG <| sm 1 rfl <| nL <| tBk <| tQ <| tQ ?_
  refine tG <| cV rfl (bSt rfl rfl rfl rfl) <| sm 1 rfl <| nL ?_
  refine tC rfl (fun hc4 => ?_) fun hc4 => ?_
  ·refine tSk ?_
   refine tC rfl (fun hc4 => ?_) fun hc4 => ?_
   ·refine tQ <| tG <| sm 1 rfl <| nL <| tRt <| rOk rfl ?_ nPo
    refine congrArg (fun b => iBool b) ?_
    simp_all [z0q]
   refine tSk <| tQ <| tG <| sm 1 rfl <| nL <| tRt <| rOk rfl ?_ nPo
   refine congrArg (fun b => iBool b) ?_
   simp_all [z0q]
  refine tQ <| tG <| cV rfl (bSt rfl rfl rfl rfl) <| sm 1 rfl <| nL ?_
  refine tC rfl (fun hc4 => ?_) fun hc4 => ?_
  ·refine tSk ?_
   refine tC rfl (fun hc4 => ?_) fun hc4 => ?_
   ·refine tQ <| tG <| sm 1 rfl <| nL <| tRt <| rOk rfl ?_ nPo
    refine congrArg (fun b => iBool b) ?_
    simp_all [z0q]
   refine tSk <| tQ <| tG <| sm 1 rfl <| nL <| tRt <| rOk rfl ?_ nPo
   refine congrArg (fun b => iBool b) ?_
   simp_all [z0q]
  refine tQ <| tG <| cV rfl (bSt rfl rfl rfl rfl) <| sm 1 rfl <| nL ?_
  refine tC rfl (fun hc4 => ?_) fun hc4 => ?_
  ·refine tSk ?_
   refine tC rfl (fun hc4 => ?_) fun hc4 => ?_
   ·refine tQ <| tG <| sm 1 rfl <| nL <| tRt <| rOk rfl ?_ nPo
    refine congrArg (fun b => iBool b) ?_
    simp_all [z0q]
   refine tSk <| tQ <| tG <| sm 1 rfl <| nL <| tRt <| rOk rfl ?_ nPo
   refine congrArg (fun b => iBool b) ?_
   simp_all [z0q]
  refine tQ <| tG <| cV rfl (bSt rfl rfl rfl rfl) <| sm 1 rfl <| nL ?_
  refine tC rfl (fun hc4 => ?_) fun hc4 => ?_
  ·refine tSk ?_
   refine tC rfl (fun hc4 => ?_) fun hc4 => ?_
   ·refine tQ <| tG <| sm 1 rfl <| nL <| tRt <| rOk rfl ?_ nPo
    refine congrArg (fun b => iBool b) ?_
    simp_all [z0q]
   refine tSk <| tQ <| tG <| sm 1 rfl <| nL <| tRt <| rOk rfl ?_ nPo
   refine congrArg (fun b => iBool b) ?_
   simp_all [z0q]
  refine tQ <| tG <| cV rfl (bSt rfl rfl rfl rfl) <| sm 1 rfl <| nL ?_
  refine tC rfl (fun hc4 => ?_) fun hc4 => ?_
  ·refine tSk ?_
   refine tC rfl (fun hc4 => ?_) fun hc4 => ?_
   ·refine tQ <| tG <| sm 1 rfl <| nL <| tRt <| rOk rfl ?_ nPo
    refine congrArg (fun b => iBool b) ?_
    simp_all [z0q]
   refine tSk <| tQ <| tG <| sm 1 rfl <| nL <| tRt <| rOk rfl ?_ nPo
   refine congrArg (fun b => iBool b) ?_
   simp_all [z0q]
  refine tQ <| tG <| cV rfl (bSt rfl rfl rfl rfl) <| sm 1 rfl <| nL ?_
  refine tC rfl (fun hc4 => ?_) fun hc4 => ?_
  ·refine tSk ?_
   refine tC rfl (fun hc4 => ?_) fun hc4 => ?_
   ·refine tQ <| tG <| sm 1 rfl <| nL <| tRt <| rOk rfl ?_ nPo
    refine congrArg (fun b => iBool b) ?_
    simp_all [z0q]
   refine tSk <| tQ <| tG <| sm 1 rfl <| nL <| tRt <| rOk rfl ?_ nPo
   refine congrArg (fun b => iBool b) ?_
   simp_all [z0q]
  refine tQ <| tG <| cV rfl (bSt rfl rfl rfl rfl) <| sm 1 rfl <| nL ?_
  refine tC rfl (fun hc4 => ?_) fun hc4 => ?_
  ·refine tSk ?_
   refine tC rfl (fun hc4 => ?_) fun hc4 => ?_
   ·refine tQ <| tG <| sm 1 rfl <| nL <| tRt <| rOk rfl ?_ nPo
    refine congrArg (fun b => iBool b) ?_
    simp_all [z0q]
   refine tSk <| tQ <| tG <| sm 1 rfl <| nL <| tRt <| rOk rfl ?_ nPo
   refine congrArg (fun b => iBool b) ?_
   simp_all [z0q]
  refine tQ <| tG <| cV rfl (bSt rfl rfl rfl rfl) <| sm 1 rfl <| nL ?_
  refine tC rfl (fun hc4 => ?_) fun hc4 => ?_
  ·refine tSk ?_
   refine tC rfl (fun hc4 => ?_) fun hc4 => ?_
   ·refine tQ <| tG <| sm 1 rfl <| nL <| tRt <| rOk rfl ?_ nPo
    refine congrArg (fun b => iBool b) ?_
    simp_all [z0q]
   refine tSk <| tQ <| tG <| sm 1 rfl <| nL <| tRt <| rOk rfl ?_ nPo
   refine congrArg (fun b => iBool b) ?_
   simp_all [z0q]
  refine tQ <| tG <| cV rfl (bSt rfl rfl rfl rfl) <| sm 1 rfl <| nL ?_
  refine tC rfl (fun hc4 => ?_) fun hc4 => ?_
  ·refine tSk ?_
   refine tC rfl (fun hc4 => ?_) fun hc4 => ?_
   ·refine tQ <| tG <| sm 1 rfl <| nL <| tRt <| rOk rfl ?_ nPo
    refine congrArg (fun b => iBool b) ?_
    simp_all [z0q]
   refine tSk <| tQ <| tG <| sm 1 rfl <| nL <| tRt <| rOk rfl ?_ nPo
   refine congrArg (fun b => iBool b) ?_
   simp_all [z0q]
  refine tQ <| tG <| cV rfl (bSt rfl rfl rfl rfl) <| sm 1 rfl <| nL ?_
  refine tC rfl (fun hc4 => ?_) fun hc4 => ?_
  ·refine tSk ?_
   refine tC rfl (fun hc4 => ?_) fun hc4 => ?_
   ·refine tQ <| tG <| sm 1 rfl <| nL <| tRt <| rOk rfl ?_ nPo
    refine congrArg (fun b => iBool b) ?_
    simp_all [z0q]
   refine tSk <| tQ <| tG <| sm 1 rfl <| nL <| tRt <| rOk rfl ?_ nPo
   refine congrArg (fun b => iBool b) ?_
   simp_all [z0q]
  refine tQ <| tG <| cV rfl (bSt rfl rfl rfl rfl) <| sm 1 rfl <| nL ?_
  refine tC rfl (fun hc4 => ?_) fun hc4 => ?_
  ·refine tSk ?_
   refine tC rfl (fun hc4 => ?_) fun hc4 => ?_
   ·refine tQ <| tG <| sm 1 rfl <| nL <| tRt <| rOk rfl ?_ nPo
    refine congrArg (fun b => iBool b) ?_
    simp_all [z0q]
   refine tSk <| tQ <| tG <| sm 1 rfl <| nL <| tRt <| rOk rfl ?_ nPo
   refine congrArg (fun b => iBool b) ?_
   simp_all [z0q]
  refine tQ <| tG <| cV rfl (bSt rfl rfl rfl rfl) <| sm 1 rfl <| nL ?_
  refine tC rfl (fun hc4 => ?_) fun hc4 => ?_
  ·refine tSk ?_
   refine tC rfl (fun hc4 => ?_) fun hc4 => ?_
   ·refine tQ <| tG <| sm 1 rfl <| nL <| tRt <| rOk rfl ?_ nPo
    refine congrArg (fun b => iBool b) ?_
    simp_all [z0q]
   refine tSk <| tQ <| tG <| sm 1 rfl <| nL <| tRt <| rOk rfl ?_ nPo
   refine congrArg (fun b => iBool b) ?_
   simp_all [z0q]
  refine tQ <| tG <| cV rfl (bSt rfl rfl rfl rfl) <| sm 1 rfl <| nL ?_
  refine tC rfl (fun hc4 => ?_) fun hc4 => ?_
  ·refine tSk ?_
   refine tC rfl (fun hc4 => ?_) fun hc4 => ?_
   ·refine tQ <| tG <| sm 1 rfl <| nL <| tRt <| rOk rfl ?_ nPo
    refine congrArg (fun b => iBool b) ?_
    simp_all [z0q]
   refine tSk <| tQ <| tG <| sm 1 rfl <| nL <| tRt <| rOk rfl ?_ nPo
   refine congrArg (fun b => iBool b) ?_
   simp_all [z0q]
  refine tQ <| tG <| cV rfl (bSt rfl rfl rfl rfl) <| sm 1 rfl <| nL ?_
  refine tC rfl (fun hc4 => ?_) fun hc4 => ?_
  ·refine tSk ?_
   refine tC rfl (fun hc4 => ?_) fun hc4 => ?_
   ·refine tQ <| tG <| sm 1 rfl <| nL <| tRt <| rOk rfl ?_ nPo
    refine congrArg (fun b => iBool b) ?_
    simp_all [z0q]
   refine tSk <| tQ <| tG <| sm 1 rfl <| nL <| tRt <| rOk rfl ?_ nPo
   refine congrArg (fun b => iBool b) ?_
   simp_all [z0q]
  refine tQ <| tG <| cV rfl (bSt rfl rfl rfl rfl) <| sm 1 rfl <| nL ?_
  refine tC rfl (fun hc4 => ?_) fun hc4 => ?_
  ·refine tSk ?_
   refine tC rfl (fun hc4 => ?_) fun hc4 => ?_
   ·refine tQ <| tG <| sm 1 rfl <| nL <| tRt <| rOk rfl ?_ nPo
    refine congrArg (fun b => iBool b) ?_
    simp_all [z0q]
   refine tSk <| tQ <| tG <| sm 1 rfl <| nL <| tRt <| rOk rfl ?_ nPo
   refine congrArg (fun b => iBool b) ?_
   simp_all [z0q]
  refine tQ <| tG <| cV rfl (bSt rfl rfl rfl rfl) <| sm 1 rfl <| nL ?_
  refine tC rfl (fun hc4 => ?_) fun hc4 => ?_
  ·refine tSk ?_
   refine tC rfl (fun hc4 => ?_) fun hc4 => ?_
   ·refine tQ <| tG <| sm 1 rfl <| nL <| tRt <| rOk rfl ?_ nPo
    refine congrArg (fun b => iBool b) ?_
    simp_all [z0q]
   refine tSk <| tQ <| tG <| sm 1 rfl <| nL <| tRt <| rOk rfl ?_ nPo
   refine congrArg (fun b => iBool b) ?_
   simp_all [z0q]
  refine tQ <| tG <| cV rfl (bSt rfl rfl rfl rfl) <| sm 1 rfl <| nL ?_
  refine tC rfl (fun hc4 => ?_) fun hc4 => ?_
  ·refine tSk ?_
   refine tC rfl (fun hc4 => ?_) fun hc4 => ?_
   ·refine tQ <| tG <| sm 1 rfl <| nL <| tRt <| rOk rfl ?_ nPo
    refine congrArg (fun b => iBool b) ?_
    simp_all [z0q]
   refine tSk <| tQ <| tG <| sm 1 rfl <| nL <| tRt <| rOk rfl ?_ nPo
   refine congrArg (fun b => iBool b) ?_
   simp_all [z0q]
  refine tG <| cV rfl (bSt rfl rfl rfl rfl) <| sm 1 rfl <| nL ?_
  refine tC rfl (fun hc4 => ?_) fun hc4 => ?_
  ·refine tQ <| tG <| sm 1 rfl <| nL <| tRt <| rOk rfl ?_ nPo
   refine congrArg (fun b => iBool b) ?_
   simp_all [z0q]
  refine tSk <| tQ <| tG <| sm 1 rfl <| nL <| tRt <| rOk rfl ?_ nPo
  refine congrArg (fun b => iBool b) ?_
  simp_all [z0q]
theorem sc_tkRun (s : ByteArray) : SC Tryz.prog 79 [iStr s] [] (fun _ => False) (iStr (y20 s)) [] := by
  refine SC.of Tryz.func79 rfl (lb rfl) fun F ρ w => ?_
  refine tQ <| tG <| sm 1 rfl <| nL <| tQ ?_
  refine Tr.strRange rfl rfl rfl rfl rfl rfl rfl rfl uT9 rfl rfl rfl rfl rfl rfl rfl rfl rfl rfl rfl (fun _ h => h) (fun k fr => (k <= s.toList.length /\ (s.toList.take k).all isLD = true) /\ fr = [(0, iStr s)]) ⟨[(0, iStr s)], Sub.of ⟨rfl, trivial⟩, ⟨Nat.zero_le _, rfl⟩, rfl⟩ ?_ ?_
  ·rintro b0 k _ hk ⟨hI, rfl⟩
   refine tQ <| tG <| sm 2 rfl <| nL <| tRt <| rOk rfl ?_ nPo
   have hall : s.toList.all isLD = true := by
     have := hI.2
     rwa [List.take_of_length_le (by rw [z88]; exact hk)] at this
   simp [y20, hall]
  rintro ρ2 w2 b0 k _ hk ⟨hI, rfl⟩
  have hlt : k < s.toList.length := by rw [z88]; exact hk
  refine tBk <| tQ <| tG <| cV rfl (z0p rfl rfl rfl) <| cV rfl (z0p rfl rfl rfl) <| sm 2 rfl <| nL <| tQ <| tG <| sm 1 rfl <| cE rfl (ocq (zj3 _) ent78 rfl rfl) <| sm 2 rfl ?_
  refine wS 14 rfl (fun hb14 => ?_) fun hb14 => ?_
  ·refine sm 1 rfl <| WL.yes rfl rfl rfl rfl rfl rfl (z0t (y2f _) ent97 rfl rfl (sRf _ _) rfl) <| sm 2 rfl <| nL ?_
   refine tC rfl (fun hc18 => ?_) fun hc18 => ?_
   ·refine tQ <| tG <| sm 2 rfl <| cV rfl (zv8 rfl rfl uT9 (.inl ⟨rfl, rfl⟩) (.inr ⟨_, _, rfl, rfl⟩) oM0 (Nat.le_of_lt (by assumption))) <| sm 1 rfl <| nL <| tRt <| rOk rfl ?_ nPo
    have hld : zl3 (Utf8.decode s k).1 = false := by
      simp only [zl3]
      simp_all
    rw [runOf_at hI.2 (List.getElem?_eq_getElem hlt) ((ze9 hlt).2 hld)]
   refine tSk ?_
   refine ⟨rfl, [(0, iStr s)], Sub.of ⟨rfl, rfl, trivial⟩, ?_, rfl⟩
   have hld : zl3 (Utf8.decode s k).1 = true := by
     simp only [zl3]
     simp_all
   obtain ⟨hw1, hb1⟩ := (ze9 hlt).1 hld
   rw [hw1]
   exact ⟨by omega, by rw [List.take_succ_eq_append_getElem hlt, List.all_append, hI.2]; simp [hb1]⟩
  refine sm 4 rfl <| nL <| Tr.condF rfl <| tSk ?_
  refine ⟨rfl, [(0, iStr s)], Sub.of ⟨rfl, rfl, trivial⟩, ?_, rfl⟩
  have hld : zl3 (Utf8.decode s k).1 = true := by
    simp only [zl3]
    simp_all
  obtain ⟨hw1, hb1⟩ := (ze9 hlt).1 hld
  rw [hw1]
  exact ⟨by omega, by rw [List.take_succ_eq_append_getElem hlt, List.all_append, hI.2]; simp [hb1]⟩
theorem zx6 (s : ByteArray) : SC Tryz.prog 55 [iStr s] [] (fun _ => False) (iBool (z4j s)) [] := by
  refine SC.of Tryz.func55 rfl (lb rfl) fun F ρ w => ?_
  refine tQ <| tG <| sm 1 rfl <| nL <| tQ <| tG <| sm 1 rfl <| cV rfl (bSt rfl rfl rfl rfl) <| sm 1 rfl ?_
  refine wS 5 rfl (fun hb5 => ?_) fun hb5 => ?_
  ·have hne : s.toList ≠ [] := by simpa using hb5
   obtain ⟨b0, r0, hs0⟩ := List.exists_cons_of_ne_nil hne
   have hi0 : s[0]? = some b0 := by rw [y0t (i := 0) (by rw [hs0]; simp)]; simp [hs0]
   have hw0 : IntKind.i32.wrap (b0.toNat : Int) = b0.toNat := by
     have : b0.toNat < 256 := b0.toNat_lt
     simp [IntKind.wrap, IntKind.bits, IntKind.signed]
     omega
   have hre := runOf_eq s
   refine sm 1 rfl <| yV rfl rfl (z5v rfl rfl rfl uT9 (by assumption) (by rfl)) <| yV rfl rfl (z4f rfl rfl ⟨_, Tryz.underlying5⟩ Tryz.underlying21) <| WL.yes rfl rfl rfl rfl rfl rfl (z0t (zj3 _) ent78 rfl rfl (sRf _ _) rfl) <| sm 2 rfl ?_
   refine wS 11 rfl (fun hb11 => ?_) fun hb11 => ?_
   ·refine sm 1 rfl <| WL.yes rfl rfl rfl rfl rfl rfl (z0t (sc_tkRun s) ent79 rfl rfl (sRf _ _) rfl) <| sm 1 rfl <| yV rfl rfl (bSt rfl rfl rfl rfl) <| sm 2 rfl ?_
    refine wS 17 rfl (fun hb17 => ?_) fun hb17 => ?_
    ·refine sm 1 rfl <| yV rfl rfl (za0 rfl rfl uT9) <| sm 3 rfl ?_
     refine wS 22 rfl (fun hb22 => ?_) fun hb22 => ?_
     ·refine sm 1 rfl <| WL.yes rfl rfl rfl rfl rfl rfl (z0t (y4v s) ent80 rfl rfl (sRf _ _) rfl) <| sm 3 rfl <| nL <| tRt <| rOk rfl ?_ nPo
      refine congrArg (fun b => iBool b) ?_
      simp_all [z4j]
     refine sm 5 rfl <| nL <| tRt <| rOk rfl ?_ nPo
     refine congrArg (fun b => iBool b) ?_
     (simp_all [z4j] <;> omega)
    refine sm 10 rfl <| nL <| tRt <| rOk rfl ?_ nPo
    refine congrArg (fun b => iBool b) ?_
    simp_all [z4j]
   refine sm 16 rfl <| nL <| tRt <| rOk rfl ?_ nPo
   refine congrArg (fun b => iBool b) ?_
   simp_all [z4j]
  refine sm 22 rfl <| nL <| tRt <| rOk rfl ?_ nPo
  refine congrArg (fun b => iBool b) ?_
  simp_all [z4j]
theorem y4p (u : Un) (hW : z1u u <= 536870912) : SC Tryz.prog 37 [.pv u.enc] [] (fun _ => False) (iBool (z3s u)) [] := by
  refine SC.of Tryz.func37 rfl (lb rfl) fun F ρ w => ?_
  have hW2 : z1u u = u.arrays.length + u.flows.length + wtA u.arrays + wtF u.flows := rfl
  have hW3 : (u.arrays.length : Int) + u.flows.length <= 536870912 := by omega
  refine tQ <| tG <| cE rfl (z19 rfl rfl) <| sm 1 rfl <| nL <| tQ <| tG <| cE rfl (za1 (k := 109) rfl rfl rfl rfl rfl) <| sm 1 rfl <| nL <| tQ <| tQ ?_
  refine tG <| sm 2 rfl ?_
  refine WL.lenOf (t := 11) rfl (fun hl1 => ?_)
  simp only [List.length_map] at hl1
  refine cV rfl (oSm uT22 rfl) <| sm 1 rfl <| nL <| tBk <| Tr.sub (Sub.of (fr' := [(13, iInt 0), (12, iInt u.arrays.length), (11, .pv (arrs u.arrays)), (3, .mp 109), (1, .pv (.ept [arrs u.arrays, flws u.flows] 0))]) ⟨rfl, rfl, rfl, rfl, rfl, trivial⟩) ?_
  refine Tr.loop (fun fr σ m => ∃ (k : Nat) (es : List (Value × PV)), (k <= u.arrays.length) /\ (u.arrays.all z7b = (u.arrays.drop k).all z7b) /\ (zb1 [] u.arrays = zb1 es (u.arrays.drop k)) /\ (Cnt es) /\ fr = [(13, iInt k), (12, iInt u.arrays.length), (11, .pv (arrs u.arrays)), (3, .mp 109), (1, .pv (.ept [arrs u.arrays, flws u.flows] 0))] /\ σ = look [(109, some (.map es))] /\ m = u.arrays.length - k) (n := u.arrays.length - 0) ?_ ?_
  ·exact ⟨0, [], Nat.zero_le _, rfl, rfl, Cnt.nil, rfl, rfl, rfl⟩
  rintro fr σ m ⟨k, es, hI0, hI1, hI2, hI3, rfl, rfl, rfl⟩
  refine tQ <| tG <| sm 1 rfl <| nL <| tQ ?_
  refine tC rfl (fun hc14 => ?_) fun hc14 => ?_
  ·have hlt : k < u.arrays.length := by simpa using hc14
   have hd := List.drop_eq_getElem_cons hlt
   have hm := List.getElem_mem hlt
   have hi := z0c (f := Ar.enc) (List.getElem?_eq_getElem hlt)
   generalize u.arrays[k] = x at hd hm hi
   refine tSk <| tQ <| tBk <| tQ <| tG <| cV rfl (iSq rfl rfl rfl uT22 hi tS49 rfl (by rfl)) <| cV rfl (lEA rfl rfl Tryz.underlying49 rfl tS49 (lb rfl)) <| cE rfl (aLc (k := 105) rfl tZ49 rfl rfl rfl rfl) <| c0 (sBA rfl rfl rfl rfl rfl ((fun h => h)) tS49 (flk rfl) (lb rfl)) <| nL <| tQ <| Tr.freezeBox (t := 5) (k := 105) rfl rfl rfl ?_
   refine Tr.heap (σ' := look [(109, some (.map es))]) (fun k => by
     simp only [look]
     by_cases h : 105 = k
     · subst h; rfl
     · simp [z02 h]) ?_
   obtain ⟨n, hn⟩ := hI3.find (.string x.name)
   have hbump := zo7 hn
   have hes := hI3.1
   refine tG <| sm 3 rfl <| cV rfl (zg9 rfl rfl rfl rfl Tryz.underlying99 uT9 rfl (by assumption) tZ3 trivial) <| WL.sub (Sub.of (fr' := [(20, iInt n), (19, iStr x.name), (17, .mp 109), (5, .pv (.ept [vStr x.name, vInt x.size] 0)), (13, iInt k), (12, iInt u.arrays.length), (11, .pv (arrs u.arrays)), (3, .mp 109), (1, .pv (.ept [arrs u.arrays, flws u.flows] 0))]) ⟨congrArg (fun p => some (IV.pv p)) hn, rfl, rfl, rfl, rfl, rfl, rfl, rfl, rfl, trivial⟩) <| sm 1 rfl <| c0 (z7j rfl rfl rfl rfl rfl ((fun h => h)) Tryz.underlying99 uT9 rfl (by assumption)) <| nL <| tQ <| tG <| sm 2 rfl <| cE rfl (ocq (zx6 _) ent55 rfl rfl) <| sm 2 rfl ?_
   refine wS 26 rfl (fun hb26 => ?_) fun hb26 => ?_
   ·refine sm 9 rfl <| nL <| Tr.condT rfl <| tQ <| tG <| sm 1 rfl <| nL <| tRt <| rOk rfl ?_ nPo
    have hx : z7b x = false := by
      clear hd hm hi hI1 hI2 hn
      simp_all [z7b]
    have hA : u.arrays.all z7b = false := by rw [hI1, hd]; simp only [List.all_cons, hx, Bool.false_and]
    simp only [z3s, hA, Bool.false_and]
   refine sm 5 rfl ?_
   refine wS 31 rfl (fun hb31 => ?_) fun hb31 => ?_
   ·refine sm 4 rfl <| nL <| Tr.condT rfl <| tQ <| tG <| sm 1 rfl <| nL <| tRt <| rOk rfl ?_ nPo
    have hx : z7b x = false := by
      clear hd hm hi hI1 hI2 hn
      simp_all [z7b]
    have hA : u.arrays.all z7b = false := by rw [hI1, hd]; simp only [List.all_cons, hx, Bool.false_and]
    simp only [z3s, hA, Bool.false_and]
   refine sm 4 rfl <| nL ?_
   refine tC rfl (fun hc35 => ?_) fun hc35 => ?_
   ·refine tQ <| tG <| sm 1 rfl <| nL <| tRt <| rOk rfl ?_ nPo
    have hx : z7b x = false := by
      clear hd hm hi hI1 hI2 hn
      simp_all [z7b]
    have hA : u.arrays.all z7b = false := by rw [hI1, hd]; simp only [List.all_cons, hx, Bool.false_and]
    simp only [z3s, hA, Bool.false_and]
   refine tSk <| tG <| cV rfl (oB rfl rfl (z06 rfl oM0)) <| sm 1 rfl <| nL ?_
   refine ⟨_, _, ?_, Sub.of (fr' := [(13, iInt (k + 1)), (12, iInt u.arrays.length), (11, .pv (arrs u.arrays)), (3, .mp 109), (1, .pv (.ept [arrs u.arrays, flws u.flows] 0))]) ⟨rfl, rfl, rfl, rfl, rfl, trivial⟩, (k + 1), (bump x.name es), ?_, ?_, ?_, ?_, rfl, (funext fun j => by
   simp only [look, <- hbump]
   by_cases h : 109 = j
   · subst h; rfl
   · simp [z02 h]), rfl⟩
   ·omega
   ·omega
   ·rw [hI1, hd]
    have hx : z7b x = true := by
      clear hd hm hi hI1 hI2 hn
      simp_all [z7b]
    simp only [List.all_cons, hx, Bool.true_and]
   ·rw [hI2, hd]; rfl
   exact hI3.bump _
  refine tEx <| tQ <| tQ ?_
  have hA : u.arrays.all z7b = true := by
    rw [hI1, List.drop_eq_nil_of_le (by simpa using hc14)]; rfl
  have hcA : zb1 [] u.arrays = es := by
    rw [hI2, List.drop_eq_nil_of_le (by simpa using hc14)]; rfl
  generalize es = es0 at hcA hI3 ⊢
  refine tG <| sm 2 rfl ?_
  refine WL.lenOf (t := 38) rfl (fun hl2 => ?_)
  simp only [List.length_map] at hl2
  refine cV rfl (oSm uT23 rfl) <| sm 1 rfl <| nL <| tBk <| Tr.sub (Sub.of (fr' := [(40, iInt 0), (39, iInt u.flows.length), (38, .pv (flws u.flows)), (3, .mp 109), (1, .pv (.ept [arrs u.arrays, flws u.flows] 0))]) ⟨rfl, rfl, rfl, rfl, rfl, trivial⟩) ?_
  refine Tr.loop (fun fr σ m => ∃ (k : Nat) (es : List (Value × PV)), (k <= u.flows.length) /\ (u.flows.all z5s = (u.flows.drop k).all z5s) /\ (ze7 es0 u.flows = ze7 es (u.flows.drop k)) /\ (Cnt es) /\ fr = [(40, iInt k), (39, iInt u.flows.length), (38, .pv (flws u.flows)), (3, .mp 109), (1, .pv (.ept [arrs u.arrays, flws u.flows] 0))] /\ σ = look [(109, some (.map es))] /\ m = u.flows.length - k) (n := u.flows.length - 0) ?_ ?_
  ·exact ⟨0, es0, Nat.zero_le _, rfl, rfl, hI3, rfl, rfl, rfl⟩
  ·rintro fr σ m ⟨k, es, hJ0, hJ1, hJ2, hJ3, rfl, rfl, rfl⟩
   refine tQ <| tG <| sm 1 rfl <| nL <| tQ ?_
   refine tC rfl (fun hc41 => ?_) fun hc41 => ?_
   ·have hlt : k < u.flows.length := by simpa using hc41
    have hd := List.drop_eq_getElem_cons hlt
    have hm := List.getElem_mem hlt
    have hi := z0c (f := Fl.enc) (List.getElem?_eq_getElem hlt)
    generalize u.flows[k] = x at hd hm hi
    refine tSk <| tQ <| tBk <| tQ <| tG <| cV rfl (iSq rfl rfl rfl uT23 hi tS51 rfl (by rfl)) <| cV rfl (lEA rfl rfl uT51 rfl tS51 (lb rfl)) <| cE rfl (aLc (k := 107) rfl tZ51 rfl rfl rfl rfl) <| c0 (sBA rfl rfl rfl rfl rfl ((fun h => h)) tS51 (flk rfl) (lb rfl)) <| nL <| tQ <| Tr.freezeBox (t := 7) (k := 107) rfl rfl rfl ?_
    refine Tr.heap (σ' := look [(109, some (.map es))]) (fun k => by
      simp only [look]
      by_cases h : 107 = k
      · subst h; rfl
      · simp [z02 h]) ?_
    obtain ⟨n, hn⟩ := hJ3.find (.string x.name)
    have hbump := zo7 hn
    have hes := hJ3.1
    refine tG <| sm 3 rfl <| cV rfl (zg9 rfl rfl rfl rfl Tryz.underlying99 uT9 rfl (by assumption) tZ3 trivial) <| WL.sub (Sub.of (fr' := [(47, iInt n), (46, iStr x.name), (44, .mp 109), (7, .pv (.ept [vStr x.name, vInt x.ty, vInt x.params, ints x.types, z07 x.body] 0)), (40, iInt k), (39, iInt u.flows.length), (38, .pv (flws u.flows)), (3, .mp 109), (1, .pv (.ept [arrs u.arrays, flws u.flows] 0))]) ⟨congrArg (fun p => some (IV.pv p)) hn, rfl, rfl, rfl, rfl, rfl, rfl, rfl, rfl, trivial⟩) <| sm 1 rfl <| c0 (z7j rfl rfl rfl rfl rfl ((fun h => h)) Tryz.underlying99 uT9 rfl (by assumption)) <| nL <| tQ <| tG <| sm 2 rfl <| cE rfl (ocq (zx6 _) ent55 rfl rfl) <| sm 2 rfl ?_
    refine wS 53 rfl (fun hb53 => ?_) fun hb53 => ?_
    ·refine sm 18 rfl <| nL <| Tr.condT rfl <| tQ <| tG <| sm 1 rfl <| nL <| tRt <| rOk rfl ?_ nPo
     have hx : z5s x = false := by
       clear hd hm hi hJ1 hJ2 hn
       simp_all [z5s]
     have hF : u.flows.all z5s = false := by rw [hJ1, hd]; simp only [List.all_cons, hx, Bool.false_and]
     simp only [z3s, hF, Bool.false_and, Bool.and_false]
    refine sm 2 rfl <| WL.yes rfl rfl rfl rfl rfl rfl (z0t (y4f _) ent56 rfl rfl (sRf _ _) rfl) <| sm 3 rfl ?_
    refine wS 59 rfl (fun hb59 => ?_) fun hb59 => ?_
    ·refine sm 12 rfl <| nL <| Tr.condT rfl <| tQ <| tG <| sm 1 rfl <| nL <| tRt <| rOk rfl ?_ nPo
     have hx : z5s x = false := by
       clear hd hm hi hJ1 hJ2 hn
       simp_all [z5s]
     have hF : u.flows.all z5s = false := by rw [hJ1, hd]; simp only [List.all_cons, hx, Bool.false_and]
     simp only [z3s, hF, Bool.false_and, Bool.and_false]
    refine sm 5 rfl ?_
    refine wS 64 rfl (fun hb64 => ?_) fun hb64 => ?_
    ·refine sm 7 rfl <| nL <| Tr.condT rfl <| tQ <| tG <| sm 1 rfl <| nL <| tRt <| rOk rfl ?_ nPo
     have hx : z5s x = false := by
       clear hd hm hi hJ1 hJ2 hn
       simp_all [z5s]
     have hF : u.flows.all z5s = false := by rw [hJ1, hd]; simp only [List.all_cons, hx, Bool.false_and]
     simp only [z3s, hF, Bool.false_and, Bool.and_false]
    refine sm 4 rfl <| yV rfl rfl (oSm uT35 rfl) <| sm 2 rfl <| nL ?_
    refine tC rfl (fun hc71 => ?_) fun hc71 => ?_
    ·refine tQ <| tG <| sm 1 rfl <| nL <| tRt <| rOk rfl ?_ nPo
     have hx : z5s x = false := by
       clear hd hm hi hJ1 hJ2 hn
       simp_all [z5s]
     have hF : u.flows.all z5s = false := by rw [hJ1, hd]; simp only [List.all_cons, hx, Bool.false_and]
     simp only [z3s, hF, Bool.false_and, Bool.and_false]
    refine tSk <| tG <| cV rfl (oB rfl rfl (z06 rfl oM0)) <| sm 1 rfl <| nL ?_
    refine ⟨_, _, ?_, Sub.of (fr' := [(40, iInt (k + 1)), (39, iInt u.flows.length), (38, .pv (flws u.flows)), (3, .mp 109), (1, .pv (.ept [arrs u.arrays, flws u.flows] 0))]) ⟨rfl, rfl, rfl, rfl, rfl, trivial⟩, (k + 1), (bump x.name es), ?_, ?_, ?_, ?_, rfl, (funext fun j => by
  simp only [look, <- hbump]
  by_cases h : 109 = j
  · subst h; rfl
  · simp [z02 h]), rfl⟩
    ·omega
    ·omega
    ·rw [hJ1, hd]
     have hx : z5s x = true := by
       clear hd hm hi hJ1 hJ2 hn
       simp_all [z5s]
     simp only [List.all_cons, hx, Bool.true_and]
    ·rw [hJ2, hd]; rfl
    exact hJ3.bump _
   refine tEx <| tQ ?_
   have hF : u.flows.all z5s = true := by
     rw [hJ1, List.drop_eq_nil_of_le (by simpa using hc41)]; rfl
   have hcF : ze7 (zb1 [] u.arrays) u.flows = es := by
     rw [hcA, hJ2, List.drop_eq_nil_of_le (by simpa using hc41)]; rfl
   clear hJ1 hJ2 hI1 hI2
   refine tG <| cV rfl (lEA rfl rfl uT25 rfl tS25 (lb rfl)) <| cE rfl (ocq (za4 u z0j) ent57 rfl rfl) <| sm 1 rfl <| nL <| tQ <| tG <| sm 1 rfl <| cV rfl (y1x rfl rfl rfl Tryz.underlying99 trivial) <| sm 2 rfl <| cV rfl (oSm uT22 rfl) ?_
   refine WL.lenOf (t := 78) rfl (fun hl1 => ?_)
   simp only [List.length_map] at hl1
   refine sm 2 rfl <| cV rfl (oSm uT23 rfl) ?_
   refine WL.lenOf (t := 81) rfl (fun hl2 => ?_)
   simp only [List.length_map] at hl2
   refine cV rfl (oB rfl rfl (z06 rfl oM0)) <| sm 2 rfl ?_
   refine wS 85 rfl (fun hb85 => ?_) fun hb85 => ?_
   ·refine sm 4 rfl ?_
    refine wS 89 rfl (fun hb89 => ?_) fun hb89 => ?_
    ·have hk0 : z09 z0j u.flows 0 ≥ 0 := by simp_all
     obtain ⟨g, hgk, _⟩ := z6c hk0
     have hgi : (u.flows.map Fl.enc)[(z09 z0j u.flows 0).toNat]? = some g.enc := z0c hgk
     have hgd : u.flows.getD (z09 z0j u.flows 0).toNat zt4 = g := by simp [List.getD, hgk]
     refine sm 3 rfl <| yV rfl rfl (iSq rfl rfl rfl uT23 hgi tS51 rfl oM0) <| sm 5 rfl ?_
     refine wS 98 rfl (fun hb98 => ?_) fun hb98 => ?_
     ·refine sm 3 rfl <| yV rfl rfl (iSq rfl rfl rfl uT23 hgi tS51 rfl oM0) <| sm 5 rfl <| nL <| tRt <| rOk rfl ?_ nPo
      refine congrArg (fun b => iBool b) ?_
      simp only [z3s, hA, hF, hcF, z8c, Bool.true_and]
      simp_all
     refine sm 9 rfl <| nL <| tRt <| rOk rfl ?_ nPo
     refine congrArg (fun b => iBool b) ?_
     simp only [z3s, hA, hF, hcF, z8c, Bool.true_and]
     simp_all
    refine sm 18 rfl <| nL <| tRt <| rOk rfl ?_ nPo
    refine congrArg (fun b => iBool b) ?_
    simp only [z3s, hA, hF, hcF, z8c, Bool.true_and]
    (simp_all <;> omega)
   refine sm 22 rfl <| nL <| tRt <| rOk rfl ?_ nPo
   refine congrArg (fun b => iBool b) ?_
   simp only [z3s, hA, hF, hcF, z8c, Bool.true_and]
   simp_all
theorem y2e (u : Un) (hW : z1u u <= 536870912) : SC Tryz.prog 22 [.pv u.enc] [] (fun _ => False) (.tup [iInt (z3m u).1, iInt (z3m u).2]) [] := by
  refine SC.of Tryz.func22 rfl (lb rfl) fun F ρ w => ?_
  refine tQ <| tG <| cE rfl (z19 rfl rfl) <| sm 2 rfl <| nL <| tQ <| tQ <| tG <| cV rfl (lEA rfl rfl uT25 rfl tS25 (lb rfl)) <| cE rfl (ocq (y4p u hW) ent37 rfl rfl) <| sm 1 rfl <| nL ?_
  refine tC rfl (fun hc8 => ?_) fun hc8 => ?_
  ·refine tQ <| tG <| sm 2 rfl <| nL <| tRt <| rOk rfl ?_ nPo
   have hg : z3s u = false := by simpa using hc8
   simp [z3m, hg]
  have hg : z3s u = true := by simpa using hc8
  refine tSk <| tQ <| tQ <| tG <| sm 2 rfl ?_
  refine WL.lenOf (t := 10) rfl (fun hl1 => ?_)
  simp only [List.length_map] at hl1
  refine cV rfl (oSm uT23 rfl) <| sm 1 rfl <| nL <| tBk <| Tr.sub (Sub.of (fr' := [(12, iInt 0), (11, iInt u.flows.length), (10, .pv (flws u.flows)), (1, .pv (.ept [arrs u.arrays, flws u.flows] 0))]) ⟨rfl, rfl, rfl, rfl, trivial⟩) ?_
  refine Tr.loop (fun fr σ m => ∃ (k : Nat), (k <= u.flows.length) /\ (z6y u u.flows 0 = z6y u (u.flows.drop k) k) /\ fr = [(12, iInt k), (11, iInt u.flows.length), (10, .pv (flws u.flows)), (1, .pv (.ept [arrs u.arrays, flws u.flows] 0))] /\ σ = look [] /\ m = u.flows.length - k) (n := u.flows.length - 0) ?_ ?_
  ·exact ⟨0, Nat.zero_le _, rfl, rfl, rfl, rfl⟩
  rintro fr σ m ⟨k, hI0, hI1, rfl, rfl, rfl⟩
  refine tQ <| tG <| sm 1 rfl <| nL <| tQ ?_
  refine tC rfl (fun hc13 => ?_) fun hc13 => ?_
  ·have hlt : k < u.flows.length := by simpa using hc13
   have hd := List.drop_eq_getElem_cons hlt
   have hm := List.getElem_mem hlt
   have hi := z0c (f := Fl.enc) (List.getElem?_eq_getElem hlt)
   generalize u.flows[k] = x at hd hm hi
   refine tSk <| tQ <| tBk <| tQ <| tG <| sm 1 rfl <| cV rfl (iSq rfl rfl rfl uT23 hi tS51 rfl (by rfl)) <| cV rfl (lEA rfl rfl uT51 rfl tS51 (lb rfl)) <| cE rfl (aLc (k := 105) rfl tZ51 rfl rfl rfl rfl) <| sm 1 rfl <| c0 (sBA rfl rfl rfl rfl rfl ((fun h => h)) tS51 (flk rfl) (lb rfl)) <| nL ?_
   refine tQ <| Tr.freezeBox (t := 5) (k := 105) rfl rfl rfl <| Tr.heap (σ' := look []) (fun k => by simp only [look]; cases Nat.beq 105 k <;> rfl) <| tG <| cV rfl (lEA rfl rfl uT25 rfl tS25 (lb rfl)) <| cV rfl (lEA rfl rfl uT51 rfl tS51 (lb rfl)) <| cE rfl (ocq (y4n u x (z6u hg) (z6u hg x hm) (zo9 hW hm)) ent38 rfl rfl) <| sm 1 rfl <| nL ?_
   refine tC rfl (fun hc20 => ?_) fun hc20 => ?_
   ·refine tQ <| tG <| sm 3 rfl <| nL <| tRt <| rOk rfl ?_ nPo
    have hx : z8d u x = false := by simpa using hc20
    simp only [z3m, hg, if_true, hI1, hd, z6y, hx, Bool.false_eq_true, if_false]
   refine tSk <| tG <| cV rfl (oB rfl rfl (z06 rfl oM0)) <| sm 1 rfl <| nL ?_
   refine ⟨_, _, ?_, Sub.of (fr' := [(12, iInt (k + 1)), (11, iInt u.flows.length), (10, .pv (flws u.flows)), (1, .pv (.ept [arrs u.arrays, flws u.flows] 0))]) ⟨rfl, rfl, rfl, rfl, trivial⟩, (k + 1), ?_, ?_, rfl, rfl, rfl⟩
   ·omega
   ·omega
   rw [hI1, hd]
   have hx : z8d u x = true := by simpa using hc20
   simp only [z6y, hx, if_true]
   rfl
  refine tEx <| tQ <| tG <| sm 2 rfl <| nL <| tRt <| rOk rfl ?_ nPo
  have hge : u.flows.length <= k := by simpa using hc13
  simp only [z3m, hg, if_true, hI1, List.drop_eq_nil_of_le hge, z6y]
def wAdd : List Int -> List Int -> List Int
  | s, [] => s
  | s, v :: r => wAdd (if s.contains v then s else s ++ [v]) r
def z16 : List Int -> List Int -> List Int -> List Int
  | s, a :: l, t :: to => z16 (if s.contains t then wAdd s [a] else s) l to
  | s, _, _ => s
structure Hd where
  yield : List Int
  next : List Int
  left : List Int
abbrev hdv (h : Hd) : PV := .agg [ints h.yield, ints h.next, ints h.left]
mutual
def z4r (h : Hd) (s : List Int) : Nd -> List Int
  | .mk kind op n name args outs params ks =>
    if kind == 12 then z16 s args h.yield
    else if kind == 13 then z16 s args h.next
    else if kind == 14 then z16 s args h.left
    else if kind == 10 then z7u ⟨outs, h.next, h.left⟩ (wAdd s args) ks
    else if kind == 11 then z7u ⟨[], params, outs⟩ (z16 s args params) ks
    else if !z1g (.mk kind op n name args outs params ks) || s.contains (outs.headD 0) then wAdd s args else s
def z3f (h : Hd) (s : List Int) : List Nd -> List Int
  | [] => s
  | x :: r => z3f h (z4r h s x) r
def z7u (h : Hd) (s : List Int) : List (List Nd) -> List Int
  | [] => s
  | l :: r => z7u h (z3f h s l) r
end
theorem z71 (h : Hd) (s : List Int) (x : Nd) : z4r h s x =
    if x.kind == 12 then z16 s x.args h.yield
    else if x.kind == 13 then z16 s x.args h.next
    else if x.kind == 14 then z16 s x.args h.left
    else if x.kind == 10 then z7u ⟨x.outs, h.next, h.left⟩ (wAdd s x.args) x.kids
    else if x.kind == 11 then z7u ⟨[], x.params, x.outs⟩ (z16 s x.args x.params) x.kids
    else if !z1g x || s.contains (x.outs.headD 0) then wAdd s x.args else s := by
  cases x; simp [z4r, Nd.kind, Nd.args, Nd.outs, Nd.params, Nd.kids]
def z12 (s : List Int) : List Int -> List Int -> List Int
  | a :: l, t :: to => if s.contains t then a :: z12 s l to else z12 s l to
  | _, _ => []
mutual
def z1n (s : List Int) (h : Hd) : Nd -> List Nd
  | .mk kind op n name args outs params ks =>
    if kind == 12 then [.mk kind op n name (z12 s args h.yield) outs params ks]
    else if kind == 13 then [.mk kind op n name (z12 s args h.next) outs params ks]
    else if kind == 14 then [.mk kind op n name (z12 s args h.left) outs params ks]
    else if kind == 10 then [.mk kind op n name args (z12 s outs outs) params (z4y s ⟨outs, h.next, h.left⟩ ks)]
    else if kind == 11 then [.mk kind op n name (z12 s args params) (z12 s outs outs) (z12 s params params) (z4y s ⟨[], params, outs⟩ ks)]
    else if z1g (.mk kind op n name args outs params ks) && !s.contains (outs.headD 0) then [] else [.mk kind op n name args outs params ks]
def z1y (s : List Int) (h : Hd) : List Nd -> List Nd
  | [] => []
  | x :: r => z1n s h x ++ z1y s h r
def z4y (s : List Int) (h : Hd) : List (List Nd) -> List (List Nd)
  | [] => []
  | l :: r => z1y s h l :: z4y s h r
end
theorem z4z (s : List Int) (h : Hd) (x : Nd) : z1n s h x =
    if x.kind == 12 then [.mk x.kind x.op x.n x.name (z12 s x.args h.yield) x.outs x.params x.kids]
    else if x.kind == 13 then [.mk x.kind x.op x.n x.name (z12 s x.args h.next) x.outs x.params x.kids]
    else if x.kind == 14 then [.mk x.kind x.op x.n x.name (z12 s x.args h.left) x.outs x.params x.kids]
    else if x.kind == 10 then [.mk x.kind x.op x.n x.name x.args (z12 s x.outs x.outs) x.params (z4y s ⟨x.outs, h.next, h.left⟩ x.kids)]
    else if x.kind == 11 then [.mk x.kind x.op x.n x.name (z12 s x.args x.params) (z12 s x.outs x.outs) (z12 s x.params x.params) (z4y s ⟨[], x.params, x.outs⟩ x.kids)]
    else if z1g x && !s.contains (x.outs.headD 0) then [] else [x] := by
  cases x; simp [z1n, Nd.kind, Nd.op, Nd.n, Nd.name, Nd.args, Nd.outs, Nd.params, Nd.kids]
mutual
def wOkN (h : Hd) : Nd -> Bool
  | .mk kind op n name args outs params ks =>
    if kind == 12 then decide (h.yield.length <= args.length)
    else if kind == 13 then decide (h.next.length <= args.length)
    else if kind == 14 then decide (h.left.length <= args.length)
    else if kind == 10 then ks.length == 2 && wOkK ⟨outs, h.next, h.left⟩ ks
    else if kind == 11 then decide (params.length <= args.length) && (ks.length == 1 && wOkK ⟨[], params, outs⟩ ks)
    else !z1g (.mk kind op n name args outs params ks) || !outs.isEmpty
def wOkL (h : Hd) : List Nd -> Bool
  | [] => true
  | x :: r => wOkN h x && wOkL h r
def wOkK (h : Hd) : List (List Nd) -> Bool
  | [] => true
  | l :: r => wOkL h l && wOkK h r
end
theorem z4s (h : Hd) (x : Nd) : wOkN h x =
    if x.kind == 12 then decide (h.yield.length <= x.args.length)
    else if x.kind == 13 then decide (h.next.length <= x.args.length)
    else if x.kind == 14 then decide (h.left.length <= x.args.length)
    else if x.kind == 10 then x.kids.length == 2 && wOkK ⟨x.outs, h.next, h.left⟩ x.kids
    else if x.kind == 11 then decide (x.params.length <= x.args.length) && (x.kids.length == 1 && wOkK ⟨[], x.params, x.outs⟩ x.kids)
    else !z1g x || !x.outs.isEmpty := by
  cases x; simp only [wOkN, Nd.kind, Nd.args, Nd.outs, Nd.params, Nd.kids]; rfl
theorem zr8 : ∀ {h : Hd} {l : List Nd} {x : Nd}, wOkL h l = true -> x ∈ l -> wOkN h x = true
  | h, y :: r, x, hh, hx => by
    simp only [wOkL, Bool.and_eq_true] at hh
    rcases List.mem_cons.1 hx with rfl | hx
    ·exact hh.1
    exact zr8 hh.2 hx
theorem z72 : ∀ {h : Hd} {l : List (List Nd)} {x : List Nd}, wOkK h l = true -> x ∈ l -> wOkL h x = true
  | h, y :: r, x, hh, hx => by
    simp only [wOkK, Bool.and_eq_true] at hh
    rcases List.mem_cons.1 hx with rfl | hx
    ·exact hh.1
    exact z72 hh.2 hx
def Pre (s s' : List Int) : Prop := ∃ q, s' = s ++ q
theorem Pre.refl (s : List Int) : Pre s s := ⟨[], by simp⟩
theorem Pre.trans {a b c : List Int} (h : Pre a b) (h' : Pre b c) : Pre a c := by
  obtain ⟨q, rfl⟩ := h
  obtain ⟨r, rfl⟩ := h'
  exact ⟨q ++ r, by rw [List.append_assoc]⟩
theorem Pre.len {a b : List Int} (h : Pre a b) : a.length <= b.length := by obtain ⟨q, rfl⟩ := h; simp
theorem Pre.eq {a b : List Int} (h : Pre a b) (hl : b.length <= a.length) : b = a := by
  obtain ⟨q, rfl⟩ := h
  have : q = [] := List.eq_nil_of_length_eq_zero (by simp at hl; omega)
  simp [this]
theorem Pre.sub {a b : List Int} (h : Pre a b) : ∀ v ∈ a, v ∈ b := by
  obtain ⟨q, rfl⟩ := h
  exact fun v hv => List.mem_append.2 (.inl hv)
theorem Pre.two {a b c : List Int} (h : Pre a b) (h' : Pre b c) (e : c = a) : b = a /\ c = b := by
  have h1 := h.len
  have h2 := h'.len
  have e1 : b = a := h.eq (by rw [<- e]; exact h2)
  exact ⟨e1, e.trans e1.symm⟩
theorem z2z : ∀ (l s : List Int), Pre s (wAdd s l)
  | [], s => .refl s
  | v :: r, s => by
    unfold wAdd
    split
    ·exact z2z r s
    exact Pre.trans ⟨[v], rfl⟩ (z2z r _)
theorem z2l : ∀ (l to s : List Int), Pre s (z16 s l to)
  | [], _, s => by simp [z16]; exact .refl s
  | _ :: _, [], s => by simp [z16]; exact .refl s
  | a :: l, t :: to, s => by
    unfold z16
    split
    ·exact (z2z [a] s).trans (z2l l to _)
    exact z2l l to s
mutual
theorem z9p : ∀ (x : Nd) (h : Hd) (s : List Int), Pre s (z4r h s x)
  | .mk kind op n name args outs params ks, h, s => by
    unfold z4r
    repeat' split
    ·exact z2l ..
    ·exact z2l ..
    ·exact z2l ..
    ·exact (z2z ..).trans (z5p ks _ _)
    ·exact (z2l ..).trans (z5p ks _ _)
    ·exact z2z ..
    exact .refl s
theorem z3t : ∀ (l : List Nd) (h : Hd) (s : List Int), Pre s (z3f h s l)
  | [], h, s => by unfold z3f; exact .refl s
  | x :: r, h, s => by unfold z3f; exact (z9p x h s).trans (z3t r h _)
theorem z5p : ∀ (ks : List (List Nd)) (h : Hd) (s : List Int), Pre s (z7u h s ks)
  | [], h, s => by unfold z7u; exact .refl s
  | l :: r, h, s => by unfold z7u; exact (z3t l h s).trans (z5p r h _)
end
mutual
def agN : Nd -> List Int
  | .mk _ _ _ _ args _ _ ks => args ++ agK ks
def agL : List Nd -> List Int
  | [] => []
  | x :: r => agN x ++ agL r
def agK : List (List Nd) -> List Int
  | [] => []
  | l :: r => agL l ++ agK r
end
def WIn (A s : List Int) : Prop := s.Nodup /\ ∀ v ∈ s, v ∈ A
theorem zk1 {A : List Int} : ∀ (l s : List Int), WIn A s -> (∀ v ∈ l, v ∈ A) -> WIn A (wAdd s l)
  | [], s, h, _ => h
  | v :: r, s, h, hl => by
    unfold wAdd
    split
    ·exact zk1 r s h fun v hv => hl v (.tail _ hv)
    rename_i hc
    refine zk1 r _ ⟨?_, fun w hw => ?_⟩ fun v hv => hl v (.tail _ hv)
    ·rw [List.nodup_append]
     refine ⟨h.1, by simp, fun a ha b hb e => ?_⟩
     obtain rfl := List.mem_singleton.1 hb
     subst e
     exact hc (List.contains_iff_mem.2 ha)
    rcases List.mem_append.1 hw with hw | hw
    ·exact h.2 w hw
    obtain rfl := List.mem_singleton.1 hw
    exact hl _ (.head _)
theorem z5a {A : List Int} : ∀ (l to s : List Int), WIn A s -> (∀ v ∈ l, v ∈ A) -> WIn A (z16 s l to)
  | [], _, s, h, _ => by simpa [z16] using h
  | _ :: _, [], s, h, _ => by simpa [z16] using h
  | a :: l, t :: to, s, h, hl => by
    unfold z16
    split
    ·exact z5a l to _ (zk1 [a] s h fun v hv => by obtain rfl := List.mem_singleton.1 hv; exact hl _ (.head _)) fun v hv => hl v (.tail _ hv)
    exact z5a l to s h fun v hv => hl v (.tail _ hv)
mutual
theorem wNode_in {A : List Int} : ∀ (x : Nd) (h : Hd) (s : List Int), WIn A s -> (∀ v ∈ agN x, v ∈ A) -> WIn A (z4r h s x)
  | .mk kind op n name args outs params ks, h, s, hs, hA => by
    have h1 : ∀ v ∈ args, v ∈ A := fun v hv => hA v (by simp [agN, hv])
    have h2 : ∀ v ∈ agK ks, v ∈ A := fun v hv => hA v (by simp [agN, hv])
    unfold z4r
    repeat' split
    ·exact z5a _ _ _ hs h1
    ·exact z5a _ _ _ hs h1
    ·exact z5a _ _ _ hs h1
    ·exact zr6 ks _ _ (zk1 _ _ hs h1) h2
    ·exact zr6 ks _ _ (z5a _ _ _ hs h1) h2
    ·exact zk1 _ _ hs h1
    exact hs
theorem zr7 {A : List Int} : ∀ (l : List Nd) (h : Hd) (s : List Int), WIn A s -> (∀ v ∈ agL l, v ∈ A) -> WIn A (z3f h s l)
  | [], h, s, hs, _ => by unfold z3f; exact hs
  | x :: r, h, s, hs, hA => by
    unfold z3f
    exact zr7 r h _ (wNode_in x h s hs fun v hv => hA v (by simp [agL, hv])) fun v hv => hA v (by simp [agL, hv])
theorem zr6 {A : List Int} : ∀ (ks : List (List Nd)) (h : Hd) (s : List Int), WIn A s -> (∀ v ∈ agK ks, v ∈ A) -> WIn A (z7u h s ks)
  | [], h, s, hs, _ => by unfold z7u; exact hs
  | l :: r, h, s, hs, hA => by
    unfold z7u
    exact zr6 r h _ (zr7 l h s hs fun v hv => hA v (by simp [agK, hv])) fun v hv => hA v (by simp [agK, hv])
end
theorem zv1 : ∀ (s A : List Int), s.Nodup -> (∀ v ∈ s, v ∈ A) -> s.length <= A.length
  | [], _, _, _ => Nat.zero_le _
  | v :: r, A, hn, hs => by
    have hv := hs v (.head _)
    have hn2 := List.nodup_cons.1 hn
    have ih := zv1 r (A.erase v) hn2.2 fun w hw => by
      have hne : w ≠ v := fun e => hn2.1 (e ▸ hw)
      exact (List.mem_erase_of_ne hne).2 (hs w (.tail _ hw))
    rw [List.length_erase_of_mem hv] at ih
    have := List.length_pos_of_mem hv
    simp only [List.length_cons]
    omega
theorem WIn.len {A s : List Int} (h : WIn A s) : s.length <= A.length := zv1 s A h.1 h.2
def hd0 : Hd := ⟨[], [], []⟩
def zc7 (l : List Nd) (s : List Int) : List Int := z3f hd0 s l
def z23 (l : List Nd) : Nat -> List Int
  | 0 => []
  | n + 1 => zc7 l (z23 l n)
def wSet (l : List Nd) : List Int := z23 l (agL l).length
theorem zd7 (l : List Nd) : ∀ n, WIn (agL l) (z23 l n)
  | 0 => ⟨by simp [z23], by simp [z23]⟩
  | n + 1 => zr7 l hd0 _ (zd7 l n) fun _ h => h
theorem z9q (l : List Nd) (s : List Int) : Pre s (zc7 l s) := z3t l hd0 s
theorem za9 {l : List Nd} {n : Nat} (h : zc7 l (z23 l n) = z23 l n) : ∀ k, z23 l (n + k) = z23 l n
  | 0 => rfl
  | k + 1 => by
    show zc7 l (z23 l (n + k)) = _
    rw [za9 h k, h]
theorem y2n {l : List Nd} {n : Nat} (hn : n <= (z23 l n).length) (h : zc7 l (z23 l n) = z23 l n) : z23 l n = wSet l := by
  have hl := (zd7 l n).len
  have := za9 h ((agL l).length - n)
  unfold wSet
  rw [<- this]
  congr 1
  omega
theorem zo5 {l : List Nd} : ∀ n, (∃ k, k <= n /\ zc7 l (z23 l k) = z23 l k) ∨ n <= (z23 l n).length
  | 0 => .inr (Nat.zero_le _)
  | n + 1 => by
    rcases zo5 (l := l) n with ⟨k, hk, h⟩ | h
    ·exact .inl ⟨k, by omega, h⟩
    have hp := z9q l (z23 l n)
    by_cases e : (zc7 l (z23 l n)).length <= (z23 l n).length
    ·exact .inl ⟨n, by omega, hp.eq e⟩
    refine .inr ?_
    show n + 1 <= (zc7 l (z23 l n)).length
    omega
theorem wSet_fix (l : List Nd) : zc7 l (wSet l) = wSet l := by
  rcases zo5 (l := l) (agL l).length with ⟨k, hk, h⟩ | h
  ·have e : z23 l (agL l).length = z23 l k := by
     have := za9 h ((agL l).length - k)
     rwa [show k + ((agL l).length - k) = (agL l).length by omega] at this
   unfold wSet
   rw [e, h]
  have h2 := (zd7 l ((agL l).length + 1)).len
  exact (z9q l (wSet l)).eq (Nat.le_trans h2 h)
def wB (l : List Nd) : List Nd := z1y (wSet l) hd0 l
theorem z9o (s : List Int) : ∀ l to, (z12 s l to).length <= to.length
  | [], _ => by simp [z12]
  | _ :: _, [] => by simp [z12]
  | a :: l, t :: to => by
    have ih := z9o s l to
    unfold z12
    split <;> simp only [List.length_cons] <;> omega
theorem y48 (s : List Int) (h : Hd) (x : Nd) : (z1n s h x).length <= 1 := by
  rw [z4z]
  repeat' split
  all_goals simp
theorem z9e (s : List Int) (h : Hd) : ∀ l, (z1y s h l).length <= l.length
  | [] => by simp [z1y]
  | x :: r => by
    have h1 := y48 s h x
    have h2 := z9e s h r
    simp only [z1y, List.length_append, List.length_cons]
    omega
theorem ls_len : ∀ l : List Nd, l.length <= lsW l
  | [] => by simp
  | x :: r => by
    have h1 := ls_len r
    have h2 : 1 <= ndW x := by cases x; simp only [ndW]; omega
    simp only [lsW, List.length_cons]
    omega
def z3b (a b : List Int) (k : Nat) : Bool := decide (k < a.length) && decide (k < b.length) && a.getD k 0 == b.getD k 0
def z89 (a b : List Int) (n : Int) : Bool := (List.range n.toNat).all (z3b a b)
def z7g (f g : Fl) : Bool := f.name.toList == g.name.toList && f.ty == g.ty && f.params == g.params && z89 f.types g.types f.params
def z41 : List Fl -> List Fl -> Bool
  | [], [] => true
  | x :: a, y :: b => z7g x y && z41 a b
  | _, _ => false
def z1z (u v : Un) : Bool := u.arrays.length == v.arrays.length && u.flows.length == v.flows.length && z4l u.arrays v.arrays && z41 u.flows v.flows
theorem zf7 {a b : List Int} {n : Int} {k : Nat} (h : (k : Int) < n) (hk : z3b a b k = false) : z89 a b n = false := by
  unfold z89
  rw [List.all_eq_false]
  exact ⟨k, by simp; omega, by simp [hk]⟩
theorem zm5 {a b : List Int} {n : Int} {k : Nat} (h : n <= k) (hk : ∀ i, i < k -> z3b a b i = true) : z89 a b n = true := by
  unfold z89
  rw [List.all_eq_true]
  intro i hi
  exact hk i (by simp at hi; omega)
theorem y23 (a : Ar) : zi4 a a = true := by simp [zi4]
theorem zi5 : ∀ l : List Ar, z4l l l = true
  | [] => rfl
  | a :: r => by simp [z4l, y23, zi5 r]
def inR (n : Nat) (ds : List Int) : Prop := ∀ v ∈ ds, 0 <= v /\ v < n
def Frs (set : List Bool) (ds : List Int) : Prop := ds.Nodup /\ ∀ v ∈ ds, set.getD v.toNat false = false
def z2e (set : List Bool) (ds : List Int) : List Bool := ds.foldl (fun s v => s.set v.toNat true) set
theorem z34 : ∀ (ds : List Int) (set : List Bool), (z2e set ds).length = set.length
  | [], _ => rfl
  | v :: r, set => by have := z34 r (set.set v.toNat true); simpa [z2e] using this
theorem z7i (set : List Bool) (a b : List Int) : z2e set (a ++ b) = z2e (z2e set a) b := by simp [z2e]
theorem zg2 {n : Nat} : ∀ (ds : List Int) (set : List Bool), set.length = n -> inR n ds -> ∀ v : Int, 0 <= v -> v < n -> (z2e set ds).getD v.toNat false = (ds.contains v || set.getD v.toNat false)
  | [], set, _, _, v, _, _ => by simp [z2e]
  | d :: r, set, hn, hr, v, h0, h1 => by
    have ih := zg2 r (set.set d.toNat true) (by simpa using hn) (fun v hv => hr v (.tail _ hv)) v h0 h1
    obtain ⟨d0, d1⟩ := hr d (.head _)
    show (z2e (set.set d.toNat true) r).getD v.toNat false = _
    rw [ih, z8w, List.contains_cons]
    by_cases e : v = d
    ·subst e
     rw [if_pos ⟨rfl, by omega⟩]; simp
    have e2 : ¬ (d.toNat = v.toNat /\ d.toNat < set.length) := by omega
    have e3 : (v == d) = false := by simpa using e
    rw [if_neg e2, e3, Bool.false_or]
theorem zf4 {n : Nat} {set : List Bool} {a b : List Int} (hn : set.length = n) (ha : inR n a) (hb : inR n b) : Frs set (a ++ b) ↔ Frs set a /\ Frs (z2e set a) b := by
  unfold Frs
  rw [List.nodup_append]
  constructor
  ·rintro ⟨⟨h1, h2, h3⟩, h4⟩
   refine ⟨⟨h1, fun v hv => h4 v (by simp [hv])⟩, h2, fun v hv => ?_⟩
   rw [zg2 a set hn ha v (hb v hv).1 (hb v hv).2, h4 v (by simp [hv])]
   have : a.contains v = false := by
     rw [<- Bool.not_eq_true, List.contains_iff_mem]
     exact fun hm => h3 v hm v hv rfl
   rw [this]; rfl
  rintro ⟨⟨h1, h2⟩, h3, h4⟩
  have hkey : ∀ v ∈ b, a.contains v = false /\ set.getD v.toNat false = false := fun v hv => by
    have := h4 v hv
    rw [zg2 a set hn ha v (hb v hv).1 (hb v hv).2, Bool.or_eq_false_iff] at this
    exact this
  refine ⟨⟨h1, h3, fun x hx y hy e => ?_⟩, fun v hv => ?_⟩
  ·subst e
   have := (hkey x hy).1
   rw [<- Bool.not_eq_true, List.contains_iff_mem] at this
   exact this hx
  rcases List.mem_append.1 hv with hv | hv
  ·exact h2 v hv
  exact (hkey v hv).2
def z52 (tys : List Int) : List Int -> List Int -> Bool
  | [], [] => true
  | v :: r, w :: ws => z5o tys v w && z52 tys r ws
  | _, _ => false
theorem z1x {tys : List Int} : ∀ {l want : List Int}, z52 tys l want = true -> inR tys.length l
  | [], [], _ => fun v hv => by simp at hv
  | [], _ :: _, h => by simp [z52] at h
  | _ :: _, [], h => by simp [z52] at h
  | x :: r, w :: ws, h => by
    simp only [z52, Bool.and_eq_true, z5o, decide_eq_true_eq] at h
    intro v hv
    rcases List.mem_cons.1 hv with rfl | hv
    ·exact ⟨h.1.1.1, h.1.1.2⟩
    exact z1x h.2 v hv
theorem zk0 {tys : List Int} : ∀ {l want : List Int}, z52 tys l want = true -> l.length = want.length
  | [], [], _ => rfl
  | [], _ :: _, h => by simp [z52] at h
  | _ :: _, [], h => by simp [z52] at h
  | x :: r, w :: ws, h => by
    simp only [z52, Bool.and_eq_true] at h
    simp [zk0 h.2]
theorem y2s (tys : List Int) (set : List Bool) (v w : Int) : z7a tys set v w = false ↔ z5o tys v w = true /\ set.getD v.toNat false = false := by
  unfold z7a z5o
  simp only [Bool.or_eq_false_iff, decide_eq_false_iff_not, Bool.and_eq_true, decide_eq_true_eq, Bool.or_eq_true]
  constructor
  ·rintro ⟨⟨⟨h1, h2⟩, h3⟩, h4⟩
   refine ⟨⟨⟨by omega, by omega⟩, ?_⟩, h3⟩
   cases hw : (w == 0) with
   | true => exact .inl rfl
   | false => exact .inr (by simpa [bne, hw] using h4)
  rintro ⟨⟨⟨h1, h2⟩, h4⟩, h3⟩
  refine ⟨⟨⟨by omega, by omega⟩, h3⟩, ?_⟩
  rcases h4 with h4 | h4
  ·simp [bne, h4]
  rw [show (tys.getD v.toNat 0 != w) = false from by rw [bne, h4]; rfl, Bool.and_false]
theorem zo1 (tys : List Int) : ∀ (l want : List Int) (set : List Bool), l.length = want.length -> set.length = tys.length ->
    ((z1m tys set l want).1 = true ↔ z52 tys l want = true /\ Frs set l) /\ ((z1m tys set l want).1 = true -> (z1m tys set l want).2 = z2e set l)
  | [], [], set, _, _ => by simp [z1m, z52, Frs, z2e]
  | [], _ :: _, _, h, _ => by simp at h
  | _ :: _, [], _, h, _ => by simp at h
  | x :: r, w :: ws, set, hl, hn => by
    obtain ⟨ih1, ih2⟩ := zo1 tys r ws (set.set x.toNat true) (by simpa using hl) (by simpa using hn)
    simp only [z1m]
    cases hb : z7a tys set x w with
    | true =>
      simp only [if_true, Bool.false_eq_true, false_iff, not_and, false_implies, and_true]
      intro h1 h2
      simp only [z52, Bool.and_eq_true] at h1
      have := (y2s tys set x w).2 ⟨h1.1, h2.2 x (.head _)⟩
      rw [hb] at this; cases this
    | false =>
      obtain ⟨b1, b2⟩ := (y2s tys set x w).1 hb
      simp only [Bool.false_eq_true, if_false]
      refine ⟨?_, fun h => ih2 h⟩
      rw [ih1]
      simp only [z52, b1, Bool.true_and]
      refine and_congr_right fun hv => ?_
      have hx : inR tys.length [x] := fun v hv => by
        obtain rfl := List.mem_singleton.1 hv
        simp only [z5o, Bool.and_eq_true, decide_eq_true_eq] at b1
        exact ⟨b1.1.1, b1.1.2⟩
      have := zf4 (a := [x]) (b := r) hn hx (z1x hv)
      rw [show x :: r = [x] ++ r from rfl, this]
      exact ⟨fun h => ⟨⟨by simp, fun v hv => by obtain rfl := List.mem_singleton.1 hv; exact b2⟩, h⟩, fun h => h.2⟩
theorem zq8 (tys : List Int) (set : List Bool) (l want : List Int) (hn : set.length = tys.length) :
    ((z0k tys set l want).1 = true ↔ z52 tys l want = true /\ Frs set l) /\ ((z0k tys set l want).1 = true -> (z0k tys set l want).2 = z2e set l) := by
  unfold z0k
  by_cases hl : l.length = want.length
  ·have e : ((l.length : Int) == want.length) = true := by simp; omega
   rw [if_pos e]
   exact zo1 tys l want set hl hn
  have e : ¬ ((l.length : Int) == want.length) = true := by simp; omega
  rw [if_neg e]
  refine ⟨⟨fun h => (by cases h), fun h => absurd (zk0 h.1) hl⟩, fun h => by cases h⟩
structure SForm where
  b : Bool
  want : Option (List Int)
def SForm.run (s : SForm) (tys : List Int) (outs : List Int) (set : List Bool) : Bool × List Bool := match s.want with
  | some wt => andS s.b set (z0k tys set outs wt)
  | none => (s.b && (outs.length : Int) == 0, set)
def SForm.ok (s : SForm) (tys : List Int) (outs : List Int) : Bool := match s.want with
  | some wt => s.b && z52 tys outs wt
  | none => s.b && (outs.length : Int) == 0
def z4q (u : Un) (f : Fl) (x : Nd) (seen : List Int) (w : Wh) : SForm :=
  if x.kind == 1 then ⟨z0d f.types seen x.args [], some [1]⟩
  else if x.kind == 2 then ⟨(x.n == 0 || x.n == 1) && z0d f.types seen x.args [], some [2]⟩
  else if x.kind == 3 then ⟨z2t x.op && z0d f.types seen x.args [(z0l x.op).1], some [(z0l x.op).2]⟩
  else if x.kind == 4 then ⟨z3w x.op && z0d f.types seen x.args [(z0l x.op).1, (z0l x.op).1] && f.types.getD (x.args.getD 0 0).toNat 0 == f.types.getD (x.args.getD 1 0).toNat 0, some [(z0l x.op).2]⟩
  else if x.kind == 5 then ⟨decide (z1q x.name u.arrays 0 ≥ 0) && z0d f.types seen x.args [1], some [1]⟩
  else if x.kind == 6 then ⟨decide (z1q x.name u.arrays 0 ≥ 0) && z0d f.types seen x.args [1, 1], none⟩
  else if x.kind == 7 then (if decide (z09 x.name u.flows 0 ≥ 0) = true then match u.flows[(z09 x.name u.flows 0).toNat]? with
      | some g => ⟨z0d f.types seen x.args (g.types.take g.params.toNat), some [g.ty]⟩
      | none => ⟨false, none⟩
    else ⟨false, none⟩)
  else if x.kind == 8 then ⟨(x.args.length : Int) == 0, some [1]⟩
  else if x.kind == 9 then ⟨z0d f.types seen x.args [1], none⟩
  else if x.kind == 12 then ⟨w.If && z0d f.types seen x.args w.Yield, none⟩
  else if x.kind == 13 then ⟨w.Loop && z0d f.types seen x.args w.Next, none⟩
  else if x.kind == 14 then ⟨w.Loop && z0d f.types seen x.args w.Left, none⟩
  else if x.kind == 15 then ⟨z0d f.types seen x.args [f.ty], none⟩
  else ⟨false, none⟩
theorem y0m (u : Un) (f : Fl) (set : List Bool) (x : Nd) (seen : List Int) (w : Wh) : z01 u f set x seen w = (z4q u f x seen w).run f.types x.outs set := by
  unfold z01 z4q z0m
  by_cases k1 : (x.kind == 1) = true
  ·rw [if_pos k1, if_pos k1]; rfl
  rw [if_neg k1, if_neg k1]
  by_cases k2 : (x.kind == 2) = true
  ·rw [if_pos k2, if_pos k2]; rfl
  rw [if_neg k2, if_neg k2]
  by_cases k3 : (x.kind == 3) = true
  ·rw [if_pos k3, if_pos k3]; rfl
  rw [if_neg k3, if_neg k3]
  by_cases k4 : (x.kind == 4) = true
  ·rw [if_pos k4, if_pos k4]; rfl
  rw [if_neg k4, if_neg k4]
  by_cases k5 : (x.kind == 5) = true
  ·rw [if_pos k5, if_pos k5]; rfl
  rw [if_neg k5, if_neg k5]
  by_cases k6 : (x.kind == 6) = true
  ·rw [if_pos k6, if_pos k6]; rfl
  rw [if_neg k6, if_neg k6]
  by_cases k7 : (x.kind == 7) = true
  ·rw [if_pos k7, if_pos k7]
   by_cases hp : decide (z09 x.name u.flows 0 ≥ 0) = true
   ·rw [if_pos hp, if_pos hp]
    cases u.flows[(z09 x.name u.flows 0).toNat]? with
    | none => rfl
    | some g => rfl
   rw [if_neg hp, if_neg hp]; rfl
  rw [if_neg k7, if_neg k7]
  by_cases k8 : (x.kind == 8) = true
  ·rw [if_pos k8, if_pos k8]; rfl
  rw [if_neg k8, if_neg k8]
  by_cases k9 : (x.kind == 9) = true
  ·rw [if_pos k9, if_pos k9]; rfl
  rw [if_neg k9, if_neg k9]
  by_cases k12 : (x.kind == 12) = true
  ·rw [if_pos k12, if_pos k12]; rfl
  rw [if_neg k12, if_neg k12]
  by_cases k13 : (x.kind == 13) = true
  ·rw [if_pos k13, if_pos k13]; rfl
  rw [if_neg k13, if_neg k13]
  by_cases k14 : (x.kind == 14) = true
  ·rw [if_pos k14, if_pos k14]; rfl
  rw [if_neg k14, if_neg k14]
  by_cases k15 : (x.kind == 15) = true
  ·rw [if_pos k15, if_pos k15]; rfl
  rw [if_neg k15, if_neg k15]
  rfl
theorem run_iff {tys outs : List Int} {set : List Bool} (s : SForm) (hn : set.length = tys.length) : ((s.run tys outs set).1 = true ↔ s.ok tys outs = true /\ Frs set outs) /\ ((s.run tys outs set).1 = true -> (s.run tys outs set).2 = z2e set outs) := by
  obtain ⟨b, want⟩ := s
  cases want with
  | some wt =>
    obtain ⟨h1, h2⟩ := zq8 tys set outs wt hn
    simp only [SForm.run, SForm.ok, andS]
    cases b with
    | false => simp
    | true => simp only [if_true, Bool.true_and]; exact ⟨h1, h2⟩
  | none =>
    simp only [SForm.run, SForm.ok]
    constructor
    ·constructor
     ·intro h
      refine ⟨h, ?_⟩
      simp only [Bool.and_eq_true, beq_iff_eq] at h
      have : outs = [] := List.eq_nil_of_length_eq_zero oM0
      subst this
      exact ⟨by simp, fun v hv => by simp at hv⟩
     exact fun h => h.1
    intro h
    simp only [Bool.and_eq_true, beq_iff_eq] at h
    have : outs = [] := List.eq_nil_of_length_eq_zero oM0
    subst this
    rfl
theorem ok_in {tys outs : List Int} {s : SForm} (h : s.ok tys outs = true) : inR tys.length outs := by
  obtain ⟨b, want⟩ := s
  cases want with
  | some wt => simp only [SForm.ok, Bool.and_eq_true] at h; exact z1x h.2
  | none =>
    simp only [SForm.ok, Bool.and_eq_true, beq_iff_eq] at h
    have : outs = [] := List.eq_nil_of_length_eq_zero oM0
    subst this
    exact fun v hv => by simp at hv
mutual
def dN : Nd -> List Int
  | .mk _ _ _ _ _ outs params ks => params ++ (dK ks ++ outs)
def dL : List Nd -> List Int
  | [] => []
  | x :: r => dN x ++ dL r
def dK : List (List Nd) -> List Int
  | [] => []
  | l :: r => dL l ++ dK r
end
theorem dN_eq (x : Nd) : dN x = x.params ++ (dK x.kids ++ x.outs) := by cases x; simp [dN, Nd.params, Nd.kids, Nd.outs]
def zer (l : List Int) : List Int := List.replicate l.length 0
def w1 (w : Wh) (f : Fl) (x : Nd) : Wh := ⟨true, w.Loop, r8of f.types x.outs, w.Next, w.Left⟩
def w2 (f : Fl) (x : Nd) : Wh := ⟨false, true, [], r8of f.types x.params, r8of f.types x.outs⟩
def zp8 (x : Nd) : Bool := (x.outs.length : Int) == 0 || !z0e x
mutual
def z65 (u : Un) (f : Fl) (deep : Int) (w : Wh) (seen : List Int) : Nd -> Bool
  | .mk kind op n name args outs params kids =>
    z0n (.mk kind op n name args outs params kids) &&
    (if kind == 10 then
      match kids with
      | a :: b :: _ => z0d f.types seen args [2] && (!a.isEmpty && vGo u f (deep + 1) (w1 w f (.mk kind op n name args outs params kids)) seen a) && (!b.isEmpty && vGo u f (deep + 1) (w1 w f (.mk kind op n name args outs params kids)) seen b) &&
          zp8 (.mk kind op n name args outs params kids) && z52 f.types outs (zer outs)
      | _ => false
    else if kind == 11 then
      match kids with
      | a :: _ => z0d f.types seen args (r8of f.types params) && z52 f.types params (zer params) && (!a.isEmpty && vGo u f (deep + 1) (w2 f (.mk kind op n name args outs params kids)) (seen ++ params) a) &&
          zp8 (.mk kind op n name args outs params kids) && z52 f.types outs (zer outs)
      | _ => false
    else (z4q u f (.mk kind op n name args outs params kids) seen w).ok f.types outs)
def vGo (u : Un) (f : Fl) (deep : Int) (w : Wh) (all : List Int) : List Nd -> Bool
  | [] => true
  | x :: r => !decide (deep > 100) && z65 u f deep w all x && (z0e x == r.isEmpty) && vGo u f deep w (all ++ x.outs) r
end
def z44 (u : Un) (f : Fl) (deep : Int) (w : Wh) (all : List Int) (l : List Nd) : Bool := !l.isEmpty && vGo u f deep w all l
theorem z6z (u : Un) (f : Fl) (deep : Int) (w : Wh) (seen : List Int) {x : Nd} {a b : List Nd} (h : z0n x = true) (hk : x.kind = 10) (hx : x.kids = [a, b]) :
    z65 u f deep w seen x = (z0d f.types seen x.args [2] && z44 u f (deep + 1) (w1 w f x) seen a && z44 u f (deep + 1) (w1 w f x) seen b && zp8 x && z52 f.types x.outs (zer x.outs)) := by
  cases x
  simp only [Nd.kind, Nd.kids] at hk hx
  subst hk hx
  unfold z65
  simp only [h, Bool.true_and, Nd.args, Nd.outs]
  rfl
theorem z4g (u : Un) (f : Fl) (deep : Int) (w : Wh) (seen : List Int) {x : Nd} {a : List Nd} (h : z0n x = true) (hk : x.kind = 11) (hx : x.kids = [a]) :
    z65 u f deep w seen x = (z0d f.types seen x.args (r8of f.types x.params) && z52 f.types x.params (zer x.params) && z44 u f (deep + 1) (w2 f x) (seen ++ x.params) a && zp8 x && z52 f.types x.outs (zer x.outs)) := by
  cases x
  simp only [Nd.kind, Nd.kids] at hk hx
  subst hk hx
  unfold z65
  simp only [h, Bool.true_and, Nd.args, Nd.outs, Nd.params]
  rfl
theorem z2i (u : Un) (f : Fl) (deep : Int) (w : Wh) (seen : List Int) {x : Nd} (h : z0n x = true) (h1 : (x.kind == 10) = false) (h2 : (x.kind == 11) = false) :
    z65 u f deep w seen x = (z4q u f x seen w).ok f.types x.outs := by
  cases x
  simp only [Nd.kind] at h1 h2
  unfold z65
  simp only [h, Bool.true_and, Nd.outs, h1, h2, Bool.false_eq_true, if_false]
theorem z59 (u : Un) (f : Fl) (deep : Int) (w : Wh) (seen : List Int) {x : Nd} (h : z65 u f deep w seen x = true) : z0n x = true := by
  cases x
  unfold z65 at h
  simp only [Bool.and_eq_true] at h
  exact h.1
theorem ze3 {x : Nd} (h : z0n x = true) (hk : (x.kind == 11) = false) : x.params = [] := by
  simp only [z0n, Bool.and_eq_true, hk, Bool.false_or, beq_iff_eq] at h
  exact List.eq_nil_of_length_eq_zero oM0
theorem z9t {x : Nd} (h : z0n x = true) (h1 : (x.kind == 10) = false) (h2 : (x.kind == 11) = false) : x.kids = [] := by
  have := z8m h
  simp only [r8kn, h1, h2, Bool.false_eq_true, if_false] at this
  exact List.eq_nil_of_length_eq_zero oM0
theorem zs7 {x : Nd} (h : z0n x = true) (h1 : (x.kind == 10) = false) (h2 : (x.kind == 11) = false) : dN x = x.outs := by
  rw [dN_eq, ze3 h h2, z9t h h1 h2]; rfl
theorem dN_if {x : Nd} {a b : List Nd} (h : z0n x = true) (hk : x.kind = 10) (hx : x.kids = [a, b]) : dN x = dL a ++ (dL b ++ x.outs) := by
  rw [dN_eq, ze3 h (by rw [hk]; rfl), hx]; simp [dK]
theorem y32 {x : Nd} {a : List Nd} (hx : x.kids = [a]) : dN x = x.params ++ (dL a ++ x.outs) := by
  rw [dN_eq, hx]; simp [dK]
theorem z9x {n : Nat} {a b : List Int} : inR n (a ++ b) ↔ inR n a /\ inR n b :=
  ⟨fun h => ⟨fun v hv => h v (by simp [hv]), fun v hv => h v (by simp [hv])⟩, fun h v hv => (List.mem_append.1 hv).elim (h.1 v) (h.2 v)⟩
theorem zc9 {n : Nat} {set : List Bool} {a b d : List Int} (hn : set.length = n) (ha : inR n a) (hb : inR n b) (hd : inR n d) : Frs set (a ++ (b ++ d)) ↔ Frs set a /\ Frs (z2e set a) b /\ Frs (z2e (z2e set a) b) d := by
  rw [zf4 hn ha (z9x.2 ⟨hb, hd⟩), zf4 ((z34 a set).trans hn) hb hd]
def RG (u : Un) (f : Fl) (l : List Nd) : Prop := ∀ (deep : Int) (w : Wh) (all : List Int), vGo u f deep w all l = true -> inR f.types.length (dL l)
theorem y02 (u : Un) (f : Fl) (x : Nd) (ih : ∀ q ∈ x.kids, RG u f q) (deep : Int) (w : Wh) (seen : List Int) (h : z65 u f deep w seen x = true) : inR f.types.length (dN x) := by
  have hb := z59 u f deep w seen h
  by_cases h10 : x.kind = 10
  ·obtain ⟨a, b, hk⟩ := z3r hb h10
   rw [z6z u f deep w seen hb h10 hk] at h
   simp only [Bool.and_eq_true, z44] at h
   rw [dN_if hb h10 hk]
   exact z9x.2 ⟨ih a (by rw [hk]; simp) _ _ _ h.1.1.1.2.2, z9x.2 ⟨ih b (by rw [hk]; simp) _ _ _ h.1.1.2.2, z1x h.2⟩⟩
  by_cases h11 : x.kind = 11
  ·obtain ⟨a, hk⟩ := z28 hb h11
   rw [z4g u f deep w seen hb h11 hk] at h
   simp only [Bool.and_eq_true, z44] at h
   rw [y32 hk]
   exact z9x.2 ⟨z1x h.1.1.1.2, z9x.2 ⟨ih a (by rw [hk]; simp) _ _ _ h.1.1.2.2, z1x h.2⟩⟩
  have e10 : (x.kind == 10) = false := by simpa using h10
  have e11 : (x.kind == 11) = false := by simpa using h11
  rw [z2i u f deep w seen hb e10 e11] at h
  rw [zs7 hb e10 e11]
  exact ok_in h
theorem go_in (u : Un) (f : Fl) : ∀ (l : List Nd), (∀ x ∈ l, ∀ q ∈ x.kids, RG u f q) -> RG u f l
  | [], _ => fun _ _ _ _ v hv => by simp [dL] at hv
  | x :: r, ih => fun deep w all h => by
    simp only [vGo, Bool.and_eq_true] at h
    exact z9x.2 ⟨y02 u f x (ih x (.head _)) _ _ _ h.1.1.2, go_in u f r (fun y hy => ih y (.tail _ hy)) _ _ _ h.2⟩
theorem rg_all (u : Un) (f : Fl) : ∀ (N : Nat) (l : List Nd), SizeOf.sizeOf l < N -> RG u f l
  | 0, _, h => absurd h (Nat.not_lt_zero _)
  | N + 1, l, hN => go_in u f l fun x hx q hq => rg_all u f N q (Nat.lt_of_lt_of_le (z5g hx rfl hq) (Nat.le_of_lt_succ hN))
theorem rg (u : Un) (f : Fl) (l : List Nd) : RG u f l := rg_all u f _ l (Nat.lt_succ_self _)
def CH (u : Un) (f : Fl) (l : List Nd) : Prop := ∀ (deep : Int) (w : Wh) (seen : List Int) (set : List Bool), set.length = f.types.length ->
  ((z0f u f deep w seen set l).1 = true ↔ z44 u f deep w seen l = true /\ Frs set (dL l)) /\ ((z0f u f deep w seen set l).1 = true -> (z0f u f deep w seen set l).2 = z2e set (dL l))
theorem z3u {q : Bool × List Bool} {k : List Bool -> Bool × List Bool} : ((andT q k).1 = true ↔ q.1 = true /\ (k q.2).1 = true) /\ ((andT q k).1 = true -> (andT q k).2 = (k q.2).2) := by
  unfold andT
  cases q.1 with
  | false => simp
  | true => simp
theorem y34 (f : Fl) (x : Nd) (set : List Bool) (hn : set.length = f.types.length) : ((z1b f x set).1 = true ↔ (zp8 x = true /\ z52 f.types x.outs (zer x.outs) = true) /\ Frs set x.outs) /\ ((z1b f x set).1 = true -> (z1b f x set).2 = z2e set x.outs) := by
  obtain ⟨h1, h2⟩ := zq8 f.types set x.outs (zer x.outs) hn
  unfold z1b andS
  show ((if zp8 x = true then _ else _ : Bool × List Bool).1 = true ↔ _) /\ _
  by_cases ho : zp8 x = true
  ·simp only [ho, if_true, true_and]
   exact ⟨h1, fun h => by
     have ho2 : ((x.outs.length : Int) == 0 || !z0e x) = true := ho
     rw [if_pos ho2] at h ⊢
     exact h2 h⟩
  have ho2 : ¬ ((x.outs.length : Int) == 0 || !z0e x) = true := ho
  rw [if_neg ho, if_neg ho2]
  simp [ho]
theorem node_iff (u : Un) (f : Fl) (x : Nd) (ih : ∀ q ∈ x.kids, CH u f q) (deep : Int) (w : Wh) (seen : List Int) (set : List Bool) (hn : set.length = f.types.length) :
    ((z0z u f deep w seen set x).1 = true ↔ z65 u f deep w seen x = true /\ Frs set (dN x)) /\ ((z0z u f deep w seen set x).1 = true -> (z0z u f deep w seen set x).2 = z2e set (dN x)) := by
  cases hb : z0n x with
  | false =>
    rw [z8n _ _ _ _ _ _ hb]
    refine ⟨⟨fun h => (by cases h), fun h => ?_⟩, fun h => by cases h⟩
    have := z59 u f deep w seen h.1
    rw [hb] at this; cases this
  | true =>
    by_cases h10 : x.kind = 10
    ·obtain ⟨a, b, hk⟩ := z3r hb h10
     rw [z14 _ _ _ _ _ _ hb h10 hk, z6z u f deep w seen hb h10 hk, dN_if hb h10 hk, show (⟨true, w.Loop, r8of f.types x.outs, w.Next, w.Left⟩ : Wh) = w1 w f x from rfl]
     by_cases ht : z0d f.types seen x.args [2] = true
     ·rw [if_pos ht]
      obtain ⟨a1, a2⟩ := ih a (by rw [hk]; simp) (deep + 1) (w1 w f x) seen set hn
      have hna : (z2e set (dL a)).length = f.types.length := (z34 _ _).trans hn
      obtain ⟨b1, b2⟩ := ih b (by rw [hk]; simp) (deep + 1) (w1 w f x) seen (z2e set (dL a)) hna
      have hnb : (z2e (z2e set (dL a)) (dL b)).length = f.types.length := (z34 _ _).trans hna
      obtain ⟨e1, e2⟩ := y34 f x (z2e (z2e set (dL a)) (dL b)) hnb
      have key : (andT (z0f u f (deep + 1) (w1 w f x) seen set a) (fun s1 => andT (z0f u f (deep + 1) (w1 w f x) seen s1 b) fun s2 => z1b f x s2)).1 = true ↔
          (z0f u f (deep + 1) (w1 w f x) seen set a).1 = true /\ (z0f u f (deep + 1) (w1 w f x) seen (z2e set (dL a)) b).1 = true /\ (z1b f x (z2e (z2e set (dL a)) (dL b))).1 = true := by
        rw [z3u.1]
        refine and_congr_right fun h => ?_
        rw [a2 h, z3u.1]
        exact and_congr_right fun h2 => by rw [b2 h2]
      refine ⟨?_, fun h => ?_⟩
      ·rw [key, a1, b1, e1]
       simp only [ht, Bool.true_and, Bool.and_eq_true]
       constructor
       ·rintro ⟨⟨c1, c2⟩, ⟨c3, c4⟩, ⟨c5, c6⟩, c7⟩
        have ra := rg u f a _ _ _ (by simp only [z44, Bool.and_eq_true] at c1; exact c1.2)
        have rb := rg u f b _ _ _ (by simp only [z44, Bool.and_eq_true] at c3; exact c3.2)
        exact ⟨⟨⟨⟨c1, c3⟩, c5⟩, c6⟩, (zc9 hn ra rb (z1x c6)).2 ⟨c2, c4, c7⟩⟩
       rintro ⟨⟨⟨⟨c1, c3⟩, c5⟩, c6⟩, c7⟩
       have ra := rg u f a _ _ _ (by simp only [z44, Bool.and_eq_true] at c1; exact c1.2)
       have rb := rg u f b _ _ _ (by simp only [z44, Bool.and_eq_true] at c3; exact c3.2)
       obtain ⟨d1, d2, d3⟩ := (zc9 hn ra rb (z1x c6)).1 c7
       exact ⟨⟨c1, d1⟩, ⟨c3, d2⟩, ⟨c5, c6⟩, d3⟩
      obtain ⟨k1, k2, k3⟩ := key.1 h
      have h' := (z3u.1.1 h).2
      rw [z3u.2 h, a2 k1]
      rw [a2 k1] at h'
      rw [z3u.2 h', b2 k2, e2 k3, z7i, z7i]
     rw [if_neg ht]
     refine ⟨⟨fun h => (by cases h), fun h => ?_⟩, fun h => by cases h⟩
     simp only [Bool.and_eq_true] at h
     exact absurd h.1.1.1.1.1 ht
    by_cases h11 : x.kind = 11
    ·obtain ⟨a, hk⟩ := z28 hb h11
     rw [z0a _ _ _ _ _ _ hb h11 hk, z4g u f deep w seen hb h11 hk, y32 hk, show (⟨false, true, [], r8of f.types x.params, r8of f.types x.outs⟩ : Wh) = w2 f x from rfl, show List.replicate x.params.length 0 = zer x.params from rfl]
     by_cases ht : z0d f.types seen x.args (r8of f.types x.params) = true
     ·rw [if_pos ht]
      obtain ⟨a1, a2⟩ := zq8 f.types set x.params (zer x.params) hn
      have hna : (z2e set x.params).length = f.types.length := (z34 _ _).trans hn
      obtain ⟨b1, b2⟩ := ih a (by rw [hk]; simp) (deep + 1) (w2 f x) (seen ++ x.params) (z2e set x.params) hna
      have hnb : (z2e (z2e set x.params) (dL a)).length = f.types.length := (z34 _ _).trans hna
      obtain ⟨e1, e2⟩ := y34 f x (z2e (z2e set x.params) (dL a)) hnb
      have key : (andT (z0k f.types set x.params (zer x.params)) (fun s1 => andT (z0f u f (deep + 1) (w2 f x) (seen ++ x.params) s1 a) fun s2 => z1b f x s2)).1 = true ↔
          (z0k f.types set x.params (zer x.params)).1 = true /\ (z0f u f (deep + 1) (w2 f x) (seen ++ x.params) (z2e set x.params) a).1 = true /\ (z1b f x (z2e (z2e set x.params) (dL a))).1 = true := by
        rw [z3u.1]
        refine and_congr_right fun h => ?_
        rw [a2 h, z3u.1]
        exact and_congr_right fun h2 => by rw [b2 h2]
      refine ⟨?_, fun h => ?_⟩
      ·rw [key, a1, b1, e1]
       simp only [ht, Bool.true_and, Bool.and_eq_true]
       constructor
       ·rintro ⟨⟨c1, c2⟩, ⟨c3, c4⟩, ⟨c5, c6⟩, c7⟩
        have rb := rg u f a _ _ _ (by simp only [z44, Bool.and_eq_true] at c3; exact c3.2)
        exact ⟨⟨⟨⟨c1, c3⟩, c5⟩, c6⟩, (zc9 hn (z1x c1) rb (z1x c6)).2 ⟨c2, c4, c7⟩⟩
       rintro ⟨⟨⟨⟨c1, c3⟩, c5⟩, c6⟩, c7⟩
       have rb := rg u f a _ _ _ (by simp only [z44, Bool.and_eq_true] at c3; exact c3.2)
       obtain ⟨d1, d2, d3⟩ := (zc9 hn (z1x c1) rb (z1x c6)).1 c7
       exact ⟨⟨c1, d1⟩, ⟨c3, d2⟩, ⟨c5, c6⟩, d3⟩
      obtain ⟨k1, k2, k3⟩ := key.1 h
      have h' := (z3u.1.1 h).2
      rw [z3u.2 h, a2 k1]
      rw [a2 k1] at h'
      rw [z3u.2 h', b2 k2, e2 k3, z7i, z7i]
     rw [if_neg ht]
     refine ⟨⟨fun h => (by cases h), fun h => ?_⟩, fun h => by cases h⟩
     simp only [Bool.and_eq_true] at h
     exact absurd h.1.1.1.1.1 ht
    have e10 : (x.kind == 10) = false := by simpa using h10
    have e11 : (x.kind == 11) = false := by simpa using h11
    rw [z6r _ _ _ _ _ _ hb e10 e11, z2i u f deep w seen hb e10 e11, zs7 hb e10 e11, y0m]
    exact run_iff _ hn
theorem go_iff (u : Un) (f : Fl) (deep : Int) (w : Wh) : ∀ (l : List Nd), (∀ x ∈ l, ∀ q ∈ x.kids, CH u f q) -> ∀ (all : List Int) (set : List Bool), set.length = f.types.length ->
    ((r8go u f deep w all set l).1 = true ↔ vGo u f deep w all l = true /\ Frs set (dL l)) /\ ((r8go u f deep w all set l).1 = true -> (r8go u f deep w all set l).2 = z2e set (dL l))
  | [], _, all, set, _ => by simp [r8go, vGo, dL, Frs, z2e]
  | x :: r, ih, all, set, hn => by
    obtain ⟨n1, n2⟩ := node_iff u f x (ih x (.head _)) deep w all set hn
    have hm : (z2e set (dN x)).length = f.types.length := (z34 _ _).trans hn
    obtain ⟨r1, r2⟩ := go_iff u f deep w r (fun y hy => ih y (.tail _ hy)) (all ++ x.outs) (z2e set (dN x)) hm
    unfold r8go vGo
    by_cases hd : deep > 100
    ·rw [if_pos hd]
     simp [hd]
    rw [if_neg hd]
    have hdb : (!decide (deep > 100)) = true := by simpa using hd
    by_cases hc : (z0e x != r.isEmpty) = true
    ·have hcb : (z0e x == r.isEmpty) = false := by
       cases hcc : (z0e x == r.isEmpty) with
       | false => rfl
       | true => simp [bne, hcc] at hc
     simp only [if_pos hc, hcb, Bool.and_false, Bool.false_and, Bool.false_eq_true, false_and, iff_false, Bool.not_eq_true]
     have : (andT (z0z u f deep w all set x) fun s1 => (false, s1)).1 = false := by
       unfold andT; split <;> rfl
     exact ⟨this, fun h => by rw [this] at h; cases h⟩
    have hcb : (z0e x == r.isEmpty) = true := by
      cases hcc : (z0e x == r.isEmpty) with
      | true => rfl
      | false => simp [bne, hcc] at hc
    simp only [if_neg hc, hcb, hdb, Bool.true_and, Bool.and_true, Bool.and_eq_true]
    have key : (andT (z0z u f deep w all set x) fun s1 => r8go u f deep w (all ++ x.outs) s1 r).1 = true ↔ (z0z u f deep w all set x).1 = true /\ (r8go u f deep w (all ++ x.outs) (z2e set (dN x)) r).1 = true := by
      rw [z3u.1]
      exact and_congr_right fun h => by rw [n2 h]
    refine ⟨?_, fun h => ?_⟩
    ·rw [key, n1, r1]
     constructor
     ·rintro ⟨⟨c1, c2⟩, c3, c4⟩
      exact ⟨⟨c1, c3⟩, (zf4 hn (y02 u f x (fun q _ => rg u f q) _ _ _ c1) (rg u f r _ _ _ c3)).2 ⟨c2, c4⟩⟩
     rintro ⟨⟨c1, c3⟩, c4⟩
     obtain ⟨d1, d2⟩ := (zf4 hn (y02 u f x (fun q _ => rg u f q) _ _ _ c1) (rg u f r _ _ _ c3)).1 c4
     exact ⟨⟨c1, d1⟩, c3, d2⟩
    obtain ⟨k1, k2⟩ := key.1 h
    rw [z3u.2 h, n2 k1, r2 k2]
    show _ = z2e set (dN x ++ dL r)
    rw [z7i]
theorem ch_all (u : Un) (f : Fl) : ∀ (N : Nat) (l : List Nd), SizeOf.sizeOf l < N -> CH u f l
  | 0, _, h => absurd h (Nat.not_lt_zero _)
  | N + 1, l, hN => by
    intro deep w seen set hn
    obtain ⟨h1, h2⟩ := go_iff u f deep w l (fun x hx q hq => ch_all u f N q (Nat.lt_of_lt_of_le (z5g hx rfl hq) (Nat.le_of_lt_succ hN))) seen set hn
    unfold z0f ne z44
    cases l with
    | nil => simp
    | cons x r => simpa using ⟨h1, h2⟩
theorem zn7 (u : Un) (f : Fl) (l : List Nd) (deep : Int) (w : Wh) (seen : List Int) (set : List Bool) (hn : set.length = f.types.length) : (z0f u f deep w seen set l).1 = true ↔ z44 u f deep w seen l = true /\ Frs set (dL l) :=
  (ch_all u f _ l (Nat.lt_succ_self _) deep w seen set hn).1
theorem zj8 {tys s s' : List Int} : ∀ {l want : List Int}, (∀ v ∈ l, s.contains v = true -> s'.contains v = true) -> z15 tys s l want = true -> z15 tys s' l want = true
  | [], _, _, _ => by simp [z15]
  | _ :: _, [], _, _ => by simp [z15]
  | x :: r, w :: ws, hs, h => by
    simp only [z15, Bool.and_eq_true] at h ⊢
    refine ⟨?_, zj8 (fun v hv => hs v (.tail _ hv)) h.2⟩
    have h1 := h.1
    unfold z6s at h1 ⊢
    cases hc : s.contains x with
    | false => rw [hc] at h1; simp at h1
    | true => rw [hs x (.head _) hc]; rw [hc] at h1; exact h1
theorem zj9 {tys s s' l want : List Int} (hs : ∀ v ∈ l, s.contains v = true -> s'.contains v = true) (h : z0d tys s l want = true) : z0d tys s' l want = true := by
  unfold z0d at h ⊢
  simp only [Bool.and_eq_true] at h ⊢
  exact ⟨h.1, zj8 hs h.2⟩
theorem zf8 {x : Nd} (h : z1g x = true) : (x.kind = 1 ∨ x.kind = 2 ∨ x.kind = 3 ∨ x.kind = 4) := by
  simp only [z1g, Bool.or_eq_true, Bool.and_eq_true, beq_iff_eq] at h
  rcases h with ((h | h) | h) | h
  ·exact .inl h
  ·exact .inr (.inl h)
  ·exact .inr (.inr (.inl h))
  exact .inr (.inr (.inr h.1.1))
theorem z8y {x : Nd} (h : z1g x = true) : (x.kind == 10) = false /\ (x.kind == 11) = false /\ z0e x = false /\ z47 x = false := by
  have hk := zf8 h
  have h10 : (x.kind == 10) = false := by simp; omega
  have h11 : (x.kind == 11) = false := by simp; omega
  have h14 : (x.kind == 14) = false := by simp; omega
  refine ⟨h10, h11, ?_, ?_⟩
  ·simp only [z0e, h10, h11, Bool.false_and, Bool.false_eq_true, if_false, z1k]
   simp; omega
  rw [z42, h10, h14]; rfl
theorem z8q {u : Un} {f : Fl} {x : Nd} {s s' : List Int} {w w' : Wh} {outs : List Int} (hm : z1g x = true) (hs : ∀ v ∈ x.args, s.contains v = true -> s'.contains v = true) (h : (z4q u f x s w).ok f.types outs = true) :
    (z4q u f x s' w').ok f.types outs = true /\ outs.length = 1 := by
  have M : ∀ want, z0d f.types s x.args want = true -> z0d f.types s' x.args want = true := fun want => zj9 hs
  have F : ∀ (b b' : Bool) (t : Int), (b = true -> b' = true) -> SForm.ok ⟨b, some [t]⟩ f.types outs = true -> SForm.ok ⟨b', some [t]⟩ f.types outs = true /\ outs.length = 1 := fun b b' t hb h => by
    simp only [SForm.ok, Bool.and_eq_true] at h ⊢
    exact ⟨⟨hb h.1, h.2⟩, zk0 h.2⟩
  unfold z4q at h ⊢
  by_cases k1 : (x.kind == 1) = true
  ·rw [if_pos k1] at h ⊢
   exact F _ _ _ (fun hb => M _ hb) h
  rw [if_neg k1] at h ⊢
  by_cases k2 : (x.kind == 2) = true
  ·rw [if_pos k2] at h ⊢
   exact F _ _ _ (fun hb => by simp only [Bool.and_eq_true] at hb ⊢; exact ⟨hb.1, M _ hb.2⟩) h
  rw [if_neg k2] at h ⊢
  by_cases k3 : (x.kind == 3) = true
  ·rw [if_pos k3] at h ⊢
   exact F _ _ _ (fun hb => by simp only [Bool.and_eq_true] at hb ⊢; exact ⟨hb.1, M _ hb.2⟩) h
  rw [if_neg k3] at h ⊢
  by_cases k4 : (x.kind == 4) = true
  ·rw [if_pos k4] at h ⊢
   exact F _ _ _ (fun hb => by simp only [Bool.and_eq_true] at hb ⊢; exact ⟨⟨hb.1.1, M _ hb.1.2⟩, hb.2⟩) h
  rw [if_neg k4] at h ⊢
  have hk := zf8 hm
  simp only [beq_iff_eq] at k1 k2 k3 k4
  omega
theorem dL_app : ∀ (a b : List Nd), dL (a ++ b) = dL a ++ dL b
  | [], _ => rfl
  | x :: r, b => by simp only [List.cons_append, dL, dL_app r b, List.append_assoc]
theorem zm9 : ∀ (a b : List Nd), z18 (a ++ b) = (z18 a || z18 b)
  | [], b => by simp [z18]
  | x :: r, b => by simp only [List.cons_append, z18, zm9 r b, Bool.or_assoc]
theorem zk8 {l : List Int} (h : l.length = 1) (v : Int) (hv : l.contains v = true) : v = l.headD 0 := by
  match l, h with
  | [a], _ => simpa using hv
theorem zz4 {kind op n : Int} {name : ByteArray} {args outs params : List Int} {ks ks' : List (List Nd)} (h : ks'.length = ks.length) : z0n (.mk kind op n name args outs params ks') = z0n (.mk kind op n name args outs params ks) := by
  unfold z0n r8op z1s z11 r8kn
  simp only [Nd.kind, Nd.op, Nd.n, Nd.name, Nd.kids, Nd.params]
  rw [h]
  rfl
theorem zt6 (u : Un) : ∀ (l : List Fl) (i : Int), (z48 u l i).1 = 0 ↔ ∀ f ∈ l, z36 u f = true
  | [], _ => by simp [z48]
  | f :: r, i => by
    unfold z48
    cases h : z36 u f with
    | false => simp [h]
    | true => simp [h, zt6 u r (i + 1)]
theorem zm1 (u : Un) : ∀ (l : List Fl) (i : Int), (∀ f ∈ l, z36 u f = true) -> z48 u l i = (0, 0)
  | [], _, _ => rfl
  | f :: r, i, h => by
    unfold z48
    rw [if_pos (h f (.head _))]
    exact zm1 u r (i + 1) fun g hg => h g (.tail _ hg)
theorem zs5 (u : Un) : (z1r u).1 = 0 ↔ z0w u = true /\ ∀ f ∈ u.flows, z36 u f = true := by
  unfold z1r
  cases h : z0w u with
  | false => simp
  | true => simp [zt6]
mutual
theorem zv3 (u : Un) (f : Fl) : ∀ (x : Nd) (deep : Int) (w : Wh) (s : List Int), z65 u f deep w s x = true -> hOkN x = true
  | .mk kind op n name args outs params ks, deep, w, s, h => by
    have hb := z59 u f deep w s h
    simp only [hOkN, Bool.and_eq_true]
    refine ⟨⟨?_, ?_⟩, ?_⟩
    ·cases hm : z1g (.mk kind op n name args outs params ks) with
     | false => rfl
     | true =>
       obtain ⟨e10, e11, _, _⟩ := z8y hm
       rw [z2i u f deep w s hb e10 e11] at h
       obtain ⟨_, hl⟩ := z8q (s' := s) (w' := w) hm (fun _ _ h => h) h
       simp only [Nd.outs] at hl
       cases outs with
       | nil => simp at hl
       | cons _ _ => rfl
    ·cases hk : (kind == 11) with
     | false => simp [bne, hk]
     | true =>
       obtain ⟨a, ha⟩ := z28 hb (show kind = 11 by simpa using hk)
       simp only [Nd.kids] at ha
       simp [ha]
    by_cases h10 : kind = 10
    ·obtain ⟨a, b, hk⟩ := z3r hb h10
     rw [z6z u f deep w s hb h10 hk] at h
     simp only [Bool.and_eq_true, z44] at h
     simp only [Nd.kids] at hk
     match ks, hk with
     | [a', b'], hk =>
       cases hk
       simp only [hOkK, Bool.and_eq_true, Bool.and_true]
       exact ⟨z9a u f a _ _ _ h.1.1.1.2.2, z9a u f b _ _ _ h.1.1.2.2⟩
    by_cases h11 : kind = 11
    ·obtain ⟨a, hk⟩ := z28 hb h11
     rw [z4g u f deep w s hb h11 hk] at h
     simp only [Bool.and_eq_true, z44] at h
     simp only [Nd.kids] at hk
     match ks, hk with
     | [a'], hk =>
       cases hk
       simp only [hOkK, Bool.and_true]
       exact z9a u f a _ _ _ h.1.1.2.2
    have hk0 := z9t hb (show (kind == 10) = false by simpa using h10) (show (kind == 11) = false by simpa using h11)
    simp only [Nd.kids] at hk0
    rw [hk0]; rfl
theorem z9a (u : Un) (f : Fl) : ∀ (l : List Nd) (deep : Int) (w : Wh) (s : List Int), vGo u f deep w s l = true -> hOkL l = true
  | [], _, _, _, _ => rfl
  | x :: r, deep, w, s, h => by
    simp only [vGo, Bool.and_eq_true] at h
    simp only [hOkL, Bool.and_eq_true]
    exact ⟨zv3 u f x _ _ _ h.1.1.2, z9a u f r _ _ _ h.2⟩
end
theorem z8t : ∀ (a b : List Nd), wtL (a ++ b) = wtL a + wtL b
  | [], b => by simp [wtL]
  | x :: r, b => by simp only [List.cons_append, wtL, z8t r b]; omega
theorem z70 : ∀ {l to s : List Int}, z16 s l to = s -> ∀ v ∈ z12 s l to, v ∈ s
  | [], _, s, _ => by simp [z12]
  | _ :: _, [], s, _ => by simp [z12]
  | a :: l, t :: to, s, h => by
    unfold z16 at h
    unfold z12
    split at h
    ·rename_i hc
     rw [if_pos hc]
     obtain ⟨e1, e2⟩ := Pre.two (z2z [a] s) (z2l l to _) h
     rw [e1] at h
     intro v hv
     rcases List.mem_cons.1 hv with rfl | hv
     ·rw [<- e1]
      unfold wAdd wAdd
      split
      ·rename_i hc2; exact List.contains_iff_mem.1 hc2
      exact List.mem_append.2 (.inr (.head _))
     exact z70 h v hv
    rename_i hc
    rw [if_neg hc]
    exact z70 h
theorem zr5 : ∀ {l s : List Int}, wAdd s l = s -> ∀ v ∈ l, v ∈ s
  | [], _, _ => by simp
  | v :: r, s, h => by
    unfold wAdd at h
    split at h
    ·rename_i hc
     intro w hw
     rcases List.mem_cons.1 hw with rfl | hw
     ·exact List.contains_iff_mem.1 hc
     exact zr5 h w hw
    obtain ⟨e1, _⟩ := Pre.two (⟨[v], rfl⟩ : Pre s (s ++ [v])) (z2z r _) h
    have := congrArg List.length e1
    simp at this
theorem z91 {s : List Int} : ∀ {l : List Int} {v : Int}, v ∈ l -> v ∈ s -> v ∈ z12 s l l
  | a :: l, v, h, hs => by
    unfold z12
    rcases List.mem_cons.1 h with rfl | h
    ·rw [if_pos (List.contains_iff_mem.2 hs)]; exact .head _
    split
    ·exact .tail _ (z91 h hs)
    exact z91 h hs
theorem z7x {s : List Int} : ∀ (l : List Int), List.Sublist (z12 s l l) l
  | [] => by simp [z12]
  | a :: l => by
    unfold z12
    split
    ·exact (z7x l).cons_cons a
    exact (z7x l).cons a
theorem zf9 {s : List Int} : ∀ {l to : List Int}, l.length = to.length -> (z12 s l to).length = (z12 s to to).length
  | [], [], _ => rfl
  | a :: l, t :: to, h => by
    have ih := zf9 (s := s) (l := l) (to := to) (by simpa using h)
    unfold z12
    split
    ·simp [ih]
    exact ih
  | [], _ :: _, h => by simp at h
  | _ :: _, [], h => by simp at h
def KeepS (s all all' : List Int) : Prop := ∀ v, v ∈ s -> all.contains v = true -> all'.contains v = true
theorem KeepS.app {s a b c d : List Int} (h : KeepS s a b) (h2 : ∀ v ∈ c, v ∈ s -> v ∈ d) : KeepS s (a ++ c) (b ++ d) := fun v hv hc => by
  rw [List.contains_append, Bool.or_eq_true] at hc ⊢
  rcases hc with hc | hc
  ·exact .inl (h v hv hc)
  exact .inr (List.contains_iff_mem.2 (h2 v (List.contains_iff_mem.1 hc) hv))
theorem zc1 {tys all all' s : List Int} (hs : KeepS s all all') : ∀ {l to : List Int}, (∀ v ∈ z12 s l to, v ∈ s) -> l.length = to.length -> z15 tys all l (to.map fun v => tys.getD v.toNat 0) = true ->
    z15 tys all' (z12 s l to) ((z12 s to to).map fun v => tys.getD v.toNat 0) = true
  | [], [], _, _, _ => by simp [z12, z15]
  | a :: l, t :: to, hk, hl, h => by
    simp only [List.map_cons, z15, Bool.and_eq_true] at h
    have hk2 : ∀ v ∈ z12 s l to, v ∈ s := fun v hv => hk v (by unfold z12; split <;> simp [hv])
    have ih := zc1 hs hk2 (by simpa using hl) h.2
    unfold z12
    by_cases hc : s.contains t = true
    ·rw [if_pos hc, if_pos hc]
     simp only [List.map_cons, z15, Bool.and_eq_true]
     refine ⟨?_, ih⟩
     have ha : a ∈ s := hk a (by unfold z12; rw [if_pos hc]; exact .head _)
     have h1 := h.1
     unfold z6s at h1 ⊢
     cases hac : all.contains a with
     | false => rw [hac] at h1; simp at h1
     | true => rw [hs a ha hac]; rw [hac] at h1; exact h1
    rw [if_neg hc, if_neg hc]
    exact ih
  | [], _ :: _, _, h, _ => by simp at h
  | _ :: _, [], _, h, _ => by simp at h
theorem inr_all {tys l : List Int} (h : inR tys.length l) : l.all (z6p tys) = true := by
  rw [List.all_eq_true]
  intro v hv
  simp only [z6p, Bool.and_eq_true, decide_eq_true_eq]
  exact h v hv
theorem y05 {tys l : List Int} (h : inR tys.length l) : r8of tys l = l.map fun v => tys.getD v.toNat 0 := by unfold r8of; rw [if_pos (inr_all h)]
theorem zd1 {n : Nat} {s l : List Int} (h : inR n l) : inR n (z12 s l l) := fun v hv => h v ((z7x l).subset hv)
theorem zo4 {tys all all' s l to : List Int} (hs : KeepS s all all') (hk : ∀ v ∈ z12 s l to, v ∈ s) (hr : inR tys.length to) (h : z0d tys all l (r8of tys to) = true) :
    z0d tys all' (z12 s l to) (r8of tys (z12 s to to)) = true := by
  rw [y05 hr] at h
  rw [y05 (zd1 hr)]
  unfold z0d at h ⊢
  simp only [Bool.and_eq_true, List.length_map, beq_iff_eq] at h ⊢
  have hl : l.length = to.length := by omega
  exact ⟨by rw [zf9 hl], zc1 hs hk hl h.2⟩
theorem zy6 {tys all l to : List Int} (hr : inR tys.length to) (h : z0d tys all l (r8of tys to) = true) : l.length = to.length := by
  rw [y05 hr] at h
  unfold z0d at h
  simp only [Bool.and_eq_true, List.length_map, beq_iff_eq] at h
  omega
theorem y5d {tys all all' s l want : List Int} (hs : KeepS s all all') (hl : ∀ v ∈ l, v ∈ s) (h : z0d tys all l want = true) : z0d tys all' l want = true := zj9 (fun v hv => hs v (hl v hv)) h
theorem zd8 {tys : List Int} : ∀ {l : List Int}, inR tys.length l -> z52 tys l (zer l) = true
  | [], _ => rfl
  | v :: r, h => by
    have h1 := h v (.head _)
    have ih := zd8 (tys := tys) (l := r) fun w hw => h w (.tail _ hw)
    simp only [zer, List.length_cons, List.replicate_succ, z52, Bool.and_eq_true, z5o, decide_eq_true_eq, Bool.or_eq_true]
    exact ⟨⟨h1, .inl rfl⟩, ih⟩
theorem y51 {u : Un} {f : Fl} {x : Nd} {s s' : List Int} {w w' : Wh} {outs : List Int} (h12 : (x.kind == 12) = false) (h13 : (x.kind == 13) = false) (h14 : (x.kind == 14) = false) (hs : ∀ v ∈ x.args, s.contains v = true -> s'.contains v = true) (h : (z4q u f x s w).ok f.types outs = true) : (z4q u f x s' w').ok f.types outs = true := by
  have M : ∀ want, z0d f.types s x.args want = true -> z0d f.types s' x.args want = true := fun want => zj9 hs
  have F : ∀ (b b' : Bool) (want : Option (List Int)), (b = true -> b' = true) -> SForm.ok ⟨b, want⟩ f.types outs = true -> SForm.ok ⟨b', want⟩ f.types outs = true := fun b b' want hb h => by
    cases want <;> simp only [SForm.ok, Bool.and_eq_true] at h ⊢ <;> exact ⟨hb h.1, h.2⟩
  unfold z4q at h ⊢
  simp only [h12, h13, h14, Bool.false_eq_true, if_false] at h ⊢
  by_cases k1 : (x.kind == 1) = true
  ·rw [if_pos k1] at h ⊢
   exact F _ _ _ (fun hb => M _ hb) h
  rw [if_neg k1] at h ⊢
  by_cases k2 : (x.kind == 2) = true
  ·rw [if_pos k2] at h ⊢
   exact F _ _ _ (fun hb => by simp only [Bool.and_eq_true] at hb ⊢; exact ⟨hb.1, M _ hb.2⟩) h
  rw [if_neg k2] at h ⊢
  by_cases k3 : (x.kind == 3) = true
  ·rw [if_pos k3] at h ⊢
   exact F _ _ _ (fun hb => by simp only [Bool.and_eq_true] at hb ⊢; exact ⟨hb.1, M _ hb.2⟩) h
  rw [if_neg k3] at h ⊢
  by_cases k4 : (x.kind == 4) = true
  ·rw [if_pos k4] at h ⊢
   exact F _ _ _ (fun hb => by simp only [Bool.and_eq_true] at hb ⊢; exact ⟨⟨hb.1.1, M _ hb.1.2⟩, hb.2⟩) h
  rw [if_neg k4] at h ⊢
  by_cases k5 : (x.kind == 5) = true
  ·rw [if_pos k5] at h ⊢
   exact F _ _ _ (fun hb => by simp only [Bool.and_eq_true] at hb ⊢; exact ⟨hb.1, M _ hb.2⟩) h
  rw [if_neg k5] at h ⊢
  by_cases k6 : (x.kind == 6) = true
  ·rw [if_pos k6] at h ⊢
   exact F _ _ _ (fun hb => by simp only [Bool.and_eq_true] at hb ⊢; exact ⟨hb.1, M _ hb.2⟩) h
  rw [if_neg k6] at h ⊢
  by_cases k7 : (x.kind == 7) = true
  ·rw [if_pos k7] at h ⊢
   by_cases hp : decide (z09 x.name u.flows 0 ≥ 0) = true
   ·rw [if_pos hp] at h ⊢
    cases hg : u.flows[(z09 x.name u.flows 0).toNat]? with
    | none => rw [hg] at h; exact h
    | some g => rw [hg] at h; exact F _ _ _ (fun hb => M _ hb) h
   rw [if_neg hp] at h ⊢; exact h
  rw [if_neg k7] at h ⊢
  by_cases k8 : (x.kind == 8) = true
  ·rw [if_pos k8] at h ⊢
   exact h
  rw [if_neg k8] at h ⊢
  by_cases k9 : (x.kind == 9) = true
  ·rw [if_pos k9] at h ⊢
   exact F _ _ _ (fun hb => M _ hb) h
  rw [if_neg k9] at h ⊢
  by_cases k15 : (x.kind == 15) = true
  ·rw [if_pos k15] at h ⊢
   exact F _ _ _ (fun hb => M _ hb) h
  rw [if_neg k15] at h ⊢
  exact h
mutual
theorem zw4 (s : List Int) : ∀ (x : Nd) (h : Hd), z18 (z1n s h x) = z47 x
  | .mk kind op n name args outs params ks, h => by
    have hk := fun h' => zb8 s ks h'
    unfold z1n
    repeat' split
    all_goals first
    | (simp only [z18, z47, hk, Bool.or_false]; done)
    | (rename_i hm; simp only [Bool.and_eq_true] at hm; rw [(z8y hm.1).2.2.2]; rfl)
theorem z7n (s : List Int) : ∀ (l : List Nd) (h : Hd), z18 (z1y s h l) = z18 l
  | [], h => by simp [z1y]
  | x :: r, h => by simp only [z1y, zm9, zw4 s x h, z7n s r h, z18]
theorem zb8 (s : List Int) : ∀ (ks : List (List Nd)) (h : Hd), z2g (z4y s h ks) = z2g ks
  | [], h => by simp [z4y]
  | l :: r, h => by simp only [z4y, z2g, z7n s l h, zb8 s r h]
end
theorem y49 (s : List Int) (h : Hd) (x : Nd) (hm : z1g x = false) : ∃ y, z1n s h x = [y] /\ y.kind = x.kind := by
  rw [z4z]
  repeat' split
  all_goals first
  | exact ⟨_, rfl, rfl⟩
  | (rename_i hh; rw [hm] at hh; simp at hh)
theorem z6f {u : Un} {f : Fl} {deep : Int} {w : Wh} (s : List Int) (h : Hd) : ∀ {l : List Nd} {all : List Int}, vGo u f deep w all l = true -> l ≠ [] -> z1y s h l ≠ [] /\ z77 (z1y s h l) = z77 l
  | [x], all, hv, _ => by
    simp only [vGo, Bool.and_eq_true] at hv
    have hc : z0e x = true := by simpa using hv.1.2
    have hm : z1g x = false := by
      cases hh : z1g x with
      | false => rfl
      | true => rw [(z8y hh).2.2.1] at hc; cases hc
    obtain ⟨y, e, hk⟩ := y49 s h x hm
    simp [z1y, e, z77, hk]
  | x :: z :: r, all, hv, _ => by
    have hv2 := hv
    unfold vGo at hv2
    simp only [Bool.and_eq_true] at hv2
    obtain ⟨i1, i2⟩ := z6f s h (l := z :: r) hv2.2 sI0
    have e : z1y s h (x :: z :: r) = z1n s h x ++ z1y s h (z :: r) := by rw [z1y]
    have h1 : (z1y s h (x :: z :: r)).getLast? = (z1y s h (z :: r)).getLast? := by
      rw [e, List.getLast?_append]
      cases hl : (z1y s h (z :: r)).getLast? with
      | none => exact absurd (List.getLast?_eq_none_iff.1 hl) i1
      | some q => rfl
    refine ⟨by rw [e]; simp [i1], ?_⟩
    unfold z77 at i2 ⊢
    rw [h1, i2]
    simp [List.getLast?_cons_cons]
def whOf (f : Fl) (i l : Bool) (h : Hd) : Wh := ⟨i, l, r8of f.types h.yield, r8of f.types h.next, r8of f.types h.left⟩
def hKept (s : List Int) (h : Hd) : Hd := ⟨z12 s h.yield h.yield, z12 s h.next h.next, z12 s h.left h.left⟩
def HdIn (f : Fl) (h : Hd) : Prop := inR f.types.length h.yield /\ inR f.types.length h.next /\ inR f.types.length h.left
theorem w1_of (f : Fl) (x : Nd) (i l : Bool) (h : Hd) : w1 (whOf f i l h) f x = whOf f true l ⟨x.outs, h.next, h.left⟩ := rfl
theorem w2_of (f : Fl) (x : Nd) : w2 f x = whOf f false true ⟨[], x.params, x.outs⟩ := rfl
def SP (u : Un) (f : Fl) (s : List Int) (l : List Nd) : Prop := ∀ (deep : Int) (i lp : Bool) (h : Hd) (all all' : List Int), HdIn f h -> KeepS s all all' -> z3f h s l = s -> vGo u f deep (whOf f i lp h) all l = true -> vGo u f deep (whOf f i lp (hKept s h)) all' (z1y s h l) = true
theorem SP.list {u : Un} {f : Fl} {s : List Int} {l : List Nd} (hh : SP u f s l) {deep : Int} {i lp : Bool} {h : Hd} {all all' : List Int} (hi : HdIn f h) (hs : KeepS s all all') (hw : z3f h s l = s) (hv : z44 u f deep (whOf f i lp h) all l = true) : z44 u f deep (whOf f i lp (hKept s h)) all' (z1y s h l) = true := by
  simp only [z44, Bool.and_eq_true] at hv ⊢
  refine ⟨?_, hh deep i lp h all all' hi hs hw hv.2⟩
  have hne : l ≠ [] := by intro e; subst e; simp at hv
  obtain ⟨h1, _⟩ := z6f s h hv.2 hne
  cases hq : z1y s h l with
  | nil => exact absurd hq h1
  | cons _ _ => rfl
theorem y08 {u : Un} {f : Fl} {x : Nd} {s : List Int} {w : Wh} (h : x.kind = 12) : z4q u f x s w = ⟨w.If && z0d f.types s x.args w.Yield, none⟩ := by unfold z4q; simp [h]
theorem y09 {u : Un} {f : Fl} {x : Nd} {s : List Int} {w : Wh} (h : x.kind = 13) : z4q u f x s w = ⟨w.Loop && z0d f.types s x.args w.Next, none⟩ := by unfold z4q; simp [h]
theorem y0a {u : Un} {f : Fl} {x : Nd} {s : List Int} {w : Wh} (h : x.kind = 14) : z4q u f x s w = ⟨w.Loop && z0d f.types s x.args w.Left, none⟩ := by unfold z4q; simp [h]
def NodeS (u : Un) (f : Fl) (s : List Int) (h : Hd) (deep : Int) (w' : Wh) (all' : List Int) (x : Nd) : Prop :=
  (z1n s h x = [] /\ z0e x = false /\ ∀ v ∈ x.outs, ¬ v ∈ s) ∨
  ∃ y, z1n s h x = [y] /\ z65 u f deep w' all' y = true /\ z0e y = z0e x /\ ∀ v ∈ x.outs, v ∈ s -> v ∈ y.outs
theorem zp6 {u : Un} {f : Fl} {s : List Int} {deep : Int} {w w' : Wh} {all all' : List Int} {x : Nd} (to : List Int) (hto : inR f.types.length to) (hs : KeepS s all all') (hw : z16 s x.args to = s) (hb : z0n x = true) (h10 : (x.kind == 10) = false) (h11 : (x.kind == 11) = false)
    (b : Bool) (hf : z4q u f x all w = ⟨b && z0d f.types all x.args (r8of f.types to), none⟩)
    (hf' : z4q u f (.mk x.kind x.op x.n x.name (z12 s x.args to) x.outs x.params x.kids) all' w' = ⟨b && z0d f.types all' (z12 s x.args to) (r8of f.types (z12 s to to)), none⟩)
    (hv : z65 u f deep w all x = true) : z65 u f deep w' all' (.mk x.kind x.op x.n x.name (z12 s x.args to) x.outs x.params x.kids) = true := by
  have hb2 : z0n (.mk x.kind x.op x.n x.name (z12 s x.args to) x.outs x.params x.kids) = true := by cases x; exact hb
  rw [z2i u f deep w all hb h10 h11, hf] at hv
  rw [z2i u f deep w' all' hb2 h10 h11, hf']
  simp only [SForm.ok, Bool.and_eq_true] at hv ⊢
  exact ⟨⟨hv.1.1, zo4 hs (z70 hw) hto hv.1.2⟩, hv.2⟩
theorem node_s (u : Un) (f : Fl) (s : List Int) (x : Nd) (ih : ∀ q ∈ x.kids, SP u f s q) (deep : Int) (i lp : Bool) (h : Hd) (all all' : List Int) (hi : HdIn f h) (hs : KeepS s all all') (hw : z4r h s x = s) (hv : z65 u f deep (whOf f i lp h) all x = true) :
    NodeS u f s h deep (whOf f i lp (hKept s h)) all' x := by
  have hb := z59 u f deep _ all hv
  rw [z71] at hw
  unfold NodeS
  rw [z4z]
  by_cases h12 : x.kind = 12
  ·have e : (x.kind == 12) = true := by simp [h12]
   rw [if_pos e] at hw ⊢
   refine .inr ⟨_, rfl, zp6 h.yield hi.1 hs hw hb (by simp [h12]) (by simp [h12]) i (y08 h12) (y08 h12) hv, by cases x; rfl, fun v hv _ => hv⟩
  rw [if_neg (by simpa using h12)] at hw ⊢
  by_cases h13 : x.kind = 13
  ·have e : (x.kind == 13) = true := by simp [h13]
   rw [if_pos e] at hw ⊢
   refine .inr ⟨_, rfl, zp6 h.next hi.2.1 hs hw hb (by simp [h13]) (by simp [h13]) lp (y09 h13) (y09 h13) hv, by cases x; rfl, fun v hv _ => hv⟩
  rw [if_neg (by simpa using h13)] at hw ⊢
  by_cases h14 : x.kind = 14
  ·have e : (x.kind == 14) = true := by simp [h14]
   rw [if_pos e] at hw ⊢
   refine .inr ⟨_, rfl, zp6 h.left hi.2.2 hs hw hb (by simp [h14]) (by simp [h14]) lp (y0a h14) (y0a h14) hv, by cases x; rfl, fun v hv _ => hv⟩
  rw [if_neg (by simpa using h14)] at hw ⊢
  by_cases h10 : x.kind = 10
  ·have e : (x.kind == 10) = true := by simp [h10]
   rw [if_pos e] at hw ⊢
   obtain ⟨a, b, hk⟩ := z3r hb h10
   obtain ⟨e1, e2⟩ := Pre.two (z2z x.args s) (z5p x.kids _ _) hw
   rw [e1, hk] at hw
   simp only [z7u] at hw
   obtain ⟨e3, e4⟩ := Pre.two (z3t a _ s) (z3t b _ _) hw
   rw [e3] at hw
   rw [z6z u f deep _ all hb h10 hk, w1_of] at hv
   simp only [Bool.and_eq_true] at hv
   have hin : HdIn f ⟨x.outs, h.next, h.left⟩ := ⟨z1x hv.2, hi.2⟩
   have ha := (ih a (by rw [hk]; simp)).list hin hs e3 hv.1.1.1.2
   have hbb := (ih b (by rw [hk]; simp)).list hin hs hw hv.1.1.2
   have hva := hv.1.1.1.2
   have hvb := hv.1.1.2
   simp only [z44, Bool.and_eq_true] at hva hvb
   have hla := (z6f s ⟨x.outs, h.next, h.left⟩ hva.2 (by intro e; simp [e] at hva)).2
   have hlb := (z6f s ⟨x.outs, h.next, h.left⟩ hvb.2 (by intro e; simp [e] at hvb)).2
   cases x with
   | mk kind op n name args outs params ks =>
     simp only [Nd.kind, Nd.kids, Nd.outs, Nd.args, Nd.params, Nd.op, Nd.n, Nd.name] at *
     subst h10 hk
     have hc : z0e (.mk 10 op n name args (z12 s outs outs) params (z4y s ⟨outs, h.next, h.left⟩ [a, b])) = z0e (.mk 10 op n name args outs params [a, b]) := by
       simp [z0e, z4y, Nd.kind, Nd.kids, kid0, kid1, hla, hlb]
     refine .inr ⟨_, rfl, ?_, hc, fun v hv hvs => z91 hv hvs⟩
     have hb2 : z0n (.mk 10 op n name args (z12 s outs outs) params (z4y s ⟨outs, h.next, h.left⟩ [a, b])) = true := (zz4 (ks := [a, b]) rfl).trans hb
     rw [z6z u f deep _ all' hb2 rfl rfl, w1_of]
     simp only [Bool.and_eq_true]
     refine ⟨⟨⟨⟨y5d hs (zr5 e1) hv.1.1.1.1, ha⟩, hbb⟩, ?_⟩, zd8 (zd1 (z1x hv.2))⟩
     have ho := hv.1.2
     unfold zp8 at ho ⊢
     rw [hc]
     simp only [Nd.outs, Bool.or_eq_true, beq_iff_eq] at ho ⊢
     refine ho.imp_left fun e => ?_
     have := z9o s outs outs
     omega
  rw [if_neg (by simpa using h10)] at hw ⊢
  by_cases h11 : x.kind = 11
  ·have e : (x.kind == 11) = true := by simp [h11]
   rw [if_pos e] at hw ⊢
   obtain ⟨a, hk⟩ := z28 hb h11
   obtain ⟨e1, e2⟩ := Pre.two (z2l x.args x.params s) (z5p x.kids _ _) hw
   rw [e1, hk] at hw
   simp only [z7u] at hw
   rw [z4g u f deep _ all hb h11 hk, w2_of] at hv
   simp only [Bool.and_eq_true] at hv
   have hp : inR f.types.length x.params := z1x hv.1.1.1.2
   have hin : HdIn f ⟨[], x.params, x.outs⟩ := ⟨fun v hv => by simp at hv, hp, z1x hv.2⟩
   have hs2 : KeepS s (all ++ x.params) (all' ++ z12 s x.params x.params) := hs.app fun v hv hvs => z91 hv hvs
   have ha := (ih a (by rw [hk]; simp)).list hin hs2 hw hv.1.1.2
   have hl := z7n s a ⟨[], x.params, x.outs⟩
   cases x with
   | mk kind op n name args outs params ks =>
     simp only [Nd.kind, Nd.kids, Nd.outs, Nd.args, Nd.params, Nd.op, Nd.n, Nd.name] at *
     subst h11 hk
     have hc : z0e (.mk 11 op n name (z12 s args params) (z12 s outs outs) (z12 s params params) (z4y s ⟨[], params, outs⟩ [a])) = z0e (.mk 11 op n name args outs params [a]) := by
       simp [z0e, z4y, Nd.kind, Nd.kids, kid0, hl]
     refine .inr ⟨_, rfl, ?_, hc, fun v hv hvs => z91 hv hvs⟩
     have hb2 : z0n (.mk 11 op n name (z12 s args params) (z12 s outs outs) (z12 s params params) (z4y s ⟨[], params, outs⟩ [a])) = true := (show _ = z0n (.mk 11 op n name args outs params [a]) from rfl).trans hb
     rw [z4g u f deep _ all' hb2 rfl rfl, w2_of]
     simp only [Bool.and_eq_true]
     refine ⟨⟨⟨⟨zo4 hs (z70 e1) hp hv.1.1.1.1, zd8 (zd1 hp)⟩, ha⟩, ?_⟩, zd8 (zd1 (z1x hv.2))⟩
     have ho := hv.1.2
     unfold zp8 at ho ⊢
     rw [hc]
     simp only [Nd.outs, Bool.or_eq_true, beq_iff_eq] at ho ⊢
     refine ho.imp_left fun e => ?_
     have := z9o s outs outs
     omega
  rw [if_neg (by simpa using h11)] at hw ⊢
  have e10 : (x.kind == 10) = false := by simpa using h10
  have e11 : (x.kind == 11) = false := by simpa using h11
  rw [z2i u f deep _ all hb e10 e11] at hv
  by_cases hd : (z1g x && !s.contains (x.outs.headD 0)) = true
  ·rw [if_pos hd]
   simp only [Bool.and_eq_true, Bool.not_eq_true'] at hd
   obtain ⟨_, hol⟩ := z8q (s' := all) (w' := whOf f i lp h) hd.1 (fun _ _ h => h) hv
   refine .inl ⟨rfl, (z8y hd.1).2.2.1, fun v hv hvs => ?_⟩
   have := zk8 hol v (List.contains_iff_mem.2 hv)
   rw [<- this, List.contains_iff_mem.2 hvs] at hd
   cases hd.2
  rw [if_neg hd]
  have hc : (!z1g x || s.contains (x.outs.headD 0)) = true := by
    cases h1 : z1g x <;> cases h2 : s.contains (x.outs.headD 0) <;> simp_all
  rw [if_pos hc] at hw
  refine .inr ⟨x, rfl, ?_, rfl, fun v hv _ => hv⟩
  rw [z2i u f deep _ all' hb e10 e11]
  exact y51 (by simpa using h12) (by simpa using h13) (by simpa using h14) (fun v hv => hs v (zr5 hw v hv)) hv
theorem go_s (u : Un) (f : Fl) (s : List Int) : ∀ (l : List Nd), (∀ x ∈ l, ∀ q ∈ x.kids, SP u f s q) -> SP u f s l
  | [], _ => fun _ _ _ _ _ _ _ _ _ _ => by simp [z1y, vGo]
  | x :: r, ih => fun deep i lp h all all' hi hs hw hv => by
    have hv0 := hv
    simp only [vGo, Bool.and_eq_true] at hv
    obtain ⟨⟨⟨hd, hx⟩, hc⟩, hr⟩ := hv
    unfold z3f at hw
    obtain ⟨e1, e2⟩ := Pre.two (z9p x h s) (z3t r h _) hw
    rw [e1] at hw
    rw [show z1y s h (x :: r) = z1n s h x ++ z1y s h r by rw [z1y]]
    rcases node_s u f s x (ih x (.head _)) deep i lp h all all' hi hs e1 hx with ⟨h1, h2, h3⟩ | ⟨y, h1, h2, h3, h4⟩
    ·rw [h1, List.nil_append]
     refine go_s u f s r (fun z hz => ih z (.tail _ hz)) deep i lp h _ all' hi (fun v hv hc => ?_) hw hr
     rw [List.contains_append, Bool.or_eq_true] at hc
     rcases hc with hc | hc
     ·exact hs v hv hc
     exact absurd hv (h3 v (List.contains_iff_mem.1 hc))
    rw [h1, List.singleton_append]
    simp only [vGo, Bool.and_eq_true]
    refine ⟨⟨⟨hd, h2⟩, ?_⟩, go_s u f s r (fun z hz => ih z (.tail _ hz)) deep i lp h _ _ hi (hs.app h4) hw hr⟩
    rw [h3]
    have he : (z1y s h r).isEmpty = r.isEmpty := by
      cases r with
      | nil => simp [z1y]
      | cons z r' =>
        obtain ⟨g1, _⟩ := z6f s h hr sI0
        cases hq : z1y s h (z :: r') with
        | nil => exact absurd hq g1
        | cons _ _ => rfl
    rw [he]; exact hc
theorem sp_all (u : Un) (f : Fl) (s : List Int) : ∀ (N : Nat) (l : List Nd), SizeOf.sizeOf l < N -> SP u f s l
  | 0, _, h => absurd h (Nat.not_lt_zero _)
  | N + 1, l, hN => go_s u f s l fun x hx q hq => sp_all u f s N q (Nat.lt_of_lt_of_le (z5g hx rfl hq) (Nat.le_of_lt_succ hN))
theorem y2m (u : Un) (f : Fl) {all : List Int} {l : List Nd} (h : z44 u f 1 z3d all l = true) : z44 u f 1 z3d all (z1y (wSet l) hd0 l) = true :=
  (sp_all u f (wSet l) _ l (Nat.lt_succ_self _)).list (i := false) (lp := false) (h := hd0) ⟨fun v hv => by simp [hd0] at hv, fun v hv => by simp [hd0] at hv, fun v hv => by simp [hd0] at hv⟩ (fun v _ hc => hc) (wSet_fix l) h
mutual
theorem y4a (s : List Int) : ∀ (x : Nd) (h : Hd), List.Sublist (dL (z1n s h x)) (dN x)
  | .mk kind op n name args outs params ks, h => by
    have hk := fun h' => zw3 s ks h'
    unfold z1n
    repeat' split
    ·simp [dL, dN]
    ·simp [dL, dN]
    ·simp [dL, dN]
    ·simp only [dL, dN, List.append_nil]
     exact (List.Sublist.refl _).append ((hk _).append (z7x _))
    ·simp only [dL, dN, List.append_nil]
     exact (z7x _).append ((hk _).append (z7x _))
    ·simp [dL]
    simp [dL, dN]
theorem zi3 (s : List Int) : ∀ (l : List Nd) (h : Hd), List.Sublist (dL (z1y s h l)) (dL l)
  | [], h => by simp [z1y]
  | x :: r, h => by
    simp only [z1y, dL_app, dL]
    exact (y4a s x h).append (zi3 s r h)
theorem zw3 (s : List Int) : ∀ (ks : List (List Nd)) (h : Hd), List.Sublist (dK (z4y s h ks)) (dK ks)
  | [], h => by simp [z4y]
  | l :: r, h => by
    simp only [z4y, dK]
    exact (zi3 s l h).append (zw3 s r h)
end
theorem Frs.sub {set : List Bool} {a b : List Int} (h : Frs set a) (hp : List.Sublist b a) : Frs set b := ⟨h.1.sublist hp, fun v hv => h.2 v (hp.subset hv)⟩
section
def z3j (B : List Nd -> List Nd) (f : Fl) : Fl := ⟨f.name, f.ty, f.params, f.types, B f.body⟩
def z3k (B : List Nd -> List Nd) (u : Un) : Un := ⟨u.arrays, u.flows.map (z3j B)⟩
def z25 (B : List Nd -> List Nd) (u : Un) : Un × Int := if (z3m u).1 == 0 then (z3k B u, 0) else (⟨[], []⟩, 1)
section
variable (B : List Nd -> List Nd)
theorem zh3 (name : ByteArray) : ∀ (l : List Fl) (i : Int), z09 name (l.map (z3j B)) i = z09 name l i
  | [], _ => rfl
  | f :: r, i => by
    have ih := zh3 name r (i + 1)
    unfold z09
    rw [List.map_cons]
    simp only [ih]
    rfl
theorem sForm_m (u : Un) (f : Fl) (x : Nd) (s : List Int) (w : Wh) : z4q (z3k B u) (z3j B f) x s w = z4q u f x s w := by
  unfold z4q
  simp only [z3k, z3j, zh3, List.getElem?_map]
  cases u.flows[(z09 x.name u.flows 0).toNat]? with
  | none => rfl
  | some g => rfl
mutual
theorem vNode_m (u : Un) (f : Fl) : ∀ (x : Nd) (deep : Int) (w : Wh) (s : List Int), z65 (z3k B u) (z3j B f) deep w s x = z65 u f deep w s x
  | .mk kind op n name args outs params ks, deep, w, s => by
    unfold z65
    rw [sForm_m]
    match ks with
    | [] => rfl
    | [a] =>
      have h1 := y2l u f a (deep + 1) (w2 f (.mk kind op n name args outs params [a])) (s ++ params)
      simp only [show w2 (z3j B f) (.mk kind op n name args outs params [a]) = w2 f (.mk kind op n name args outs params [a]) from rfl, h1]
      rfl
    | a :: b :: r =>
      have h1 := y2l u f a (deep + 1) (w2 f (.mk kind op n name args outs params (a :: b :: r))) (s ++ params)
      have h2 := y2l u f a (deep + 1) (w1 w f (.mk kind op n name args outs params (a :: b :: r))) s
      have h3 := y2l u f b (deep + 1) (w1 w f (.mk kind op n name args outs params (a :: b :: r))) s
      simp only [show w2 (z3j B f) (.mk kind op n name args outs params (a :: b :: r)) = w2 f (.mk kind op n name args outs params (a :: b :: r)) from rfl, show w1 w (z3j B f) (.mk kind op n name args outs params (a :: b :: r)) = w1 w f (.mk kind op n name args outs params (a :: b :: r)) from rfl, h1, h2, h3]
      rfl
theorem y2l (u : Un) (f : Fl) : ∀ (l : List Nd) (deep : Int) (w : Wh) (s : List Int), vGo (z3k B u) (z3j B f) deep w s l = vGo u f deep w s l
  | [], _, _, _ => by simp [vGo]
  | x :: r, deep, w, s => by
    unfold vGo
    rw [vNode_m u f x, y2l u f r]
end
def zb0 (u : Un) (f : Fl) (l : List Nd) : Prop := z44 u f 1 z3d (iota f.params.toNat) l = true /\ Frs (z40 f.params.toNat f.types.length) (dL l)
theorem zf2 {u : Un} {f : Fl} (h : z36 u f = true) : f.params.toNat <= f.types.length := by
  unfold z36 at h
  simp only [Bool.and_eq_true] at h
  have a1 := h.1.1.1.1.1
  have a2 := h.1.1.1.2
  simp only [Bool.not_eq_true', decide_eq_false_iff_not] at a1 a2
  omega
theorem zt5 {u : Un} {f : Fl} (h : z36 u f = true) : zb0 u f f.body := by
  have hn : (z40 f.params.toNat f.types.length).length = f.types.length := z45 (zf2 h)
  unfold z36 at h
  simp only [Bool.and_eq_true] at h
  have h2 := h.2
  rw [zn7 u f f.body 1 z3d _ _ hn] at h2
  exact h2
theorem flow_m {u : Un} {f : Fl} (h : z36 u f = true) (hB : zb0 u f f.body -> zb0 u f (B f.body)) : z36 (z3k B u) (z3j B f) = true := by
  have hb := hB (zt5 h)
  have hn : (z40 f.params.toNat f.types.length).length = f.types.length := z45 (zf2 h)
  unfold z36 at h ⊢
  simp only [Bool.and_eq_true] at h ⊢
  refine ⟨h.1, ?_⟩
  show (z0f (z3k B u) (z3j B f) 1 z3d (iota f.params.toNat) (z40 f.params.toNat f.types.length) (B f.body)).1 = true
  rw [zn7 (z3k B u) (z3j B f) (B f.body) 1 z3d _ _ hn]
  have hv := hb.1
  simp only [z44, Bool.and_eq_true] at hv ⊢
  exact ⟨⟨hv.1, by rw [y2l]; exact hv.2⟩, hb.2⟩
theorem gA_m (u : Un) : ∀ (l : List Ar) (i : Int), r8gA (z3k B u) l i = r8gA u l i
  | [], _ => rfl
  | a :: r, i => by
    have h1 : gArr (z3k B u) a i = gArr u a i := by simp only [gArr, z3k, zh3]
    simp only [r8gA, gA_m u r, h1]
theorem gF_m (u : Un) : ∀ (l : List Fl) (i : Int), r8gF (z3k B u) (l.map (z3j B)) i = r8gF u l i
  | [], _ => rfl
  | a :: r, i => by
    have h1 : gFlw (z3k B u) (z3j B a) i = gFlw u a i := by
      simp only [gFlw, z3k, zh3]
      rfl
    simp only [List.map_cons, r8gF, gF_m u r, h1]
theorem zm4 (l : List Fl) (k : Nat) : ((l.map (z3j B)).getD k zt4).ty = (l.getD k zt4).ty /\ ((l.map (z3j B)).getD k zt4).params = (l.getD k zt4).params := by
  simp only [List.getD_eq_getElem?_getD, List.getElem?_map]
  cases l[k]? with
  | none => exact ⟨rfl, rfl⟩
  | some g => exact ⟨rfl, rfl⟩
theorem y3i (u : Un) : z0w (z3k B u) = z0w u := by
  unfold z0w
  rw [show (z3k B u).arrays = u.arrays from rfl, show (z3k B u).flows = u.flows.map (z3j B) from rfl, gA_m, gF_m]
  unfold z8c
  rw [show (z3k B u).flows = u.flows.map (z3j B) from rfl, zh3, (zm4 B _ _).1, (zm4 B _ _).2]
theorem check_m {u : Un} (h : (z1r u).1 = 0) (hB : ∀ f ∈ u.flows, zb0 u f f.body -> zb0 u f (B f.body)) : z1r (z3k B u) = (0, 0) := by
  obtain ⟨h1, h2⟩ := (zs5 u).1 h
  unfold z1r
  rw [y3i, h1, if_pos rfl]
  refine zm1 (z3k B u) _ 0 fun g hg => ?_
  obtain ⟨f, hf, rfl⟩ := List.mem_map.1 hg
  exact flow_m B (h2 f hf) (hB f hf)
theorem zs4 {u : Un} (h : (z1r u).1 = 0) : ∀ f ∈ u.flows, zb0 u f f.body := fun f hf => zt5 (((zs5 u).1 h).2 f hf)
theorem headF_m {f : Fl} (h : 0 <= f.params /\ f.params <= f.types.length) : z7g f (z3j B f) = true := by
  have ht : z89 f.types f.types f.params = true := zm5 (k := f.params.toNat) oM0 (fun i hi => by simp [z3b]; omega)
  simp [z7g, z3j, ht]
theorem y0z : ∀ {l : List Fl}, (∀ f ∈ l, 0 <= f.params /\ f.params <= f.types.length) -> z41 l (l.map (z3j B)) = true
  | [], _ => rfl
  | f :: r, h => by simp [z41, headF_m B (h f (.head _)), y0z (fun f hf => h f (.tail _ hf))]
theorem z8o {u : Un} (h : (z3m u).1 = 0) : z1z u (z3k B u) = true := by
  have hh : z3s u = true := by
    cases hh : z3s u with
    | true => rfl
    | false => simp [z3m, hh] at h
  simp [z1z, z3k, zi5, y0z B (z6u hh)]
theorem wtF_m (hw : ∀ l, z49 (B l) <= z49 l) : ∀ l : List Fl, wtF (l.map (z3j B)) <= wtF l
  | [] => Nat.le_refl _
  | f :: r => by
    have h1 := hw f.body
    have h2 := wtF_m hw r
    simp only [List.map_cons, wtF, z3j] at h2 ⊢
    omega
theorem weight_m (hw : ∀ l, z49 (B l) <= z49 l) (u : Un) : z1u (z3k B u) <= z1u u := by
  have := wtF_m B hw u.flows
  unfold z1u
  rw [show (z3k B u).flows = u.flows.map (z3j B) from rfl, List.length_map, show (z3k B u).arrays = u.arrays from rfl]
  omega
theorem z81 {u : Un} (h : (z1r u).1 ≠ 0) : z25 B u = (⟨[], []⟩, 1) := by
  have : ((z3m u).1 == 0) = false := by rw [z58]; simpa using h
  simp [z25, this]
theorem z3v {u : Un} (h : (z1r u).1 = 0) : z25 B u = (z3k B u, 0) := by
  have : ((z3m u).1 == 0) = true := by rw [z58]; simpa using h
  simp [z25, this]
theorem z9d (hw : ∀ l, z49 (B l) <= z49 l) (u : Un) : z1u (z25 B u).1 <= z1u u := by
  unfold z25
  split
  ·exact weight_m B hw u
  simp [z1u, wtA, wtF]
end
end
theorem y2x {u : Un} {f : Fl} (h : zb0 u f f.body) : zb0 u f (wB f.body) := ⟨y2m u f h.1, h.2.sub (zi3 _ _ _)⟩
theorem z7w {u : Un} (h : (z1r u).1 = 0) : z1r (z3k wB u) = (0, 0) := check_m wB h fun _ _ => y2x
mutual
theorem y2o (u : Un) (f : Fl) : ∀ (x : Nd) (deep : Int) (i lp : Bool) (h : Hd) (all : List Int), HdIn f h -> z65 u f deep (whOf f i lp h) all x = true -> wOkN h x = true
  | .mk kind op n name args outs params ks, deep, i, lp, h, all, hi, hv => by
    have hb := z59 u f deep _ all hv
    unfold wOkN
    have END : ∀ (to : List Int) (b : Bool), inR f.types.length to -> z4q u f (.mk kind op n name args outs params ks) all (whOf f i lp h) = ⟨b && z0d f.types all args (r8of f.types to), none⟩ -> (kind == 10) = false -> (kind == 11) = false -> decide (to.length <= args.length) = true := fun to b hto hf h10 h11 => by
      rw [z2i u f deep _ all hb h10 h11, hf] at hv
      simp only [SForm.ok, Bool.and_eq_true] at hv
      have := zy6 hto hv.1.2
      simp; omega
    by_cases h12 : kind = 12
    ·rw [if_pos (by simp [h12])]
     exact END h.yield i hi.1 (y08 h12) (by simp [h12]) (by simp [h12])
    rw [if_neg (by simpa using h12)]
    by_cases h13 : kind = 13
    ·rw [if_pos (by simp [h13])]
     exact END h.next lp hi.2.1 (y09 h13) (by simp [h13]) (by simp [h13])
    rw [if_neg (by simpa using h13)]
    by_cases h14 : kind = 14
    ·rw [if_pos (by simp [h14])]
     exact END h.left lp hi.2.2 (y0a h14) (by simp [h14]) (by simp [h14])
    rw [if_neg (by simpa using h14)]
    by_cases h10 : kind = 10
    ·rw [if_pos (by simp [h10])]
     obtain ⟨a, b, hk⟩ := z3r hb h10
     rw [z6z u f deep _ all hb h10 hk, w1_of] at hv
     simp only [Bool.and_eq_true, z44] at hv
     have hin : HdIn f ⟨outs, h.next, h.left⟩ := ⟨z1x hv.2, hi.2⟩
     simp only [Nd.kids] at hk
     match ks, hk with
     | [a', b'], hk =>
       cases hk
       simp only [wOkK, Bool.and_eq_true, Bool.and_true]
       exact ⟨rfl, z6h u f a _ _ _ _ _ hin hv.1.1.1.2.2, z6h u f b _ _ _ _ _ hin hv.1.1.2.2⟩
    rw [if_neg (by simpa using h10)]
    by_cases h11 : kind = 11
    ·rw [if_pos (by simp [h11])]
     obtain ⟨a, hk⟩ := z28 hb h11
     rw [z4g u f deep _ all hb h11 hk, w2_of] at hv
     simp only [Bool.and_eq_true, z44] at hv
     have hp : inR f.types.length params := z1x hv.1.1.1.2
     have hin : HdIn f ⟨[], params, outs⟩ := ⟨fun v hv => by simp at hv, hp, z1x hv.2⟩
     have hl := zy6 hp hv.1.1.1.1
     simp only [Nd.kids] at hk
     match ks, hk with
     | [a'], hk =>
       cases hk
       simp only [wOkK, Bool.and_eq_true, Bool.and_true]
       exact ⟨by simp only [Nd.args] at hl; simp; omega, rfl, z6h u f a _ _ _ _ _ hin hv.1.1.2.2⟩
    rw [if_neg (by simpa using h11)]
    have hh := zv3 u f _ deep _ all hv
    rw [hOkN_eq] at hh
    simp only [Bool.and_eq_true] at hh
    exact hh.1.1
theorem z6h (u : Un) (f : Fl) : ∀ (l : List Nd) (deep : Int) (i lp : Bool) (h : Hd) (all : List Int), HdIn f h -> vGo u f deep (whOf f i lp h) all l = true -> wOkL h l = true
  | [], _, _, _, _, _, _, _ => rfl
  | x :: r, deep, i, lp, h, all, hi, hv => by
    simp only [vGo, Bool.and_eq_true] at hv
    simp only [wOkL, Bool.and_eq_true]
    exact ⟨y2o u f x deep i lp h all hi hv.1.1.2, z6h u f r deep i lp h _ hi hv.2⟩
end
theorem hd0_in (f : Fl) : HdIn f hd0 := ⟨fun v hv => by simp [hd0] at hv, fun v hv => by simp [hd0] at hv, fun v hv => by simp [hd0] at hv⟩
theorem z9r {u : Un} (h : (z3m u).1 = 0) : ∀ f ∈ u.flows, wOkL hd0 f.body = true := by
  rw [z58] at h
  intro f hf
  have hb := (zs4 h f hf).1
  simp only [z44, Bool.and_eq_true] at hb
  exact z6h u f f.body 1 false false hd0 _ (hd0_in f) hb.2
theorem z90 (s : List Int) : ∀ l to, (z12 s l to).length <= l.length
  | [], _ => by simp [z12]
  | _ :: _, [] => by simp [z12]
  | a :: l, t :: to => by
    have ih := z90 s l to
    unfold z12
    split <;> simp only [List.length_cons] <;> omega
mutual
theorem wt_sNode (s : List Int) : ∀ (x : Nd) (h : Hd), wtL (z1n s h x) <= wtN x
  | .mk kind op n name args outs params ks, h => by
    have hk := fun h' => y1f s ks h'
    have k1 := fun to => z90 s args to
    have k2 := z90 s outs outs
    have k3 := z90 s params params
    unfold z1n
    repeat' split
    ·have := k1 h.yield; simp only [wtL, wtN]; omega
    ·have := k1 h.next; simp only [wtL, wtN]; omega
    ·have := k1 h.left; simp only [wtL, wtN]; omega
    ·have := hk ⟨outs, h.next, h.left⟩; simp only [wtL, wtN]; omega
    ·have := hk ⟨[], params, outs⟩; have := k1 params; simp only [wtL, wtN]; omega
    ·simp [wtL]
    simp [wtL, wtN]
theorem zs1 (s : List Int) : ∀ (l : List Nd) (h : Hd), wtL (z1y s h l) <= wtL l
  | [], h => by simp [z1y]
  | x :: r, h => by
    have h1 := wt_sNode s x h
    have h2 := zs1 s r h
    simp only [z1y, z8t, wtL]
    omega
theorem y1f (s : List Int) : ∀ (ks : List (List Nd)) (h : Hd), wtK (z4y s h ks) <= wtK ks
  | [], h => by simp [z4y]
  | l :: r, h => by
    have h1 := zs1 s l h
    have h2 := y1f s r h
    have h3 := z9e s h l
    simp only [z4y, wtK]
    omega
end
theorem zn0 (l : List Nd) : z49 (wB l) <= z49 l := by
  have h1 := zs1 (wSet l) l hd0
  have h2 := z9e (wSet l) hd0 l
  unfold z49 wB
  omega
mutual
def uN (v : Int) : Nd -> Bool
  | .mk _ _ _ _ args _ _ ks => args.contains v || uK v ks
def uL (v : Int) : List Nd -> Bool
  | [] => false
  | x :: r => uN v x || uL v r
def uK (v : Int) : List (List Nd) -> Bool
  | [] => false
  | l :: r => uL v l || uK v r
end
theorem uN_eq (v : Int) (x : Nd) : uN v x = (x.args.contains v || uK v x.kids) := by cases x; simp [uN, Nd.args, Nd.kids]
theorem y5e (v : Int) : ∀ a b : List Nd, uL v (a ++ b) = (uL v a || uL v b)
  | [], b => by simp [uL]
  | x :: r, b => by simp only [List.cons_append, uL, y5e v r b, Bool.or_assoc]
def z9n (x : Nd) : Bool := decide (x.kind <= 3) || (x.kind == 4 && x.op != 4 && x.op != 5)
mutual
def wdN (all : List Nd) : Nd -> Bool
  | .mk kind op n name args outs params ks => !(z9n (.mk kind op n name args outs params ks) && ((outs.length : Int) != 1 || !uL (outs.getD 0 0) all)) && wdK all ks
def wdL (all : List Nd) : List Nd -> Bool
  | [] => true
  | x :: r => wdN all x && wdL all r
def wdK (all : List Nd) : List (List Nd) -> Bool
  | [] => true
  | l :: r => wdL all l && wdK all r
end
theorem y5m (all : List Nd) (x : Nd) : wdN all x = (!(z9n x && ((x.outs.length : Int) != 1 || !uL (x.outs.getD 0 0) all)) && wdK all x.kids) := by cases x; simp only [wdN, Nd.kids, Nd.outs]
theorem y5l (all : List Nd) : ∀ a b : List Nd, wdL all (a ++ b) = (wdL all a && wdL all b)
  | [], b => by simp [wdL]
  | x :: r, b => by simp only [List.cons_append, wdL, y5l all r b, Bool.and_assoc]
def zy9 (u : Un) : Bool := u.flows.all fun f => wdL f.body f.body
theorem z9m {U : Int -> Prop} : ∀ {l s : List Int}, (∀ v ∈ s, U v) -> (∀ v ∈ l, U v) -> ∀ v ∈ wAdd s l, U v
  | [], _, h, _ => h
  | a :: r, s, h, hl => by
    unfold wAdd
    split
    ·exact z9m h fun v hv => hl v (.tail _ hv)
    refine z9m (fun v hv => ?_) fun v hv => hl v (.tail _ hv)
    rcases List.mem_append.1 hv with hv | hv
    ·exact h v hv
    obtain rfl := List.mem_singleton.1 hv; exact hl _ (.head _)
theorem z4h {U : Int -> Prop} {S : List Int} : ∀ {l to s : List Int}, (∀ v ∈ s, U v) -> (∀ v ∈ z12 S l to, U v) -> (∀ v ∈ z16 s l to, v ∈ S) -> ∀ v ∈ z16 s l to, U v
  | [], _, s, h, _, _ => by simpa [z16] using h
  | _ :: _, [], s, h, _, _ => by simpa [z16] using h
  | a :: l, t :: to, s, h, hk, hS => by
    unfold z16 at hS ⊢
    unfold z12 at hk
    split at hS
    ·rename_i hc
     rw [if_pos hc]
     have ht : S.contains t = true := List.contains_iff_mem.2 (hS t ((z2l l to _).sub t ((z2z [a] s).sub t (List.contains_iff_mem.1 hc))))
     rw [if_pos ht] at hk
     exact z4h (z9m h fun v hv => by obtain rfl := List.mem_singleton.1 hv; exact hk _ (.head _)) (fun v hv => hk v (.tail _ hv)) hS
    rename_i hc
    rw [if_neg hc]
    exact z4h h (fun v hv => hk v (by split <;> simp [hv])) hS
theorem za8 {v : Int} {kind op n : Int} {name : ByteArray} {args outs params : List Int} {ks : List (List Nd)} (h : v ∈ args) : uL v [.mk kind op n name args outs params ks] = true := by
  simp [uL, uN, h]
theorem y5f {v : Int} {kind op n : Int} {name : ByteArray} {args outs params : List Int} {ks : List (List Nd)} (h : uK v ks = true) : uL v [.mk kind op n name args outs params ks] = true := by
  simp [uL, uN, h]
mutual
theorem y5h {U : Int -> Prop} {S : List Int} : ∀ (x : Nd) (h : Hd) (s : List Int), (∀ v ∈ s, U v) -> (∀ v, uL v (z1n S h x) = true -> U v) -> (∀ v ∈ z4r h s x, v ∈ S) -> ∀ v ∈ z4r h s x, U v
  | .mk kind op n name args outs params ks, h, s, hs, hu, hS => by
    unfold z1n at hu
    unfold z4r at hS ⊢
    split at hS
    ·rename_i e
     rw [if_pos e] at hu ⊢
     exact z4h hs (fun v hv => hu v (za8 hv)) hS
    rename_i e12
    rw [if_neg e12] at hu ⊢
    split at hS
    ·rename_i e
     rw [if_pos e] at hu ⊢
     exact z4h hs (fun v hv => hu v (za8 hv)) hS
    rename_i e13
    rw [if_neg e13] at hu ⊢
    split at hS
    ·rename_i e
     rw [if_pos e] at hu ⊢
     exact z4h hs (fun v hv => hu v (za8 hv)) hS
    rename_i e14
    rw [if_neg e14] at hu ⊢
    split at hS
    ·rename_i e
     rw [if_pos e] at hu ⊢
     exact zk2 ks _ _ (z9m hs fun v hv => hu v (za8 hv)) (fun v hv => hu v (y5f hv)) hS
    rename_i e10
    rw [if_neg e10] at hu ⊢
    split at hS
    ·rename_i e
     rw [if_pos e] at hu ⊢
     exact zk2 ks _ _ (z4h hs (fun v hv => hu v (za8 hv)) fun v hv => hS v ((z5p ks _ _).sub v hv)) (fun v hv => hu v (y5f hv)) hS
    rename_i e11
    rw [if_neg e11] at hu ⊢
    split at hS
    ·rename_i e
     rw [if_pos e]
     have hn : ¬ (z1g (.mk kind op n name args outs params ks) && !S.contains (outs.headD 0)) = true := by
       intro hh
       simp only [Bool.and_eq_true, Bool.not_eq_true'] at hh
       rw [hh.1, Bool.not_true, Bool.false_or] at e
       have := hS _ ((z2z args s).sub _ (List.contains_iff_mem.1 e))
       rw [List.contains_iff_mem.2 this] at hh
       cases hh.2
     rw [if_neg hn] at hu
     exact z9m hs fun v hv => hu v (za8 hv)
    rename_i e
    rw [if_neg e]
    exact hs
theorem zk3 {U : Int -> Prop} {S : List Int} : ∀ (l : List Nd) (h : Hd) (s : List Int), (∀ v ∈ s, U v) -> (∀ v, uL v (z1y S h l) = true -> U v) -> (∀ v ∈ z3f h s l, v ∈ S) -> ∀ v ∈ z3f h s l, U v
  | [], h, s, hs, _, _ => by unfold z3f; exact hs
  | x :: r, h, s, hs, hu, hS => by
    unfold z3f at hS ⊢
    unfold z1y at hu
    exact zk3 r h _ (y5h x h s hs (fun v hv => hu v (by rw [y5e, hv, Bool.true_or])) fun v hv => hS v ((z3t r h _).sub v hv)) (fun v hv => hu v (by rw [y5e, hv, Bool.or_true])) hS
theorem zk2 {U : Int -> Prop} {S : List Int} : ∀ (ks : List (List Nd)) (h : Hd) (s : List Int), (∀ v ∈ s, U v) -> (∀ v, uK v (z4y S h ks) = true -> U v) -> (∀ v ∈ z7u h s ks, v ∈ S) -> ∀ v ∈ z7u h s ks, U v
  | [], h, s, hs, _, _ => by unfold z7u; exact hs
  | l :: r, h, s, hs, hu, hS => by
    unfold z7u at hS ⊢
    unfold z4y at hu
    exact zk2 r h _ (zk3 l h s hs (fun v hv => hu v (by simp [uK, hv])) fun v hv => hS v ((z5p r h _).sub v hv)) (fun v hv => hu v (by simp [uK, hv])) hS
end
theorem zy8 (l : List Nd) (n : Nat) : ∀ k, Pre (z23 l n) (z23 l (n + k))
  | 0 => .refl _
  | k + 1 => (zy8 l n k).trans (z9q l _)
theorem y5i (l : List Nd) : ∀ v ∈ wSet l, uL v (wB l) = true := by
  have key : ∀ n, n <= (agL l).length -> ∀ v ∈ z23 l n, uL v (wB l) = true := by
    intro n
    induction n with
    | zero => intro _ v hv; simp [z23] at hv
    | succ n ih =>
      intro hn
      refine zk3 (S := wSet l) l hd0 _ (ih oM0) (fun v hv => hv) fun v hv => ?_
      have := zy8 l (n + 1) ((agL l).length - (n + 1))
      rw [show n + 1 + ((agL l).length - (n + 1)) = (agL l).length by omega] at this
      exact this.sub v hv
  exact key _ (Nat.le_refl _)
theorem idle_hm {u : Un} {f : Fl} {x : Nd} {s : List Int} {w : Wh} {outs : List Int} (h : (z4q u f x s w).ok f.types outs = true) (hi : z9n x = true) : z1g x = true := by
  cases hm : z1g x with
  | true => rfl
  | false =>
    exfalso
    simp only [z9n, Bool.or_eq_true, Bool.and_eq_true, decide_eq_true_eq, beq_iff_eq] at hi
    have h1 : x.kind ≠ 1 := fun e => by simp [z1g, e] at hm
    have h2 : x.kind ≠ 2 := fun e => by simp [z1g, e] at hm
    have h3 : x.kind ≠ 3 := fun e => by simp [z1g, e] at hm
    have h4 : x.kind <= 0 := by
      rcases hi with hi | ⟨⟨h4, h5⟩, h6⟩
      ·rcases Int.lt_or_le 0 x.kind with h | h
       ·exact absurd hi oM0
       exact h
      simp [z1g, h4, h5, h6] at hm
    have hf : z4q u f x s w = ⟨false, none⟩ := by
      unfold z4q
      repeat (rw [if_neg (by simp; omega)])
    rw [hf] at h
    simp [SForm.ok] at h
mutual
theorem wd_node (u : Un) (f : Fl) {A : List Nd} {s : List Int} (hA : ∀ v ∈ s, uL v A = true) : ∀ (x : Nd) (deep : Int) (w : Wh) (all : List Int) (h : Hd), z65 u f deep w all x = true -> wdL A (z1n s h x) = true
  | .mk kind op n name args outs params ks, deep, w, all, h, hv => by
    have hb := z59 u f deep _ all hv
    have NI : ∀ a b c d, kind > 4 -> z9n (.mk kind op n name a b c d) = false := fun a b c d hk => by
      show (decide (kind <= 3) || (kind == 4 && op != 4 && op != 5)) = false
      have h1 : decide (kind <= 3) = false := by simp; omega
      have h2 : (kind == 4) = false := by simp; omega
      rw [h1, h2]; rfl
    have KS : (kind == 10) = false -> (kind == 11) = false -> ks = [] := fun h1 h2 => z9t hb h1 h2
    have K0 : ∀ a b c d, kind > 4 -> wdK A d = true -> wdL A [.mk kind op n name a b c d] = true := fun a b c d hk hd => by
      simp only [wdL, wdN, NI a b c d hk, hd, Bool.false_and, Bool.not_false, Bool.and_true]
    unfold z1n
    by_cases h12 : kind = 12
    ·rw [if_pos (by simp [h12])]
     exact K0 _ _ _ _ oM0 (by rw [KS (by simp [h12]) (by simp [h12])]; rfl)
    rw [if_neg (by simpa using h12)]
    by_cases h13 : kind = 13
    ·rw [if_pos (by simp [h13])]
     exact K0 _ _ _ _ oM0 (by rw [KS (by simp [h13]) (by simp [h13])]; rfl)
    rw [if_neg (by simpa using h13)]
    by_cases h14 : kind = 14
    ·rw [if_pos (by simp [h14])]
     exact K0 _ _ _ _ oM0 (by rw [KS (by simp [h14]) (by simp [h14])]; rfl)
    rw [if_neg (by simpa using h14)]
    by_cases h10 : kind = 10
    ·rw [if_pos (by simp [h10])]
     obtain ⟨a, b, hk⟩ := z3r hb h10
     rw [z6z u f deep _ all hb h10 hk] at hv
     simp only [Bool.and_eq_true, z44] at hv
     simp only [Nd.kids] at hk
     match ks, hk with
     | [a', b'], hk =>
       cases hk
       refine K0 _ _ _ _ oM0 ?_
       simp only [z4y, wdK, Bool.and_eq_true, Bool.and_true]
       exact ⟨zk6 u f hA a _ _ _ _ hv.1.1.1.2.2, zk6 u f hA b _ _ _ _ hv.1.1.2.2⟩
    rw [if_neg (by simpa using h10)]
    by_cases h11 : kind = 11
    ·rw [if_pos (by simp [h11])]
     obtain ⟨a, hk⟩ := z28 hb h11
     rw [z4g u f deep _ all hb h11 hk] at hv
     simp only [Bool.and_eq_true, z44] at hv
     simp only [Nd.kids] at hk
     match ks, hk with
     | [a'], hk =>
       cases hk
       refine K0 _ _ _ _ oM0 ?_
       simp only [z4y, wdK, Bool.and_true]
       exact zk6 u f hA a _ _ _ _ hv.1.1.2.2
    rw [if_neg (by simpa using h11)]
    have e10 : (kind == 10) = false := by simpa using h10
    have e11 : (kind == 11) = false := by simpa using h11
    have hk0 := KS e10 e11
    rw [z2i u f deep _ all hb e10 e11] at hv
    split
    ·rfl
    rename_i hn
    subst hk0
    simp only [wdL, wdN, wdK, Bool.and_true, Bool.not_eq_true']
    cases hi : z9n (.mk kind op n name args outs params []) with
    | false => rfl
    | true =>
      have hm := idle_hm hv hi
      obtain ⟨_, hol⟩ := z8q (s' := all) (w' := w) hm (fun _ _ h => h) hv
      simp only [Nd.outs] at hol
      have hc : s.contains (outs.headD 0) = true := by
        cases hc : s.contains (outs.headD 0) with
        | true => rfl
        | false => exact absurd (by rw [hm, hc]; rfl) hn
      have hu := hA _ (List.contains_iff_mem.1 hc)
      have he : outs.getD 0 0 = outs.headD 0 := by cases outs <;> rfl
      rw [he, hu, hol]
      rfl
theorem zk6 (u : Un) (f : Fl) {A : List Nd} {s : List Int} (hA : ∀ v ∈ s, uL v A = true) : ∀ (l : List Nd) (deep : Int) (w : Wh) (all : List Int) (h : Hd), vGo u f deep w all l = true -> wdL A (z1y s h l) = true
  | [], _, _, _, _, _ => by simp [z1y, wdL]
  | x :: r, deep, w, all, h, hv => by
    simp only [vGo, Bool.and_eq_true] at hv
    rw [z1y, y5l, wd_node u f hA x _ _ _ h hv.1.1.2, zk6 u f hA r _ _ _ h hv.2]
    rfl
end
theorem zn9 (u : Un) : zy9 (z25 wB u).1 = true := by
  by_cases h : (z1r u).1 = 0
  ·rw [z3v wB h]
   unfold zy9
   rw [List.all_eq_true]
   intro g hg
   obtain ⟨f, hf, rfl⟩ := List.mem_map.1 (show g ∈ u.flows.map (z3j wB) from hg)
   have hb := (zs4 h f hf).1
   simp only [z44, Bool.and_eq_true] at hb
   exact zk6 u f (y5i f.body) f.body 1 _ _ hd0 hb.2
  rw [z81 wB h]
  rfl
def wM (s : List Int) : List (Nat × HO) := [(3002, .map (vsOf s))]
def wH (s : List Int) (g : Bool) : List (Nat × HO) := [(3001, .box [.mp 3002, iBool g]), (3002, .map (vsOf s))]
def gr (s s' : List Int) (g : Bool) : Bool := g || s.length != s'.length
theorem zf6 (s : List Int) (g : Bool) : gr s s g = g := by simp [gr]
theorem gr_put {s st : List Int} (h : Pre s st) (v : Int) (g : Bool) : gr s (st ++ [v]) g = true := by
  have := h.len
  simp [gr]
  right
  omega
theorem z8x {a b c : List Int} (h : Pre a b) (h' : Pre b c) (g : Bool) : gr b c (gr a b g) = gr a c g := by
  have h1 := h.len
  have h2 := h'.len
  unfold gr
  cases g with
  | true => simp
  | false =>
    simp only [Bool.false_or]
    by_cases e : a.length = b.length
    · have e1 : (a.length != b.length) = false := by simp [e]
      rw [e1, Bool.false_or, e]
    · have e3 : ¬ a.length = c.length := by omega
      have e1 : (a.length != b.length) = true := by simpa using e
      have e2 : (a.length != c.length) = true := by simpa using e3
      rw [e1, e2, Bool.true_or]
theorem gr_false {s s' : List Int} (h : Pre s s') : gr s s' false = false ↔ s' = s := by
  constructor
  · intro hg
    simp [gr] at hg
    exact h.eq oM0
  · rintro rfl; simp [gr]
theorem wAdd_has {st : List Int} {x : Int} {r : List Int} (h : st.contains x = true) : wAdd st (x :: r) = wAdd st r := by simp only [wAdd, h, if_true]
theorem wAdd_not {st : List Int} {x : Int} {r : List Int} (h : st.contains x = false) : wAdd st (x :: r) = wAdd (st ++ [x]) r := by simp only [wAdd, h, Bool.false_eq_true, if_false]
theorem Nd.eta (x : Nd) : Nd.mk x.kind x.op x.n x.name x.args x.outs x.params x.kids = x := by cases x; rfl
theorem cont_ne {y v : Int} {r : List Int} (h : (y == v) = false) : (y :: r).contains v = r.contains v := by
  have : (v == y) = false := by rw [beq_eq_false_iff_ne] at *; exact fun e => h e.symm
  rw [List.contains_cons, this, Bool.false_or]
theorem cont_eq {y v : Int} {r : List Int} (h : (y == v) = true) : (y :: r).contains v = true := by
  have : (v == y) = true := by rw [beq_iff_eq] at *; exact h.symm
  rw [List.contains_cons, this, Bool.true_or]
theorem zt8 (a b c : Int) (s : ByteArray) (l1 l2 l3 : List Int) (e : List (List PV)) : ∀ el ∈ z03 8 1 [vInt a, vInt b, vInt c, vStr s, ints l1, ints l2, ints l3, .seq e], ∀ y ∈ el, y.one = true := by
  intro el hel y hy
  have : el = [vInt a, vInt b, vInt c, vStr s, ints l1, ints l2, ints l3, .seq e] := List.mem_singleton.1 hel
  subst this
  simp only [List.mem_cons, List.not_mem_nil, or_false] at hy
  rcases hy with rfl | rfl | rfl | rfl | rfl | rfl | rfl | rfl <;> rfl
theorem y33 (B : List Nd -> List Nd) (l : List Fl) (x : Fl) : (l ++ [z3j B x]).map Fl.enc = l.map Fl.enc ++ [[vStr x.name, vInt x.ty, vInt x.params, ints x.types, z07 (B x.body)]] := by
  rw [List.map_append]; rfl
theorem zb9 (x : Nd) : SC Tryz.prog 63 [.pv (ndv x)] [] (fun _ => False) (iBool (z1g x)) [] := by
  refine SC.of Tryz.func63 rfl (lb rfl) fun F ρ w => ?_
  refine tQ <| tG <| cE rfl (z19 rfl rfl) <| sm 1 rfl <| nL <| tQ <| tQ <| tG <| sm 2 rfl <| nL <| tBk <| tQ ?_
  refine tQ <| tG <| sm 2 rfl <| nL ?_
  refine tC rfl (fun hc5 => ?_) fun hc5 => ?_
  ·refine tSk ?_
   refine tC rfl (fun hc5 => ?_) fun hc5 => ?_
   ·refine tQ <| tG <| sm 1 rfl <| nL <| tRt <| rOk rfl ?_ nPo
    simp_all [z1g]
   refine tQ <| tG <| sm 2 rfl <| nL ?_
   refine tC rfl (fun hc9 => ?_) fun hc9 => ?_
   ·refine tQ <| tG <| sm 4 rfl ?_
    refine wS 14 rfl (fun hb14 => ?_) fun hb14 => ?_
    ·refine sm 5 rfl <| nL <| tRt <| rOk rfl ?_ nPo
     simp_all [z1g]
    refine sm 5 rfl <| nL <| tRt <| rOk rfl ?_ nPo
    simp_all [z1g]
   refine tSk <| tQ <| tG <| sm 1 rfl <| nL <| tRt <| rOk rfl ?_ nPo
   simp_all [z1g]
  refine tQ <| tG <| sm 2 rfl <| nL ?_
  refine tC rfl (fun hc5 => ?_) fun hc5 => ?_
  ·refine tSk ?_
   refine tC rfl (fun hc5 => ?_) fun hc5 => ?_
   ·refine tQ <| tG <| sm 1 rfl <| nL <| tRt <| rOk rfl ?_ nPo
    simp_all [z1g]
   refine tQ <| tG <| sm 2 rfl <| nL ?_
   refine tC rfl (fun hc9 => ?_) fun hc9 => ?_
   ·refine tQ <| tG <| sm 4 rfl ?_
    refine wS 14 rfl (fun hb14 => ?_) fun hb14 => ?_
    ·refine sm 5 rfl <| nL <| tRt <| rOk rfl ?_ nPo
     simp_all [z1g]
    refine sm 5 rfl <| nL <| tRt <| rOk rfl ?_ nPo
    simp_all [z1g]
   refine tSk <| tQ <| tG <| sm 1 rfl <| nL <| tRt <| rOk rfl ?_ nPo
   simp_all [z1g]
  refine tG <| sm 2 rfl <| nL ?_
  refine tC rfl (fun hc5 => ?_) fun hc5 => ?_
  ·refine tQ <| tG <| sm 1 rfl <| nL <| tRt <| rOk rfl ?_ nPo
   simp_all [z1g]
  refine tQ <| tG <| sm 2 rfl <| nL ?_
  refine tC rfl (fun hc9 => ?_) fun hc9 => ?_
  ·refine tQ <| tG <| sm 4 rfl ?_
   refine wS 14 rfl (fun hb14 => ?_) fun hb14 => ?_
   ·refine sm 5 rfl <| nL <| tRt <| rOk rfl ?_ nPo
    simp_all [z1g]
   refine sm 5 rfl <| nL <| tRt <| rOk rfl ?_ nPo
   simp_all [z1g]
  refine tSk <| tQ <| tG <| sm 1 rfl <| nL <| tRt <| rOk rfl ?_ nPo
  simp_all [z1g]
theorem zq5 (s : List Int) (x : Int) : SC Tryz.prog 64 [.mp 3002, iInt x] (wM s) (fun k => k = 3002) (iBool (s.contains x)) (wM s) := by
  refine SC.of Tryz.func64 rfl (lb rfl) fun F ρ w => ?_
  have hV := VSet.of s
  have hes := hV.1
  have hzv : ((Tryz.prog.info? 125).bind (·.zero)) = some (.agg #[]) := y58
  refine tQ <| tG <| sm 1 rfl <| nL <| tQ <| tG <| sm 2 rfl <| cV rfl (zn5 (kv := vKey x) rfl rfl rfl rfl Tryz.underlying76 uT3 rfl hes hzv trivial) <| sm 1 rfl <| cV rfl (z0p rfl rfl rfl) <| WL.sub (Sub.cons2 (fun _ _ _ _ h => y1d hV h) Sub.rfl') <| cV rfl (z0p rfl rfl rfl) ?_
  refine cE rfl (aLc (k := 105) rfl y58 rfl rfl rfl rfl) <| c0 (sBA rfl rfl rfl rfl rfl sI0 tS125 (flk rfl) (lb rfl)) <| sm 1 rfl <| nL <| tQ <| tG <| sm 2 rfl <| nL <| tRt <| rOk rfl ?_ (po1 rfl)
  rw [zr4]
theorem zq4 (l : List Int) (s : List Int) (g : Bool) : SC Tryz.prog 88 [.ptr 3001 0, .pv (ints l)] (wH s g) (fun _ => False) (.tup []) (wH (wAdd s l) (gr s (wAdd s l) g)) := by
  refine SC.of Tryz.func88 rfl (lb rfl) fun F ρ w => ?_
  refine Tr.lenOf (t := 1) rfl (fun hl => ?_)
  simp only [List.length_map] at hl
  have hzv : ((Tryz.prog.info? 125).bind (·.zero)) = some (.agg #[]) := y58
  refine tQ <| tG <| sm 1 rfl <| cV rfl (oSm uT35 rfl) <| sm 1 rfl <| nL <| tBk <| Tr.sub (Sub.of (fr' := [(10, iInt 0), (9, iInt l.length), (8, .pv (ints l)), (0, .ptr 3001 0)]) ⟨rfl, rfl, rfl, rfl, trivial⟩) <| Tr.heap (σ' := look (up (wH s (gr s s g)))) (by rw [zf6]; exact fun _ => rfl) ?_
  refine Tr.loop (fun fr σ m => ∃ (k : Nat) (st : List Int), (k <= l.length) /\ (wAdd s l = wAdd st (l.drop k)) /\ (Pre s st) /\ fr = [(10, iInt k), (9, iInt l.length), (8, .pv (ints l)), (0, .ptr 3001 0)] /\ σ = look (up (wH st (gr s st g))) /\ m = l.length - k) (n := l.length - 0) ?_ ?_
  ·exact ⟨0, s, Nat.zero_le _, rfl, .refl s, rfl, rfl, rfl⟩
  rintro fr σ m ⟨k, st, hI0, hI1, hI2, rfl, rfl, rfl⟩
  refine tQ <| tG <| sm 1 rfl <| nL <| tQ ?_
  refine tC rfl (fun hc11 => ?_) fun hc11 => ?_
  ·have hlt : k < l.length := by simpa using hc11
   have hd := List.drop_eq_getElem_cons hlt
   have hm := List.getElem_mem hlt
   have hi := z0c (f := eInt) (List.getElem?_eq_getElem hlt)
   generalize l[k] = x at hd hm hi
   have hV := VSet.of st
   have hes := hV.1
   refine tSk <| tQ <| tBk <| tQ <| tG <| cV rfl (iSq rfl rfl rfl uT35 hi tS3 rfl (by rfl)) <| sm 2 rfl <| nL <| tQ <| tG <| sm 1 rfl <| cV rfl (nCk rfl rfl rfl) ?_
   refine sm 3 rfl <| cV rfl (zn5 (kv := vKey x) rfl rfl rfl rfl Tryz.underlying76 uT3 rfl hes hzv trivial) <| sm 1 rfl <| cV rfl (z0p rfl rfl rfl) <| WL.sub (Sub.cons2 (fun _ _ _ _ h => y1d hV h) Sub.rfl') <| cV rfl (z0p rfl rfl rfl) <| cE rfl (aLc (k := 106) rfl y58 rfl rfl rfl rfl) <| c0 (sBA rfl rfl rfl rfl rfl ((fun h => h)) tS125 (flk rfl) (lb rfl)) <| sm 1 rfl <| nL <| tQ <| tG ?_
   refine sm 2 rfl <| nL ?_
   refine tC rfl (fun hc24 => ?_) fun hc24 => ?_
   ·have hc : st.contains x = false := by
      rw [<- zr4]; simpa using hc24
    refine tQ <| tG <| sm 1 rfl <| cV rfl (nCk rfl rfl rfl) <| sm 3 rfl <| cV rfl (bPu rfl rfl y58 tP125 rfl (fbk rfl) rfl) <| c0 (z7j rfl rfl rfl rfl rfl ((fun h => h)) Tryz.underlying76 uT3 rfl (by assumption)) <| nL <| tG <| sm 1 rfl <| cV rfl (nCk rfl rfl rfl) <| sm 1 rfl ?_
    refine c0 (sBx rfl rfl rfl rfl ((fun h => h)) tS4 (rfl) (lb rfl)) <| nL <| Tr.drop (k := 106) ?_
    refine Tr.heap (σ' := look (up (wH (st ++ [x]) (gr s (st ++ [x]) g)))) (by
      rw [gr_put hI2]; simp only [wH]; rw [<- y5g]
      intro j
      try simp only [look]
      by_cases h106 : 106 = j
      · subst h106; rfl
      · by_cases h3001 : 3001 = j
        · subst h3001; rfl
        · by_cases h3002 : 3002 = j
          · subst h3002; rfl
          · simp [wH, wM, look, up, z02 h106, z02 h3001, z02 h3002]) ?_
    refine tG <| cV rfl (oB rfl rfl (z06 rfl oM0)) <| sm 1 rfl <| nL ?_
    refine ⟨_, _, ?_, Sub.of (fr' := [(10, iInt (k + 1)), (9, iInt l.length), (8, .pv (ints l)), (0, .ptr 3001 0)]) ⟨rfl, rfl, rfl, rfl, trivial⟩, (k + 1), (st ++ [x]), ?_, ?_, ?_, rfl, rfl, rfl⟩
    ·omega
    ·omega
    ·rw [hI1, hd]
     rw [wAdd_not hc]
    first
    | exact hI2
    | exact hI2.trans ⟨_, rfl⟩
   have hc : st.contains x = true := by
     rw [<- zr4]; simpa using hc24
   refine tSk <| Tr.drop (k := 106) ?_
   refine Tr.heap (σ' := look (up (wH st (gr s st g)))) (by
     skip
     intro j
     try simp only [look]
     by_cases h106 : 106 = j
     · subst h106; rfl
     · by_cases h3001 : 3001 = j
       · subst h3001; rfl
       · by_cases h3002 : 3002 = j
         · subst h3002; rfl
         · simp [wH, wM, look, up, z02 h106, z02 h3001, z02 h3002]) ?_
   refine tG <| cV rfl (oB rfl rfl (z06 rfl oM0)) <| sm 1 rfl <| nL ?_
   refine ⟨_, _, ?_, Sub.of (fr' := [(10, iInt (k + 1)), (9, iInt l.length), (8, .pv (ints l)), (0, .ptr 3001 0)]) ⟨rfl, rfl, rfl, rfl, trivial⟩, (k + 1), st, ?_, ?_, ?_, rfl, rfl, rfl⟩
   ·omega
   ·omega
   ·rw [hI1, hd]
    rw [wAdd_has hc]
   first
   | exact hI2
   | exact hI2.trans ⟨_, rfl⟩
  refine tEx ?_
  have hge : l.length <= k := by simpa using hc11
  have he : wAdd s l = st := by rw [hI1, List.drop_eq_nil_of_le hge]; rfl
  rw [he]
  exact z68 rfl rfl (po2 rfl rfl)
theorem z85 (l to : List Int) (s : List Int) (g : Bool) (hlt0 : to.length <= l.length) : SC Tryz.prog 87 [.ptr 3001 0, .pv (ints l), .pv (ints to)] (wH s g) (fun _ => False) (.tup []) (wH (z16 s l to) (gr s (z16 s l to) g)) := by
  refine SC.of Tryz.func87 rfl (lb rfl) fun F ρ w => ?_
  refine Tr.lenOf (t := 2) rfl (fun hl => ?_)
  simp only [List.length_map] at hl
  refine tQ <| tG <| sm 1 rfl <| cV rfl (oSm uT35 rfl) <| sm 1 rfl <| nL <| tBk <| Tr.sub (Sub.of (fr' := [(10, iInt 0), (9, iInt to.length), (8, .pv (ints to)), (0, .ptr 3001 0), (1, .pv (ints l))]) ⟨rfl, rfl, rfl, rfl, rfl, trivial⟩) <| Tr.heap (σ' := look (up (wH s (gr s s g)))) (by rw [zf6]; exact fun _ => rfl) ?_
  refine Tr.loop (fun fr σ m => ∃ (k : Nat) (st : List Int), (k <= to.length) /\ (z16 s l to = z16 st (l.drop k) (to.drop k)) /\ (Pre s st) /\ fr = [(10, iInt k), (9, iInt to.length), (8, .pv (ints to)), (0, .ptr 3001 0), (1, .pv (ints l))] /\ σ = look (up (wH st (gr s st g))) /\ m = to.length - k) (n := to.length - 0) ?_ ?_
  ·exact ⟨0, s, Nat.zero_le _, rfl, .refl s, rfl, rfl, rfl⟩
  rintro fr σ m ⟨k, st, hI0, hI1, hI2, rfl, rfl, rfl⟩
  refine tQ <| tG <| sm 1 rfl <| nL <| tQ ?_
  refine tC rfl (fun hc11 => ?_) fun hc11 => ?_
  ·have hlt : k < to.length := by simpa using hc11
   have hd := List.drop_eq_getElem_cons hlt
   have hm := List.getElem_mem hlt
   have hi := z0c (f := eInt) (List.getElem?_eq_getElem hlt)
   generalize to[k] = x at hd hm hi
   have hltw : k < l.length := by omega
   have hdw := List.drop_eq_getElem_cons hltw
   have hw := z0c (f := eInt) (List.getElem?_eq_getElem hltw)
   generalize l[k] = y at hdw hw
   refine tSk <| tQ <| tBk <| tQ <| tG <| sm 1 rfl <| cV rfl (iSq rfl rfl rfl uT35 hi tS3 rfl (by rfl)) <| sm 3 rfl <| nL <| tQ <| tG <| sm 1 rfl ?_
   refine cV rfl (nCk rfl rfl rfl) <| sm 3 rfl <| cE rfl (ocr (zq5 st x) ent64 rfl (po1 rfl) rfl nf rfl rfl) <| nL ?_
   refine tC rfl (fun hc20 => ?_) fun hc20 => ?_
   ·refine tG <| sm 3 rfl <| cV rfl (iSq rfl rfl rfl uT35 hw tS3 rfl (by rfl)) <| sm 1 rfl <| cE rfl (bSl rfl rfl uT35 tZ3 tS3 rfl rfl rfl rfl (fbk rfl) rfl) <| cE rfl (ocr (zq4 [y] st (gr s st g)) ent88 rfl (po2 rfl rfl) rfl (fun k (h : _) => .inr h) rfl rfl) <| nL ?_
    refine Tr.heap (σ' := look (up (wH (wAdd st [y]) (gr s (wAdd st [y]) g)))) (by
      rw [<- z8x hI2 (z2z [y] st)]
      intro j
      try simp only [look]
      by_cases h3001 : 3001 = j
      · subst h3001; rfl
      · by_cases h3002 : 3002 = j
        · subst h3002; rfl
        · simp [wH, wM, look, up, z02 h3001, z02 h3002]) ?_
    refine tG <| cV rfl (oB rfl rfl (z06 rfl oM0)) <| sm 1 rfl <| nL ?_
    refine ⟨_, _, ?_, Sub.of (fr' := [(10, iInt (k + 1)), (9, iInt to.length), (8, .pv (ints to)), (0, .ptr 3001 0), (1, .pv (ints l))]) ⟨rfl, rfl, rfl, rfl, rfl, trivial⟩, (k + 1), (wAdd st [y]), ?_, ?_, ?_, rfl, rfl, rfl⟩
    ·omega
    ·omega
    ·rw [hI1, hd, hdw]
     (have hc : st.contains x = true := hc20; simp only [z16, hc, if_true]; done)
    first
    | exact hI2
    | exact hI2.trans (z2z _ _)
   refine tSk ?_
   refine Tr.heap (σ' := look (up (wH st (gr s st g)))) (by
     skip
     intro j
     try simp only [look]
     by_cases h3001 : 3001 = j
     · subst h3001; rfl
     · by_cases h3002 : 3002 = j
       · subst h3002; rfl
       · simp [wH, wM, look, up, z02 h3001, z02 h3002]) ?_
   refine tG <| cV rfl (oB rfl rfl (z06 rfl oM0)) <| sm 1 rfl <| nL ?_
   refine ⟨_, _, ?_, Sub.of (fr' := [(10, iInt (k + 1)), (9, iInt to.length), (8, .pv (ints to)), (0, .ptr 3001 0), (1, .pv (ints l))]) ⟨rfl, rfl, rfl, rfl, rfl, trivial⟩, (k + 1), st, ?_, ?_, ?_, rfl, rfl, rfl⟩
   ·omega
   ·omega
   ·rw [hI1, hd, hdw]
    (have hc : st.contains x = false := hc20; simp only [z16, hc, Bool.false_eq_true, if_false]; done)
   first
   | exact hI2
   | exact hI2.trans (z2z _ _)
  refine tEx ?_
  have hge : to.length <= k := by simpa using hc11
  have he : z16 s l to = st := by rw [hI1, List.drop_eq_nil_of_le hge]; cases l.drop k <;> rfl
  rw [he]
  exact z68 rfl rfl (po2 rfl rfl)
theorem z6t (l to : List Int) (s : List Int) (hlt0 : to.length <= l.length) (hb : to.length <= 1073741824) : SC Tryz.prog 62 [.mp 3002, .pv (ints l), .pv (ints to)] (wM s) (fun k => k = 3002) (.pv (ints (z12 s l to))) (wM s) := by
  refine SC.of Tryz.func62 rfl (lb rfl) fun F ρ w => ?_
  refine Tr.lenOf (t := 2) rfl (fun hl => ?_)
  simp only [List.length_map] at hl
  refine tQ <| tG <| sm 1 rfl <| nL <| tQ <| tQ <| Tr.grow (t := 6) (k := 106) ⟨3, 1⟩ rfl rfl rfl rfl rfl <| tG <| sm 1 rfl <| cV rfl (oSm uT35 rfl) <| sm 1 rfl <| nL ?_
  refine tBk <| Tr.sub (Sub.of (fr' := [(11, iInt 0), (10, iInt to.length), (9, .pv (ints to)), (6, .sl 106 (([] : List Int).map eInt).length), (0, .mp 3002), (1, .pv (ints l))]) ⟨rfl, rfl, rfl, rfl, rfl, rfl, trivial⟩) ?_
  refine Tr.loop (fun fr σ m => ∃ (k : Nat) (acc : List Int), (k <= to.length) /\ (acc ++ z12 s (l.drop k) (to.drop k) = z12 s l to) /\ fr = [(11, iInt k), (10, iInt to.length), (9, .pv (ints to)), (6, .sl 106 (acc.map eInt).length), (0, .mp 3002), (1, .pv (ints l))] /\ σ = look [(106, some (.row ⟨3, 1⟩ (acc.map eInt))), (3002, some (.map (vsOf s)))] /\ m = to.length - k) (n := to.length - 0) ?_ ?_
  ·exact ⟨0, ([] : List Int), Nat.zero_le _, rfl, rfl, rfl, rfl⟩
  rintro fr σ m ⟨k, acc, hI0, hI1, rfl, rfl, rfl⟩
  refine tQ <| tG <| sm 1 rfl <| nL <| tQ ?_
  refine tC rfl (fun hc12 => ?_) fun hc12 => ?_
  ·have hlt : k < to.length := by simpa using hc12
   have hd := List.drop_eq_getElem_cons hlt
   have hm := List.getElem_mem hlt
   have hi := z0c (f := eInt) (List.getElem?_eq_getElem hlt)
   generalize to[k] = x at hd hm hi
   have hltw : k < l.length := by omega
   have hdw := List.drop_eq_getElem_cons hltw
   have hw := z0c (f := eInt) (List.getElem?_eq_getElem hltw)
   generalize l[k] = y at hdw hw
   have hal : (acc.map eInt).length = acc.length := by simp
   have hol : acc.length + (z12 s (l.drop k) (to.drop k)).length <= 1073741824 := by
     have h1 := congrArg List.length hI1
     have h2 := z9o s l to
     simp only [List.length_append] at h1
     omega
   refine tSk <| tQ <| tBk <| tQ <| tG <| sm 1 rfl <| cV rfl (iSq rfl rfl rfl uT35 hi tS3 rfl (by rfl)) <| sm 3 rfl <| nL <| tQ <| tG <| sm 2 rfl ?_
   refine cE rfl (ocr (zq5 s x) ent64 rfl (po1 rfl) rfl (fun k (h : _) => .inr h) rfl rfl) <| nL ?_
   refine tC rfl (fun hc18 => ?_) fun hc18 => ?_
   ·have hol2 : acc.length + 1 <= 1073741824 := by
      have h1 := hol
      rw [hd, hdw] at h1
      have hc : s.contains x = true := hc18
      simp only [z12, hc, if_true, List.length_cons] at h1
      omega
    refine tG <| sm 3 rfl <| cV rfl (iSq rfl rfl rfl uT35 hw tS3 rfl (by rfl)) <| sm 1 rfl <| cE rfl (bSl rfl rfl uT35 tZ3 tS3 rfl rfl rfl rfl (fbk rfl) rfl) ?_
    refine cE rfl (aPp rfl rfl rfl rfl (by rfl) sI0 uT35 tB3 dC0 (by (simp [z03]; done)) (by (simp [z03, PV.one]; rfl)) (by simp [maxLen, z03]; omega) (by simp [z03]; omega)) ?_
    refine sm 1 rfl <| nL ?_
    refine Tr.heap (σ' := look [(106, some (.row ⟨3, 1⟩ ((acc ++ [y]).map eInt))), (3002, some (.map (vsOf s)))]) (by
      rw [List.map_append]
      intro j
      try simp only [look]
      by_cases h106 : 106 = j
      · subst h106; rfl
      · by_cases h3002 : 3002 = j
        · subst h3002; rfl
        · simp [wH, wM, look, up, z02 h106, z02 h3002]) ?_
    refine tG <| cV rfl (oB rfl rfl (z06 rfl oM0)) <| sm 1 rfl <| nL ?_
    refine ⟨_, _, ?_, Sub.of (fr' := [(11, iInt (k + 1)), (10, iInt to.length), (9, .pv (ints to)), (6, .sl 106 ((acc ++ [y]).map eInt).length), (0, .mp 3002), (1, .pv (ints l))]) ⟨rfl, rfl, rfl, (by exact congrArg (fun z => some (IV.sl _ z)) (by rw [List.map_append]; simp [z03])), rfl, rfl, trivial⟩, (k + 1), (acc ++ [y]), ?_, ?_, rfl, rfl, rfl⟩
    ·omega
    ·omega
    rw [<- hI1, hd, hdw]
    (have hc : s.contains x = true := hc18; simp only [z12, hc, if_true, List.append_assoc, List.singleton_append]; done)
   refine tSk ?_
   refine Tr.heap (σ' := look [(106, some (.row ⟨3, 1⟩ (acc.map eInt))), (3002, some (.map (vsOf s)))]) (by
     skip
     intro j
     try simp only [look]
     by_cases h106 : 106 = j
     · subst h106; rfl
     · by_cases h3002 : 3002 = j
       · subst h3002; rfl
       · simp [wH, wM, look, up, z02 h106, z02 h3002]) ?_
   refine tG <| cV rfl (oB rfl rfl (z06 rfl oM0)) <| sm 1 rfl <| nL ?_
   refine ⟨_, _, ?_, Sub.of (fr' := [(11, iInt (k + 1)), (10, iInt to.length), (9, .pv (ints to)), (6, .sl 106 (acc.map eInt).length), (0, .mp 3002), (1, .pv (ints l))]) ⟨rfl, rfl, rfl, (by rfl), rfl, rfl, trivial⟩, (k + 1), acc, ?_, ?_, rfl, rfl, rfl⟩
   ·omega
   ·omega
   rw [<- hI1, hd, hdw]
   (have hc : s.contains x = false := hc18; simp only [z12, hc, Bool.false_eq_true, if_false]; done)
  refine tEx <| tQ <| Tr.freeze (t := 6) (k := 106) rfl rfl sI0 <| tG <| sm 2 rfl <| nL <| tRt <| rOk rfl ?_ (po1 rfl)
  have hge : to.length <= k := by simpa using hc12
  have he : acc = z12 s l to := by rw [<- hI1, List.drop_eq_nil_of_le hge]; cases l.drop k <;> simp [z12]
  rw [he]
  rfl
theorem sc_wNode (x : Nd) (h : Hd) (s : List Int) (g : Bool) (hok : wOkN h x = true) (ih : ∀ q ∈ x.kids, ∀ (h : Hd) (s : List Int) (g : Bool), wOkL h q = true -> SC Tryz.prog 39 [.ptr 3001 0, .pv (z07 q), .pv (hdv h)] (wH s g) (fun _ => False) (.tup []) (wH (z3f h s q) (gr s (z3f h s q) g))) : SC Tryz.prog 61 [.ptr 3001 0, .pv (ndv x), .pv (hdv h)] (wH s g) (fun _ => False) (.tup []) (wH (z4r h s x) (gr s (z4r h s x) g)) := by
  refine SC.of Tryz.func61 rfl (lb rfl) fun F ρ w => ?_
  refine tQ <| tG <| cE rfl (z19 rfl rfl) <| cE rfl (z55 (k := 105) rfl rfl rfl rfl rfl rfl) <| nL <| tQ <| tG <| sm 2 rfl <| nL <| tBk <| tQ <| tG ?_
  refine sm 2 rfl <| nL ?_
  refine tC rfl (fun hc26 => ?_) fun hc26 => ?_
  ·have hk : (x.kind == 12) = true := hc26
   have hle : h.yield.length <= x.args.length := by
     rw [z4s] at hok
     simpa [hk] using hok
   have hN : z4r h s x = z16 s x.args h.yield := by
     rw [z71]
     simp only [hk, if_true, Bool.false_eq_true, if_false]
   refine tG <| sm 5 rfl <| cE rfl (ocr (z85 x.args h.yield s g hle) ent87 rfl (po2 rfl rfl) rfl (fun k (h : _) => .inr h) rfl rfl) <| nL ?_
   rw [hN]
   exact z68 rfl rfl (po2 rfl rfl)
  have hk12 : (x.kind == 12) = false := hc26
  refine tQ <| tG <| sm 2 rfl <| nL ?_
  refine tC rfl (fun hc34 => ?_) fun hc34 => ?_
  ·have hk : (x.kind == 13) = true := hc34
   have hle : h.next.length <= x.args.length := by
     rw [z4s] at hok
     simpa [hk12, hk] using hok
   have hN : z4r h s x = z16 s x.args h.next := by
     rw [z71]
     simp only [hk12, hk, if_true, Bool.false_eq_true, if_false]
   refine tG <| sm 5 rfl <| cE rfl (ocr (z85 x.args h.next s g hle) ent87 rfl (po2 rfl rfl) rfl (fun k (h : _) => .inr h) rfl rfl) <| nL ?_
   rw [hN]
   exact z68 rfl rfl (po2 rfl rfl)
  have hk13 : (x.kind == 13) = false := hc34
  refine tQ <| tG <| sm 2 rfl <| nL ?_
  refine tC rfl (fun hc42 => ?_) fun hc42 => ?_
  ·have hk : (x.kind == 14) = true := hc42
   have hle : h.left.length <= x.args.length := by
     rw [z4s] at hok
     simpa [hk12, hk13, hk] using hok
   have hN : z4r h s x = z16 s x.args h.left := by
     rw [z71]
     simp only [hk12, hk13, hk, if_true, Bool.false_eq_true, if_false]
   refine tG <| sm 5 rfl <| cE rfl (ocr (z85 x.args h.left s g hle) ent87 rfl (po2 rfl rfl) rfl (fun k (h : _) => .inr h) rfl rfl) <| nL ?_
   rw [hN]
   exact z68 rfl rfl (po2 rfl rfl)
  have hk14 : (x.kind == 14) = false := hc42
  refine tQ <| tG <| sm 2 rfl <| nL ?_
  refine tC rfl (fun hc50 => ?_) fun hc50 => ?_
  ·have hk : (x.kind == 10) = true := hc50
   rw [z4s] at hok
   simp only [hk12, hk13, hk14, hk, if_true, Bool.false_eq_true, if_false, Bool.and_eq_true, beq_iff_eq] at hok
   obtain ⟨a, b, hks⟩ : ∃ a b, x.kids = [a, b] := by
     have h1 := hok.1
     match x.kids, h1 with
     | [a, b], _ => exact ⟨a, b, rfl⟩
   have hi0 : (x.kids.map eKid)[0]? = some [z07 a] := by rw [hks]; rfl
   have hi1 : (x.kids.map eKid)[1]? = some [z07 b] := by rw [hks]; rfl
   have ha : a ∈ x.kids := by rw [hks]; exact .head _
   have hb : b ∈ x.kids := by rw [hks]; exact .tail _ (.head _)
   have hoa := z72 hok.2 ha
   have hob := z72 hok.2 hb
   have hN : z4r h s x = z3f ⟨x.outs, h.next, h.left⟩ (z3f ⟨x.outs, h.next, h.left⟩ (wAdd s x.args) a) b := by
     rw [z71]
     simp only [hk12, hk13, hk14, hk, if_true, Bool.false_eq_true, if_false, hks]
     rfl
   have p1 := z2z x.args s
   have p2 := z3t a ⟨x.outs, h.next, h.left⟩ (wAdd s x.args)
   have p3 := z3t b ⟨x.outs, h.next, h.left⟩ (z3f ⟨x.outs, h.next, h.left⟩ (wAdd s x.args) a)
   refine tQ <| tG <| sm 3 rfl <| cE rfl (ocr (zq4 x.args s g) ent88 rfl (po2 rfl rfl) rfl (fun k (h : _) => .inr h) rfl rfl) <| nL <| tQ <| tG <| sm 3 rfl <| c0 (sBx rfl rfl rfl rfl ((fun h => h)) tS35 (rfl) (lb rfl)) <| nL <| tQ <| tDr z10 (fun k => k ∈ ([105] : List Nat)) ?_
   refine wR 1 [0, 1, 2, 3, 4, 5] kR0 h30 <| smR 3 rfl <| rV rfl rfl (iSq rfl rfl rfl uT41 hi0 tS44 rfl (by rfl)) <| smR 1 rfl <| rV rfl rfl (lBP rfl rfl rfl Tryz.underlying81 rfl tS81 (lb rfl) rfl dC0) <| nR <| wO 6 kR0 <| wI rfl rfl nf (nAp rfl) (fun _ _ => ocr (ih a ha ⟨x.outs, h.next, h.left⟩ (wAdd s x.args) (gr s (wAdd s x.args) g) hoa) ent39 rfl (po2 rfl rfl) rfl (fun k (h : _) => by (simp only [List.mem_cons, List.not_mem_nil, or_false] at h; rcases h with rfl <;> first | exact .inl rfl | exact .inr rfl | exact .inr dC0)) rfl rfl) <| wDn kR0 <| tDr z10 (fun k => k ∈ ([105] : List Nat)) <| wR 1 [0, 1, 2, 3, 4, 5] kR0 h30 <| smR 3 rfl ?_
   refine rV rfl rfl (iSq rfl rfl rfl uT41 hi1 tS44 rfl (by rfl)) <| smR 1 rfl <| rV rfl rfl (lBP rfl rfl rfl Tryz.underlying81 rfl tS81 (lb rfl) rfl dC0) <| nR <| wO 6 kR0 <| wI rfl rfl nf (nAp rfl) (fun _ _ => ocr (ih b hb ⟨x.outs, h.next, h.left⟩ (z3f ⟨x.outs, h.next, h.left⟩ (wAdd s x.args) a) (gr (wAdd s x.args) (z3f ⟨x.outs, h.next, h.left⟩ (wAdd s x.args) a) (gr s (wAdd s x.args) g)) hob) ent39 rfl (po2 rfl rfl) rfl (fun k (h : _) => by (simp only [List.mem_cons, List.not_mem_nil, or_false] at h; rcases h with rfl <;> first | exact .inl rfl | exact .inr rfl | exact .inr dC0)) rfl rfl) <| wDn kR0 ?_
   rw [hN, <- z8x (p1.trans p2) p3, <- z8x p1 p2]
   exact z68 rfl rfl (po2 rfl rfl)
  have hk10 : (x.kind == 10) = false := hc50
  refine tQ <| tG <| sm 2 rfl <| nL ?_
  refine tC rfl (fun hc73 => ?_) fun hc73 => ?_
  ·have hk : (x.kind == 11) = true := hc73
   rw [z4s] at hok
   simp only [hk12, hk13, hk14, hk10, hk, if_true, Bool.false_eq_true, if_false, Bool.and_eq_true, beq_iff_eq, decide_eq_true_eq] at hok
   have hle := hok.1
   obtain ⟨a, hks⟩ : ∃ a, x.kids = [a] := by
     have h1 := hok.2.1
     match x.kids, h1 with
     | [a], _ => exact ⟨a, rfl⟩
   have hi0 : (x.kids.map eKid)[0]? = some [z07 a] := by rw [hks]; rfl
   have ha : a ∈ x.kids := by rw [hks]; exact .head _
   have hoa := z72 hok.2.2 ha
   have hN : z4r h s x = z3f ⟨[], x.params, x.outs⟩ (z16 s x.args x.params) a := by
     rw [z71]
     simp only [hk12, hk13, hk14, hk10, hk, if_true, Bool.false_eq_true, if_false, hks]
     rfl
   have p1 := z2l x.args x.params s
   have p2 := z3t a ⟨[], x.params, x.outs⟩ (z16 s x.args x.params)
   refine tQ <| tG <| sm 5 rfl <| cE rfl (ocr (z85 x.args x.params s g hle) ent87 rfl (po2 rfl rfl) rfl (fun k (h : _) => .inr h) rfl rfl) <| nL <| tDr z10 (fun k => k ∈ ([105] : List Nat)) <| wR 1 [0, 1, 2, 3, 4, 5, 6, 7, 8, 9] kR0 h30 <| smR 3 rfl <| rV rfl rfl (iSq rfl rfl rfl uT41 hi0 tS44 rfl (by rfl)) <| smR 5 rfl <| rV rfl rfl (bPu rfl rfl tZ81 tP81 rfl (fbk rfl) rfl) <| nR ?_
   refine wO 10 kR0 <| wI rfl rfl nf (nAp rfl) (fun _ _ => cRr (ih a ha ⟨[], x.params, x.outs⟩ (z16 s x.args x.params) (gr s (z16 s x.args x.params) g) hoa) ent39 rfl rfl (sSm rfl (sSm rfl (Subs.cons (fun _ _ _ _ h => z2m (p := .agg [.val (.slice none 0 0), ints x.params, ints x.outs]) (PSub.agg ⟨PSub.nil, PSub.refl _, PSub.refl _, trivial⟩) h) Subs.nil))) (po2 rfl rfl) (by rfl) (fun k (h : _) => by (simp only [List.mem_cons, List.not_mem_nil, or_false] at h; rcases h with rfl <;> first | exact .inl rfl | exact .inr rfl | exact .inr dC0)) rfl (by rfl)) <| wDn kR0 ?_
   rw [hN, <- z8x p1 p2]
   exact z68 rfl rfl (po2 rfl rfl)
  have hk11 : (x.kind == 11) = false := hc73
  rw [z4s] at hok
  simp only [hk12, hk13, hk14, hk10, hk11, Bool.false_eq_true, if_false] at hok
  have hN : z4r h s x = if !z1g x || s.contains (x.outs.headD 0) then wAdd s x.args else s := by
    rw [z71]
    simp only [hk12, hk13, hk14, hk10, hk11, Bool.false_eq_true, if_false]
  refine tQ <| tDr z10 (fun k => k ∈ ([3001, 3002, 105] : List Nat)) <| wR 13 [0] kR0 h30 <| rV rfl rfl (lEA rfl rfl uT43 rfl tS43 (lb rfl)) <| nR <| wO 1 kR0 <| wI rfl rfl nf nw (fun _ _ => ocq (zb9 _) ent63 rfl rfl) <| wR 2 [2, 3, 4, 5, 6, 7, 8, 9, 10, 11] kR0 h30 <| smR 2 rfl ?_
  refine WR.split (t := 11) rfl (fun hb11 => ?_) (fun hb11 => ?_)
  ·refine smR 8 rfl <| nR <| wN 12 kR0 h30 rfl rfl rfl <| wR 0 [13] kR0 h30 <| smR 1 rfl <| nR <| wDn kR0 <| Tr.condT rfl <| tG <| sm 3 rfl <| cE rfl (ocr (zq4 x.args s g) ent88 rfl (po2 rfl rfl) rfl (fun k (h : _) => .inr h) rfl rfl) <| nL ?_
   have hN2 : z4r h s x = wAdd s x.args := by
     rw [hN]
     (have hh : z1g x = false := by simpa using hb11
      rw [hh]; rfl)
   rw [hN2]
   exact z68 rfl rfl (po2 rfl rfl)
  have hhm : z1g x = true := by simpa using hb11
  obtain ⟨o0, ors, hos⟩ := List.exists_cons_of_ne_nil (show x.outs ≠ [] from fun e => by rw [hhm, e] at hok; cases hok)
  have ho0 : (x.outs.map eInt)[0]? = some [vInt o0] := by rw [hos]; rfl
  have hoh : x.outs.headD 0 = o0 := by rw [hos]; rfl
  refine smR 1 rfl <| ryV rfl rfl rfl (nCk rfl rfl rfl) <| smR 1 rfl <| ryV rfl rfl rfl (oLb Tryz.underlying76 rfl rfl rfl dC0) <| smR 2 rfl <| ryV rfl rfl rfl (iSq rfl rfl rfl uT35 ho0 tS3 rfl (by rfl)) <| smR 1 rfl <| nR <| wO 12 kR0 <| wY rfl rfl rfl nf (nAp rfl) (fun _ _ => ocr (zq5 s o0) ent64 rfl (po1 rfl) rfl (fun k (h : _) => by (simp only [List.mem_cons, List.not_mem_nil, or_false] at h; rcases h with rfl | rfl | rfl <;> first | exact .inl rfl | exact .inr rfl | exact .inr dC0)) rfl rfl) <| wR 0 [13] kR0 h30 <| smR 1 rfl ?_
  refine nR <| wDn kR0 ?_
  refine tC rfl (fun hc21 => ?_) fun hc21 => ?_
  ·refine tG <| sm 3 rfl <| cE rfl (ocr (zq4 x.args s g) ent88 rfl (po2 rfl rfl) rfl (fun k (h : _) => .inr h) rfl rfl) <| nL ?_
   have hN2 : z4r h s x = wAdd s x.args := by
     rw [hN]
     (have hh : s.contains o0 = true := hc21
      rw [hoh, hh, Bool.or_true]; rfl)
   rw [hN2]
   exact z68 rfl rfl (po2 rfl rfl)
  refine tSk ?_
  have hh : s.contains o0 = false := hc21
  have hN2 : z4r h s x = s := by
    rw [hN, hhm, hoh, hh]; rfl
  rw [hN2, zf6]
  exact z68 rfl rfl (po2 rfl rfl)
theorem zx7 (N : Nat) : ∀ (l : List Nd) (h : Hd) (s : List Int) (g : Bool) (hok : wOkL h l = true), SizeOf.sizeOf l < N -> SC Tryz.prog 39 [.ptr 3001 0, .pv (z07 l), .pv (hdv h)] (wH s g) (fun _ => False) (.tup []) (wH (z3f h s l) (gr s (z3f h s l) g)) := by
  induction N with
  | zero => intro l h s g hok hN; exact absurd hN (Nat.not_lt_zero _)
  | succ N ih =>
    intro l h s g hok hN
    refine SC.of Tryz.func39 rfl (lb rfl) fun F ρ w => ?_
    refine Tr.lenOf (t := 1) rfl (fun hl => ?_)
    simp only [List.length_map] at hl
    refine tQ <| tG <| cE rfl (z19 rfl rfl) <| nL <| tQ <| tG <| sm 1 rfl <| cV rfl (oSm uT44 rfl) <| sm 1 rfl <| nL <| tBk <| Tr.sub (Sub.of (fr' := [(10, iInt 0), (9, iInt l.length), (8, .pv (z07 l)), (5, .pv (.ept [ints h.yield, ints h.next, ints h.left] 0)), (0, .ptr 3001 0)]) ⟨rfl, rfl, rfl, rfl, rfl, trivial⟩) ?_
    refine Tr.heap (σ' := look (up (wH s (gr s s g)))) (by rw [zf6]; exact fun _ => rfl) ?_
    refine Tr.loop (fun fr σ m => ∃ (k : Nat) (st : List Int), (k <= l.length) /\ (z3f h s l = z3f h st (l.drop k)) /\ (Pre s st) /\ fr = [(10, iInt k), (9, iInt l.length), (8, .pv (z07 l)), (5, .pv (.ept [ints h.yield, ints h.next, ints h.left] 0)), (0, .ptr 3001 0)] /\ σ = look (up (wH st (gr s st g))) /\ m = l.length - k) (n := l.length - 0) ?_ ?_
    ·exact ⟨0, s, Nat.zero_le _, rfl, .refl s, rfl, rfl, rfl⟩
    rintro fr σ m ⟨k, st, hI0, hI1, hI2, rfl, rfl, rfl⟩
    refine tQ <| tG <| sm 1 rfl <| nL <| tQ ?_
    refine tC rfl (fun hc11 => ?_) fun hc11 => ?_
    ·have hlt : k < l.length := by simpa using hc11
     have hd := List.drop_eq_getElem_cons hlt
     have hm := List.getElem_mem hlt
     have hi := z2f (List.getElem?_eq_getElem hlt)
     generalize l[k] = x at hd hm hi
     have hxok := zr8 hok hm
     refine tSk <| tQ <| tBk <| tQ <| tG <| cV rfl (iSq rfl rfl rfl uT44 hi tS43 rfl (by rfl)) <| cV rfl (lEA rfl rfl uT43 rfl tS43 (lb rfl)) <| cE rfl (aLc (k := 107) rfl tZ43 rfl rfl rfl rfl) <| c0 (sBA rfl rfl rfl rfl rfl ((fun h => h)) tS43 (flk rfl) (lb rfl)) <| nL <| Tr.freezeBox (t := 7) (k := 107) rfl rfl rfl ?_
     refine Tr.heap (σ' := look (up (wH st (gr s st g)))) (by
       skip
       intro j
       try simp only [look]
       by_cases h107 : 107 = j
       · subst h107; rfl
       · by_cases h3001 : 3001 = j
         · subst h3001; rfl
         · by_cases h3002 : 3002 = j
           · subst h3002; rfl
           · simp [wH, wM, look, up, z02 h107, z02 h3001, z02 h3002]) ?_
     refine tG <| sm 1 rfl <| cV rfl (lEA rfl rfl uT43 rfl tS43 (lb rfl)) <| cV rfl (lEA rfl rfl Tryz.underlying81 rfl tS81 (lb rfl)) <| cE rfl (ocr (sc_wNode x h st (gr s st g) hxok (fun q hq h s g hq2 => ih q h s g hq2 (Nat.lt_of_lt_of_le (z5g hm rfl hq) (Nat.le_of_lt_succ hN)))) ent61 rfl (po2 rfl rfl) rfl (fun k (h : _) => .inr h) rfl rfl) <| nL ?_
     refine Tr.heap (σ' := look (up (wH (z4r h st x) (gr s (z4r h st x) g)))) (by
       rw [<- z8x hI2 (z9p x h st)]
       intro j
       try simp only [look]
       by_cases h3001 : 3001 = j
       · subst h3001; rfl
       · by_cases h3002 : 3002 = j
         · subst h3002; rfl
         · simp [wH, wM, look, up, z02 h3001, z02 h3002]) ?_
     refine tG <| cV rfl (oB rfl rfl (z06 rfl oM0)) <| sm 1 rfl <| nL ?_
     refine ⟨_, _, ?_, Sub.of (fr' := [(10, iInt (k + 1)), (9, iInt l.length), (8, .pv (z07 l)), (5, .pv (.ept [ints h.yield, ints h.next, ints h.left] 0)), (0, .ptr 3001 0)]) ⟨rfl, rfl, rfl, rfl, rfl, trivial⟩, (k + 1), (z4r h st x), ?_, ?_, ?_, rfl, rfl, rfl⟩
     ·omega
     ·omega
     ·rw [hI1, hd]; rfl
     exact hI2.trans (z9p _ _ _)
    refine tEx ?_
    have hge : l.length <= k := by simpa using hc11
    have he : z3f h s l = st := by rw [hI1, List.drop_eq_nil_of_le hge]; rfl
    rw [he]
    exact z68 rfl rfl (po2 rfl rfl)
theorem sc_wList (l : List Nd) (h : Hd) (s : List Int) (g : Bool) (hok : wOkL h l = true) : SC Tryz.prog 39 [.ptr 3001 0, .pv (z07 l), .pv (hdv h)] (wH s g) (fun _ => False) (.tup []) (wH (z3f h s l) (gr s (z3f h s l) g)) := zx7 _ l h s g hok (Nat.lt_succ_self _)
section
variable {P : Program} {c : Cx} {R1 : Nat -> Prop} {o : Oper} {fr : Fr} {σ : Heap'} {ops : Array Oper} {Q : Exit -> Fr -> Heap' -> Prop} {fuel : Nat} {listed : Array Bool} {T : List Nat}
def z67 (T : List Nat) (listed : Array Bool) : Bool := T.all fun t => !listed.getD t true
def zm8 (ops : Array Oper) (T : List Nat) (i : Nat) : Bool :=
  !T.contains i && T.all fun t => ((ops[t]?).map (·.after.any fun e => Region.binds .any e && (e.on == i || T.contains e.on))).getD false
theorem zs6 {i : Nat} (h : z67 T (listed.setIfInBounds i true) = true) : z67 T listed = true := by
  simp only [z67, List.all_eq_true] at *
  intro t ht
  have h1 := h t ht
  by_cases e : i = t
  ·subst e
   by_cases hlt : i < listed.size
   ·simp [hlt] at h1
   simp [hlt] at h1
  rw [getD_set_ne true e] at h1
  exact h1
theorem ze6 {i : Nat} (hi : i ∉ T) (h : z67 T listed = true) : z67 T (listed.setIfInBounds i true) = true := by
  simp only [z67, List.all_eq_true] at *
  intro t ht
  have hne : i ≠ t := fun e => by subst e; exact hi ht
  rw [getD_set_ne true hne]
  exact h t ht
def z7v (P : Program) (ops : Array Oper) (Q : Exit -> Act -> World -> Prop) (S : World -> Prop) (T : List Nat) : Nat -> Array Bool -> Act -> World -> Prop
  | 0, listed, a, w => Region.ready .any ops listed = [] /\ Q .normal a w
  | fuel + 1, listed, a, w =>
    (Region.ready .any ops listed = [] -> Q .normal a w) /\
    ∀ i ∈ Region.ready .any ops listed, wpOp P ops Q i (fun a' w' => (z67 T (listed.setIfInBounds i true) = true -> S w') /\ z7v P ops Q S T fuel (listed.setIfInBounds i true) a' w') a w
variable {Q' : Exit -> Act -> World -> Prop} {S S' : World -> Prop}
theorem z8g : ∀ (fuel : Nat) (listed : Array Bool) (a : Act) (w : World), z7v P ops Q' S T fuel listed a w -> wpAny P .any ops Q' fuel listed a w
  | 0, _, _, _, h => h
  | fuel + 1, _, _, _, h => ⟨h.1, fun i hi => wpOp_mono (fun a' w' h' => z8g fuel _ a' w' h'.2) (h.2 i hi)⟩
theorem z9s : ∀ (fuel : Nat) (listed : Array Bool) (a : Act) (w : World), z67 T listed = false -> wpAny P .any ops Q' fuel listed a w -> z7v P ops Q' S T fuel listed a w
  | 0, _, _, _, _, h => h
  | fuel + 1, listed, _, _, hc, h => ⟨h.1, fun i hi => wpOp_mono (fun a' w' h' =>
      have hc' : z67 T (listed.setIfInBounds i true) = false := Bool.eq_false_iff.2 fun h => by rw [zs6 h] at hc; cases hc
      ⟨fun h => (by rw [hc'] at h; cases h), z9s fuel _ a' w' hc' h'⟩) (h.2 i hi)⟩
theorem zk7 (hS : ∀ w, S' w -> S w) : ∀ (fuel : Nat) (listed : Array Bool) (a : Act) (w : World), z7v P ops Q' S' T fuel listed a w -> z7v P ops Q' S T fuel listed a w
  | 0, _, _, _, h => h
  | fuel + 1, _, _, _, h => ⟨h.1, fun i hi => wpOp_mono (fun a' w' h' => ⟨fun hc => hS _ (h'.1 hc), zk7 hS fuel _ a' w' h'.2⟩) (h.2 i hi)⟩
theorem zz9 {i : Nat} (hT : zm8 ops T i = true) (hun : listed.getD i true = false) (hc : z67 T listed = true) {j : Nat} (hj : j ∈ Region.ready .any ops listed) : j ∉ T := by
  intro hjT
  simp only [zm8, Bool.and_eq_true, List.all_eq_true] at hT
  obtain ⟨_, oj, hoj, hall⟩ := mem_ready.1 hj
  have h1 := hT.2 j hjT
  rw [hoj] at h1
  simp only [Option.map_some, Option.getD_some, Array.any_eq_true'] at h1
  obtain ⟨e, he, h2⟩ := h1
  simp only [Bool.and_eq_true, Bool.or_eq_true, beq_iff_eq, List.contains_eq_mem, decide_eq_true_eq] at h2
  have h3 := hall e he h2.1
  rcases h2.2 with h4 | h4
  ·rw [h4] at h3
   rcases Nat.lt_or_ge i listed.size with h' | h'
   ·simp [h'] at h3 hun; rw [hun] at h3; cases h3
   simp [Array.getElem?_eq_none h'] at h3
  have h5 := List.all_eq_true.1 hc e.on h4
  simp only [Bool.not_eq_true'] at h5
  rcases Nat.lt_or_ge e.on listed.size with h' | h'
  ·simp [h'] at h3 h5; rw [h5] at h3; cases h3
  simp [Array.getElem?_eq_none h'] at h3
theorem zz0 {i : Nat} {oi : Oper} {v : Value} (hi : ops[i]? = some oi) (hsel : ∀ (j : Nat) (o : Oper) cs b, ops[j]? = some o -> o.op ≠ .select cs b)
    (hQ : ∀ c a w, Q' (.panic c) (a.put oi.dst v) w -> Q' (.panic c) a w) {U : List Nat} (hTU : ∀ t ∈ T, t ∈ U) (hT : zm8 ops U i = true) :
    ∀ (fuel : Nat) (listed : Array Bool) (a : Act) (w : World),
      (∀ j oj, ops[j]? = some oj -> j ≠ i -> listed.getD j true = false -> (∀ e ∈ oj.after, Region.binds .any e = true -> e.on ≠ i) -> oi.apart ops oj = true) ->
      i ∈ Region.ready .any ops listed -> YieldsIf P ops S oi v a -> S w -> z67 U listed = true ->
      z7v P ops Q' S T fuel (listed.setIfInBounds i true) (a.put oi.dst v) w -> z7v P ops Q' S T (fuel + 1) listed a w := by
  have hiU : i ∉ U := by
    simp only [zm8, Bool.and_eq_true, Bool.not_eq_true', List.contains_eq_mem, decide_eq_false_iff_not] at hT
    exact hT.1
  have hTc : ∀ {l : Array Bool}, z67 U l = true -> z67 T l = true := fun {l} h => by
    simp only [z67, List.all_eq_true] at *
    exact fun t ht => h t (hTU t ht)
  intro fuel
  induction fuel with
  | zero =>
    intro listed a w _ hr hy hS hc H
    refine ⟨fun h => (by rw [h] at hr; cases hr), fun j hj => ?_⟩
    by_cases hji : j = i
    ·subst hji; exact hy.wpOp hi hS ⟨fun _ => hS, H⟩
    have := ready_mono hj hji
    rw [H.1] at this
    cases this
  | succ fuel ih =>
    intro listed a w hfree hr hy hS hc H
    refine ⟨fun h => (by rw [h] at hr; cases hr), fun j hj => ?_⟩
    by_cases hji : j = i
    ·subst hji; exact hy.wpOp hi hS ⟨fun _ => hS, H⟩
    have h1 := H.2 j (ready_mono hj hji)
    have hjU : j ∉ U := zz9 hT (mem_ready.1 hr).1 hc hj
    have hcj : z67 U (listed.setIfInBounds j true) = true := ze6 hjU hc
    have hcij : z67 T ((listed.setIfInBounds i true).setIfInBounds j true) = true := hTc (ze6 hjU (ze6 hiU hc))
    obtain ⟨hjun, oj, hoj, hall⟩ := mem_ready.1 hj
    have hnot : ∀ e ∈ oj.after, Region.binds .any e = true -> e.on ≠ i := fun e he hb heq => by
      have h1 := hall e he hb
      have h0 := (mem_ready.1 hr).1
      rw [heq] at h1
      rcases Nat.lt_or_ge i listed.size with h' | h'
      ·simp [h'] at h0 h1; rw [h0] at h1; cases h1
      simp [Array.getElem?_eq_none h'] at h1
    have h2 := wpOp_putIf hoj (hfree j oj hoj hji hjun hnot) (fun cs b => hsel i oi cs b hi) (fun cs b => hsel j oj cs b hoj) hQ hy h1
    have hfree' : ∀ k ok, ops[k]? = some ok -> k ≠ i -> (listed.setIfInBounds j true).getD k true = false ->
        (∀ e ∈ ok.after, Region.binds .any e = true -> e.on ≠ i) -> oi.apart ops ok = true := fun k ok hk hki hun hno => by
      refine hfree k ok hk hki ?_ hno
      by_cases hjk : j = k
      ·subst hjk; exact hjun
      rw [getD_set_ne true hjk] at hun; exact hun
    refine wpOp_mono (fun a' w' h3 => ⟨fun _ => h3.2.1 hcij, ih (listed.setIfInBounds j true) a' w' hfree' (ready_mono hr (Ne.symm hji)) h3.1 (h3.2.1 hcij) hcj ?_⟩) h2
    rw [Array.setIfInBounds_comm _ _ hji]
    exact h3.2.2
theorem y0r {i : Nat} {oi : Oper} {v : Value} {fuel : Nat} {listed : Array Bool} {a : Act} {w : World} (hi : ops[i]? = some oi)
    (hs : Region.noSelect ops = true) (hf : Region.free .any ops listed i = true) (hr : (Region.ready .any ops listed).contains i = true) {U : List Nat} (hTU : T.all (U.contains ·) = true) (hT : zm8 ops U i = true) (hc : z67 U listed = true)
    (hQ : ∀ c a w, Q' (.panic c) (a.put oi.dst v) w -> Q' (.panic c) a w) (hy : YieldsIf P ops S oi v a) (hS : S w)
    (h : z7v P ops Q' S T fuel (listed.setIfInBounds i true) (a.put oi.dst v) w) : z7v P ops Q' S T (fuel + 1) listed a w :=
  zz0 hi (Region.noSelect_spec hs) hQ (fun t ht => by simpa using List.all_eq_true.1 hTU t ht) hT fuel listed a w (Region.free_spec hi hf) (by simpa using hr) hy hS hc h
def WC (P : Program) (c : Cx) (R1 : Nat -> Prop) (T : List Nat) (ops : Array Oper) (Q : Exit -> Fr -> Heap' -> Prop) (fuel : Nat) (listed : Array Bool) (fr : Fr) (σ : Heap') : Prop :=
  ∀ ρ w a (S : World -> Prop), All c ρ σ w fr a -> (∀ w', SameFor c.F R1 ρ w w' -> S w') -> z7v P ops (lift c Q) S T fuel listed a w
theorem WC.take {i d : Nat} {x : IV} (U : List Nat) (hTU : T.all (U.contains ·) = true) (hT : zm8 ops U i = true) (hc : z67 U listed = true) (hi : ops[i]? = some o) (hs : Region.noSelect ops = true) (hf : Region.free .any ops listed i = true) (hr : (Region.ready .any ops listed).contains i = true) (hQ : ∀ ch fr σ, ¬ Q (.panic ch) fr σ)
    (hg : o.guard = none) (hd : o.dst = some d) (hn : Nat.blt d c.n = true) (hok : OkV P c R1 o fr σ x) (h : WC P c R1 T ops Q fuel (listed.setIfInBounds i true) ((d, x) :: fr) σ) : WC P c R1 T ops Q (fuel + 1) listed fr σ := by
  intro ρ w a S ha hS
  obtain ⟨v, hrun, hv⟩ := hok ρ w a ha
  refine zk7 (S' := SameFor c.F R1 ρ w) hS _ _ _ _ <| y0r hi hs hf hr hTU hT hc (fun ch a w ⟨_, σ, fr, _, hq⟩ => absurd hq (hQ ch fr σ)) (.inl ⟨by simp [Region.wanted, hg], fun w2 h2 => hrun w2 h2⟩) (.refl _ _ _ _) ?_
  refine h ρ w _ _ ?_ fun w' h' => h'
  have := ha.put (d := o.dst) hv (by rw [hd]; intro t ht; cases ht; simpa using hn)
  rwa [hd] at this ⊢
def WIC (P : Program) (c : Cx) (R1 : Nat -> Prop) (T : List Nat) (ops : Array Oper) (Q : Exit -> Fr -> Heap' -> Prop) (fuel : Nat) (listed : Array Bool) (fr : Fr) (σ : Heap') (i : Nat) : Prop :=
  ∀ ρ w a (S : World -> Prop), All c ρ σ w fr a -> (∀ w', SameFor c.F R1 ρ w w' -> S w') -> wpOp P ops (lift c Q) i (fun a' w' => (z67 T (listed.setIfInBounds i true) = true -> S w') /\ z7v P ops (lift c Q) S T fuel (listed.setIfInBounds i true) a' w') a w
theorem WC.all {rs : List Nat} (hr : Region.ready .any ops listed = rs) (hne : rs ≠ []) (h : ∀ i ∈ rs, WIC P c R1 T ops Q fuel listed fr σ i) : WC P c R1 T ops Q (fuel + 1) listed fr σ :=
  fun ρ w a S ha hS => ⟨fun h0 => absurd (hr ▸ h0) hne, hr ▸ fun i hi => h i hi ρ w a S ha hS⟩
theorem WC.one {i : Nat} (hr : Region.ready .any ops listed = [i]) (h : WIC P c R1 T ops Q fuel listed fr σ i) : WC P c R1 T ops Q (fuel + 1) listed fr σ :=
  WC.all hr sI0 (by simpa using h)
theorem WIC.op {i : Nat} {x : IV} {σ' : Heap'} {fr' : Fr} (hi : ops[i]? = some o) (hg : o.guard = none) (hfr : fr' = fr.put o.dst x) (hn : ∀ t, o.dst = some t -> Nat.blt t c.n = true) (hR : ∀ k, c.R k -> R1 k) (hnew : ∀ k, σ k = none -> σ' k ≠ none -> c.σ k = none)
    (hok : ∀ ρ w, Ok P ⟨c.F, R1, ρ, σ, w, c.n⟩ o fr σ x σ') (h : WC P c R1 T ops Q fuel (listed.setIfInBounds i true) fr' σ') : WIC P c R1 T ops Q fuel listed fr σ i := by
  intro ρ w a S ha hS
  unfold wpOp
  simp only [hi]
  rw [if_pos (by simp [Region.wanted, hg])]
  refine .inl (hok ρ w ρ w a _ _ ⟨ha.rel, ha.fr, .refl _ _ _ _ _, ha.df, ha.sz⟩ fun ρ' w' v ha' hv => ?_)
  have hall : All c ρ' σ' w' fr a := ⟨ha'.rel, ha'.fr, ha.tr.trans ha'.tr hR hnew, ha'.df, ha'.sz⟩
  refine ⟨fun _ => hS w' (SameFor.of ha.rel ha'.tr), h ρ' w' _ S ?_ fun w'' h'' => hS w'' (SameFor.trans ha.rel ha'.tr h'')⟩
  rw [hfr]
  exact hall.put hv fun t ht => by simpa using hn t ht
theorem WIC.last {i : Nat} {R2 : Nat -> Prop} {x : IV} {σ' : Heap'} {fr' : Fr} (hT : z67 T (listed.setIfInBounds i true) = false) (hi : ops[i]? = some o) (hg : o.guard = none) (hfr : fr' = fr.put o.dst x) (hn : ∀ t, o.dst = some t -> Nat.blt t c.n = true) (hR : ∀ k, c.R k -> R2 k) (hnew : ∀ k, σ k = none -> σ' k ≠ none -> c.σ k = none)
    (hok : ∀ ρ w, Ok P ⟨c.F, R2, ρ, σ, w, c.n⟩ o fr σ x σ') (h : WA P c R2 ops Q fuel (listed.setIfInBounds i true) fr' σ') : WIC P c R1 T ops Q fuel listed fr σ i := by
  intro ρ w a S ha hS
  unfold wpOp
  simp only [hi]
  rw [if_pos (by simp [Region.wanted, hg])]
  refine .inl (hok ρ w ρ w a _ _ ⟨ha.rel, ha.fr, .refl _ _ _ _ _, ha.df, ha.sz⟩ fun ρ' w' v ha' hv => ?_)
  have hall : All c ρ' σ' w' fr a := ⟨ha'.rel, ha'.fr, ha.tr.trans ha'.tr hR hnew, ha'.df, ha'.sz⟩
  refine ⟨fun h => (by rw [hT] at h; cases h), z9s fuel _ _ _ hT (wpAny_of_held _ _ _ _ (h ρ' w' _ (SameFor c.F R2 ρ' w') ?_ fun w'' h'' => h''))⟩
  rw [hfr]
  exact hall.put hv fun t ht => by simpa using hn t ht
theorem Tr.drawnC {id : Nat} (hm : P.follows .mixedOrders = true) (R1 : Nat -> Prop) (T : List Nat) (h : WC P c R1 T ops Q ops.size (Array.replicate ops.size false) fr σ) : Tr P c (.region id ops true) fr σ Q :=
  fun ρ w a ha => wp_region_any hm (z8g _ _ _ _ (h ρ _ a (SameFor c.F R1 ρ { w with drawn := w.drawn + 1 }) ha.drew fun _ h => h))
end
end Go.Proofs.YtiflpehjefhnmaaGreat
