/- PART 5 of 6 of a proof: see the last part. -/
import Derived.Test.YtfaeemilgahcpaaGreatHs4
set_option maxRecDepth 8000
set_option maxHeartbeats 2000000
set_option linter.unusedSimpArgs false
set_option linter.unusedVariables false
set_option linter.unusedSectionVars false
namespace Go.Proofs.YtfaeemilgahcpaaGreat
open Go
theorem sc_shTypes (u : Un) (f : Fl) (st : List Int) (hs : st.length = f.types.length) (l : List Int) (hb : l.length ≤ 1073741824) : SC Tryz.prog 109 [.ptr 3 0, .pv (ints l)] (ckS u f 3 st) (fun k => k < 100) (.pv (ints (r8of f.types l))) (ckS u f 3 st) := by
  refine SC.of Tryz.func109 rfl (lb rfl) fun F ρ w => ?_
  refine Tr.lenOf (t := 1) rfl (fun hl => ?_)
  simp only [List.length_map] at hl
  rw [r8of_eq]
  refine tQ <| tG <| sm 1 rfl <| nL <| tQ <| tQ <| Tr.grow (t := 4) (k := 104) ⟨3, 1⟩ rfl rfl rfl rfl rfl <| tG <| sm 1 rfl <| cV rfl (oSm uT35 rfl) <| sm 1 rfl <| nL ?_
  refine tBk <| Tr.sub (Sub.of (fr' := [(9, iInt 0), (8, iInt l.length), (7, .pv (ints l)), (4, .sl 104 0), (0, .ptr 3 0)]) ⟨rfl, rfl, rfl, rfl, rfl, trivial⟩) ?_
  refine Tr.loop (fun fr σ m => ∃ (k : Nat) (acc : List Int), (k ≤ l.length) ∧ (acc.length = k) ∧ (r8ofGo f.types [] l = r8ofGo f.types acc (l.drop k)) ∧ fr = [(9, iInt k), (8, iInt l.length), (7, .pv (ints l)), (4, .sl 104 k), (0, .ptr 3 0)] ∧ σ = look ((104, some (.row ⟨3, 1⟩ (acc.map eInt))) :: up (ckS u f 3 st)) ∧ m = l.length - k) (n := l.length - 0) ?_ ?_
  ·exact ⟨0, [], Nat.zero_le _, rfl, rfl, rfl, rfl, rfl⟩
  rintro fr σ m ⟨k, acc, hI0, hI1, hI2, rfl, rfl, rfl⟩
  refine tQ <| tG <| sm 1 rfl <| nL <| tQ ?_
  refine tC rfl (fun hc10 => ?_) fun hc10 => ?_
  ·have hlt : k < l.length := by simpa using hc10
   have hd := List.drop_eq_getElem_cons hlt
   have hm := List.getElem_mem hlt
   have hi := map_get (f := eInt) (List.getElem?_eq_getElem hlt)
   generalize l[k] = x at hd hm hi
   refine tSk <| tQ <| tBk <| tQ <| tG <| cV rfl (iSq rfl rfl rfl uT35 hi tS3 rfl (by rfl)) <| sm 2 rfl <| nL <| tQ <| tQ <| tG <| sm 2 rfl ?_
   refine cE rfl (ocr (sc_shVal u f st x 0) ent118 rfl (po2 rfl rfl) rfl (fun k (h : _) => .inr trivial) rfl rfl) <| sm 1 rfl <| nL ?_
   refine tC rfl (fun hc16 => ?_) fun hc16 => ?_
   ·refine tQ <| tG <| sm 1 rfl <| nL <| tRt ?_
    have hin : r8inr f.types x = false := by
      cases hr : r8inr f.types x with
      | false => rfl
      | true => simp [r8inr] at hr; simp [shVal] at hc16; omega
    rw [hI2, hd]
    simp only [r8ofGo, hin]
    exact ⟨⟨_, rfl, fun _ _ _ _ h => sub_nil h⟩, (po2 rfl rfl)⟩
   have hin : r8inr f.types x = true := by simp [shVal] at hc16; simp [r8inr]; omega
   have hv0 : x.toNat < f.types.length := by simp [r8inr] at hin; omega
   have hvx : x = ((x.toNat : Nat) : Int) := by simp [r8inr] at hin; omega
   have hty : (f.types.map eInt)[x.toNat]? = some [vInt (f.types.getD x.toNat 0)] := by rw [List.getElem?_map]; simp [eInt, List.getD, hv0]
   refine tSk <| tG <| sm 2 rfl <| cV rfl (nCk rfl rfl rfl) <| sm 4 rfl <| cV rfl (iSq rfl rfl rfl uT35 hty tS3 rfl (by omega)) <| sm 1 rfl <| cE rfl (bSl rfl rfl uT35 tZ3 tS3 rfl rfl rfl rfl (fbk rfl) rfl) ?_
   refine cE rfl (aPp rfl rfl rfl rfl (by (simp; omega)) (by simp) uT35 tB3 (by decide) (by (simp [chunks]; done)) (by (simp [chunks, PV.one]; rfl)) (by simp [maxLen, chunks]; omega) (by simp [chunks]; omega)) ?_
   refine sm 1 rfl <| nL <| tG <| cV rfl (oB rfl rfl (i64_add rfl (by omega))) <| sm 1 rfl <| nL ?_
   refine ⟨_, _, ?_, Sub.of (fr' := [(9, iInt (k + 1)), (8, iInt l.length), (7, .pv (ints l)), (4, .sl 104 (k + 1)), (0, .ptr 3 0)]) ⟨rfl, rfl, rfl, rfl, rfl, trivial⟩, (k + 1), (acc ++ [f.types.getD x.toNat 0]), ?_, ?_, ?_, rfl, look_row_snoc2, rfl⟩
   ·omega
   ·omega
   ·simp [hI1]
   rw [hI2, hd]
   simp [r8ofGo, hin]
  refine tEx <| tQ ?_
  refine Tr.freeze (t := 4) (k := 104) rfl rfl (by simpa using hI1) ?_
  refine tG <| sm 2 rfl <| nL <| tRt <| rOk rfl ?_ (po2 rfl rfl)
  have hge : l.length ≤ k := by simpa using hc10
  rw [hI2, List.drop_eq_nil_of_le hge]
  rfl
theorem sc_shSum (u : Un) (f : Fl) (st : List Int) (hs : st.length = f.types.length) (x : Nd) : SC Tryz.prog 113 [.ptr 3 0, .pv (ndv x)] (ckS u f 3 st) (fun k => k = 3) (iBool (shSum f st x).1) (ckS u f 3 (shSum f st x).2) := by
  refine SC.of Tryz.func113 rfl (lb rfl) fun F ρ w => ?_
  refine tQ <| tG <| cE rfl (ok_box rfl rfl) <| sm 1 rfl <| nL <| tQ <| tG <| sm 2 rfl <| cE rfl (ocq (sc_shOperand _) ent122 rfl rfl) <| sm 1 rfl <| cV rfl (ok_extract rfl rfl rfl) <| cV rfl (ok_extract rfl rfl rfl) ?_
  refine sm 2 rfl <| nL <| tQ <| tQ <| tG <| sm 3 rfl <| nL ?_
  refine tC rfl (fun hc16 => ?_) fun hc16 => ?_
  ·refine tQ <| tG <| sm 4 rfl ?_
   refine wS 20 rfl (fun hb20 => ?_) fun hb20 => ?_
   ·refine sm 5 rfl ?_
    refine wS 25 rfl (fun hb25 => ?_) fun hb25 => ?_
    ·refine sm 4 rfl <| WL.yes rfl rfl rfl rfl rfl rfl (bSl rfl rfl uT35 tZ3 tS3 rfl rfl rfl rfl (fbk rfl) rfl) <| WL.yes rfl rfl rfl rfl rfl rfl (cRr (sc_shUses u f st hs x.args [(shOperand x.op).1]) ent110 rfl rfl (sRf _ _) (po2 rfl rfl) (by rfl) (fun k (h : _) => .inr trivial) rfl (by rfl)) <| sm 2 rfl ?_
     refine wS 33 rfl (fun hb33 => ?_) fun hb33 => ?_
     ·refine sm 4 rfl <| WL.yes rfl rfl rfl rfl rfl rfl (bSl rfl rfl uT35 tZ3 tS3 rfl rfl rfl rfl (fbk rfl) rfl) <| WL.yes rfl rfl rfl rfl rfl rfl (cRr (sc_shSets u f st hs x.outs [(shOperand x.op).2]) ent112 rfl rfl (sRf _ _) (po2 rfl rfl) (by rfl) (fun k (h : _) => .inr h) rfl (by rfl)) <| sm 2 rfl <| nL <| tRt ?_
      (have h2 : (shSum f st x).2 = (shSets f.types st x.outs [(shOperand x.op).2]).2 := (by simp_all [shSum, r1IsOne, andP]; done)
       rw [h2]
       refine rOk rfl ?_ (po2 rfl rfl)
       clear h2
       skip
       simp_all [shSum, r1IsOne, andP]
       done)
     refine sm 8 rfl <| nL <| tRt ?_
     (have h2 : (shSum f st x).2 = st := (by simp_all [shSum, r1IsOne, andP]; done)
      rw [h2]
      refine rOk rfl ?_ (po2 rfl rfl)
      clear h2
      skip
      simp_all [shSum, r1IsOne, andP]
      done)
    refine sm 16 rfl <| nL <| tRt ?_
    (have h2 : shSum f st x = (false, st) := (by (first | (simp_all [shSum, r1IsOne, andP]; done) | (simp_all [shSum, r1IsOne, andP] <;> omega)))
     rw [h2]
     exact rOk rfl rfl (po2 rfl rfl))
   refine sm 21 rfl <| nL <| tRt ?_
   (have h2 : shSum f st x = (false, st) := (by (first | (simp_all [shSum, r1IsOne, andP]; done) | (simp_all [shSum, r1IsOne, andP] <;> omega)))
    rw [h2]
    exact rOk rfl rfl (po2 rfl rfl))
  refine tSk <| tQ <| tG <| sm 2 rfl <| cE rfl (ocq (sc_wLevel _) ent123 rfl rfl) <| sm 2 rfl ?_
  refine wS 45 rfl (fun hb45 => ?_) fun hb45 => ?_
  ·refine sm 5 rfl ?_
   refine wS 50 rfl (fun hb50 => ?_) fun hb50 => ?_
   ·refine sm 5 rfl <| WL.yes rfl rfl rfl rfl rfl rfl (bSl rfl rfl uT35 tZ3 tS3 rfl rfl rfl rfl (fbk rfl) rfl) <| WL.yes rfl rfl rfl rfl rfl rfl (cRr (sc_shUses u f st hs x.args [(shOperand x.op).1, (shOperand x.op).1]) ent110 rfl rfl (sRf _ _) (po2 rfl rfl) (by rfl) (fun k (h : _) => .inr trivial) rfl (by rfl)) <| sm 2 rfl <| nL <| tQ <| tDr mixed (fun k => k ∈ ([3] : List Nat)) <| wR 4 [0, 1, 2, 3, 4, 5, 6, 7, 8, 9, 10, 11, 12, 13, 14, 15, 16, 17, 18, 19, 20, 21, 22, 23, 24, 25, 26, 27, 28, 29, 30] (by kernel_rfl) (fun _ _ _ h => h) <| smR 2 rfl ?_
    refine WR.split (t := 60) rfl (fun hb60 => ?_) (fun hb60 => ?_)
    ·obtain ⟨a, b, hab, ha0, hal, hb0, hbl⟩ := shUses_two (by simpa using hb60)
     have hi0 : (x.args.map eInt)[0]? = some [vInt a] := by rw [hab]; rfl
     have hi1 : (x.args.map eInt)[1]? = some [vInt b] := by rw [hab]; rfl
     have hta : (f.types.map eInt)[a.toNat]? = some [vInt (f.types.getD a.toNat 0)] := by rw [List.getElem?_map]; simp [eInt, List.getD, hal]
     have htb : (f.types.map eInt)[b.toNat]? = some [vInt (f.types.getD b.toNat 0)] := by rw [List.getElem?_map]; simp [eInt, List.getD, hbl]
     refine smR 1 rfl <| ryV rfl rfl rfl (nCk rfl rfl rfl) <| smR 2 rfl <| ryV rfl rfl rfl (oLb uT35 rfl rfl rfl (by decide)) <| smR 2 rfl <| ryV rfl rfl rfl (iSq rfl rfl rfl uT35 hi0 tS3 rfl (by rfl)) <| smR 1 rfl <| ryV rfl rfl rfl (iSq rfl rfl rfl uT35 hta tS3 rfl (by omega)) <| smR 2 rfl <| ryV rfl rfl rfl (nCk rfl rfl rfl) <| smR 2 rfl <| ryV rfl rfl rfl (oLb uT35 rfl rfl rfl (by decide)) ?_
     refine smR 2 rfl <| ryV rfl rfl rfl (iSq rfl rfl rfl uT35 hi1 tS3 rfl (by rfl)) <| smR 1 rfl <| ryV rfl rfl rfl (iSq rfl rfl rfl uT35 htb tS3 rfl (by omega)) <| smR 4 rfl ?_
     refine WR.split (t := 85) rfl (fun hb85 => ?_) (fun hb85 => ?_)
     ·refine smR 4 rfl <| nR <| wO 31 (by kernel_rfl) <| wY rfl rfl rfl (fun k (h : _) => by (simp at h ⊢; omega)) nw (fun _ _ => bSl rfl rfl uT35 tZ3 tS3 rfl rfl rfl rfl (fbk rfl) rfl) <| wO 32 (by kernel_rfl) <| wY rfl rfl rfl (fun k (h : _) => by (simp at h ⊢; omega)) (nAp rfl) (fun _ _ => ocr (sc_shSets u f st hs x.outs [(shOperand x.op).2]) ent112 rfl (po2 rfl rfl) rfl (fun k (h : _) => by (simp only [List.mem_cons, List.not_mem_nil, or_false] at h; rcases h with rfl <;> first | exact .inl rfl | exact .inr rfl | exact .inr (by decide))) rfl rfl) <| wR 0 [33, 34] (by kernel_rfl) (fun _ _ _ h => h) <| smR 2 rfl <| nR <| wDn (by kernel_rfl) <| tRt ?_
      (have h2 : (shSum f st x).2 = (shSets f.types st x.outs [(shOperand x.op).2]).2 := (by (try (clear ha0 hb0)); simp_all [shSum, andP]; done)
       rw [h2]
       refine rOk rfl ?_ (po2 rfl rfl)
       clear h2
       try (clear ha0 hb0)
       simp_all [shSum, andP]
       done)
     refine smR 4 rfl <| nR <| wN 31 (by kernel_rfl) (fun _ _ _ h => h) rfl rfl rfl <| wN 32 (by kernel_rfl) (fun _ _ _ h => h) rfl rfl rfl <| wR 0 [33, 34] (by kernel_rfl) (fun _ _ _ h => h) <| smR 2 rfl <| nR <| wDn (by kernel_rfl) <| tRt ?_
     (have h2 : (shSum f st x).2 = st := (by (try (clear ha0 hb0)); simp_all [shSum, andP]; done)
      rw [h2]
      refine rOk rfl ?_ (po2 rfl rfl)
      clear h2
      try (clear ha0 hb0)
      simp_all [shSum, andP]
      done)
    refine smR 29 rfl <| nR <| wN 31 (by kernel_rfl) (fun _ _ _ h => h) rfl rfl rfl <| wN 32 (by kernel_rfl) (fun _ _ _ h => h) rfl rfl rfl <| wR 0 [33, 34] (by kernel_rfl) (fun _ _ _ h => h) <| smR 2 rfl <| nR <| wDn (by kernel_rfl) <| tRt ?_
    (have h2 : (shSum f st x).2 = st := (by (try (clear ha0 hb0)); simp_all [shSum, andP]; done)
     rw [h2]
     refine rOk rfl ?_ (po2 rfl rfl)
     clear h2
     try (clear ha0 hb0)
     simp_all [shSum, andP]
     done)
   refine sm 9 rfl <| nL <| tQ <| tDr mixed (fun k => k ∈ ([3] : List Nat)) <| wR 4 [0, 1, 2, 3, 4, 5, 6, 7, 8, 9, 10, 11, 12, 13, 14, 15, 16, 17, 18, 19, 20, 21, 22, 23, 24, 25, 26, 27, 28, 29, 30] (by kernel_rfl) (fun _ _ _ h => h) <| smR 31 rfl <| nR <| wN 31 (by kernel_rfl) (fun _ _ _ h => h) rfl rfl rfl <| wN 32 (by kernel_rfl) (fun _ _ _ h => h) rfl rfl rfl <| wR 0 [33, 34] (by kernel_rfl) (fun _ _ _ h => h) <| smR 2 rfl <| nR ?_
   refine wDn (by kernel_rfl) <| tRt ?_
   (have h2 : shSum f st x = (false, st) := (by (try (clear ha0 hb0)); (first | (simp_all [shSum, andP]; done) | (simp_all [shSum, andP] <;> omega)))
    rw [h2]
    exact rOk rfl rfl (po2 rfl rfl))
  refine sm 14 rfl <| nL <| tQ <| tDr mixed (fun k => k ∈ ([3] : List Nat)) <| wR 4 [0, 1, 2, 3, 4, 5, 6, 7, 8, 9, 10, 11, 12, 13, 14, 15, 16, 17, 18, 19, 20, 21, 22, 23, 24, 25, 26, 27, 28, 29, 30] (by kernel_rfl) (fun _ _ _ h => h) <| smR 31 rfl <| nR <| wN 31 (by kernel_rfl) (fun _ _ _ h => h) rfl rfl rfl <| wN 32 (by kernel_rfl) (fun _ _ _ h => h) rfl rfl rfl <| wR 0 [33, 34] (by kernel_rfl) (fun _ _ _ h => h) <| smR 2 rfl <| nR ?_
  refine wDn (by kernel_rfl) <| tRt ?_
  (have h2 : shSum f st x = (false, st) := (by (try (clear ha0 hb0)); (first | (simp_all [shSum, andP]; done) | (simp_all [shSum, andP] <;> omega)))
   rw [h2]
   exact rOk rfl rfl (po2 rfl rfl))
theorem sc_shEnd (u : Un) (f : Fl) (st : List Int) (hs : st.length = f.types.length) (x : Nd) (wh : Wh) : SC Tryz.prog 100 [.ptr 3 0, .pv (ndv x), .pv (whv wh)] (ckS u f 3 st) (fun k => k = 3) (iBool (shEnd f st x wh)) (ckS u f 3 st) := by
  refine SC.of Tryz.func100 rfl (lb rfl) fun F ρ w => ?_
  refine tQ <| tG <| cE rfl (ok_box rfl rfl) <| cE rfl (ok_box rfl rfl) <| sm 1 rfl <| nL <| tQ <| tG <| sm 2 rfl <| cV rfl (oSm uT35 rfl) <| sm 2 rfl <| nL ?_
  refine tQ <| tQ <| tG <| sm 2 rfl <| nL <| tBk <| tQ <| tG <| sm 2 rfl <| nL ?_
  refine tC rfl (fun hc14 => ?_) fun hc14 => ?_
  ·refine tQ <| tG <| sm 2 rfl ?_
   refine wS 17 rfl (fun hb17 => ?_) fun hb17 => ?_
   ·refine sm 4 rfl ?_
    refine wS 21 rfl (fun hb21 => ?_) fun hb21 => ?_
    ·refine sm 5 rfl <| WL.yes rfl rfl rfl rfl rfl rfl (cRr (sc_shUses u f st hs x.args wh.Yield) ent110 rfl rfl (sRf _ _) (po2 rfl rfl) (by rfl) (fun k (h : _) => .inr trivial) rfl (by rfl)) <| sm 2 rfl <| nL <| tRt <| rOk rfl ?_ (post_ok (And.intro rfl (And.intro rfl (trivial))))
     refine congrArg (fun b => iBool b) ?_
     simp_all [shEnd]
    refine sm 8 rfl <| nL <| tRt <| rOk rfl ?_ (post_ok (And.intro rfl (And.intro rfl (trivial))))
    refine congrArg (fun b => iBool b) ?_
    simp_all [shEnd]
   refine sm 12 rfl <| nL <| tRt <| rOk rfl ?_ (post_ok (And.intro rfl (And.intro rfl (trivial))))
   refine congrArg (fun b => iBool b) ?_
   simp_all [shEnd]
  refine tQ <| tG <| sm 2 rfl <| nL ?_
  refine tC rfl (fun hc29 => ?_) fun hc29 => ?_
  ·refine tQ <| tG <| sm 2 rfl ?_
   refine wS 32 rfl (fun hb32 => ?_) fun hb32 => ?_
   ·refine sm 4 rfl ?_
    refine wS 36 rfl (fun hb36 => ?_) fun hb36 => ?_
    ·refine sm 5 rfl <| WL.yes rfl rfl rfl rfl rfl rfl (cRr (sc_shUses u f st hs x.args wh.Next) ent110 rfl rfl (sRf _ _) (po2 rfl rfl) (by rfl) (fun k (h : _) => .inr trivial) rfl (by rfl)) <| sm 2 rfl <| nL <| tRt <| rOk rfl ?_ (post_ok (And.intro rfl (And.intro rfl (trivial))))
     refine congrArg (fun b => iBool b) ?_
     simp_all [shEnd]
    refine sm 8 rfl <| nL <| tRt <| rOk rfl ?_ (post_ok (And.intro rfl (And.intro rfl (trivial))))
    refine congrArg (fun b => iBool b) ?_
    simp_all [shEnd]
   refine sm 12 rfl <| nL <| tRt <| rOk rfl ?_ (post_ok (And.intro rfl (And.intro rfl (trivial))))
   refine congrArg (fun b => iBool b) ?_
   simp_all [shEnd]
  refine tQ <| tG <| sm 2 rfl <| nL ?_
  refine tC rfl (fun hc44 => ?_) fun hc44 => ?_
  ·refine tQ <| tG <| sm 2 rfl ?_
   refine wS 47 rfl (fun hb47 => ?_) fun hb47 => ?_
   ·refine sm 4 rfl ?_
    refine wS 51 rfl (fun hb51 => ?_) fun hb51 => ?_
    ·refine sm 5 rfl <| WL.yes rfl rfl rfl rfl rfl rfl (cRr (sc_shUses u f st hs x.args wh.Left) ent110 rfl rfl (sRf _ _) (po2 rfl rfl) (by rfl) (fun k (h : _) => .inr trivial) rfl (by rfl)) <| sm 2 rfl <| nL <| tRt <| rOk rfl ?_ (post_ok (And.intro rfl (And.intro rfl (trivial))))
     refine congrArg (fun b => iBool b) ?_
     simp_all [shEnd]
    refine sm 8 rfl <| nL <| tRt <| rOk rfl ?_ (post_ok (And.intro rfl (And.intro rfl (trivial))))
    refine congrArg (fun b => iBool b) ?_
    simp_all [shEnd]
   refine sm 12 rfl <| nL <| tRt <| rOk rfl ?_ (post_ok (And.intro rfl (And.intro rfl (trivial))))
   refine congrArg (fun b => iBool b) ?_
   simp_all [shEnd]
  refine tSk <| tQ <| tDr mixed (fun k => k ∈ ([3, 4] : List Nat)) <| wR 4 [0, 1, 2, 3, 4, 5, 6, 7, 8, 9] (by kernel_rfl) (fun _ _ _ h => h) <| smR 2 rfl ?_
  refine WR.split (t := 60) rfl (fun hb60 => ?_) (fun hb60 => ?_)
  ·refine smR 4 rfl <| ryV rfl rfl rfl (nCk rfl rfl rfl) <| smR 2 rfl <| ryV rfl rfl rfl (oLb Tryz.underlying3 rfl rfl rfl (by decide)) <| nR <| wO 10 (by kernel_rfl) <| wY rfl rfl rfl (fun k (h : _) => by (simp at h ⊢; omega)) nw (fun _ _ => bSl rfl rfl uT35 tZ3 tS3 rfl rfl rfl rfl (fbk rfl) rfl) <| wO 11 (by kernel_rfl) <| wY rfl rfl rfl (fun k (h : _) => by (simp at h ⊢; omega)) (nAp rfl) (fun _ _ => ocr (sc_shUses u f st hs x.args [f.ty]) ent110 rfl (po2 rfl rfl) rfl (fun k (h : _) => .inr trivial) rfl rfl) <| wR 0 [12, 13] (by kernel_rfl) (fun _ _ _ h => h) <| smR 2 rfl <| nR ?_
   refine wDn (by kernel_rfl) <| tRt <| rOk rfl ?_ (post_ok (And.intro rfl (And.intro rfl (trivial))))
   refine congrArg (fun b => iBool b) ?_
   simp_all [shEnd]
  refine smR 8 rfl <| nR <| wN 10 (by kernel_rfl) (fun _ _ _ h => h) rfl rfl rfl <| wN 11 (by kernel_rfl) (fun _ _ _ h => h) rfl rfl rfl <| wR 0 [12, 13] (by kernel_rfl) (fun _ _ _ h => h) <| smR 2 rfl <| nR <| wDn (by kernel_rfl) <| tRt <| rOk rfl ?_ (post_ok (And.intro rfl (And.intro rfl (trivial))))
  refine congrArg (fun b => iBool b) ?_
  simp_all [shEnd]
theorem sc_shSimple (u : Un) (f : Fl) (st : List Int) (hs : st.length = f.types.length) (hg : ∀ g ∈ u.flows, 0 ≤ g.params ∧ g.params ≤ g.types.length) (x : Nd) : SC Tryz.prog 101 [.ptr 3 0, .pv (ndv x)] (ckS u f 3 st) (fun k => k = 3) (iBool (shSimple u f st x).1) (ckS u f 3 (shSimple u f st x).2) := by
  refine SC.of Tryz.func101 rfl (lb rfl) fun F ρ w => ?_
  refine tQ <| tG <| cE rfl (ok_box rfl rfl) <| sm 1 rfl <| nL <| tQ <| tQ <| tG <| sm 2 rfl <| nL <| tBk <| tQ ?_
  refine tG <| sm 2 rfl <| nL ?_
  refine tC rfl (fun hc9 => ?_) fun hc9 => ?_
  ·refine tQ <| tG <| sm 3 rfl <| cE rfl (cRr (sc_shUses u f st hs x.args []) ent110 rfl rfl (sSm rfl (sSm rfl (Subs.cons (fun _ _ _ _ h => sub_nil h) Subs.nil))) (po2 rfl rfl) (by rfl) (fun k (h : _) => .inr trivial) rfl (by rfl)) <| sm 1 rfl ?_
   refine wS 15 rfl (fun hb15 => ?_) fun hb15 => ?_
   ·refine sm 3 rfl <| WL.yes rfl rfl rfl rfl rfl rfl (bSl rfl rfl uT35 tZ3 tS3 rfl rfl rfl rfl (fbk rfl) rfl) <| WL.yes rfl rfl rfl rfl rfl rfl (cRr (sc_shSets u f st hs x.outs [1]) ent112 rfl rfl (sRf _ _) (po2 rfl rfl) (by rfl) (fun k (h : _) => .inr h) rfl (by rfl)) <| sm 2 rfl <| nL <| tRt ?_
    (have h2 : (shSimple u f st x).2 = (shSets f.types st x.outs [1]).2 := (by simp_all [shSimple, andP]; done)
     rw [h2]
     refine rOk rfl ?_ (po2 rfl rfl)
     clear h2
     skip
     simp_all [shSimple, andP]
     done)
   refine sm 7 rfl <| nL <| tRt ?_
   (have h2 : (shSimple u f st x).2 = st := (by simp_all [shSimple, andP]; done)
    rw [h2]
    refine rOk rfl ?_ (po2 rfl rfl)
    clear h2
    skip
    simp_all [shSimple, andP]
    done)
  refine tQ <| tG <| sm 2 rfl <| nL ?_
  refine tC rfl (fun hc22 => ?_) fun hc22 => ?_
  ·refine tQ <| tG <| sm 4 rfl ?_
   refine wS 27 rfl (fun hb27 => ?_) fun hb27 => ?_
   ·refine sm 8 rfl <| WL.yes rfl rfl rfl rfl rfl rfl (cRr (sc_shUses u f st hs x.args []) ent110 rfl rfl (sSm rfl (sSm rfl (Subs.cons (fun _ _ _ _ h => sub_nil h) Subs.nil))) (po2 rfl rfl) (by rfl) (fun k (h : _) => .inr trivial) rfl (by rfl)) <| sm 2 rfl ?_
    refine wS 38 rfl (fun hb38 => ?_) fun hb38 => ?_
    ·refine sm 3 rfl <| WL.yes rfl rfl rfl rfl rfl rfl (bSl rfl rfl uT35 tZ3 tS3 rfl rfl rfl rfl (fbk rfl) rfl) <| WL.yes rfl rfl rfl rfl rfl rfl (cRr (sc_shSets u f st hs x.outs [2]) ent112 rfl rfl (sRf _ _) (po2 rfl rfl) (by rfl) (fun k (h : _) => .inr h) rfl (by rfl)) <| sm 2 rfl <| nL <| tRt ?_
     (have h2 : (shSimple u f st x).2 = (shSets f.types st x.outs [2]).2 := (by simp_all [shSimple, andP]; done)
      rw [h2]
      refine rOk rfl ?_ (po2 rfl rfl)
      clear h2
      skip
      simp_all [shSimple, andP]
      done)
    refine sm 7 rfl <| nL <| tRt ?_
    (have h2 : (shSimple u f st x).2 = st := (by simp_all [shSimple, andP]; done)
     rw [h2]
     refine rOk rfl ?_ (po2 rfl rfl)
     clear h2
     skip
     simp_all [shSimple, andP]
     done)
   refine sm 5 rfl ?_
   refine wS 32 rfl (fun hb32 => ?_) fun hb32 => ?_
   ·refine sm 3 rfl <| WL.yes rfl rfl rfl rfl rfl rfl (cRr (sc_shUses u f st hs x.args []) ent110 rfl rfl (sSm rfl (sSm rfl (Subs.cons (fun _ _ _ _ h => sub_nil h) Subs.nil))) (po2 rfl rfl) (by rfl) (fun k (h : _) => .inr trivial) rfl (by rfl)) <| sm 2 rfl ?_
    refine wS 38 rfl (fun hb38 => ?_) fun hb38 => ?_
    ·refine sm 3 rfl <| WL.yes rfl rfl rfl rfl rfl rfl (bSl rfl rfl uT35 tZ3 tS3 rfl rfl rfl rfl (fbk rfl) rfl) <| WL.yes rfl rfl rfl rfl rfl rfl (cRr (sc_shSets u f st hs x.outs [2]) ent112 rfl rfl (sRf _ _) (po2 rfl rfl) (by rfl) (fun k (h : _) => .inr h) rfl (by rfl)) <| sm 2 rfl <| nL <| tRt ?_
     (have h2 : (shSimple u f st x).2 = (shSets f.types st x.outs [2]).2 := (by simp_all [shSimple, andP]; done)
      rw [h2]
      refine rOk rfl ?_ (po2 rfl rfl)
      clear h2
      skip
      simp_all [shSimple, andP]
      done)
    refine sm 7 rfl <| nL <| tRt ?_
    (have h2 : (shSimple u f st x).2 = st := (by simp_all [shSimple, andP]; done)
     rw [h2]
     refine rOk rfl ?_ (po2 rfl rfl)
     clear h2
     skip
     simp_all [shSimple, andP]
     done)
   refine sm 13 rfl <| nL <| tRt ?_
   (have h2 : (shSimple u f st x).2 = st := (by simp_all [shSimple, andP]; done)
    rw [h2]
    refine rOk rfl ?_ (po2 rfl rfl)
    clear h2
    skip
    simp_all [shSimple, andP]
    done)
  refine tQ <| tQ <| tG <| sm 2 rfl <| nL ?_
  refine tC rfl (fun hc45 => ?_) fun hc45 => ?_
  ·refine tSk ?_
   refine tC rfl (fun hc45 => ?_) fun hc45 => ?_
   ·refine tQ <| tG <| sm 1 rfl <| cV rfl (lEA rfl rfl uT42 rfl tS42 (lb rfl)) <| cE rfl (ocr (sc_shSum u f st hs x) ent113 rfl (po2 rfl rfl) rfl (fun k (h : _) => .inr h) rfl rfl) <| sm 1 rfl <| nL <| tRt ?_
    have h2 : shSimple u f st x = shSum f st x := by simp_all [shSimple]
    rw [h2]
    exact rOk rfl rfl (po2 rfl rfl)
   refine tQ <| tG <| sm 2 rfl <| nL ?_
   refine tC rfl (fun hc51 => ?_) fun hc51 => ?_
   ·refine tQ <| tDr mixed (fun k => k ∈ ([3] : List Nat)) <| wR 16 [0, 1, 2, 3, 4, 5] (by kernel_rfl) (fun _ _ _ h => h) <| smR 1 rfl <| rV rfl rfl (nCk rfl rfl rfl) <| smR 1 rfl <| rV rfl rfl (lBP rfl rfl rfl uT25 rfl tS25 (lb rfl) rfl (by decide)) <| smR 2 rfl <| nR <| wO 6 (by kernel_rfl) <| wI rfl rfl (fun k (h : _) => by (simp at h ⊢; omega)) nw (fun _ _ => ocq (sc_shHas _ _) ent114 rfl rfl) <| wR 11 [7, 8, 9, 10] (by kernel_rfl) (fun _ _ _ h => h) ?_
    refine smR 1 rfl ?_
    refine WR.split (t := 60) rfl (fun hb60 => ?_) (fun hb60 => ?_)
    ·refine smR 3 rfl <| nR <| wO 11 (by kernel_rfl) <| wY rfl rfl rfl (fun k (h : _) => by (simp at h ⊢; omega)) nw (fun _ _ => bSl rfl rfl uT35 tZ3 tS3 rfl rfl rfl rfl (fbk rfl) rfl) <| wO 12 (by kernel_rfl) <| wY rfl rfl rfl (fun k (h : _) => by (simp at h ⊢; omega)) (nAp rfl) (fun _ _ => ocr (sc_shUses u f st hs x.args [1]) ent110 rfl (po2 rfl rfl) rfl (fun k (h : _) => .inr trivial) rfl rfl) <| wR 4 [13, 14, 15, 16, 17] (by kernel_rfl) (fun _ _ _ h => h) <| smR 2 rfl ?_
     refine WR.split (t := 67) rfl (fun hb67 => ?_) (fun hb67 => ?_)
     ·refine smR 3 rfl <| nR <| wO 18 (by kernel_rfl) <| wY rfl rfl rfl (fun k (h : _) => by (simp at h ⊢; omega)) nw (fun _ _ => bSl rfl rfl uT35 tZ3 tS3 rfl rfl rfl rfl (fbk rfl) rfl) <| wO 19 (by kernel_rfl) <| wY rfl rfl rfl (fun k (h : _) => by (simp at h ⊢; omega)) (nAp rfl) (fun _ _ => ocr (sc_shSets u f st hs x.outs [1]) ent112 rfl (po2 rfl rfl) rfl (fun k (h : _) => by (simp only [List.mem_cons, List.not_mem_nil, or_false] at h; rcases h with rfl <;> first | exact .inl rfl | exact .inr rfl | exact .inr (by decide))) rfl rfl) <| wR 0 [20, 21] (by kernel_rfl) (fun _ _ _ h => h) <| smR 2 rfl <| nR <| wDn (by kernel_rfl) <| tRt ?_
      (have h2 : (shSimple u f st x).2 = (shSets f.types st x.outs [1]).2 := (by simp_all [shSimple, andP]; done)
       rw [h2]
       refine rOk rfl ?_ (po2 rfl rfl)
       clear h2
       skip
       simp_all [shSimple, andP]
       done)
     refine smR 3 rfl <| nR <| wN 18 (by kernel_rfl) (fun _ _ _ h => h) rfl rfl rfl <| wN 19 (by kernel_rfl) (fun _ _ _ h => h) rfl rfl rfl <| wR 0 [20, 21] (by kernel_rfl) (fun _ _ _ h => h) <| smR 2 rfl <| nR <| wDn (by kernel_rfl) <| tRt ?_
     (have h2 : (shSimple u f st x).2 = st := (by simp_all [shSimple, andP]; done)
      rw [h2]
      refine rOk rfl ?_ (po2 rfl rfl)
      clear h2
      skip
      simp_all [shSimple, andP]
      done)
    refine smR 3 rfl <| nR <| wN 11 (by kernel_rfl) (fun _ _ _ h => h) rfl rfl rfl <| wN 12 (by kernel_rfl) (fun _ _ _ h => h) rfl rfl rfl <| wR 4 [13, 14, 15, 16, 17] (by kernel_rfl) (fun _ _ _ h => h) <| smR 5 rfl <| nR <| wN 18 (by kernel_rfl) (fun _ _ _ h => h) rfl rfl rfl <| wN 19 (by kernel_rfl) (fun _ _ _ h => h) rfl rfl rfl <| wR 0 [20, 21] (by kernel_rfl) (fun _ _ _ h => h) <| smR 2 rfl <| nR ?_
    refine wDn (by kernel_rfl) <| tRt ?_
    (have h2 : (shSimple u f st x).2 = st := (by simp_all [shSimple, andP]; done)
     rw [h2]
     refine rOk rfl ?_ (po2 rfl rfl)
     clear h2
     skip
     simp_all [shSimple, andP]
     done)
   refine tQ <| tG <| sm 2 rfl <| nL ?_
   refine tC rfl (fun hc74 => ?_) fun hc74 => ?_
   ·refine tQ <| tDr mixed (fun k => k ∈ ([3] : List Nat)) <| wR 15 [0, 1, 2, 3, 4, 5] (by kernel_rfl) (fun _ _ _ h => h) <| smR 1 rfl <| rV rfl rfl (nCk rfl rfl rfl) <| smR 1 rfl <| rV rfl rfl (lBP rfl rfl rfl uT25 rfl tS25 (lb rfl) rfl (by decide)) <| smR 2 rfl <| nR <| wO 6 (by kernel_rfl) <| wI rfl rfl (fun k (h : _) => by (simp at h ⊢; omega)) nw (fun _ _ => ocq (sc_shHas _ _) ent114 rfl rfl) <| wR 10 [7, 8, 9, 10] (by kernel_rfl) (fun _ _ _ h => h) ?_
    refine smR 1 rfl ?_
    refine WR.split (t := 83) rfl (fun hb83 => ?_) (fun hb83 => ?_)
    ·refine smR 3 rfl <| nR <| wO 11 (by kernel_rfl) <| wY rfl rfl rfl (fun k (h : _) => by (simp at h ⊢; omega)) nw (fun _ _ => bSl rfl rfl uT35 tZ3 tS3 rfl rfl rfl rfl (fbk rfl) rfl) <| wO 12 (by kernel_rfl) <| wY rfl rfl rfl (fun k (h : _) => by (simp at h ⊢; omega)) (nAp rfl) (fun _ _ => ocr (sc_shUses u f st hs x.args [1, 1]) ent110 rfl (po2 rfl rfl) rfl (fun k (h : _) => .inr trivial) rfl rfl) <| wR 3 [13, 14, 15, 16, 17] (by kernel_rfl) (fun _ _ _ h => h) <| smR 2 rfl ?_
     refine WR.split (t := 90) rfl (fun hb90 => ?_) (fun hb90 => ?_)
     ·refine smR 3 rfl <| nR <| wO 18 (by kernel_rfl) <| wY rfl rfl rfl (fun k (h : _) => by (simp at h ⊢; omega)) (nAp rfl) (fun _ _ => cRr (sc_shSets u f st hs x.outs []) ent112 rfl rfl (sSm rfl (sSm rfl (Subs.cons (fun _ _ _ _ h => sub_nil h) Subs.nil))) (po2 rfl rfl) (by rfl) (fun k (h : _) => by (simp only [List.mem_cons, List.not_mem_nil, or_false] at h; rcases h with rfl <;> first | exact .inl rfl | exact .inr rfl | exact .inr (by decide))) rfl (by rfl)) <| wR 0 [19, 20] (by kernel_rfl) (fun _ _ _ h => h) <| smR 2 rfl <| nR <| wDn (by kernel_rfl) <| tRt ?_
      (have h2 : (shSimple u f st x).2 = (shSets f.types st x.outs []).2 := (by simp_all [shSimple, andP]; done)
       rw [h2]
       refine rOk rfl ?_ (po2 rfl rfl)
       clear h2
       skip
       simp_all [shSimple, andP]
       done)
     refine smR 3 rfl <| nR <| wN 18 (by kernel_rfl) (fun _ _ _ h => h) rfl rfl rfl <| wR 0 [19, 20] (by kernel_rfl) (fun _ _ _ h => h) <| smR 2 rfl <| nR <| wDn (by kernel_rfl) <| tRt ?_
     (have h2 : (shSimple u f st x).2 = st := (by simp_all [shSimple, andP]; done)
      rw [h2]
      refine rOk rfl ?_ (po2 rfl rfl)
      clear h2
      skip
      simp_all [shSimple, andP]
      done)
    refine smR 3 rfl <| nR <| wN 11 (by kernel_rfl) (fun _ _ _ h => h) rfl rfl rfl <| wN 12 (by kernel_rfl) (fun _ _ _ h => h) rfl rfl rfl <| wR 3 [13, 14, 15, 16, 17] (by kernel_rfl) (fun _ _ _ h => h) <| smR 5 rfl <| nR <| wN 18 (by kernel_rfl) (fun _ _ _ h => h) rfl rfl rfl <| wR 0 [19, 20] (by kernel_rfl) (fun _ _ _ h => h) <| smR 2 rfl <| nR <| wDn (by kernel_rfl) ?_
    refine tRt ?_
    (have h2 : (shSimple u f st x).2 = st := (by simp_all [shSimple, andP]; done)
     rw [h2]
     refine rOk rfl ?_ (po2 rfl rfl)
     clear h2
     skip
     simp_all [shSimple, andP]
     done)
   refine tQ <| tG <| sm 2 rfl <| nL ?_
   refine tC rfl (fun hc96 => ?_) fun hc96 => ?_
   ·refine tQ <| tG <| sm 3 rfl <| cE rfl (cRr (sc_shUses u f st hs x.args []) ent110 rfl rfl (sSm rfl (sSm rfl (Subs.cons (fun _ _ _ _ h => sub_nil h) Subs.nil))) (po2 rfl rfl) (by rfl) (fun k (h : _) => .inr trivial) rfl (by rfl)) <| sm 1 rfl ?_
    refine wS 102 rfl (fun hb102 => ?_) fun hb102 => ?_
    ·refine sm 3 rfl <| WL.yes rfl rfl rfl rfl rfl rfl (bSl rfl rfl uT35 tZ3 tS3 rfl rfl rfl rfl (fbk rfl) rfl) <| WL.yes rfl rfl rfl rfl rfl rfl (cRr (sc_shSets u f st hs x.outs [1]) ent112 rfl rfl (sRf _ _) (po2 rfl rfl) (by rfl) (fun k (h : _) => .inr h) rfl (by rfl)) <| sm 2 rfl <| nL <| tRt ?_
     (have h2 : (shSimple u f st x).2 = (shSets f.types st x.outs [1]).2 := (by simp_all [shSimple, andP]; done)
      rw [h2]
      refine rOk rfl ?_ (po2 rfl rfl)
      clear h2
      skip
      simp_all [shSimple, andP]
      done)
    refine sm 7 rfl <| nL <| tRt ?_
    (have h2 : (shSimple u f st x).2 = st := (by simp_all [shSimple, andP]; done)
     rw [h2]
     refine rOk rfl ?_ (po2 rfl rfl)
     clear h2
     skip
     simp_all [shSimple, andP]
     done)
   refine tQ <| tG <| sm 2 rfl <| nL ?_
   refine tC rfl (fun hc109 => ?_) fun hc109 => ?_
   ·refine tQ <| tG <| sm 3 rfl <| cE rfl (bSl rfl rfl uT35 tZ3 tS3 rfl rfl rfl rfl (fbk rfl) rfl) <| cE rfl (ocr (sc_shUses u f st hs x.args [1]) ent110 rfl (po2 rfl rfl) rfl (fun k (h : _) => .inr trivial) rfl rfl) <| sm 1 rfl ?_
    refine wS 116 rfl (fun hb116 => ?_) fun hb116 => ?_
    ·refine sm 3 rfl <| WL.yes rfl rfl rfl rfl rfl rfl (cRr (sc_shSets u f st hs x.outs []) ent112 rfl rfl (sSm rfl (sSm rfl (Subs.cons (fun _ _ _ _ h => sub_nil h) Subs.nil))) (po2 rfl rfl) (by rfl) (fun k (h : _) => .inr h) rfl (by rfl)) <| sm 2 rfl <| nL <| tRt ?_
     (have h2 : (shSimple u f st x).2 = (shSets f.types st x.outs []).2 := (by simp_all [shSimple, andP]; done)
      rw [h2]
      refine rOk rfl ?_ (po2 rfl rfl)
      clear h2
      skip
      simp_all [shSimple, andP]
      done)
    refine sm 6 rfl <| nL <| tRt ?_
    (have h2 : (shSimple u f st x).2 = st := (by simp_all [shSimple, andP]; done)
     rw [h2]
     refine rOk rfl ?_ (po2 rfl rfl)
     clear h2
     skip
     simp_all [shSimple, andP]
     done)
   refine tQ <| tG <| sm 2 rfl <| nL ?_
   refine tC rfl (fun hc122 => ?_) fun hc122 => ?_
   ·refine tQ <| tDr mixed (fun k => k ∈ ([3] : List Nat)) <| wR 2 [0, 1, 2, 3, 4, 5] (by kernel_rfl) (fun _ _ _ h => h) <| smR 1 rfl <| rV rfl rfl (nCk rfl rfl rfl) <| smR 1 rfl <| rV rfl rfl (lBP rfl rfl rfl uT25 rfl tS25 (lb rfl) rfl (by decide)) <| smR 2 rfl <| nR <| wO 6 (by kernel_rfl) <| wI rfl rfl (fun k (h : _) => by (simp at h ⊢; omega)) nw (fun _ _ => ocq (sc_shPlace _ _) ent57 rfl rfl) <| wR 0 [7] (by kernel_rfl) (fun _ _ _ h => h) ?_
    refine smR 1 rfl <| nR <| wDn (by kernel_rfl) <| tQ <| tQ <| tG <| sm 2 rfl <| nL ?_
    refine tC rfl (fun hc132 => ?_) fun hc132 => ?_
    ·refine tQ <| tG <| sm 1 rfl <| nL <| tRt ?_
     (have h2 : (shSimple u f st x).2 = st := (by simp_all [shSimple, shCall, andP]; done)
      rw [h2]
      refine rOk rfl ?_ (po2 rfl rfl)
      clear h2
      skip
      simp_all [shSimple, shCall, andP]
      done)
    have hk0 : r8Place x.name u.flows 0 ≥ 0 := by simp at hc132; omega
    obtain ⟨g, hgk, _⟩ := r8Place_at hk0
    obtain ⟨hgp0, hgpl⟩ := hg g (List.mem_of_getElem? hgk)
    have hgp : g.params = (g.params.toNat : Int) := by omega
    have hgi : (u.flows.map Fl.enc)[(r8Place x.name u.flows 0).toNat]? = some (Fl.enc g) := by rw [List.getElem?_map, hgk]; rfl
    have hkn : r8Place x.name u.flows 0 = ((r8Place x.name u.flows 0).toNat : Int) := by omega
    have hnl : ¬ r8Place x.name u.flows 0 < 0 := by omega
    have hcall : shCall u f st x = andP (shUses f.types st x.args (g.types.take g.params.toNat)) st (shSets f.types st x.outs [g.ty]) := by
      unfold shCall
      rw [if_neg hnl, hgk]
    refine tSk <| tQ <| tG <| sm 1 rfl <| cV rfl (nCk rfl rfl rfl) <| sm 4 rfl <| cV rfl (iSq rfl rfl rfl uT23 hgi tS51 rfl (by omega)) <| cV rfl (lEA rfl rfl Tryz.underlying51 rfl tS51 (lb rfl)) <| cE rfl (aLc (k := 106) rfl tZ51 rfl rfl rfl rfl) <| c0 (sBA rfl rfl rfl rfl rfl (by simp) tS51 (flk rfl) (lb rfl)) <| nL <| tQ ?_
    refine Tr.freezeBox (t := 6) (k := 106) rfl rfl rfl ?_
    refine Tr.heap (σ' := look (up (ckS u f 3 st))) (fun k => by
      simp only [look]
      by_cases h : 106 = k
      · subst h; rfl
      · simp [beq_ne h]) ?_
    refine tDr mixed (fun k => k ∈ ([3] : List Nat)) <| wR 11 [0, 1, 2, 3, 4, 5, 6, 7] (by kernel_rfl) (fun _ _ _ h => h) <| smR 7 rfl ?_
    refine rV rfl rfl (ok_slice_seq (j := g.params.toNat) rfl rfl uT35 tS3 (.inl ⟨rfl, rfl⟩) (.inr ⟨_, _, rfl, congrArg (fun z => some (IV.pv (.val (.int .i64 z)))) hgp⟩) (Nat.zero_le _) (by simp; omega) (by simp [eInt])) ?_
    refine nR <| wO 8 (by kernel_rfl) ?_
    refine wI rfl rfl (fun k (h : _) => by (simp at h ⊢; omega)) (nAp rfl) (fun _ _ => cRr (sc_shUses u f st hs x.args (g.types.take g.params.toNat)) ent110 rfl rfl (sSm rfl (sSm rfl (sSm (by simp [ints, List.map_take]) Subs.nil))) (po2 rfl rfl) (by rfl) (fun k (h : _) => .inr trivial) rfl (by rfl)) ?_
    refine wR 4 [9, 10, 11, 12, 13, 14] (by kernel_rfl) (fun _ _ _ h => h) <| smR 1 rfl ?_
    refine WR.split (t := 150) rfl (fun hb150 => ?_) (fun hb150 => ?_)
    ·refine smR 5 rfl <| nR <| wO 15 (by kernel_rfl) <| wY rfl rfl rfl (fun k (h : _) => by (simp at h ⊢; omega)) nw (fun _ _ => bSl rfl rfl uT35 tZ3 tS3 rfl rfl rfl rfl (fbk rfl) rfl) <| wO 16 (by kernel_rfl) <| wY rfl rfl rfl (fun k (h : _) => by (simp at h ⊢; omega)) (nAp rfl) (fun _ _ => ocr (sc_shSets u f st hs x.outs [g.ty]) ent112 rfl (po2 rfl rfl) rfl (fun k (h : _) => by (simp only [List.mem_cons, List.not_mem_nil, or_false] at h; rcases h with rfl <;> first | exact .inl rfl | exact .inr rfl | exact .inr (by decide))) rfl rfl) <| wR 0 [17, 18] (by kernel_rfl) (fun _ _ _ h => h) <| smR 2 rfl <| nR <| wDn (by kernel_rfl) <| tRt ?_
     have hsim : shSimple u f st x = shCall u f st x := by
       clear hkn hgp hcall hnl
       simp_all [shSimple]
     rw [hsim, hcall]
     clear hsim hcall
     (have h2 : (andP (shUses f.types st x.args (g.types.take g.params.toNat)) st (shSets f.types st x.outs [g.ty])).2 = (shSets f.types st x.outs [g.ty]).2 := (by (try (clear hkn hgp)); simp_all [andP, andP]; done)
      rw [h2]
      refine rOk rfl ?_ (po2 rfl rfl)
      clear h2
      try (clear hkn hgp)
      simp_all [andP, andP]
      done)
    refine smR 5 rfl <| nR <| wN 15 (by kernel_rfl) (fun _ _ _ h => h) rfl rfl rfl <| wN 16 (by kernel_rfl) (fun _ _ _ h => h) rfl rfl rfl <| wR 0 [17, 18] (by kernel_rfl) (fun _ _ _ h => h) <| smR 2 rfl <| nR <| wDn (by kernel_rfl) <| tRt ?_
    have hsim : shSimple u f st x = shCall u f st x := by
      clear hkn hgp hcall hnl
      simp_all [shSimple]
    rw [hsim, hcall]
    clear hsim hcall
    (have h2 : (andP (shUses f.types st x.args (g.types.take g.params.toNat)) st (shSets f.types st x.outs [g.ty])).2 = st := (by (try (clear hkn hgp)); simp_all [andP, andP]; done)
     rw [h2]
     refine rOk rfl ?_ (po2 rfl rfl)
     clear h2
     try (clear hkn hgp)
     simp_all [andP, andP]
     done)
   refine tSk <| tQ <| tG <| sm 1 rfl <| nL <| tRt ?_
   (have h2 : (shSimple u f st x).2 = st := (by simp_all [shSimple, andP]; done)
    rw [h2]
    refine rOk rfl ?_ (po2 rfl rfl)
    clear h2
    skip
    simp_all [shSimple, andP]
    done)
  refine tG <| sm 2 rfl <| nL ?_
  refine tC rfl (fun hc45 => ?_) fun hc45 => ?_
  ·refine tQ <| tG <| sm 1 rfl <| cV rfl (lEA rfl rfl uT42 rfl tS42 (lb rfl)) <| cE rfl (ocr (sc_shSum u f st hs x) ent113 rfl (po2 rfl rfl) rfl (fun k (h : _) => .inr h) rfl rfl) <| sm 1 rfl <| nL <| tRt ?_
   have h2 : shSimple u f st x = shSum f st x := by simp_all [shSimple]
   rw [h2]
   exact rOk rfl rfl (po2 rfl rfl)
  refine tQ <| tG <| sm 2 rfl <| nL ?_
  refine tC rfl (fun hc51 => ?_) fun hc51 => ?_
  ·refine tQ <| tDr mixed (fun k => k ∈ ([3] : List Nat)) <| wR 16 [0, 1, 2, 3, 4, 5] (by kernel_rfl) (fun _ _ _ h => h) <| smR 1 rfl <| rV rfl rfl (nCk rfl rfl rfl) <| smR 1 rfl <| rV rfl rfl (lBP rfl rfl rfl uT25 rfl tS25 (lb rfl) rfl (by decide)) <| smR 2 rfl <| nR <| wO 6 (by kernel_rfl) <| wI rfl rfl (fun k (h : _) => by (simp at h ⊢; omega)) nw (fun _ _ => ocq (sc_shHas _ _) ent114 rfl rfl) <| wR 11 [7, 8, 9, 10] (by kernel_rfl) (fun _ _ _ h => h) ?_
   refine smR 1 rfl ?_
   refine WR.split (t := 60) rfl (fun hb60 => ?_) (fun hb60 => ?_)
   ·refine smR 3 rfl <| nR <| wO 11 (by kernel_rfl) <| wY rfl rfl rfl (fun k (h : _) => by (simp at h ⊢; omega)) nw (fun _ _ => bSl rfl rfl uT35 tZ3 tS3 rfl rfl rfl rfl (fbk rfl) rfl) <| wO 12 (by kernel_rfl) <| wY rfl rfl rfl (fun k (h : _) => by (simp at h ⊢; omega)) (nAp rfl) (fun _ _ => ocr (sc_shUses u f st hs x.args [1]) ent110 rfl (po2 rfl rfl) rfl (fun k (h : _) => .inr trivial) rfl rfl) <| wR 4 [13, 14, 15, 16, 17] (by kernel_rfl) (fun _ _ _ h => h) <| smR 2 rfl ?_
    refine WR.split (t := 67) rfl (fun hb67 => ?_) (fun hb67 => ?_)
    ·refine smR 3 rfl <| nR <| wO 18 (by kernel_rfl) <| wY rfl rfl rfl (fun k (h : _) => by (simp at h ⊢; omega)) nw (fun _ _ => bSl rfl rfl uT35 tZ3 tS3 rfl rfl rfl rfl (fbk rfl) rfl) <| wO 19 (by kernel_rfl) <| wY rfl rfl rfl (fun k (h : _) => by (simp at h ⊢; omega)) (nAp rfl) (fun _ _ => ocr (sc_shSets u f st hs x.outs [1]) ent112 rfl (po2 rfl rfl) rfl (fun k (h : _) => by (simp only [List.mem_cons, List.not_mem_nil, or_false] at h; rcases h with rfl <;> first | exact .inl rfl | exact .inr rfl | exact .inr (by decide))) rfl rfl) <| wR 0 [20, 21] (by kernel_rfl) (fun _ _ _ h => h) <| smR 2 rfl <| nR <| wDn (by kernel_rfl) <| tRt ?_
     (have h2 : (shSimple u f st x).2 = (shSets f.types st x.outs [1]).2 := (by simp_all [shSimple, andP]; done)
      rw [h2]
      refine rOk rfl ?_ (po2 rfl rfl)
      clear h2
      skip
      simp_all [shSimple, andP]
      done)
    refine smR 3 rfl <| nR <| wN 18 (by kernel_rfl) (fun _ _ _ h => h) rfl rfl rfl <| wN 19 (by kernel_rfl) (fun _ _ _ h => h) rfl rfl rfl <| wR 0 [20, 21] (by kernel_rfl) (fun _ _ _ h => h) <| smR 2 rfl <| nR <| wDn (by kernel_rfl) <| tRt ?_
    (have h2 : (shSimple u f st x).2 = st := (by simp_all [shSimple, andP]; done)
     rw [h2]
     refine rOk rfl ?_ (po2 rfl rfl)
     clear h2
     skip
     simp_all [shSimple, andP]
     done)
   refine smR 3 rfl <| nR <| wN 11 (by kernel_rfl) (fun _ _ _ h => h) rfl rfl rfl <| wN 12 (by kernel_rfl) (fun _ _ _ h => h) rfl rfl rfl <| wR 4 [13, 14, 15, 16, 17] (by kernel_rfl) (fun _ _ _ h => h) <| smR 5 rfl <| nR <| wN 18 (by kernel_rfl) (fun _ _ _ h => h) rfl rfl rfl <| wN 19 (by kernel_rfl) (fun _ _ _ h => h) rfl rfl rfl <| wR 0 [20, 21] (by kernel_rfl) (fun _ _ _ h => h) <| smR 2 rfl <| nR ?_
   refine wDn (by kernel_rfl) <| tRt ?_
   (have h2 : shSimple u f st x = (false, st) := (by (first | (simp_all [shSimple, andP]; done) | (simp_all [shSimple, andP] <;> omega)))
    rw [h2]
    exact rOk rfl rfl (po2 rfl rfl))
  refine tQ <| tG <| sm 2 rfl <| nL ?_
  refine tC rfl (fun hc74 => ?_) fun hc74 => ?_
  ·refine tQ <| tDr mixed (fun k => k ∈ ([3] : List Nat)) <| wR 15 [0, 1, 2, 3, 4, 5] (by kernel_rfl) (fun _ _ _ h => h) <| smR 1 rfl <| rV rfl rfl (nCk rfl rfl rfl) <| smR 1 rfl <| rV rfl rfl (lBP rfl rfl rfl uT25 rfl tS25 (lb rfl) rfl (by decide)) <| smR 2 rfl <| nR <| wO 6 (by kernel_rfl) <| wI rfl rfl (fun k (h : _) => by (simp at h ⊢; omega)) nw (fun _ _ => ocq (sc_shHas _ _) ent114 rfl rfl) <| wR 10 [7, 8, 9, 10] (by kernel_rfl) (fun _ _ _ h => h) ?_
   refine smR 1 rfl ?_
   refine WR.split (t := 83) rfl (fun hb83 => ?_) (fun hb83 => ?_)
   ·refine smR 3 rfl <| nR <| wO 11 (by kernel_rfl) <| wY rfl rfl rfl (fun k (h : _) => by (simp at h ⊢; omega)) nw (fun _ _ => bSl rfl rfl uT35 tZ3 tS3 rfl rfl rfl rfl (fbk rfl) rfl) <| wO 12 (by kernel_rfl) <| wY rfl rfl rfl (fun k (h : _) => by (simp at h ⊢; omega)) (nAp rfl) (fun _ _ => ocr (sc_shUses u f st hs x.args [1, 1]) ent110 rfl (po2 rfl rfl) rfl (fun k (h : _) => .inr trivial) rfl rfl) <| wR 3 [13, 14, 15, 16, 17] (by kernel_rfl) (fun _ _ _ h => h) <| smR 2 rfl ?_
    refine WR.split (t := 90) rfl (fun hb90 => ?_) (fun hb90 => ?_)
    ·refine smR 3 rfl <| nR <| wO 18 (by kernel_rfl) <| wY rfl rfl rfl (fun k (h : _) => by (simp at h ⊢; omega)) (nAp rfl) (fun _ _ => cRr (sc_shSets u f st hs x.outs []) ent112 rfl rfl (sSm rfl (sSm rfl (Subs.cons (fun _ _ _ _ h => sub_nil h) Subs.nil))) (po2 rfl rfl) (by rfl) (fun k (h : _) => by (simp only [List.mem_cons, List.not_mem_nil, or_false] at h; rcases h with rfl <;> first | exact .inl rfl | exact .inr rfl | exact .inr (by decide))) rfl (by rfl)) <| wR 0 [19, 20] (by kernel_rfl) (fun _ _ _ h => h) <| smR 2 rfl <| nR <| wDn (by kernel_rfl) <| tRt ?_
     (have h2 : (shSimple u f st x).2 = (shSets f.types st x.outs []).2 := (by simp_all [shSimple, andP]; done)
      rw [h2]
      refine rOk rfl ?_ (po2 rfl rfl)
      clear h2
      skip
      simp_all [shSimple, andP]
      done)
    refine smR 3 rfl <| nR <| wN 18 (by kernel_rfl) (fun _ _ _ h => h) rfl rfl rfl <| wR 0 [19, 20] (by kernel_rfl) (fun _ _ _ h => h) <| smR 2 rfl <| nR <| wDn (by kernel_rfl) <| tRt ?_
    (have h2 : (shSimple u f st x).2 = st := (by simp_all [shSimple, andP]; done)
     rw [h2]
     refine rOk rfl ?_ (po2 rfl rfl)
     clear h2
     skip
     simp_all [shSimple, andP]
     done)
   refine smR 3 rfl <| nR <| wN 11 (by kernel_rfl) (fun _ _ _ h => h) rfl rfl rfl <| wN 12 (by kernel_rfl) (fun _ _ _ h => h) rfl rfl rfl <| wR 3 [13, 14, 15, 16, 17] (by kernel_rfl) (fun _ _ _ h => h) <| smR 5 rfl <| nR <| wN 18 (by kernel_rfl) (fun _ _ _ h => h) rfl rfl rfl <| wR 0 [19, 20] (by kernel_rfl) (fun _ _ _ h => h) <| smR 2 rfl <| nR <| wDn (by kernel_rfl) ?_
   refine tRt ?_
   (have h2 : shSimple u f st x = (false, st) := (by (first | (simp_all [shSimple, andP]; done) | (simp_all [shSimple, andP] <;> omega)))
    rw [h2]
    exact rOk rfl rfl (po2 rfl rfl))
  refine tQ <| tG <| sm 2 rfl <| nL ?_
  refine tC rfl (fun hc96 => ?_) fun hc96 => ?_
  ·refine tQ <| tG <| sm 3 rfl <| cE rfl (cRr (sc_shUses u f st hs x.args []) ent110 rfl rfl (sSm rfl (sSm rfl (Subs.cons (fun _ _ _ _ h => sub_nil h) Subs.nil))) (po2 rfl rfl) (by rfl) (fun k (h : _) => .inr trivial) rfl (by rfl)) <| sm 1 rfl ?_
   refine wS 102 rfl (fun hb102 => ?_) fun hb102 => ?_
   ·refine sm 3 rfl <| WL.yes rfl rfl rfl rfl rfl rfl (bSl rfl rfl uT35 tZ3 tS3 rfl rfl rfl rfl (fbk rfl) rfl) <| WL.yes rfl rfl rfl rfl rfl rfl (cRr (sc_shSets u f st hs x.outs [1]) ent112 rfl rfl (sRf _ _) (po2 rfl rfl) (by rfl) (fun k (h : _) => .inr h) rfl (by rfl)) <| sm 2 rfl <| nL <| tRt ?_
    (have h2 : (shSimple u f st x).2 = (shSets f.types st x.outs [1]).2 := (by simp_all [shSimple, andP]; done)
     rw [h2]
     refine rOk rfl ?_ (po2 rfl rfl)
     clear h2
     skip
     simp_all [shSimple, andP]
     done)
   refine sm 7 rfl <| nL <| tRt ?_
   (have h2 : (shSimple u f st x).2 = st := (by simp_all [shSimple, andP]; done)
    rw [h2]
    refine rOk rfl ?_ (po2 rfl rfl)
    clear h2
    skip
    simp_all [shSimple, andP]
    done)
  refine tQ <| tG <| sm 2 rfl <| nL ?_
  refine tC rfl (fun hc109 => ?_) fun hc109 => ?_
  ·refine tQ <| tG <| sm 3 rfl <| cE rfl (bSl rfl rfl uT35 tZ3 tS3 rfl rfl rfl rfl (fbk rfl) rfl) <| cE rfl (ocr (sc_shUses u f st hs x.args [1]) ent110 rfl (po2 rfl rfl) rfl (fun k (h : _) => .inr trivial) rfl rfl) <| sm 1 rfl ?_
   refine wS 116 rfl (fun hb116 => ?_) fun hb116 => ?_
   ·refine sm 3 rfl <| WL.yes rfl rfl rfl rfl rfl rfl (cRr (sc_shSets u f st hs x.outs []) ent112 rfl rfl (sSm rfl (sSm rfl (Subs.cons (fun _ _ _ _ h => sub_nil h) Subs.nil))) (po2 rfl rfl) (by rfl) (fun k (h : _) => .inr h) rfl (by rfl)) <| sm 2 rfl <| nL <| tRt ?_
    (have h2 : (shSimple u f st x).2 = (shSets f.types st x.outs []).2 := (by simp_all [shSimple, andP]; done)
     rw [h2]
     refine rOk rfl ?_ (po2 rfl rfl)
     clear h2
     skip
     simp_all [shSimple, andP]
     done)
   refine sm 6 rfl <| nL <| tRt ?_
   (have h2 : (shSimple u f st x).2 = st := (by simp_all [shSimple, andP]; done)
    rw [h2]
    refine rOk rfl ?_ (po2 rfl rfl)
    clear h2
    skip
    simp_all [shSimple, andP]
    done)
  refine tQ <| tG <| sm 2 rfl <| nL ?_
  refine tC rfl (fun hc122 => ?_) fun hc122 => ?_
  ·refine tQ <| tDr mixed (fun k => k ∈ ([3] : List Nat)) <| wR 2 [0, 1, 2, 3, 4, 5] (by kernel_rfl) (fun _ _ _ h => h) <| smR 1 rfl <| rV rfl rfl (nCk rfl rfl rfl) <| smR 1 rfl <| rV rfl rfl (lBP rfl rfl rfl uT25 rfl tS25 (lb rfl) rfl (by decide)) <| smR 2 rfl <| nR <| wO 6 (by kernel_rfl) <| wI rfl rfl (fun k (h : _) => by (simp at h ⊢; omega)) nw (fun _ _ => ocq (sc_shPlace _ _) ent57 rfl rfl) <| wR 0 [7] (by kernel_rfl) (fun _ _ _ h => h) ?_
   refine smR 1 rfl <| nR <| wDn (by kernel_rfl) <| tQ <| tQ <| tG <| sm 2 rfl <| nL ?_
   refine tC rfl (fun hc132 => ?_) fun hc132 => ?_
   ·refine tQ <| tG <| sm 1 rfl <| nL <| tRt ?_
    (have h2 : (shSimple u f st x).2 = st := (by simp_all [shSimple, shCall, andP]; done)
     rw [h2]
     refine rOk rfl ?_ (po2 rfl rfl)
     clear h2
     skip
     simp_all [shSimple, shCall, andP]
     done)
   have hk0 : r8Place x.name u.flows 0 ≥ 0 := by simp at hc132; omega
   obtain ⟨g, hgk, _⟩ := r8Place_at hk0
   obtain ⟨hgp0, hgpl⟩ := hg g (List.mem_of_getElem? hgk)
   have hgp : g.params = (g.params.toNat : Int) := by omega
   have hgi : (u.flows.map Fl.enc)[(r8Place x.name u.flows 0).toNat]? = some (Fl.enc g) := by rw [List.getElem?_map, hgk]; rfl
   have hkn : r8Place x.name u.flows 0 = ((r8Place x.name u.flows 0).toNat : Int) := by omega
   have hnl : ¬ r8Place x.name u.flows 0 < 0 := by omega
   have hcall : shCall u f st x = andP (shUses f.types st x.args (g.types.take g.params.toNat)) st (shSets f.types st x.outs [g.ty]) := by
     unfold shCall
     rw [if_neg hnl, hgk]
   refine tSk <| tQ <| tG <| sm 1 rfl <| cV rfl (nCk rfl rfl rfl) <| sm 4 rfl <| cV rfl (iSq rfl rfl rfl uT23 hgi tS51 rfl (by omega)) <| cV rfl (lEA rfl rfl Tryz.underlying51 rfl tS51 (lb rfl)) <| cE rfl (aLc (k := 106) rfl tZ51 rfl rfl rfl rfl) <| c0 (sBA rfl rfl rfl rfl rfl (by simp) tS51 (flk rfl) (lb rfl)) <| nL <| tQ ?_
   refine Tr.freezeBox (t := 6) (k := 106) rfl rfl rfl ?_
   refine Tr.heap (σ' := look (up (ckS u f 3 st))) (fun k => by
     simp only [look]
     by_cases h : 106 = k
     · subst h; rfl
     · simp [beq_ne h]) ?_
   refine tDr mixed (fun k => k ∈ ([3] : List Nat)) <| wR 11 [0, 1, 2, 3, 4, 5, 6, 7] (by kernel_rfl) (fun _ _ _ h => h) <| smR 7 rfl ?_
   refine rV rfl rfl (ok_slice_seq (j := g.params.toNat) rfl rfl uT35 tS3 (.inl ⟨rfl, rfl⟩) (.inr ⟨_, _, rfl, congrArg (fun z => some (IV.pv (.val (.int .i64 z)))) hgp⟩) (Nat.zero_le _) (by simp; omega) (by simp [eInt])) ?_
   refine nR <| wO 8 (by kernel_rfl) ?_
   refine wI rfl rfl (fun k (h : _) => by (simp at h ⊢; omega)) (nAp rfl) (fun _ _ => cRr (sc_shUses u f st hs x.args (g.types.take g.params.toNat)) ent110 rfl rfl (sSm rfl (sSm rfl (sSm (by simp [ints, List.map_take]) Subs.nil))) (po2 rfl rfl) (by rfl) (fun k (h : _) => .inr trivial) rfl (by rfl)) ?_
   refine wR 4 [9, 10, 11, 12, 13, 14] (by kernel_rfl) (fun _ _ _ h => h) <| smR 1 rfl ?_
   refine WR.split (t := 150) rfl (fun hb150 => ?_) (fun hb150 => ?_)
   ·refine smR 5 rfl <| nR <| wO 15 (by kernel_rfl) <| wY rfl rfl rfl (fun k (h : _) => by (simp at h ⊢; omega)) nw (fun _ _ => bSl rfl rfl uT35 tZ3 tS3 rfl rfl rfl rfl (fbk rfl) rfl) <| wO 16 (by kernel_rfl) <| wY rfl rfl rfl (fun k (h : _) => by (simp at h ⊢; omega)) (nAp rfl) (fun _ _ => ocr (sc_shSets u f st hs x.outs [g.ty]) ent112 rfl (po2 rfl rfl) rfl (fun k (h : _) => by (simp only [List.mem_cons, List.not_mem_nil, or_false] at h; rcases h with rfl <;> first | exact .inl rfl | exact .inr rfl | exact .inr (by decide))) rfl rfl) <| wR 0 [17, 18] (by kernel_rfl) (fun _ _ _ h => h) <| smR 2 rfl <| nR <| wDn (by kernel_rfl) <| tRt ?_
    have hsim : shSimple u f st x = shCall u f st x := by
      clear hkn hgp hcall hnl
      simp_all [shSimple]
    rw [hsim, hcall]
    clear hsim hcall
    (have h2 : (andP (shUses f.types st x.args (g.types.take g.params.toNat)) st (shSets f.types st x.outs [g.ty])).2 = (shSets f.types st x.outs [g.ty]).2 := (by (try (clear hkn hgp)); simp_all [andP, andP]; done)
     rw [h2]
     refine rOk rfl ?_ (po2 rfl rfl)
     clear h2
     try (clear hkn hgp)
     simp_all [andP, andP]
     done)
   refine smR 5 rfl <| nR <| wN 15 (by kernel_rfl) (fun _ _ _ h => h) rfl rfl rfl <| wN 16 (by kernel_rfl) (fun _ _ _ h => h) rfl rfl rfl <| wR 0 [17, 18] (by kernel_rfl) (fun _ _ _ h => h) <| smR 2 rfl <| nR <| wDn (by kernel_rfl) <| tRt ?_
   have hsim : shSimple u f st x = shCall u f st x := by
     clear hkn hgp hcall hnl
     simp_all [shSimple]
   rw [hsim, hcall]
   clear hsim hcall
   (have h2 : (andP (shUses f.types st x.args (g.types.take g.params.toNat)) st (shSets f.types st x.outs [g.ty])).2 = st := (by (try (clear hkn hgp)); simp_all [andP, andP]; done)
    rw [h2]
    refine rOk rfl ?_ (po2 rfl rfl)
    clear h2
    try (clear hkn hgp)
    simp_all [andP, andP]
    done)
  refine tSk <| tQ <| tG <| sm 1 rfl <| nL <| tRt ?_
  (have h2 : (shSimple u f st x).2 = st := (by simp_all [shSimple, andP]; done)
   rw [h2]
   refine rOk rfl ?_ (po2 rfl rfl)
   clear h2
   skip
   simp_all [shSimple, andP]
   done)
theorem sc_shChoice (u : Un) (f : Fl) (st : List Int) (hs : st.length = f.types.length) (x : Nd) (ka kb : List Nd) (hkids : x.kids = [ka, kb]) (wh : Wh) (deep : Int) (hbo : x.outs.length ≤ 1073741824) (ih : ∀ q ∈ x.kids, ∀ (w : Wh) (st : List Int), st.length = f.types.length → SC Tryz.prog 60 [.ptr 3 0, .pv (nodes q), .pv (whv w), iInt deep] (ckS u f 3 st) (fun k => k = 3) (iBool (shList u f deep w st q).1) (ckS u f 3 (shList u f deep w st q).2)) : SC Tryz.prog 97 [.ptr 3 0, .pv (ndv x), .pv (whv wh), iInt deep] (ckS u f 3 st) (fun k => k = 3) (iBool (if shUses f.types st x.args [2] then andQ (shList u f deep ⟨true, wh.Loop, r8of f.types x.outs, wh.Next, wh.Left⟩ st ka) (fun s1 => andQ (shList u f deep ⟨true, wh.Loop, r8of f.types x.outs, wh.Next, wh.Left⟩ s1 kb) fun s2 => shTail f x s2) else (false, st)).1) (ckS u f 3 (if shUses f.types st x.args [2] then andQ (shList u f deep ⟨true, wh.Loop, r8of f.types x.outs, wh.Next, wh.Left⟩ st ka) (fun s1 => andQ (shList u f deep ⟨true, wh.Loop, r8of f.types x.outs, wh.Next, wh.Left⟩ s1 kb) fun s2 => shTail f x s2) else (false, st)).2) := by
  refine SC.of Tryz.func97 rfl (lb rfl) fun F ρ w => ?_
  have hi0 : (x.kids.map eKid)[0]? = some [nodes ka] := by rw [hkids]; rfl
  have hi1 : (x.kids.map eKid)[1]? = some [nodes kb] := by rw [hkids]; rfl
  have hm0 : ka ∈ x.kids := by rw [hkids]; simp
  have hm1 : kb ∈ x.kids := by rw [hkids]; simp
  have hs1 : (shList u f deep ⟨true, wh.Loop, r8of f.types x.outs, wh.Next, wh.Left⟩ st ka).2.length = f.types.length := (shList_length ..).trans hs
  have hs2 : (shList u f deep ⟨true, wh.Loop, r8of f.types x.outs, wh.Next, wh.Left⟩ (shList u f deep ⟨true, wh.Loop, r8of f.types x.outs, wh.Next, wh.Left⟩ st ka).2 kb).2.length = f.types.length := (shList_length ..).trans hs1
  refine tQ <| tG <| cE rfl (ok_box rfl rfl) <| cE rfl (ok_boxOwnP (k := 106) rfl rfl rfl rfl rfl rfl) <| sm 1 rfl <| nL <| tQ <| tG <| sm 3 rfl <| cE rfl (ocr (sc_shTypes u f st hs x.outs hbo) ent109 rfl (po2 rfl rfl) rfl (fun k (h : _) => by (subst h; first | exact .inl rfl | exact .inr rfl | exact .inr (by decide))) rfl rfl) <| sm 1 rfl <| c0 (sBx rfl rfl rfl rfl (by simp) tS4 (rfl) (lb rfl)) ?_
  refine sm 1 rfl <| c0 (sBx rfl rfl rfl rfl (by simp) tS35 (rfl) (lb rfl)) <| nL <| tQ <| tDr mixed (fun k => k ∈ ([3, 106] : List Nat)) <| wR 40 [0, 1, 2] (by kernel_rfl) (fun _ _ _ h => h) <| smR 3 rfl <| nR <| wO 3 (by kernel_rfl) <| wI rfl rfl (fun k (h : _) => by (simp at h ⊢; omega)) nw (fun _ _ => bSl rfl rfl uT35 tZ3 tS3 rfl rfl rfl rfl (fbk rfl) rfl) <| wO 4 (by kernel_rfl) <| wI rfl rfl (fun k (h : _) => by (simp at h ⊢; omega)) (nAp rfl) (fun _ _ => ocr (sc_shUses u f st hs x.args [2]) ent110 rfl (po2 rfl rfl) rfl (fun k (h : _) => .inr trivial) rfl rfl) ?_
  refine wR 30 [5, 6, 7, 8, 9, 10, 11, 12] (by kernel_rfl) (fun _ _ _ h => h) <| smR 1 rfl ?_
  refine WR.split (t := 20) rfl (fun hb20 => ?_) (fun hb20 => ?_)
  ·refine smR 3 rfl <| ryV rfl rfl rfl (iSq rfl rfl rfl uT40 hi0 tS43 rfl (by rfl)) <| smR 1 rfl <| ryV rfl rfl rfl (lBP rfl rfl rfl Tryz.underlying100 rfl tS100 (lb rfl) rfl (by decide)) <| smR 1 rfl <| nR <| wO 13 (by kernel_rfl) <| wY rfl rfl rfl (fun k (h : _) => by (simp at h ⊢; omega)) (nAp rfl) (fun _ _ => ocr (ih ka hm0 ⟨true, wh.Loop, r8of f.types x.outs, wh.Next, wh.Left⟩ st hs) ent60 rfl (po2 rfl rfl) rfl (fun k (h : _) => by (simp only [List.mem_cons, List.not_mem_nil, or_false] at h; rcases h with rfl | rfl <;> first | exact .inl rfl | exact .inr rfl | exact .inr (by decide))) rfl rfl) <| wR 20 [14, 15, 16, 17, 18, 19, 20, 21, 22] (by kernel_rfl) (fun _ _ _ h => h) <| smR 2 rfl ?_
   refine WR.split (t := 30) rfl (fun hb30 => ?_) (fun hb30 => ?_)
   ·refine smR 3 rfl <| ryV rfl rfl rfl (iSq rfl rfl rfl uT40 hi1 tS43 rfl (by rfl)) <| smR 1 rfl <| ryV rfl rfl rfl (lBP rfl rfl rfl Tryz.underlying100 rfl tS100 (lb rfl) rfl (by decide)) <| smR 1 rfl <| nR <| wO 23 (by kernel_rfl) <| wY rfl rfl rfl (fun k (h : _) => by (simp at h ⊢; omega)) (nAp rfl) (fun _ _ => ocr (ih kb hm1 ⟨true, wh.Loop, r8of f.types x.outs, wh.Next, wh.Left⟩ (shList u f deep ⟨true, wh.Loop, r8of f.types x.outs, wh.Next, wh.Left⟩ st ka).2 hs1) ent60 rfl (po2 rfl rfl) rfl (fun k (h : _) => by (simp only [List.mem_cons, List.not_mem_nil, or_false] at h; rcases h with rfl | rfl <;> first | exact .inl rfl | exact .inr rfl | exact .inr (by decide))) rfl rfl) <| wR 11 [24, 25, 26, 27, 28, 29, 30, 31] (by kernel_rfl) (fun _ _ _ h => h) <| smR 2 rfl ?_
    refine WR.split (t := 40) rfl (fun hb40 => ?_) (fun hb40 => ?_)
    ·refine smR 2 rfl <| ryV rfl rfl rfl (oSm uT35 rfl) <| smR 2 rfl ?_
     refine WR.split (t := 45) rfl (fun hb45 => ?_) (fun hb45 => ?_)
     ·refine smR 1 rfl <| nR <| wN 32 (by kernel_rfl) (fun _ _ _ h => h) rfl rfl rfl <| wR 3 [33, 34, 35, 36, 37, 38, 39] (by kernel_rfl) (fun _ _ _ h => h) <| smR 7 rfl <| nR <| wO 40 (by kernel_rfl) <| wY rfl rfl rfl (fun k (h : _) => by (simp at h ⊢; omega)) (nAp rfl) (fun _ _ => ocr (sc_shAll u f (shList u f deep ⟨true, wh.Loop, r8of f.types x.outs, wh.Next, wh.Left⟩ (shList u f deep ⟨true, wh.Loop, r8of f.types x.outs, wh.Next, wh.Left⟩ st ka).2 kb).2 hs2 x.outs hbo) ent111 rfl (po2 rfl rfl) rfl (fun k (h : _) => by (simp only [List.mem_cons, List.not_mem_nil, or_false] at h; rcases h with rfl | rfl <;> first | exact .inl rfl | exact .inr rfl | exact .inr (by decide))) rfl rfl) <| wR 0 [41, 42] (by kernel_rfl) (fun _ _ _ h => h) <| smR 2 rfl <| nR <| wDn (by kernel_rfl) ?_
      refine tRt ?_
      (have h2 : (if shUses f.types st x.args [2] then andQ (shList u f deep ⟨true, wh.Loop, r8of f.types x.outs, wh.Next, wh.Left⟩ st ka) (fun s1 => andQ (shList u f deep ⟨true, wh.Loop, r8of f.types x.outs, wh.Next, wh.Left⟩ s1 kb) fun s2 => shTail f x s2) else (false, st)).2 = (shSets f.types (shList u f deep ⟨true, wh.Loop, r8of f.types x.outs, wh.Next, wh.Left⟩ (shList u f deep ⟨true, wh.Loop, r8of f.types x.outs, wh.Next, wh.Left⟩ st ka).2 kb).2 x.outs (List.replicate x.outs.length 0)).2 := (by simp_all [andQ, andP, shTail]; done)
       rw [h2]
       refine rOk rfl ?_ (po2 rfl rfl)
       clear h2
       simp_all [andQ, andP, shTail]
       done)
     refine ryV rfl rfl rfl (lEA rfl rfl uT42 rfl tS42 (lb rfl)) <| nR <| wO 32 (by kernel_rfl) <| wY rfl rfl rfl (fun k (h : _) => by (simp at h ⊢; omega)) nw (fun _ _ => ocq (sc_shClosed _) ent84 rfl rfl) <| wR 3 [33, 34, 35, 36, 37, 38, 39] (by kernel_rfl) (fun _ _ _ h => h) <| smR 4 rfl ?_
     refine WR.split (t := 51) rfl (fun hb51 => ?_) (fun hb51 => ?_)
     ·refine smR 3 rfl <| nR <| wO 40 (by kernel_rfl) <| wY rfl rfl rfl (fun k (h : _) => by (simp at h ⊢; omega)) (nAp rfl) (fun _ _ => ocr (sc_shAll u f (shList u f deep ⟨true, wh.Loop, r8of f.types x.outs, wh.Next, wh.Left⟩ (shList u f deep ⟨true, wh.Loop, r8of f.types x.outs, wh.Next, wh.Left⟩ st ka).2 kb).2 hs2 x.outs hbo) ent111 rfl (po2 rfl rfl) rfl (fun k (h : _) => by (simp only [List.mem_cons, List.not_mem_nil, or_false] at h; rcases h with rfl | rfl <;> first | exact .inl rfl | exact .inr rfl | exact .inr (by decide))) rfl rfl) <| wR 0 [41, 42] (by kernel_rfl) (fun _ _ _ h => h) <| smR 2 rfl <| nR <| wDn (by kernel_rfl) <| tRt ?_
      (have h2 : (if shUses f.types st x.args [2] then andQ (shList u f deep ⟨true, wh.Loop, r8of f.types x.outs, wh.Next, wh.Left⟩ st ka) (fun s1 => andQ (shList u f deep ⟨true, wh.Loop, r8of f.types x.outs, wh.Next, wh.Left⟩ s1 kb) fun s2 => shTail f x s2) else (false, st)).2 = (shSets f.types (shList u f deep ⟨true, wh.Loop, r8of f.types x.outs, wh.Next, wh.Left⟩ (shList u f deep ⟨true, wh.Loop, r8of f.types x.outs, wh.Next, wh.Left⟩ st ka).2 kb).2 x.outs (List.replicate x.outs.length 0)).2 := (by simp_all [andQ, andP, shTail]; done)
       rw [h2]
       refine rOk rfl ?_ (po2 rfl rfl)
       clear h2
       simp_all [andQ, andP, shTail]
       done)
     refine smR 3 rfl <| nR <| wN 40 (by kernel_rfl) (fun _ _ _ h => h) rfl rfl rfl <| wR 0 [41, 42] (by kernel_rfl) (fun _ _ _ h => h) <| smR 2 rfl <| nR <| wDn (by kernel_rfl) <| tRt ?_
     (have h2 : (if shUses f.types st x.args [2] then andQ (shList u f deep ⟨true, wh.Loop, r8of f.types x.outs, wh.Next, wh.Left⟩ st ka) (fun s1 => andQ (shList u f deep ⟨true, wh.Loop, r8of f.types x.outs, wh.Next, wh.Left⟩ s1 kb) fun s2 => shTail f x s2) else (false, st)).2 = (shList u f deep ⟨true, wh.Loop, r8of f.types x.outs, wh.Next, wh.Left⟩ (shList u f deep ⟨true, wh.Loop, r8of f.types x.outs, wh.Next, wh.Left⟩ st ka).2 kb).2 := (by simp_all [andQ, andP, shTail]; done)
      rw [h2]
      refine rOk rfl ?_ (po2 rfl rfl)
      clear h2
      simp_all [andQ, andP, shTail]
      done)
    refine smR 5 rfl <| nUr rfl rfl rfl rfl rfl rfl rfl <| nR <| WA.takeNoU (i := 32) rfl (by kernel_rfl) (by kernel_rfl) (by kernel_rfl) ((fun _ _ _ h => h)) rfl rfl rfl rfl rfl rfl <| wR 3 [33, 34, 35, 36, 37, 38, 39] (by kernel_rfl) (fun _ _ _ h => h) <| nUr rfl rfl rfl rfl rfl rfl rfl <| smR 6 rfl <| nR <| wN 40 (by kernel_rfl) (fun _ _ _ h => h) rfl rfl rfl <| wR 0 [41, 42] (by kernel_rfl) (fun _ _ _ h => h) <| smR 2 rfl <| nR ?_
    refine wDn (by kernel_rfl) <| tRt ?_
    (have h2 : (if shUses f.types st x.args [2] then andQ (shList u f deep ⟨true, wh.Loop, r8of f.types x.outs, wh.Next, wh.Left⟩ st ka) (fun s1 => andQ (shList u f deep ⟨true, wh.Loop, r8of f.types x.outs, wh.Next, wh.Left⟩ s1 kb) fun s2 => shTail f x s2) else (false, st)).2 = (shList u f deep ⟨true, wh.Loop, r8of f.types x.outs, wh.Next, wh.Left⟩ (shList u f deep ⟨true, wh.Loop, r8of f.types x.outs, wh.Next, wh.Left⟩ st ka).2 kb).2 := (by simp_all [andQ, andP, shTail]; done)
     rw [h2]
     refine rOk rfl ?_ (po2 rfl rfl)
     clear h2
     simp_all [andQ, andP, shTail]
     done)
   refine smR 7 rfl <| nR <| wN 23 (by kernel_rfl) (fun _ _ _ h => h) rfl rfl rfl <| wR 11 [24, 25, 26, 27, 28, 29, 30, 31] (by kernel_rfl) (fun _ _ _ h => h) <| smR 7 rfl <| nUr rfl rfl rfl rfl rfl rfl rfl <| nR <| WA.takeNoU (i := 32) rfl (by kernel_rfl) (by kernel_rfl) (by kernel_rfl) ((fun _ _ _ h => h)) rfl rfl rfl rfl rfl rfl <| wR 3 [33, 34, 35, 36, 37, 38, 39] (by kernel_rfl) (fun _ _ _ h => h) <| nUr rfl rfl rfl rfl rfl rfl rfl <| smR 6 rfl <| nR ?_
   refine wN 40 (by kernel_rfl) (fun _ _ _ h => h) rfl rfl rfl <| wR 0 [41, 42] (by kernel_rfl) (fun _ _ _ h => h) <| smR 2 rfl <| nR <| wDn (by kernel_rfl) <| tRt ?_
   (have h2 : (if shUses f.types st x.args [2] then andQ (shList u f deep ⟨true, wh.Loop, r8of f.types x.outs, wh.Next, wh.Left⟩ st ka) (fun s1 => andQ (shList u f deep ⟨true, wh.Loop, r8of f.types x.outs, wh.Next, wh.Left⟩ s1 kb) fun s2 => shTail f x s2) else (false, st)).2 = (shList u f deep ⟨true, wh.Loop, r8of f.types x.outs, wh.Next, wh.Left⟩ st ka).2 := (by simp_all [andQ, andP, shTail]; done)
    rw [h2]
    refine rOk rfl ?_ (po2 rfl rfl)
    clear h2
    simp_all [andQ, andP, shTail]
    done)
  refine smR 7 rfl <| nR <| wN 13 (by kernel_rfl) (fun _ _ _ h => h) rfl rfl rfl <| wR 20 [14, 15, 16, 17, 18, 19, 20, 21, 22] (by kernel_rfl) (fun _ _ _ h => h) <| smR 9 rfl <| nR <| wN 23 (by kernel_rfl) (fun _ _ _ h => h) rfl rfl rfl <| wR 11 [24, 25, 26, 27, 28, 29, 30, 31] (by kernel_rfl) (fun _ _ _ h => h) <| smR 7 rfl <| nUr rfl rfl rfl rfl rfl rfl rfl <| nR <| WA.takeNoU (i := 32) rfl (by kernel_rfl) (by kernel_rfl) (by kernel_rfl) ((fun _ _ _ h => h)) rfl rfl rfl rfl rfl rfl ?_
  refine wR 3 [33, 34, 35, 36, 37, 38, 39] (by kernel_rfl) (fun _ _ _ h => h) <| nUr rfl rfl rfl rfl rfl rfl rfl <| smR 6 rfl <| nR <| wN 40 (by kernel_rfl) (fun _ _ _ h => h) rfl rfl rfl <| wR 0 [41, 42] (by kernel_rfl) (fun _ _ _ h => h) <| smR 2 rfl <| nR <| wDn (by kernel_rfl) <| tRt ?_
  (have h2 : (if shUses f.types st x.args [2] then andQ (shList u f deep ⟨true, wh.Loop, r8of f.types x.outs, wh.Next, wh.Left⟩ st ka) (fun s1 => andQ (shList u f deep ⟨true, wh.Loop, r8of f.types x.outs, wh.Next, wh.Left⟩ s1 kb) fun s2 => shTail f x s2) else (false, st)).2 = st := (by simp_all [andQ, andP, shTail]; done)
   rw [h2]
   refine rOk rfl ?_ (po2 rfl rfl)
   clear h2
   simp_all [andQ, andP, shTail]
   done)
theorem sc_shLoop (u : Un) (f : Fl) (st : List Int) (hs : st.length = f.types.length) (x : Nd) (ka : List Nd) (hkids : x.kids = [ka]) (deep : Int) (hbo : x.outs.length ≤ 1073741824) (hbp : x.params.length ≤ 1073741824) (ih : ∀ q ∈ x.kids, ∀ (w : Wh) (st : List Int), st.length = f.types.length → SC Tryz.prog 60 [.ptr 3 0, .pv (nodes q), .pv (whv w), iInt deep] (ckS u f 3 st) (fun k => k = 3) (iBool (shList u f deep w st q).1) (ckS u f 3 (shList u f deep w st q).2)) : SC Tryz.prog 98 [.ptr 3 0, .pv (ndv x), iInt deep] (ckS u f 3 st) (fun k => k = 3) (iBool (if shUses f.types st x.args (r8of f.types x.params) then andQ (shSets f.types st x.params (List.replicate x.params.length 0)) (fun s1 => andQ (shList u f deep ⟨false, true, [], r8of f.types x.params, r8of f.types x.outs⟩ s1 ka) fun s2 => shTail f x (shHide s2 x.params)) else (false, st)).1) (ckS u f 3 (if shUses f.types st x.args (r8of f.types x.params) then andQ (shSets f.types st x.params (List.replicate x.params.length 0)) (fun s1 => andQ (shList u f deep ⟨false, true, [], r8of f.types x.params, r8of f.types x.outs⟩ s1 ka) fun s2 => shTail f x (shHide s2 x.params)) else (false, st)).2) := by
  refine SC.of Tryz.func98 rfl (lb rfl) fun F ρ w => ?_
  have hi0 : (x.kids.map eKid)[0]? = some [nodes ka] := by rw [hkids]; rfl
  have hm0 : ka ∈ x.kids := by rw [hkids]; simp
  have hs1 : (shSets f.types st x.params (List.replicate x.params.length 0)).2.length = f.types.length := (shSets_length ..).trans hs
  have hs2 : (shList u f deep ⟨false, true, [], r8of f.types x.params, r8of f.types x.outs⟩ (shSets f.types st x.params (List.replicate x.params.length 0)).2 ka).2.length = f.types.length := (shList_length ..).trans hs1
  have hs3 : (shHide (shList u f deep ⟨false, true, [], r8of f.types x.params, r8of f.types x.outs⟩ (shSets f.types st x.params (List.replicate x.params.length 0)).2 ka).2 x.params).length = f.types.length := (shHide_length ..).trans hs2
  refine tQ <| tG <| cE rfl (ok_box rfl rfl) <| sm 1 rfl <| nL <| tQ ?_
  refine Tr.cut (fr' := [(7, .ptr 107 0), (4, .pv (.ept [vInt x.kind, vInt x.op, vInt x.n, vStr x.name, ints x.args, ints x.outs, ints x.params, kids x.kids] 0)), (0, .ptr 3 0), (2, iInt deep)]) (σ' := look ((107, some (.box [iBool false, iBool true, .pv (.val (.slice none 0 0)), .pv (ints (r8of f.types x.params)), .pv (ints (r8of f.types x.outs))])) :: up (ckS u f 3 st))) ?_ ?_
  ·refine tDr mixed (fun k => k ∈ ([3] : List Nat)) <| wR 5 [0, 1, 2, 4, 5, 6] (by kernel_rfl) (fun _ _ _ h => pn h.1) <| smR 6 rfl <| nR <| WA.all (rs := [3, 9]) (by kernel_rfl) (by simp) ?_
   refine fmc ⟨?_, fmc ⟨?_, by simp⟩⟩
   ·refine wI rfl rfl (fun k (h : _) => by (simp at h ⊢; omega)) (nAp rfl) (fun _ _ => ocr (sc_shTypes u f st hs x.params hbp) ent109 rfl (po2 rfl rfl) rfl (fun k (h : _) => by (simp only [List.mem_cons, List.not_mem_nil, or_false] at h; rcases h with rfl <;> first | exact .inl rfl | exact .inr rfl | exact .inr (by decide))) rfl rfl) <| WA.all (rs := [7, 9]) (by kernel_rfl) (by simp) ?_
    refine fmc ⟨?_, fmc ⟨?_, by simp⟩⟩
    ·refine wI rfl rfl (fun k (h : _) => by (simp at h ⊢; omega)) (nAp rfl) (fun _ _ => ocr (sc_shTypes u f st hs x.outs hbo) ent109 rfl (po2 rfl rfl) rfl (fun k (h : _) => by (simp only [List.mem_cons, List.not_mem_nil, or_false] at h; rcases h with rfl <;> first | exact .inl rfl | exact .inr rfl | exact .inr (by decide))) rfl rfl) <| wR 2 [8] (by kernel_rfl) (fun _ _ _ h => pn h.1) <| rV rfl rfl (bPu rfl rfl tZ100 tP100 rfl (fbk rfl) rfl) <| nR <| wO 9 (by kernel_rfl) <| wI rfl rfl (fun k (h : _) => by (simp at h ⊢; omega)) (new_one rfl) (fun _ _ => aLc (k := 107) rfl tZ100 rfl rfl rfl rfl) <| wO 10 (by kernel_rfl) <| wI rfl rfl (fun k (h : _) => by (simp at h ⊢; omega)) (nOl rfl) (fun _ _ => sBA rfl rfl rfl rfl rfl (by simp) tS100 (flk rfl) (lb rfl)) <| wDn (by kernel_rfl) ?_
     refine ⟨rfl, Sub.of ⟨rfl, rfl, rfl, rfl, trivial⟩, ?_⟩
     funext k
     by_cases h7 : 107 = k
     ·subst h7; rfl
     simp [look, look_app, beq_ne h7]
    refine wI rfl rfl (fun k (h : _) => by (simp at h ⊢; omega)) (new_one rfl) (fun _ _ => aLc (k := 107) rfl tZ100 rfl rfl rfl rfl) <| wO 7 (by kernel_rfl) <| wI rfl rfl (fun k (h : _) => by (simp at h ⊢; omega)) (nAp rfl) (fun _ _ => ocr (sc_shTypes u f st hs x.outs hbo) ent109 rfl (po2 rfl rfl) rfl (fun k (h : _) => by (simp only [List.mem_cons, List.not_mem_nil, or_false] at h; rcases h with rfl <;> first | exact .inl rfl | exact .inr rfl | exact .inr (by decide))) rfl rfl) <| wR 1 [8] (by kernel_rfl) (fun _ _ _ h => pn h.1) <| rV rfl rfl (bPu rfl rfl tZ100 tP100 rfl (fbk rfl) rfl) <| nR <| wO 10 (by kernel_rfl) <| wI rfl rfl (fun k (h : _) => by (simp at h ⊢; omega)) (nOl rfl) (fun _ _ => sBA rfl rfl rfl rfl rfl (by simp) tS100 (flk rfl) (lb rfl)) <| wDn (by kernel_rfl) ?_
    refine ⟨rfl, Sub.of ⟨rfl, rfl, rfl, rfl, trivial⟩, ?_⟩
    funext k
    by_cases h7 : 107 = k
    ·subst h7; rfl
    simp [look, look_app, beq_ne h7]
   refine wI rfl rfl (fun k (h : _) => by (simp at h ⊢; omega)) (new_one rfl) (fun _ _ => aLc (k := 107) rfl tZ100 rfl rfl rfl rfl) <| wO 3 (by kernel_rfl) <| wI rfl rfl (fun k (h : _) => by (simp at h ⊢; omega)) (nAp rfl) (fun _ _ => ocr (sc_shTypes u f st hs x.params hbp) ent109 rfl (po2 rfl rfl) rfl (fun k (h : _) => by (simp only [List.mem_cons, List.not_mem_nil, or_false] at h; rcases h with rfl <;> first | exact .inl rfl | exact .inr rfl | exact .inr (by decide))) rfl rfl) <| wO 7 (by kernel_rfl) <| wI rfl rfl (fun k (h : _) => by (simp at h ⊢; omega)) (nAp rfl) (fun _ _ => ocr (sc_shTypes u f st hs x.outs hbo) ent109 rfl (po2 rfl rfl) rfl (fun k (h : _) => by (simp only [List.mem_cons, List.not_mem_nil, or_false] at h; rcases h with rfl <;> first | exact .inl rfl | exact .inr rfl | exact .inr (by decide))) rfl rfl) <| wR 1 [8] (by kernel_rfl) (fun _ _ _ h => pn h.1) <| rV rfl rfl (bPu rfl rfl tZ100 tP100 rfl (fbk rfl) rfl) <| nR <| wO 10 (by kernel_rfl) <| wI rfl rfl (fun k (h : _) => by (simp at h ⊢; omega)) (nOl rfl) (fun _ _ => sBA rfl rfl rfl rfl rfl (by simp) tS100 (flk rfl) (lb rfl)) <| wDn (by kernel_rfl) ?_
   refine ⟨rfl, Sub.of ⟨rfl, rfl, rfl, rfl, trivial⟩, ?_⟩
   funext k
   by_cases h7 : 107 = k
   ·subst h7; rfl
   simp [look, look_app, beq_ne h7]
  refine tQ <| tQ <| tDr mixed (fun k => k ∈ ([3, 107] : List Nat)) <| wR 20 [0, 1, 2, 3, 4] (by kernel_rfl) (fun _ _ _ h => h) <| smR 4 rfl <| rV rfl rfl (oLb uT35 rfl rfl rfl (by decide)) <| nR <| wO 5 (by kernel_rfl) <| wI rfl rfl (fun k (h : _) => by (simp at h ⊢; omega)) (nAp rfl) (fun _ _ => ocr (sc_shUses u f st hs x.args (r8of f.types x.params)) ent110 rfl (po2 rfl rfl) rfl (fun k (h : _) => .inr trivial) rfl rfl) <| wR 14 [6, 7, 8, 9, 10] (by kernel_rfl) (fun _ _ _ h => h) <| smR 2 rfl ?_
  refine WR.split (t := 24) rfl (fun hb24 => ?_) (fun hb24 => ?_)
  ·refine smR 3 rfl <| nR <| wN 11 (by kernel_rfl) (fun _ _ _ h => h) rfl rfl rfl <| wR 3 [12, 13, 14, 15, 16, 17, 18, 19, 20, 21] (by kernel_rfl) (fun _ _ _ h => h) <| smR 10 rfl <| nR <| wN 22 (by kernel_rfl) (fun _ _ _ h => h) rfl rfl rfl <| wR 0 [23, 24] (by kernel_rfl) (fun _ _ _ h => h) <| smR 2 rfl <| nR <| wDn (by kernel_rfl) <| Tr.condT rfl ?_
   refine tQ <| tG <| sm 1 rfl <| nL <| tRt ?_
   (have h2 : (if shUses f.types st x.args (r8of f.types x.params) then andQ (shSets f.types st x.params (List.replicate x.params.length 0)) (fun s1 => andQ (shList u f deep ⟨false, true, [], r8of f.types x.params, r8of f.types x.outs⟩ s1 ka) fun s2 => shTail f x (shHide s2 x.params)) else (false, st)).2 = st := (by simp_all [andQ, andP, shTail]; done)
    rw [h2]
    refine rOk rfl ?_ (po2 rfl rfl)
    clear h2
    simp_all [andQ, andP, shTail]
    done)
  refine smR 3 rfl <| nR <| wO 11 (by kernel_rfl) <| wY rfl rfl rfl (fun k (h : _) => by (simp at h ⊢; omega)) (nAp rfl) (fun _ _ => ocr (sc_shAll u f st hs x.params hbp) ent111 rfl (po2 rfl rfl) rfl (fun k (h : _) => by (simp only [List.mem_cons, List.not_mem_nil, or_false] at h; rcases h with rfl | rfl <;> first | exact .inl rfl | exact .inr rfl | exact .inr (by decide))) rfl rfl) <| wR 3 [12, 13, 14, 15, 16, 17, 18, 19, 20, 21] (by kernel_rfl) (fun _ _ _ h => h) <| smR 3 rfl ?_
  refine WR.split (t := 31) rfl (fun hb31 => ?_) (fun hb31 => ?_)
  ·refine smR 7 rfl <| nR <| wN 22 (by kernel_rfl) (fun _ _ _ h => h) rfl rfl rfl <| wR 0 [23, 24] (by kernel_rfl) (fun _ _ _ h => h) <| smR 2 rfl <| nR <| wDn (by kernel_rfl) <| Tr.condT rfl <| tQ <| tG <| sm 1 rfl <| nL ?_
   refine tRt ?_
   (have h2 : (if shUses f.types st x.args (r8of f.types x.params) then andQ (shSets f.types st x.params (List.replicate x.params.length 0)) (fun s1 => andQ (shList u f deep ⟨false, true, [], r8of f.types x.params, r8of f.types x.outs⟩ s1 ka) fun s2 => shTail f x (shHide s2 x.params)) else (false, st)).2 = (shSets f.types st x.params (List.replicate x.params.length 0)).2 := (by simp_all [andQ, andP, shTail]; done)
    rw [h2]
    refine rOk rfl ?_ (po2 rfl rfl)
    clear h2
    simp_all [andQ, andP, shTail]
    done)
  refine smR 3 rfl <| ryV rfl rfl rfl (iSq rfl rfl rfl uT40 hi0 tS43 rfl (by rfl)) <| smR 1 rfl <| ryV rfl rfl rfl (lBP rfl rfl rfl Tryz.underlying100 rfl tS100 (lb rfl) rfl (by decide)) <| smR 1 rfl <| nR <| wO 22 (by kernel_rfl) <| wY rfl rfl rfl (fun k (h : _) => by (simp at h ⊢; omega)) (nAp rfl) (fun _ _ => cRr (ih ka hm0 ⟨false, true, [], r8of f.types x.params, r8of f.types x.outs⟩ (shSets f.types st x.params (List.replicate x.params.length 0)).2 hs1) ent60 rfl rfl (sSm rfl (sSm rfl (Subs.cons (fun _ _ _ _ h => sub_pv (q := whv ⟨false, true, [], r8of f.types x.params, r8of f.types x.outs⟩) (PSub.agg (ps := [vBool false, vBool true, .val (.slice none 0 0), ints (r8of f.types x.params), ints (r8of f.types x.outs)]) (And.intro (PSub.refl _) (And.intro (PSub.refl _) (And.intro PSub.nil (And.intro (PSub.refl _) (And.intro (PSub.refl _) trivial)))))) h) (sSm rfl Subs.nil)))) (po2 rfl rfl) (by rfl) (fun k (h : _) => by (simp only [List.mem_cons, List.not_mem_nil, or_false] at h; rcases h with rfl | rfl <;> first | exact .inl rfl | exact .inr rfl | exact .inr (by decide))) rfl (by rfl)) <| wR 0 [23, 24] (by kernel_rfl) (fun _ _ _ h => h) <| smR 2 rfl <| nR <| wDn (by kernel_rfl) ?_
  refine tC rfl (fun hc41 => ?_) fun hc41 => ?_
  ·refine tQ <| tG <| sm 1 rfl <| nL <| tRt ?_
   (have h2 : (if shUses f.types st x.args (r8of f.types x.params) then andQ (shSets f.types st x.params (List.replicate x.params.length 0)) (fun s1 => andQ (shList u f deep ⟨false, true, [], r8of f.types x.params, r8of f.types x.outs⟩ s1 ka) fun s2 => shTail f x (shHide s2 x.params)) else (false, st)).2 = (shList u f deep ⟨false, true, [], r8of f.types x.params, r8of f.types x.outs⟩ (shSets f.types st x.params (List.replicate x.params.length 0)).2 ka).2 := (by simp_all [andQ, andP, shTail]; done)
    rw [h2]
    refine rOk rfl ?_ (po2 rfl rfl)
    clear h2
    simp_all [andQ, andP, shTail]
    done)
  refine tSk <| tQ ?_
  have hpin : ∀ v ∈ x.params, 0 ≤ v ∧ v < f.types.length := by
    have hp1 : (shSets f.types st x.params (List.replicate x.params.length 0)).1 = true := by simp_all
    exact shSets_in hp1
  refine tG <| sm 3 rfl <| cE rfl (ocr (sc_shHide u f (shList u f deep ⟨false, true, [], r8of f.types x.params, r8of f.types x.outs⟩ (shSets f.types st x.params (List.replicate x.params.length 0)).2 ka).2 hs2 x.params hpin) ent85 rfl (po2 rfl rfl) rfl (fun k (h : _) => .inr h) rfl rfl) <| nL <| tQ <| tG <| sm 2 rfl <| cV rfl (oSm uT35 rfl) <| sm 2 rfl ?_
  refine wS 50 rfl (fun hb50 => ?_) fun hb50 => ?_
  ·refine sm 8 rfl <| WL.yes rfl rfl rfl rfl rfl rfl (cRr (sc_shAll u f (shHide (shList u f deep ⟨false, true, [], r8of f.types x.params, r8of f.types x.outs⟩ (shSets f.types st x.params (List.replicate x.params.length 0)).2 ka).2 x.params) hs3 x.outs hbo) ent111 rfl rfl (sRf _ _) (po2 rfl rfl) (by rfl) (fun k (h : _) => .inr h) rfl (by rfl)) <| sm 2 rfl <| nL <| tRt ?_
   (have h2 : (if shUses f.types st x.args (r8of f.types x.params) then andQ (shSets f.types st x.params (List.replicate x.params.length 0)) (fun s1 => andQ (shList u f deep ⟨false, true, [], r8of f.types x.params, r8of f.types x.outs⟩ s1 ka) fun s2 => shTail f x (shHide s2 x.params)) else (false, st)).2 = (shSets f.types (shHide (shList u f deep ⟨false, true, [], r8of f.types x.params, r8of f.types x.outs⟩ (shSets f.types st x.params (List.replicate x.params.length 0)).2 ka).2 x.params) x.outs (List.replicate x.outs.length 0)).2 := (by simp_all [andQ, andP, shTail]; done)
    rw [h2]
    refine rOk rfl ?_ (po2 rfl rfl)
    clear h2
    simp_all [andQ, andP, shTail]
    done)
  refine yV rfl rfl (lEA rfl rfl uT42 rfl tS42 (lb rfl)) <| WL.yes rfl rfl rfl rfl rfl rfl (ok_callq (sc_shClosed _) ent84 rfl rfl (sRf _ _) rfl) <| sm 3 rfl ?_
  refine wS 55 rfl (fun hb55 => ?_) fun hb55 => ?_
  ·refine sm 3 rfl <| WL.yes rfl rfl rfl rfl rfl rfl (cRr (sc_shAll u f (shHide (shList u f deep ⟨false, true, [], r8of f.types x.params, r8of f.types x.outs⟩ (shSets f.types st x.params (List.replicate x.params.length 0)).2 ka).2 x.params) hs3 x.outs hbo) ent111 rfl rfl (sRf _ _) (po2 rfl rfl) (by rfl) (fun k (h : _) => .inr h) rfl (by rfl)) <| sm 2 rfl <| nL <| tRt ?_
   (have h2 : (if shUses f.types st x.args (r8of f.types x.params) then andQ (shSets f.types st x.params (List.replicate x.params.length 0)) (fun s1 => andQ (shList u f deep ⟨false, true, [], r8of f.types x.params, r8of f.types x.outs⟩ s1 ka) fun s2 => shTail f x (shHide s2 x.params)) else (false, st)).2 = (shSets f.types (shHide (shList u f deep ⟨false, true, [], r8of f.types x.params, r8of f.types x.outs⟩ (shSets f.types st x.params (List.replicate x.params.length 0)).2 ka).2 x.params) x.outs (List.replicate x.outs.length 0)).2 := (by simp_all [andQ, andP, shTail]; done)
    rw [h2]
    refine rOk rfl ?_ (po2 rfl rfl)
    clear h2
    simp_all [andQ, andP, shTail]
    done)
  refine sm 6 rfl <| nL <| tRt ?_
  (have h2 : (if shUses f.types st x.args (r8of f.types x.params) then andQ (shSets f.types st x.params (List.replicate x.params.length 0)) (fun s1 => andQ (shList u f deep ⟨false, true, [], r8of f.types x.params, r8of f.types x.outs⟩ s1 ka) fun s2 => shTail f x (shHide s2 x.params)) else (false, st)).2 = (shHide (shList u f deep ⟨false, true, [], r8of f.types x.params, r8of f.types x.outs⟩ (shSets f.types st x.params (List.replicate x.params.length 0)).2 ka).2 x.params) := (by simp_all [andQ, andP, shTail]; done)
   rw [h2]
   refine rOk rfl ?_ (po2 rfl rfl)
   clear h2
   simp_all [andQ, andP, shTail]
   done)
theorem sc_shNode (u : Un) (f : Fl) (hg : ∀ g ∈ u.flows, 0 ≤ g.params ∧ g.params ≤ g.types.length) (x : Nd) (deep : Int) (hd : 0 ≤ deep ∧ deep ≤ 100) (wh : Wh) (st : List Int) (hs : st.length = f.types.length) (hbo : x.outs.length ≤ 1073741824) (hbp : x.params.length ≤ 1073741824) (ih : ∀ q ∈ x.kids, ∀ (w : Wh) (st : List Int), st.length = f.types.length → SC Tryz.prog 60 [.ptr 3 0, .pv (nodes q), .pv (whv w), iInt (deep + 1)] (ckS u f 3 st) (fun k => k = 3) (iBool (shList u f (deep + 1) w st q).1) (ckS u f 3 (shList u f (deep + 1) w st q).2)) : SC Tryz.prog 83 [.ptr 3 0, .pv (ndv x), .pv (whv wh), iInt deep] (ckS u f 3 st) (fun k => k = 3) (iBool (shNode u f deep wh st x).1) (ckS u f 3 (shNode u f deep wh st x).2) := by
  refine SC.of Tryz.func83 rfl (lb rfl) fun F ρ w => ?_
  refine tQ <| tG <| cE rfl (ok_box rfl rfl) <| cE rfl (ok_box rfl rfl) <| sm 1 rfl <| nL <| tQ <| tBk <| tQ <| tG <| cV rfl (lEA rfl rfl uT42 rfl tS42 (lb rfl)) <| cE rfl (ocq (sc_shBare _) ent96 rfl rfl) ?_
  refine sm 2 rfl <| nL ?_
  refine tC rfl (fun hc9 => ?_) fun hc9 => ?_
  ·refine tQ <| tG <| sm 1 rfl <| nL <| tRt ?_
   have hbare : r8bare x = false := by simpa using hc9
   rw [shNode_bare _ _ _ _ _ hbare]
   exact rOk rfl rfl (po2 rfl rfl)
  have hbare : r8bare x = true := by simpa using hc9
  refine tQ <| tG <| sm 4 rfl <| nL ?_
  refine tC rfl (fun hc13 => ?_) fun hc13 => ?_
  ·have hk10 : x.kind = 10 := by simpa using hc13
   obtain ⟨ka, kb, hkids⟩ := r8bare_if hbare hk10
   refine tQ <| tG <| sm 1 rfl <| cV rfl (lEA rfl rfl uT42 rfl tS42 (lb rfl)) <| cV rfl (lEA rfl rfl Tryz.underlying100 rfl tS100 (lb rfl)) <| sm 1 rfl <| cV rfl (oB rfl rfl (i64_add rfl (by omega))) <| cE rfl (ocr (sc_shChoice u f st hs x ka kb hkids wh (deep + 1) hbo ih) ent97 rfl (po2 rfl rfl) rfl (fun k (h : _) => .inr h) rfl rfl) <| sm 1 rfl <| nL <| tRt ?_
   rw [shNode_if _ _ _ _ _ hbare hk10 hkids]
   exact rOk rfl rfl (po2 rfl rfl)
  refine tQ <| tG <| sm 4 rfl <| nL ?_
  refine tC rfl (fun hc23 => ?_) fun hc23 => ?_
  ·have hk11 : x.kind = 11 := by simpa using hc23
   obtain ⟨ka, hkids⟩ := r8bare_loop hbare hk11
   refine tQ <| tG <| sm 1 rfl <| cV rfl (lEA rfl rfl uT42 rfl tS42 (lb rfl)) <| sm 1 rfl <| cV rfl (oB rfl rfl (i64_add rfl (by omega))) <| cE rfl (ocr (sc_shLoop u f st hs x ka hkids (deep + 1) hbo hbp ih) ent98 rfl (po2 rfl rfl) rfl (fun k (h : _) => .inr h) rfl rfl) <| sm 1 rfl <| nL <| tRt ?_
   rw [shNode_loop _ _ _ _ _ hbare hk11 hkids]
   exact rOk rfl rfl (po2 rfl rfl)
  refine tQ <| tG <| cV rfl (lEA rfl rfl uT42 rfl tS42 (lb rfl)) <| cE rfl (ocq (sc_shEnds _) ent99 rfl rfl) <| sm 1 rfl <| nL ?_
  refine tC rfl (fun hc32 => ?_) fun hc32 => ?_
  ·refine tQ <| tG <| sm 1 rfl <| cV rfl (lEA rfl rfl uT42 rfl tS42 (lb rfl)) <| cV rfl (lEA rfl rfl Tryz.underlying100 rfl tS100 (lb rfl)) <| cE rfl (ocr (sc_shEnd u f st hs x wh) ent100 rfl (po2 rfl rfl) rfl (fun k (h : _) => .inr h) rfl rfl) <| sm 1 rfl <| nL <| tRt ?_
   rw [shNode_end _ _ _ _ _ hbare hc13 hc23 hc32]
   exact rOk rfl rfl (po2 rfl rfl)
  refine tSk <| tQ <| tG <| sm 1 rfl <| cV rfl (lEA rfl rfl uT42 rfl tS42 (lb rfl)) <| cE rfl (ocr (sc_shSimple u f st hs hg x) ent101 rfl (po2 rfl rfl) rfl (fun k (h : _) => .inr h) rfl rfl) <| sm 1 rfl <| nL <| tRt ?_
  rw [shNode_simple _ _ _ _ _ hbare hc13 hc23 hc32]
  exact rOk rfl rfl (po2 rfl rfl)
theorem sc_shList_aux (N : Nat) : ∀ (u : Un) (f : Fl) (hg : ∀ g ∈ u.flows, 0 ≤ g.params ∧ g.params ≤ g.types.length) (l : List Nd) (deep : Int) (hd : 0 ≤ deep ∧ deep ≤ 101) (wh : Wh) (st : List Int) (hs : st.length = f.types.length) (hb : lsW l ≤ 1073741824), SizeOf.sizeOf l < N → SC Tryz.prog 60 [.ptr 3 0, .pv (nodes l), .pv (whv wh), iInt deep] (ckS u f 3 st) (fun k => k = 3) (iBool (shList u f deep wh st l).1) (ckS u f 3 (shList u f deep wh st l).2) := by
  induction N with
  | zero => intro u f hg l deep hd wh st hs hb hN; exact absurd hN (Nat.not_lt_zero _)
  | succ N ih =>
    intro u f hg l deep hd wh st hs hb hN
    refine SC.of Tryz.func60 rfl (lb rfl) fun F ρ w => ?_
    refine Tr.lenOf (t := 1) rfl (fun hl => ?_)
    simp only [List.length_map] at hl
    refine tQ <| tG <| cE rfl (ok_box rfl rfl) <| sm 1 rfl <| nL <| tQ <| tQ <| tG <| sm 1 rfl <| cV rfl (oSm uT43 rfl) <| sm 1 rfl <| nL ?_
    refine tBk <| Tr.sub (Sub.of (fr' := [(15, iInt 0), (14, iInt l.length), (13, .pv (nodes l)), (6, .pv (.ept [vBool wh.If, vBool wh.Loop, ints wh.Yield, ints wh.Next, ints wh.Left] 0)), (0, .ptr 3 0), (1, .pv (nodes l)), (3, iInt deep)]) ⟨rfl, rfl, rfl, rfl, rfl, rfl, rfl, trivial⟩) ?_
    refine Tr.loop (fun fr σ m => ∃ (k : Nat) (s : List Int), (k ≤ l.length) ∧ (shGo u f deep wh st l = shGo u f deep wh s (l.drop k)) ∧ (s.length = f.types.length) ∧ fr = [(15, iInt k), (14, iInt l.length), (13, .pv (nodes l)), (6, .pv (.ept [vBool wh.If, vBool wh.Loop, ints wh.Yield, ints wh.Next, ints wh.Left] 0)), (0, .ptr 3 0), (1, .pv (nodes l)), (3, iInt deep)] ∧ σ = look (up (ckS u f 3 s)) ∧ m = l.length - k) (n := l.length - 0) ?_ ?_
    ·exact ⟨0, st, Nat.zero_le _, rfl, hs, rfl, rfl, rfl⟩
    rintro fr σ m ⟨k, s, hI0, hI1, hI2, rfl, rfl, rfl⟩
    refine tQ <| tG <| sm 1 rfl <| nL <| tQ ?_
    refine tC rfl (fun hc16 => ?_) fun hc16 => ?_
    ·have hlt : k < l.length := by simpa using hc16
     have hd2 := List.drop_eq_getElem_cons hlt
     have hm := List.getElem_mem hlt
     have hi := nodes_get (List.getElem?_eq_getElem hlt)
     generalize l[k] = x at hd2 hm hi
     have hWx := ndW_eq x
     have hWl := ndW_mem hm
     have hxo : x.outs.length ≤ 1073741824 := by omega
     have hxp : x.params.length ≤ 1073741824 := by omega
     refine tSk <| tQ <| tBk <| tQ <| tG <| sm 1 rfl <| cV rfl (iSq rfl rfl rfl uT43 hi tS42 rfl (by rfl)) <| cV rfl (lEA rfl rfl uT42 rfl tS42 (lb rfl)) <| cE rfl (aLc (k := 110) rfl tZ42 rfl rfl rfl rfl) <| sm 1 rfl <| c0 (sBA rfl rfl rfl rfl rfl (by simp) tS42 (flk rfl) (lb rfl)) <| nL ?_
     refine tQ <| Tr.freezeBox (t := 10) (k := 110) rfl rfl rfl ?_
     refine Tr.heap (σ' := look (up (ckS u f 3 s))) (fun k => by
       simp only [look]
       by_cases h : 110 = k
       · subst h; rfl
       · simp [beq_ne h]) ?_
     refine tG <| sm 3 rfl ?_
     refine wS 22 rfl (fun hb22 => ?_) fun hb22 => ?_
     ·refine sm 17 rfl <| nL <| Tr.condT rfl <| tQ <| tG <| sm 1 rfl <| nL <| tRt ?_
      (have h2 : shList u f deep wh st l = (false, s) := by
         unfold shList
         rw [hI1, hd2]
         unfold shGo
         rw [if_pos (by simpa using hb22)]
         simp [andQ]
       rw [h2]
       exact rOk rfl rfl (po2 rfl rfl))
     refine sm 1 rfl <| yV rfl rfl (lEA rfl rfl uT42 rfl tS42 (lb rfl)) <| yV rfl rfl (lEA rfl rfl Tryz.underlying100 rfl tS100 (lb rfl)) <| sm 1 rfl <| WL.yes rfl rfl rfl rfl rfl rfl (cRr (sc_shNode u f hg x deep ⟨hd.1, by simp at hb22; omega⟩ wh s hI2 hxo hxp (fun q hq w st hst => ih u f hg q (deep + 1) ⟨by omega, by simp at hb22; omega⟩ w st hst (by have := kdW_mem hq; omega) (Nat.lt_of_lt_of_le (kid_lt hm rfl hq) (Nat.le_of_lt_succ hN)))) ent83 rfl rfl (sRf _ _) (po2 rfl rfl) (by rfl) (fun k (h : _) => .inr h) rfl (by rfl)) <| sm 3 rfl ?_
     refine wS 30 rfl (fun hb30 => ?_) fun hb30 => ?_
     ·refine sm 9 rfl <| nL <| Tr.condT rfl <| tQ <| tG <| sm 1 rfl <| nL <| tRt ?_
      (have h2 : shList u f deep wh st l = (false, (shNode u f deep wh s x).2) := by
         unfold shList
         rw [hI1, hd2]
         unfold shGo
         rw [if_neg (by simpa using hb22)]
         have hn1 : (shNode u f deep wh s x).1 = false := by simpa using hb30
         simp [andQ, hn1]
       rw [h2]
       exact rOk rfl rfl (po2 rfl rfl))
     refine yV rfl rfl (lEA rfl rfl uT42 rfl tS42 (lb rfl)) <| WL.yes rfl rfl rfl rfl rfl rfl (ok_callq (sc_shClosed x) ent84 rfl rfl (sRf _ _) rfl) <| sm 2 rfl <| yV rfl rfl (oSm uT43 rfl) <| yV rfl rfl (oB rfl rfl (i64_sub rfl (by omega))) <| sm 1 rfl <| yV rfl rfl (ok_neq_bool rfl rfl rfl Tryz.underlying4) <| sm 1 rfl <| nL ?_
     refine tC rfl (fun hc39 => ?_) fun hc39 => ?_
     ·refine tQ <| tG <| sm 1 rfl <| nL <| tRt ?_
      (have h2 : shList u f deep wh st l = (false, (shNode u f deep wh s x).2) := by
         unfold shList
         rw [hI1, hd2]
         unfold shGo
         rw [if_neg (by simpa using hb22)]
         have hn1 : (shNode u f deep wh s x).1 = true := by simpa using hb30
         have hcl : (r8Closed x != (l.drop (k + 1)).isEmpty) = true := by rw [drop_isEmpty hlt]; simpa using hc39
         simp [andQ, hn1, hcl]
       rw [h2]
       exact rOk rfl rfl (po2 rfl rfl))
     refine tSk <| tG <| cV rfl (oB rfl rfl (i64_add rfl (by omega))) <| sm 1 rfl <| nL ?_
     refine ⟨_, _, ?_, Sub.of (fr' := [(15, iInt (k + 1)), (14, iInt l.length), (13, .pv (nodes l)), (6, .pv (.ept [vBool wh.If, vBool wh.Loop, ints wh.Yield, ints wh.Next, ints wh.Left] 0)), (0, .ptr 3 0), (1, .pv (nodes l)), (3, iInt deep)]) ⟨rfl, rfl, rfl, rfl, rfl, rfl, rfl, trivial⟩, (k + 1), (shNode u f deep wh s x).2, ?_, ?_, ?_, rfl, (look_app_same rfl), rfl⟩
     ·omega
     ·omega
     ·rw [hI1, hd2]
      have hn1 : (shNode u f deep wh s x).1 = true := by simpa using hb30
      have hcl : (r8Closed x != (l.drop (k + 1)).isEmpty) = false := by rw [drop_isEmpty hlt]; simpa using hc39
      have hdp : ¬ deep > 100 := by simpa using hb22
      conv => lhs; unfold shGo
      simp only [if_neg hdp, andQ, hn1, hcl, if_true]
      rfl
     exact (shNode_length ..).trans hI2
    refine tEx <| tQ <| tQ ?_
    have hgo2 : shGo u f deep wh st l = (true, s) := by rw [hI1, List.drop_eq_nil_of_le (by simpa using hc16)]; simp [shGo]
    have hgo : (shGo u f deep wh st l).1 = true := by rw [hgo2]
    have hs0 := hI2
    generalize s = s0 at hgo2 hs0 ⊢
    refine tG <| sm 1 rfl <| cV rfl (oSm uT43 rfl) <| sm 1 rfl <| nL <| tBk <| Tr.sub (Sub.of (fr' := [(43, iInt 0), (42, iInt l.length), (41, .pv (nodes l)), (0, .ptr 3 0), (1, .pv (nodes l))]) ⟨rfl, rfl, rfl, rfl, rfl, trivial⟩) ?_
    refine Tr.loop (fun fr σ m => ∃ (k : Nat) (s : List Int), (k ≤ l.length) ∧ (shHideAll s0 l = shHideAll s (l.drop k)) ∧ (s.length = f.types.length) ∧ fr = [(43, iInt k), (42, iInt l.length), (41, .pv (nodes l)), (0, .ptr 3 0), (1, .pv (nodes l))] ∧ σ = look (up (ckS u f 3 s)) ∧ m = l.length - k) (n := l.length - 0) ?_ ?_
    ·exact ⟨0, s0, Nat.zero_le _, rfl, hs0, rfl, rfl, rfl⟩
    rintro fr σ m ⟨k, s, hJ0, hJ1, hJ2, rfl, rfl, rfl⟩
    refine tQ <| tG <| sm 1 rfl <| nL <| tQ ?_
    refine tC rfl (fun hc44 => ?_) fun hc44 => ?_
    ·have hlt : k < l.length := by simpa using hc44
     have hd2 := List.drop_eq_getElem_cons hlt
     have hm := List.getElem_mem hlt
     have hi := nodes_get (List.getElem?_eq_getElem hlt)
     generalize l[k] = x at hd2 hm hi
     refine tSk <| tQ <| tBk <| tQ <| tG <| cV rfl (iSq rfl rfl rfl uT43 hi tS42 rfl (by rfl)) <| cV rfl (lEA rfl rfl uT42 rfl tS42 (lb rfl)) <| cE rfl (aLc (k := 112) rfl tZ42 rfl rfl rfl rfl) <| c0 (sBA rfl rfl rfl rfl rfl (by simp) tS42 (flk rfl) (lb rfl)) <| nL <| Tr.freezeBox (t := 12) (k := 112) rfl rfl rfl ?_
     refine Tr.heap (σ' := look (up (ckS u f 3 s))) (fun k => by
       simp only [look]
       by_cases h : 112 = k
       · subst h; rfl
       · simp [beq_ne h]) ?_
     refine tG <| sm 3 rfl <| cE rfl (ocr (sc_shHide u f s hJ2 x.outs (shGo_outs hgo x hm)) ent85 rfl (po2 rfl rfl) rfl (fun k (h : _) => .inr h) rfl rfl) <| nL <| tG <| cV rfl (oB rfl rfl (i64_add rfl (by omega))) <| sm 1 rfl <| nL ?_
     refine ⟨_, _, ?_, Sub.of (fr' := [(43, iInt (k + 1)), (42, iInt l.length), (41, .pv (nodes l)), (0, .ptr 3 0), (1, .pv (nodes l))]) ⟨rfl, rfl, rfl, rfl, rfl, trivial⟩, (k + 1), (shHide s x.outs), ?_, ?_, ?_, rfl, (look_app_same rfl), rfl⟩
     ·omega
     ·omega
     ·rw [hJ1, hd2]; rfl
     exact (shHide_length ..).trans hJ2
    refine tEx <| tQ <| tG <| sm 1 rfl <| cV rfl (oSm uT43 rfl) <| sm 2 rfl <| nL <| tRt ?_
    have hge : l.length ≤ k := by simpa using hc44
    have h2 : shList u f deep wh st l = (decide ((l.length : Int) > 0), s) := by
      unfold shList
      rw [hgo2]
      simp only [andQ, if_true, shFin, hJ1, List.drop_eq_nil_of_le hge]
      rfl
    rw [h2]
    exact rOk rfl rfl (po2 rfl rfl)
theorem sc_shList (u : Un) (f : Fl) (hg : ∀ g ∈ u.flows, 0 ≤ g.params ∧ g.params ≤ g.types.length) (l : List Nd) (deep : Int) (hd : 0 ≤ deep ∧ deep ≤ 101) (wh : Wh) (st : List Int) (hs : st.length = f.types.length) (hb : lsW l ≤ 1073741824) : SC Tryz.prog 60 [.ptr 3 0, .pv (nodes l), .pv (whv wh), iInt deep] (ckS u f 3 st) (fun k => k = 3) (iBool (shList u f deep wh st l).1) (ckS u f 3 (shList u f deep wh st l).2) := sc_shList_aux _ u f hg l deep hd wh st hs hb (Nat.lt_succ_self _)
theorem sc_shFlow (u : Un) (f : Fl) (hg : ∀ g ∈ u.flows, 0 ≤ g.params ∧ g.params ≤ g.types.length) (hp : 0 ≤ f.params ∧ f.params ≤ f.types.length) (hb : lsW f.body ≤ 536870912) : SC Tryz.prog 38 [.pv u.enc, .pv (.agg f.enc)] [] (fun _ => False) (iBool (shFlow u f)) [] := by
  refine SC.of Tryz.func38 rfl (lb rfl) fun F ρ w => ?_
  refine tQ <| tG <| cE rfl (ok_box rfl rfl) <| cE rfl (ok_box rfl rfl) <| sm 1 rfl <| nL <| tQ <| tQ <| tG <| sm 4 rfl ?_
  refine wS 10 rfl (fun hb10 => ?_) fun hb10 => ?_
  ·refine sm 10 rfl <| nL <| Tr.condT rfl <| tQ <| tG <| sm 1 rfl <| nL <| tRt <| rOk rfl ?_ nPo
   have hno : (decide (f.params > 8) || decide ((f.types.length : Int) > 20000) || f.types.any (fun t => !isTy t)) = true := by
     simp_all
   simp only [shFlow, hno, Bool.not_true, Bool.false_and]
  refine sm 2 rfl <| yV rfl rfl (oSm uT35 rfl) <| sm 3 rfl ?_
  refine wS 16 rfl (fun hb16 => ?_) fun hb16 => ?_
  ·refine sm 4 rfl <| nL <| Tr.condT rfl <| tQ <| tG <| sm 1 rfl <| nL <| tRt <| rOk rfl ?_ nPo
   have hno : (decide (f.params > 8) || decide ((f.types.length : Int) > 20000) || f.types.any (fun t => !isTy t)) = true := by
     simp_all
   simp only [shFlow, hno, Bool.not_true, Bool.false_and]
  refine sm 2 rfl <| WL.yes rfl rfl rfl rfl rfl rfl (ok_callq (sc_has_int 59 [] [] rfl ent59 (fun t => !isTy t) f.types (fun x hm => (sc_flow1 x).anyR)) ent58 rfl rfl (sSm rfl (Subs.cons (fun _ _ _ _ h => sub_func h) Subs.nil)) rfl) <| sm 1 rfl <| nL ?_
  refine tC rfl (fun hc20 => ?_) fun hc20 => ?_
  ·refine tQ <| tG <| sm 1 rfl <| nL <| tRt <| rOk rfl ?_ nPo
   have hno : (decide (f.params > 8) || decide ((f.types.length : Int) > 20000) || f.types.any (fun t => !isTy t)) = true := by
     simp_all
   simp only [shFlow, hno, Bool.not_true, Bool.false_and]
  ·have hpar : f.params ≤ 8 ∧ f.types.length ≤ 20000 := by
     (simp_all <;> omega)
   have hpt : f.params.toNat ≤ f.types.length := by omega
   have hpi : f.params = (f.params.toNat : Int) := by omega
   have hno : (decide (f.params > 8) || decide ((f.types.length : Int) > 20000) || f.types.any (fun t => !isTy t)) = false := by
     clear hpi
     simp_all
   refine tSk <| tQ <| tDr mixed (fun k => k < 3) <| wR 4 [0, 1, 2, 3, 4] (by kernel_rfl) (fun _ _ _ h => h) <| rV rfl rfl (lEA rfl rfl uT25 rfl tS25 (lb rfl)) <| rV rfl rfl (lEA rfl rfl Tryz.underlying51 rfl tS51 (lb rfl)) <| smR 2 rfl <| rV rfl rfl (oSm uT35 rfl) <| nR <| wO 5 (by kernel_rfl) <| wI rfl rfl nf (new_one rfl) (fun _ _ => ok_makeSlice (k := 4) (s := ⟨3, 1⟩) rfl rfl rfl uT35 tZ3 tC3 rfl (by decide) (by omega) (by omega) rfl rfl rfl rfl) <| wR 2 [6] (by kernel_rfl) (fun _ _ _ h => h) ?_
   refine rV rfl rfl (by exact ok_build rfl rfl tZ97 tP97 rfl (firmHp_ok (by (simp [firmHp, firm1, look, PV.one]; exact ⟨_, _, ⟨rfl, rfl⟩, by simp⟩)))) <| nR <| wO 7 (by kernel_rfl) <| wI rfl rfl nf (new_one rfl) (fun _ _ => ok_boxOwn (k := 3) rfl rfl rfl rfl rfl rfl rfl) <| wR 0 [8] (by kernel_rfl) (fun _ _ _ h => h) <| smR 1 rfl <| nR <| wDn (by kernel_rfl) <| tQ <| tQ <| tG <| sm 3 rfl ?_
   refine nL <| tBk <| Tr.sub (Sub.of (fr' := [(31, iInt 0), (30, iInt f.params), (5, .ptr 3 0), (2, .pv (.ept [arrs u.arrays, flws u.flows] 0)), (3, .pv (.ept [vStr f.name, vInt f.ty, vInt f.params, ints f.types, nodes f.body] 0))]) ⟨rfl, rfl, rfl, rfl, rfl, trivial⟩) ?_
   refine Tr.heap (σ' := look (up (ckS u f 3 (seens 0 f.types.length)))) (fun k => by
  rw [show (seens 0 f.types.length) = List.replicate f.types.length 0 by simp [seens]]
  simp only [ckS, up, List.map_cons, List.map_nil, look, List.length_map, List.length_replicate, List.map_replicate]
  by_cases h3 : 3 = k
  · subst h3; rfl
  · by_cases h4 : 4 = k
    · subst h4; rfl
    · simp [beq_ne h3, beq_ne h4]) ?_
   refine Tr.loop (fun fr σ m => ∃ (k : Nat), (k ≤ f.params.toNat) ∧ fr = [(31, iInt k), (30, iInt f.params), (5, .ptr 3 0), (2, .pv (.ept [arrs u.arrays, flws u.flows] 0)), (3, .pv (.ept [vStr f.name, vInt f.ty, vInt f.params, ints f.types, nodes f.body] 0))] ∧ σ = look (up (ckS u f 3 (seens k f.types.length))) ∧ m = f.params.toNat - k) (n := f.params.toNat - 0) ?_ ?_
   ·exact ⟨0, Nat.zero_le _, rfl, rfl, rfl⟩
   rintro fr σ m ⟨k, hI0, rfl, rfl, rfl⟩
   refine tQ <| tG <| sm 1 rfl <| nL <| tQ ?_
   refine tC rfl (fun hc32 => ?_) fun hc32 => ?_
   ·have hkp : k < f.params.toNat := by simp at hc32; omega
    have hkt : k < f.types.length := by omega
    have hst : ((seens k f.types.length).map eInt)[k]? = some [vInt 0] := by
      rw [List.getElem?_map]
      simp only [seens]
      rw [List.getElem?_append_right (by simp)]
      simp [List.getElem?_replicate, eInt]
      omega
    have hstl : k < ((seens k f.types.length).map eInt).length := by rw [List.length_map, seens_length (by omega)]; exact hkt
    refine tSk <| tQ <| tBk <| tQ <| tG <| sm 2 rfl <| nL <| tG <| sm 1 rfl <| cV rfl (nCk rfl rfl rfl) <| sm 3 rfl <| cV rfl (iRw rfl rfl rfl rfl rfl uT35 tS3 (by assumption) (by rfl)) ?_
    refine c0 (ok_store_row rfl rfl rfl rfl rfl (Nat.add_zero _).symm (by assumption) (by simp) tS3 rfl ((fun h => h))) <| nL <| tG <| cV rfl (oB rfl rfl (i64_add rfl (by omega))) <| sm 1 rfl <| nL ?_
    refine ⟨_, _, ?_, Sub.of (fr' := [(31, iInt (k + 1)), (30, iInt f.params), (5, .ptr 3 0), (2, .pv (.ept [arrs u.arrays, flws u.flows] 0)), (3, .pv (.ept [vStr f.name, vInt f.ty, vInt f.params, ints f.types, nodes f.body] 0))]) ⟨rfl, rfl, rfl, rfl, rfl, trivial⟩, (k + 1), ?_, rfl, (by rw [← seens_set hkt]; exact funext ckS_set), rfl⟩
    all_goals omega
   refine tEx <| tQ ?_
   have hkp : k = f.params.toNat := by simp at hc32; omega
   subst hkp
   refine tG <| sm 3 rfl <| cV rfl (bPu rfl rfl tZ100 tP100 rfl (fbk rfl) rfl) <| cE rfl (cRr (sc_shList u f hg f.body 1 ⟨by omega, by omega⟩ r8where0 (seens f.params.toNat f.types.length) (seens_length hpt) (by omega)) ent60 rfl rfl (sSm rfl (sSm rfl (Subs.cons (fun _ _ _ _ h => sub_pv (q := whv r8where0) (PSub.agg (ps := [vBool false, vBool false, .val (.slice none 0 0), .val (.slice none 0 0), .val (.slice none 0 0)]) (And.intro (PSub.refl _) (And.intro (PSub.refl _) (And.intro PSub.nil (And.intro PSub.nil (And.intro PSub.nil trivial)))))) h) (sSm rfl Subs.nil)))) (po2 rfl rfl) (by rfl) (fun k (h : _) => (show False from h).elim) rfl (by rfl)) <| sm 1 rfl <| nL <| tRt <| rOk rfl ?_ nPo
   simp only [shFlow, hno, Bool.not_false, Bool.true_and]
theorem sc_tkLetter (n : Int) : SC Tryz.prog 77 [.pv (.val (.int .i32 n))] [] (fun _ => False) (iBool (isLetter n)) [] := by
  refine SC.of Tryz.func77 rfl (lb rfl) fun F ρ w => ?_
  refine tQ <| tG <| sm 1 rfl <| nL <| tQ <| tG <| sm 3 rfl ?_
  refine wS 5 rfl (fun hb5 => ?_) fun hb5 => ?_
  ·refine sm 4 rfl ?_
   refine wS 9 rfl (fun hb9 => ?_) fun hb9 => ?_
   ·refine sm 3 rfl <| nUu rfl rfl rfl rfl rfl rfl <| nUu rfl rfl rfl rfl rfl rfl <| sm 7 rfl <| nL <| tRt <| rOk rfl ?_ nPo
    unfold isLetter
    first | (simp_all; done) | (simp_all <;> omega)
   refine sm 3 rfl ?_
   refine wS 12 rfl (fun hb12 => ?_) fun hb12 => ?_
   ·refine sm 5 rfl ?_
    refine wS 17 rfl (fun hb17 => ?_) fun hb17 => ?_
    ·refine sm 4 rfl <| nL <| tRt <| rOk rfl ?_ nPo
     unfold isLetter
     first | (simp_all; done) | (simp_all <;> omega)
    refine sm 4 rfl <| nL <| tRt <| rOk rfl ?_ nPo
    unfold isLetter
    first | (simp_all; done) | (simp_all <;> omega)
   refine sm 9 rfl <| nL <| tRt <| rOk rfl ?_ nPo
   unfold isLetter
   first | (simp_all; done) | (simp_all <;> omega)
  refine sm 7 rfl ?_
  refine wS 12 rfl (fun hb12 => ?_) fun hb12 => ?_
  ·refine sm 5 rfl ?_
   refine wS 17 rfl (fun hb17 => ?_) fun hb17 => ?_
   ·refine sm 4 rfl <| nL <| tRt <| rOk rfl ?_ nPo
    unfold isLetter
    first | (simp_all; done) | (simp_all <;> omega)
   refine sm 4 rfl <| nL <| tRt <| rOk rfl ?_ nPo
   unfold isLetter
   first | (simp_all; done) | (simp_all <;> omega)
  refine sm 9 rfl <| nL <| tRt <| rOk rfl ?_ nPo
  unfold isLetter
  first | (simp_all; done) | (simp_all <;> omega)
theorem sc_tkDigit (n : Int) : SC Tryz.prog 95 [.pv (.val (.int .i32 n))] [] (fun _ => False) (iBool (isDigit n)) [] := by
  refine SC.of Tryz.func95 rfl (lb rfl) fun F ρ w => ?_
  refine tQ <| tG <| sm 1 rfl <| nL <| tQ <| tG <| sm 3 rfl ?_
  refine wS 5 rfl (fun hb5 => ?_) fun hb5 => ?_
  ·refine sm 4 rfl <| nL <| tRt <| rOk rfl ?_ nPo
   unfold isDigit
   first | (simp_all; done) | (simp_all <;> omega)
  refine sm 4 rfl <| nL <| tRt <| rOk rfl ?_ nPo
  unfold isDigit
  first | (simp_all; done) | (simp_all <;> omega)
theorem sc_tkWord (s : ByteArray) : SC Tryz.prog 79 [iStr s] [] (fun _ => False) (iBool (isWord s)) [] := by
  refine SC.of Tryz.func79 rfl (lb rfl) fun F ρ w => ?_
  refine tQ <| tG <| sm 1 rfl <| nL <| tQ <| tQ <| tG <| sm 1 rfl <| nL <| tBk <| tQ <| tQ ?_
  refine tG <| cV rfl (bSt rfl rfl rfl rfl) <| sm 1 rfl <| nL ?_
  refine tC rfl (fun hc4 => ?_) fun hc4 => ?_
  ·refine tSk ?_
   refine tC rfl (fun hc4 => ?_) fun hc4 => ?_
   ·refine tQ <| tG <| sm 1 rfl <| nL <| tRt <| rOk rfl ?_ nPo
    refine congrArg (fun b => iBool b) ?_
    simp_all [isWord]
   refine tSk <| tQ <| tG <| sm 1 rfl <| nL <| tRt <| rOk rfl ?_ nPo
   refine congrArg (fun b => iBool b) ?_
   simp_all [isWord]
  refine tQ <| tG <| cV rfl (bSt rfl rfl rfl rfl) <| sm 1 rfl <| nL ?_
  refine tC rfl (fun hc4 => ?_) fun hc4 => ?_
  ·refine tSk ?_
   refine tC rfl (fun hc4 => ?_) fun hc4 => ?_
   ·refine tQ <| tG <| sm 1 rfl <| nL <| tRt <| rOk rfl ?_ nPo
    refine congrArg (fun b => iBool b) ?_
    simp_all [isWord]
   refine tSk <| tQ <| tG <| sm 1 rfl <| nL <| tRt <| rOk rfl ?_ nPo
   refine congrArg (fun b => iBool b) ?_
   simp_all [isWord]
  refine tQ <| tG <| cV rfl (bSt rfl rfl rfl rfl) <| sm 1 rfl <| nL ?_
  refine tC rfl (fun hc4 => ?_) fun hc4 => ?_
  ·refine tSk ?_
   refine tC rfl (fun hc4 => ?_) fun hc4 => ?_
   ·refine tQ <| tG <| sm 1 rfl <| nL <| tRt <| rOk rfl ?_ nPo
    refine congrArg (fun b => iBool b) ?_
    simp_all [isWord]
   refine tSk <| tQ <| tG <| sm 1 rfl <| nL <| tRt <| rOk rfl ?_ nPo
   refine congrArg (fun b => iBool b) ?_
   simp_all [isWord]
  refine tQ <| tG <| cV rfl (bSt rfl rfl rfl rfl) <| sm 1 rfl <| nL ?_
  refine tC rfl (fun hc4 => ?_) fun hc4 => ?_
  ·refine tSk ?_
   refine tC rfl (fun hc4 => ?_) fun hc4 => ?_
   ·refine tQ <| tG <| sm 1 rfl <| nL <| tRt <| rOk rfl ?_ nPo
    refine congrArg (fun b => iBool b) ?_
    simp_all [isWord]
   refine tSk <| tQ <| tG <| sm 1 rfl <| nL <| tRt <| rOk rfl ?_ nPo
   refine congrArg (fun b => iBool b) ?_
   simp_all [isWord]
  refine tQ <| tG <| cV rfl (bSt rfl rfl rfl rfl) <| sm 1 rfl <| nL ?_
  refine tC rfl (fun hc4 => ?_) fun hc4 => ?_
  ·refine tSk ?_
   refine tC rfl (fun hc4 => ?_) fun hc4 => ?_
   ·refine tQ <| tG <| sm 1 rfl <| nL <| tRt <| rOk rfl ?_ nPo
    refine congrArg (fun b => iBool b) ?_
    simp_all [isWord]
   refine tSk <| tQ <| tG <| sm 1 rfl <| nL <| tRt <| rOk rfl ?_ nPo
   refine congrArg (fun b => iBool b) ?_
   simp_all [isWord]
  refine tQ <| tG <| cV rfl (bSt rfl rfl rfl rfl) <| sm 1 rfl <| nL ?_
  refine tC rfl (fun hc4 => ?_) fun hc4 => ?_
  ·refine tSk ?_
   refine tC rfl (fun hc4 => ?_) fun hc4 => ?_
   ·refine tQ <| tG <| sm 1 rfl <| nL <| tRt <| rOk rfl ?_ nPo
    refine congrArg (fun b => iBool b) ?_
    simp_all [isWord]
   refine tSk <| tQ <| tG <| sm 1 rfl <| nL <| tRt <| rOk rfl ?_ nPo
   refine congrArg (fun b => iBool b) ?_
   simp_all [isWord]
  refine tQ <| tG <| cV rfl (bSt rfl rfl rfl rfl) <| sm 1 rfl <| nL ?_
  refine tC rfl (fun hc4 => ?_) fun hc4 => ?_
  ·refine tSk ?_
   refine tC rfl (fun hc4 => ?_) fun hc4 => ?_
   ·refine tQ <| tG <| sm 1 rfl <| nL <| tRt <| rOk rfl ?_ nPo
    refine congrArg (fun b => iBool b) ?_
    simp_all [isWord]
   refine tSk <| tQ <| tG <| sm 1 rfl <| nL <| tRt <| rOk rfl ?_ nPo
   refine congrArg (fun b => iBool b) ?_
   simp_all [isWord]
  refine tQ <| tG <| cV rfl (bSt rfl rfl rfl rfl) <| sm 1 rfl <| nL ?_
  refine tC rfl (fun hc4 => ?_) fun hc4 => ?_
  ·refine tSk ?_
   refine tC rfl (fun hc4 => ?_) fun hc4 => ?_
   ·refine tQ <| tG <| sm 1 rfl <| nL <| tRt <| rOk rfl ?_ nPo
    refine congrArg (fun b => iBool b) ?_
    simp_all [isWord]
   refine tSk <| tQ <| tG <| sm 1 rfl <| nL <| tRt <| rOk rfl ?_ nPo
   refine congrArg (fun b => iBool b) ?_
   simp_all [isWord]
  refine tQ <| tG <| cV rfl (bSt rfl rfl rfl rfl) <| sm 1 rfl <| nL ?_
  refine tC rfl (fun hc4 => ?_) fun hc4 => ?_
  ·refine tSk ?_
   refine tC rfl (fun hc4 => ?_) fun hc4 => ?_
   ·refine tQ <| tG <| sm 1 rfl <| nL <| tRt <| rOk rfl ?_ nPo
    refine congrArg (fun b => iBool b) ?_
    simp_all [isWord]
   refine tSk <| tQ <| tG <| sm 1 rfl <| nL <| tRt <| rOk rfl ?_ nPo
   refine congrArg (fun b => iBool b) ?_
   simp_all [isWord]
  refine tQ <| tG <| cV rfl (bSt rfl rfl rfl rfl) <| sm 1 rfl <| nL ?_
  refine tC rfl (fun hc4 => ?_) fun hc4 => ?_
  ·refine tSk ?_
   refine tC rfl (fun hc4 => ?_) fun hc4 => ?_
   ·refine tQ <| tG <| sm 1 rfl <| nL <| tRt <| rOk rfl ?_ nPo
    refine congrArg (fun b => iBool b) ?_
    simp_all [isWord]
   refine tSk <| tQ <| tG <| sm 1 rfl <| nL <| tRt <| rOk rfl ?_ nPo
   refine congrArg (fun b => iBool b) ?_
   simp_all [isWord]
  refine tQ <| tG <| cV rfl (bSt rfl rfl rfl rfl) <| sm 1 rfl <| nL ?_
  refine tC rfl (fun hc4 => ?_) fun hc4 => ?_
  ·refine tSk ?_
   refine tC rfl (fun hc4 => ?_) fun hc4 => ?_
   ·refine tQ <| tG <| sm 1 rfl <| nL <| tRt <| rOk rfl ?_ nPo
    refine congrArg (fun b => iBool b) ?_
    simp_all [isWord]
   refine tSk <| tQ <| tG <| sm 1 rfl <| nL <| tRt <| rOk rfl ?_ nPo
   refine congrArg (fun b => iBool b) ?_
   simp_all [isWord]
  refine tQ <| tG <| cV rfl (bSt rfl rfl rfl rfl) <| sm 1 rfl <| nL ?_
  refine tC rfl (fun hc4 => ?_) fun hc4 => ?_
  ·refine tSk ?_
   refine tC rfl (fun hc4 => ?_) fun hc4 => ?_
   ·refine tQ <| tG <| sm 1 rfl <| nL <| tRt <| rOk rfl ?_ nPo
    refine congrArg (fun b => iBool b) ?_
    simp_all [isWord]
   refine tSk <| tQ <| tG <| sm 1 rfl <| nL <| tRt <| rOk rfl ?_ nPo
   refine congrArg (fun b => iBool b) ?_
   simp_all [isWord]
  refine tQ <| tG <| cV rfl (bSt rfl rfl rfl rfl) <| sm 1 rfl <| nL ?_
  refine tC rfl (fun hc4 => ?_) fun hc4 => ?_
  ·refine tSk ?_
   refine tC rfl (fun hc4 => ?_) fun hc4 => ?_
   ·refine tQ <| tG <| sm 1 rfl <| nL <| tRt <| rOk rfl ?_ nPo
    refine congrArg (fun b => iBool b) ?_
    simp_all [isWord]
   refine tSk <| tQ <| tG <| sm 1 rfl <| nL <| tRt <| rOk rfl ?_ nPo
   refine congrArg (fun b => iBool b) ?_
   simp_all [isWord]
  refine tQ <| tG <| cV rfl (bSt rfl rfl rfl rfl) <| sm 1 rfl <| nL ?_
  refine tC rfl (fun hc4 => ?_) fun hc4 => ?_
  ·refine tSk ?_
   refine tC rfl (fun hc4 => ?_) fun hc4 => ?_
   ·refine tQ <| tG <| sm 1 rfl <| nL <| tRt <| rOk rfl ?_ nPo
    refine congrArg (fun b => iBool b) ?_
    simp_all [isWord]
   refine tSk <| tQ <| tG <| sm 1 rfl <| nL <| tRt <| rOk rfl ?_ nPo
   refine congrArg (fun b => iBool b) ?_
   simp_all [isWord]
  refine tQ <| tG <| cV rfl (bSt rfl rfl rfl rfl) <| sm 1 rfl <| nL ?_
  refine tC rfl (fun hc4 => ?_) fun hc4 => ?_
  ·refine tSk ?_
   refine tC rfl (fun hc4 => ?_) fun hc4 => ?_
   ·refine tQ <| tG <| sm 1 rfl <| nL <| tRt <| rOk rfl ?_ nPo
    refine congrArg (fun b => iBool b) ?_
    simp_all [isWord]
   refine tSk <| tQ <| tG <| sm 1 rfl <| nL <| tRt <| rOk rfl ?_ nPo
   refine congrArg (fun b => iBool b) ?_
   simp_all [isWord]
  refine tQ <| tG <| cV rfl (bSt rfl rfl rfl rfl) <| sm 1 rfl <| nL ?_
  refine tC rfl (fun hc4 => ?_) fun hc4 => ?_
  ·refine tSk ?_
   refine tC rfl (fun hc4 => ?_) fun hc4 => ?_
   ·refine tQ <| tG <| sm 1 rfl <| nL <| tRt <| rOk rfl ?_ nPo
    refine congrArg (fun b => iBool b) ?_
    simp_all [isWord]
   refine tSk <| tQ <| tG <| sm 1 rfl <| nL <| tRt <| rOk rfl ?_ nPo
   refine congrArg (fun b => iBool b) ?_
   simp_all [isWord]
  refine tQ <| tG <| cV rfl (bSt rfl rfl rfl rfl) <| sm 1 rfl <| nL ?_
  refine tC rfl (fun hc4 => ?_) fun hc4 => ?_
  ·refine tSk ?_
   refine tC rfl (fun hc4 => ?_) fun hc4 => ?_
   ·refine tQ <| tG <| sm 1 rfl <| nL <| tRt <| rOk rfl ?_ nPo
    refine congrArg (fun b => iBool b) ?_
    simp_all [isWord]
   refine tSk <| tQ <| tG <| sm 1 rfl <| nL <| tRt <| rOk rfl ?_ nPo
   refine congrArg (fun b => iBool b) ?_
   simp_all [isWord]
  refine tG <| cV rfl (bSt rfl rfl rfl rfl) <| sm 1 rfl <| nL ?_
  refine tC rfl (fun hc4 => ?_) fun hc4 => ?_
  ·refine tQ <| tG <| sm 1 rfl <| nL <| tRt <| rOk rfl ?_ nPo
   refine congrArg (fun b => iBool b) ?_
   simp_all [isWord]
  refine tSk <| tQ <| tG <| sm 1 rfl <| nL <| tRt <| rOk rfl ?_ nPo
  refine congrArg (fun b => iBool b) ?_
  simp_all [isWord]
theorem sc_tkRun (s : ByteArray) : SC Tryz.prog 78 [iStr s] [] (fun _ => False) (iStr (runOf s)) [] := by
  refine SC.of Tryz.func78 rfl (lb rfl) fun F ρ w => ?_
  refine tQ <| tG <| sm 1 rfl <| nL <| tQ ?_
  refine Tr.strRange rfl rfl rfl rfl rfl rfl rfl rfl Tryz.underlying9 rfl rfl rfl rfl rfl rfl rfl rfl rfl rfl rfl (fun _ h => h) (fun k fr => (k ≤ s.toList.length ∧ (s.toList.take k).all isLD = true) ∧ fr = [(0, iStr s)]) ⟨[(0, iStr s)], Sub.of ⟨rfl, trivial⟩, ⟨Nat.zero_le _, rfl⟩, rfl⟩ ?_ ?_
  ·rintro b0 k _ hk ⟨hI, rfl⟩
   refine tQ <| tG <| sm 2 rfl <| nL <| tRt <| rOk rfl ?_ nPo
   have hall : s.toList.all isLD = true := by
     have := hI.2
     rwa [List.take_of_length_le (by rw [ba_len]; exact hk)] at this
   simp [runOf, hall]
  rintro ρ2 w2 b0 k _ hk ⟨hI, rfl⟩
  have hlt : k < s.toList.length := by rw [ba_len]; exact hk
  refine tBk <| tQ <| tG <| cV rfl (ok_extract rfl rfl rfl) <| cV rfl (ok_extract rfl rfl rfl) <| sm 2 rfl <| nL <| tQ <| tG <| sm 1 rfl <| cE rfl (ocq (sc_tkLetter _) ent77 rfl rfl) <| sm 2 rfl ?_
  refine wS 14 rfl (fun hb14 => ?_) fun hb14 => ?_
  ·refine sm 1 rfl <| WL.yes rfl rfl rfl rfl rfl rfl (ok_callq (sc_tkDigit _) ent95 rfl rfl (sRf _ _) rfl) <| sm 2 rfl <| nL ?_
   refine tC rfl (fun hc18 => ?_) fun hc18 => ?_
   ·refine tQ <| tG <| sm 2 rfl <| cV rfl (ok_slice_str rfl rfl Tryz.underlying9 (.inl ⟨rfl, rfl⟩) (.inr ⟨_, _, rfl, rfl⟩) (by omega) (Nat.le_of_lt (by assumption))) <| sm 1 rfl <| nL <| tRt <| rOk rfl ?_ nPo
    have hld : isLDr (Utf8.decode s k).1 = false := by
      simp only [isLDr]
      simp_all
    rw [runOf_at hI.2 (List.getElem?_eq_getElem hlt) ((decode_ld hlt).2 hld)]
   refine tSk ?_
   refine ⟨rfl, [(0, iStr s)], Sub.of ⟨rfl, rfl, trivial⟩, ?_, rfl⟩
   have hld : isLDr (Utf8.decode s k).1 = true := by
     simp only [isLDr]
     simp_all
   obtain ⟨hw1, hb1⟩ := (decode_ld hlt).1 hld
   rw [hw1]
   exact ⟨by omega, by rw [List.take_succ_eq_append_getElem hlt, List.all_append, hI.2]; simp [hb1]⟩
  refine sm 4 rfl <| nL <| Tr.condF rfl <| tSk ?_
  refine ⟨rfl, [(0, iStr s)], Sub.of ⟨rfl, rfl, trivial⟩, ?_, rfl⟩
  have hld : isLDr (Utf8.decode s k).1 = true := by
    simp only [isLDr]
    simp_all
  obtain ⟨hw1, hb1⟩ := (decode_ld hlt).1 hld
  rw [hw1]
  exact ⟨by omega, by rw [List.take_succ_eq_append_getElem hlt, List.all_append, hI.2]; simp [hb1]⟩
theorem sc_tkName (s : ByteArray) : SC Tryz.prog 55 [iStr s] [] (fun _ => False) (iBool (isName s)) [] := by
  refine SC.of Tryz.func55 rfl (lb rfl) fun F ρ w => ?_
  refine tQ <| tG <| sm 1 rfl <| nL <| tQ <| tG <| sm 1 rfl <| cV rfl (bSt rfl rfl rfl rfl) <| sm 1 rfl ?_
  refine wS 5 rfl (fun hb5 => ?_) fun hb5 => ?_
  ·have hne : s.toList ≠ [] := by simpa using hb5
   obtain ⟨b0, r0, hs0⟩ := List.exists_cons_of_ne_nil hne
   have hi0 : s[0]? = some b0 := by rw [ba_get (i := 0) (by rw [hs0]; simp)]; simp [hs0]
   have hw0 : IntKind.i32.wrap (b0.toNat : Int) = b0.toNat := by
     have : b0.toNat < 256 := b0.toNat_lt
     simp [IntKind.wrap, IntKind.bits, IntKind.signed]
     omega
   have hre := runOf_eq s
   refine sm 1 rfl <| yV rfl rfl (ok_index_str rfl rfl rfl Tryz.underlying9 (by assumption) (by rfl)) <| yV rfl rfl (ok_conv_int rfl rfl ⟨_, Tryz.underlying5⟩ Tryz.underlying21) <| WL.yes rfl rfl rfl rfl rfl rfl (ok_callq (sc_tkLetter _) ent77 rfl rfl (sRf _ _) rfl) <| sm 2 rfl ?_
   refine wS 11 rfl (fun hb11 => ?_) fun hb11 => ?_
   ·refine sm 1 rfl <| WL.yes rfl rfl rfl rfl rfl rfl (ok_callq (sc_tkRun s) ent78 rfl rfl (sRf _ _) rfl) <| sm 1 rfl <| yV rfl rfl (bSt rfl rfl rfl rfl) <| sm 2 rfl ?_
    refine wS 17 rfl (fun hb17 => ?_) fun hb17 => ?_
    ·refine sm 1 rfl <| yV rfl rfl (ok_len_str rfl rfl Tryz.underlying9) <| sm 3 rfl ?_
     refine wS 22 rfl (fun hb22 => ?_) fun hb22 => ?_
     ·refine sm 1 rfl <| WL.yes rfl rfl rfl rfl rfl rfl (ok_callq (sc_tkWord s) ent79 rfl rfl (sRf _ _) rfl) <| sm 3 rfl <| nL <| tRt <| rOk rfl ?_ nPo
      refine congrArg (fun b => iBool b) ?_
      simp_all [isName]
     refine sm 5 rfl <| nL <| tRt <| rOk rfl ?_ nPo
     refine congrArg (fun b => iBool b) ?_
     (simp_all [isName] <;> omega)
    refine sm 10 rfl <| nL <| tRt <| rOk rfl ?_ nPo
    refine congrArg (fun b => iBool b) ?_
    simp_all [isName]
   refine sm 16 rfl <| nL <| tRt <| rOk rfl ?_ nPo
   refine congrArg (fun b => iBool b) ?_
   simp_all [isName]
  refine sm 22 rfl <| nL <| tRt <| rOk rfl ?_ nPo
  refine congrArg (fun b => iBool b) ?_
  simp_all [isName]
theorem sc_shHead (u : Un) (hW : r8Weight u ≤ 536870912) : SC Tryz.prog 37 [.pv u.enc] [] (fun _ => False) (iBool (shHead u)) [] := by
  refine SC.of Tryz.func37 rfl (lb rfl) fun F ρ w => ?_
  have hW2 : r8Weight u = u.arrays.length + u.flows.length + wtA u.arrays + wtF u.flows := rfl
  have hW3 : (u.arrays.length : Int) + u.flows.length ≤ 536870912 := by omega
  refine tQ <| tG <| cE rfl (ok_box rfl rfl) <| sm 1 rfl <| nL <| tQ <| tG <| cE rfl (ok_makeMap (k := 109) rfl rfl rfl rfl rfl) <| sm 1 rfl <| nL <| tQ <| tQ ?_
  refine tG <| sm 2 rfl ?_
  refine WL.lenOf (t := 11) rfl (fun hl1 => ?_)
  simp only [List.length_map] at hl1
  refine cV rfl (oSm Tryz.underlying22 rfl) <| sm 1 rfl <| nL <| tBk <| Tr.sub (Sub.of (fr' := [(13, iInt 0), (12, iInt u.arrays.length), (11, .pv (arrs u.arrays)), (3, .mp 109), (1, .pv (.ept [arrs u.arrays, flws u.flows] 0))]) ⟨rfl, rfl, rfl, rfl, rfl, trivial⟩) ?_
  refine Tr.loop (fun fr σ m => ∃ (k : Nat) (es : List (Value × PV)), (k ≤ u.arrays.length) ∧ (u.arrays.all shArr = (u.arrays.drop k).all shArr) ∧ (countA [] u.arrays = countA es (u.arrays.drop k)) ∧ (Cnt es) ∧ fr = [(13, iInt k), (12, iInt u.arrays.length), (11, .pv (arrs u.arrays)), (3, .mp 109), (1, .pv (.ept [arrs u.arrays, flws u.flows] 0))] ∧ σ = look [(109, some (.map es))] ∧ m = u.arrays.length - k) (n := u.arrays.length - 0) ?_ ?_
  ·exact ⟨0, [], Nat.zero_le _, rfl, rfl, Cnt.nil, rfl, rfl, rfl⟩
  rintro fr σ m ⟨k, es, hI0, hI1, hI2, hI3, rfl, rfl, rfl⟩
  refine tQ <| tG <| sm 1 rfl <| nL <| tQ ?_
  refine tC rfl (fun hc14 => ?_) fun hc14 => ?_
  ·have hlt : k < u.arrays.length := by simpa using hc14
   have hd := List.drop_eq_getElem_cons hlt
   have hm := List.getElem_mem hlt
   have hi := map_get (f := Ar.enc) (List.getElem?_eq_getElem hlt)
   generalize u.arrays[k] = x at hd hm hi
   refine tSk <| tQ <| tBk <| tQ <| tG <| cV rfl (iSq rfl rfl rfl Tryz.underlying22 hi tS49 rfl (by rfl)) <| cV rfl (lEA rfl rfl Tryz.underlying49 rfl tS49 (lb rfl)) <| cE rfl (aLc (k := 105) rfl tZ49 rfl rfl rfl rfl) <| c0 (sBA rfl rfl rfl rfl rfl ((fun h => h)) tS49 (flk rfl) (lb rfl)) <| nL <| tQ <| Tr.freezeBox (t := 5) (k := 105) rfl rfl rfl ?_
   refine Tr.heap (σ' := look [(109, some (.map es))]) (fun k => by
     simp only [look]
     by_cases h : 105 = k
     · subst h; rfl
     · simp [beq_ne h]) ?_
   obtain ⟨n, hn⟩ := hI3.find (.string x.name)
   have hbump := bump_eq hn
   have hes := hI3.1
   refine tG <| sm 3 rfl <| cV rfl (ok_lookup rfl rfl rfl rfl Tryz.underlying92 Tryz.underlying9 rfl (by assumption) tZ3 trivial) <| WL.sub (Sub.of (fr' := [(20, iInt n), (19, iStr x.name), (17, .mp 109), (5, .pv (.ept [vStr x.name, vInt x.size] 0)), (13, iInt k), (12, iInt u.arrays.length), (11, .pv (arrs u.arrays)), (3, .mp 109), (1, .pv (.ept [arrs u.arrays, flws u.flows] 0))]) ⟨congrArg (fun p => some (IV.pv p)) hn, rfl, rfl, rfl, rfl, rfl, rfl, rfl, rfl, trivial⟩) <| sm 1 rfl <| c0 (ok_mapUpdate rfl rfl rfl rfl rfl ((fun h => h)) Tryz.underlying92 Tryz.underlying9 rfl (by assumption)) <| nL <| tQ <| tG <| sm 2 rfl <| cE rfl (ocq (sc_tkName _) ent55 rfl rfl) <| sm 2 rfl ?_
   refine wS 26 rfl (fun hb26 => ?_) fun hb26 => ?_
   ·refine sm 9 rfl <| nL <| Tr.condT rfl <| tQ <| tG <| sm 1 rfl <| nL <| tRt <| rOk rfl ?_ nPo
    have hx : shArr x = false := by
      clear hd hm hi hI1 hI2 hn
      simp_all [shArr]
    have hA : u.arrays.all shArr = false := by rw [hI1, hd]; simp only [List.all_cons, hx, Bool.false_and]
    simp only [shHead, hA, Bool.false_and]
   refine sm 5 rfl ?_
   refine wS 31 rfl (fun hb31 => ?_) fun hb31 => ?_
   ·refine sm 4 rfl <| nL <| Tr.condT rfl <| tQ <| tG <| sm 1 rfl <| nL <| tRt <| rOk rfl ?_ nPo
    have hx : shArr x = false := by
      clear hd hm hi hI1 hI2 hn
      simp_all [shArr]
    have hA : u.arrays.all shArr = false := by rw [hI1, hd]; simp only [List.all_cons, hx, Bool.false_and]
    simp only [shHead, hA, Bool.false_and]
   refine sm 4 rfl <| nL ?_
   refine tC rfl (fun hc35 => ?_) fun hc35 => ?_
   ·refine tQ <| tG <| sm 1 rfl <| nL <| tRt <| rOk rfl ?_ nPo
    have hx : shArr x = false := by
      clear hd hm hi hI1 hI2 hn
      simp_all [shArr]
    have hA : u.arrays.all shArr = false := by rw [hI1, hd]; simp only [List.all_cons, hx, Bool.false_and]
    simp only [shHead, hA, Bool.false_and]
   refine tSk <| tG <| cV rfl (oB rfl rfl (i64_add rfl (by omega))) <| sm 1 rfl <| nL ?_
   refine ⟨_, _, ?_, Sub.of (fr' := [(13, iInt (k + 1)), (12, iInt u.arrays.length), (11, .pv (arrs u.arrays)), (3, .mp 109), (1, .pv (.ept [arrs u.arrays, flws u.flows] 0))]) ⟨rfl, rfl, rfl, rfl, rfl, trivial⟩, (k + 1), (bump x.name es), ?_, ?_, ?_, ?_, rfl, (funext fun j => by
   simp only [look, ← hbump]
   by_cases h : 109 = j
   · subst h; rfl
   · simp [beq_ne h]), rfl⟩
   ·omega
   ·omega
   ·rw [hI1, hd]
    have hx : shArr x = true := by
      clear hd hm hi hI1 hI2 hn
      simp_all [shArr]
    simp only [List.all_cons, hx, Bool.true_and]
   ·rw [hI2, hd]; rfl
   exact hI3.bump _
  refine tEx <| tQ <| tQ ?_
  have hA : u.arrays.all shArr = true := by
    rw [hI1, List.drop_eq_nil_of_le (by simpa using hc14)]; rfl
  have hcA : countA [] u.arrays = es := by
    rw [hI2, List.drop_eq_nil_of_le (by simpa using hc14)]; rfl
  generalize es = es0 at hcA hI3 ⊢
  refine tG <| sm 2 rfl ?_
  refine WL.lenOf (t := 38) rfl (fun hl2 => ?_)
  simp only [List.length_map] at hl2
  refine cV rfl (oSm uT23 rfl) <| sm 1 rfl <| nL <| tBk <| Tr.sub (Sub.of (fr' := [(40, iInt 0), (39, iInt u.flows.length), (38, .pv (flws u.flows)), (3, .mp 109), (1, .pv (.ept [arrs u.arrays, flws u.flows] 0))]) ⟨rfl, rfl, rfl, rfl, rfl, trivial⟩) ?_
  refine Tr.loop (fun fr σ m => ∃ (k : Nat) (es : List (Value × PV)), (k ≤ u.flows.length) ∧ (u.flows.all shFlw = (u.flows.drop k).all shFlw) ∧ (countF es0 u.flows = countF es (u.flows.drop k)) ∧ (Cnt es) ∧ fr = [(40, iInt k), (39, iInt u.flows.length), (38, .pv (flws u.flows)), (3, .mp 109), (1, .pv (.ept [arrs u.arrays, flws u.flows] 0))] ∧ σ = look [(109, some (.map es))] ∧ m = u.flows.length - k) (n := u.flows.length - 0) ?_ ?_
  ·exact ⟨0, es0, Nat.zero_le _, rfl, rfl, hI3, rfl, rfl, rfl⟩
  ·rintro fr σ m ⟨k, es, hJ0, hJ1, hJ2, hJ3, rfl, rfl, rfl⟩
   refine tQ <| tG <| sm 1 rfl <| nL <| tQ ?_
   refine tC rfl (fun hc41 => ?_) fun hc41 => ?_
   ·have hlt : k < u.flows.length := by simpa using hc41
    have hd := List.drop_eq_getElem_cons hlt
    have hm := List.getElem_mem hlt
    have hi := map_get (f := Fl.enc) (List.getElem?_eq_getElem hlt)
    generalize u.flows[k] = x at hd hm hi
    refine tSk <| tQ <| tBk <| tQ <| tG <| cV rfl (iSq rfl rfl rfl uT23 hi tS51 rfl (by rfl)) <| cV rfl (lEA rfl rfl Tryz.underlying51 rfl tS51 (lb rfl)) <| cE rfl (aLc (k := 107) rfl tZ51 rfl rfl rfl rfl) <| c0 (sBA rfl rfl rfl rfl rfl ((fun h => h)) tS51 (flk rfl) (lb rfl)) <| nL <| tQ <| Tr.freezeBox (t := 7) (k := 107) rfl rfl rfl ?_
    refine Tr.heap (σ' := look [(109, some (.map es))]) (fun k => by
      simp only [look]
      by_cases h : 107 = k
      · subst h; rfl
      · simp [beq_ne h]) ?_
    obtain ⟨n, hn⟩ := hJ3.find (.string x.name)
    have hbump := bump_eq hn
    have hes := hJ3.1
    refine tG <| sm 3 rfl <| cV rfl (ok_lookup rfl rfl rfl rfl Tryz.underlying92 Tryz.underlying9 rfl (by assumption) tZ3 trivial) <| WL.sub (Sub.of (fr' := [(47, iInt n), (46, iStr x.name), (44, .mp 109), (7, .pv (.ept [vStr x.name, vInt x.ty, vInt x.params, ints x.types, nodes x.body] 0)), (40, iInt k), (39, iInt u.flows.length), (38, .pv (flws u.flows)), (3, .mp 109), (1, .pv (.ept [arrs u.arrays, flws u.flows] 0))]) ⟨congrArg (fun p => some (IV.pv p)) hn, rfl, rfl, rfl, rfl, rfl, rfl, rfl, rfl, trivial⟩) <| sm 1 rfl <| c0 (ok_mapUpdate rfl rfl rfl rfl rfl ((fun h => h)) Tryz.underlying92 Tryz.underlying9 rfl (by assumption)) <| nL <| tQ <| tG <| sm 2 rfl <| cE rfl (ocq (sc_tkName _) ent55 rfl rfl) <| sm 2 rfl ?_
    refine wS 53 rfl (fun hb53 => ?_) fun hb53 => ?_
    ·refine sm 18 rfl <| nL <| Tr.condT rfl <| tQ <| tG <| sm 1 rfl <| nL <| tRt <| rOk rfl ?_ nPo
     have hx : shFlw x = false := by
       clear hd hm hi hJ1 hJ2 hn
       simp_all [shFlw]
     have hF : u.flows.all shFlw = false := by rw [hJ1, hd]; simp only [List.all_cons, hx, Bool.false_and]
     simp only [shHead, hF, Bool.false_and, Bool.and_false]
    refine sm 2 rfl <| WL.yes rfl rfl rfl rfl rfl rfl (ok_callq (sc_isTy _) ent56 rfl rfl (sRf _ _) rfl) <| sm 3 rfl ?_
    refine wS 59 rfl (fun hb59 => ?_) fun hb59 => ?_
    ·refine sm 12 rfl <| nL <| Tr.condT rfl <| tQ <| tG <| sm 1 rfl <| nL <| tRt <| rOk rfl ?_ nPo
     have hx : shFlw x = false := by
       clear hd hm hi hJ1 hJ2 hn
       simp_all [shFlw]
     have hF : u.flows.all shFlw = false := by rw [hJ1, hd]; simp only [List.all_cons, hx, Bool.false_and]
     simp only [shHead, hF, Bool.false_and, Bool.and_false]
    refine sm 5 rfl ?_
    refine wS 64 rfl (fun hb64 => ?_) fun hb64 => ?_
    ·refine sm 7 rfl <| nL <| Tr.condT rfl <| tQ <| tG <| sm 1 rfl <| nL <| tRt <| rOk rfl ?_ nPo
     have hx : shFlw x = false := by
       clear hd hm hi hJ1 hJ2 hn
       simp_all [shFlw]
     have hF : u.flows.all shFlw = false := by rw [hJ1, hd]; simp only [List.all_cons, hx, Bool.false_and]
     simp only [shHead, hF, Bool.false_and, Bool.and_false]
    refine sm 4 rfl <| yV rfl rfl (oSm uT35 rfl) <| sm 2 rfl <| nL ?_
    refine tC rfl (fun hc71 => ?_) fun hc71 => ?_
    ·refine tQ <| tG <| sm 1 rfl <| nL <| tRt <| rOk rfl ?_ nPo
     have hx : shFlw x = false := by
       clear hd hm hi hJ1 hJ2 hn
       simp_all [shFlw]
     have hF : u.flows.all shFlw = false := by rw [hJ1, hd]; simp only [List.all_cons, hx, Bool.false_and]
     simp only [shHead, hF, Bool.false_and, Bool.and_false]
    refine tSk <| tG <| cV rfl (oB rfl rfl (i64_add rfl (by omega))) <| sm 1 rfl <| nL ?_
    refine ⟨_, _, ?_, Sub.of (fr' := [(40, iInt (k + 1)), (39, iInt u.flows.length), (38, .pv (flws u.flows)), (3, .mp 109), (1, .pv (.ept [arrs u.arrays, flws u.flows] 0))]) ⟨rfl, rfl, rfl, rfl, rfl, trivial⟩, (k + 1), (bump x.name es), ?_, ?_, ?_, ?_, rfl, (funext fun j => by
  simp only [look, ← hbump]
  by_cases h : 109 = j
  · subst h; rfl
  · simp [beq_ne h]), rfl⟩
    ·omega
    ·omega
    ·rw [hJ1, hd]
     have hx : shFlw x = true := by
       clear hd hm hi hJ1 hJ2 hn
       simp_all [shFlw]
     simp only [List.all_cons, hx, Bool.true_and]
    ·rw [hJ2, hd]; rfl
    exact hJ3.bump _
   refine tEx <| tQ ?_
   have hF : u.flows.all shFlw = true := by
     rw [hJ1, List.drop_eq_nil_of_le (by simpa using hc41)]; rfl
   have hcF : countF (countA [] u.arrays) u.flows = es := by
     rw [hcA, hJ2, List.drop_eq_nil_of_le (by simpa using hc41)]; rfl
   clear hJ1 hJ2 hI1 hI2
   refine tG <| cV rfl (lEA rfl rfl uT25 rfl tS25 (lb rfl)) <| cE rfl (ocq (sc_shPlace u mainName) ent57 rfl rfl) <| sm 1 rfl <| nL <| tQ <| tG <| sm 1 rfl <| cV rfl (ok_len_map rfl rfl rfl Tryz.underlying92 trivial) <| sm 2 rfl <| cV rfl (oSm Tryz.underlying22 rfl) ?_
   refine WL.lenOf (t := 78) rfl (fun hl1 => ?_)
   simp only [List.length_map] at hl1
   refine sm 2 rfl <| cV rfl (oSm uT23 rfl) ?_
   refine WL.lenOf (t := 81) rfl (fun hl2 => ?_)
   simp only [List.length_map] at hl2
   refine cV rfl (oB rfl rfl (i64_add rfl (by omega))) <| sm 2 rfl ?_
   refine wS 85 rfl (fun hb85 => ?_) fun hb85 => ?_
   ·refine sm 4 rfl ?_
    refine wS 89 rfl (fun hb89 => ?_) fun hb89 => ?_
    ·have hk0 : r8Place mainName u.flows 0 ≥ 0 := by simp_all
     obtain ⟨g, hgk, _⟩ := r8Place_at hk0
     have hgi : (u.flows.map Fl.enc)[(r8Place mainName u.flows 0).toNat]? = some g.enc := map_get hgk
     have hgd : u.flows.getD (r8Place mainName u.flows 0).toNat flDef = g := by simp [List.getD, hgk]
     refine sm 3 rfl <| yV rfl rfl (iSq rfl rfl rfl uT23 hgi tS51 rfl (by omega)) <| sm 5 rfl ?_
     refine wS 98 rfl (fun hb98 => ?_) fun hb98 => ?_
     ·refine sm 3 rfl <| yV rfl rfl (iSq rfl rfl rfl uT23 hgi tS51 rfl (by omega)) <| sm 5 rfl <| nL <| tRt <| rOk rfl ?_ nPo
      refine congrArg (fun b => iBool b) ?_
      simp only [shHead, hA, hF, hcF, r8main, Bool.true_and]
      simp_all
     refine sm 9 rfl <| nL <| tRt <| rOk rfl ?_ nPo
     refine congrArg (fun b => iBool b) ?_
     simp only [shHead, hA, hF, hcF, r8main, Bool.true_and]
     simp_all
    refine sm 18 rfl <| nL <| tRt <| rOk rfl ?_ nPo
    refine congrArg (fun b => iBool b) ?_
    simp only [shHead, hA, hF, hcF, r8main, Bool.true_and]
    (simp_all <;> omega)
   refine sm 22 rfl <| nL <| tRt <| rOk rfl ?_ nPo
   refine congrArg (fun b => iBool b) ?_
   simp only [shHead, hA, hF, hcF, r8main, Bool.true_and]
   simp_all
theorem sc_shCheck (u : Un) (hW : r8Weight u ≤ 536870912) : SC Tryz.prog 22 [.pv u.enc] [] (fun _ => False) (.tup [iInt (shCheck u).1, iInt (shCheck u).2]) [] := by
  refine SC.of Tryz.func22 rfl (lb rfl) fun F ρ w => ?_
  refine tQ <| tG <| cE rfl (ok_box rfl rfl) <| sm 2 rfl <| nL <| tQ <| tQ <| tG <| cV rfl (lEA rfl rfl uT25 rfl tS25 (lb rfl)) <| cE rfl (ocq (sc_shHead u hW) ent37 rfl rfl) <| sm 1 rfl <| nL ?_
  refine tC rfl (fun hc8 => ?_) fun hc8 => ?_
  ·refine tQ <| tG <| sm 2 rfl <| nL <| tRt <| rOk rfl ?_ nPo
   have hg : shHead u = false := by simpa using hc8
   simp [shCheck, hg]
  have hg : shHead u = true := by simpa using hc8
  refine tSk <| tQ <| tQ <| tG <| sm 2 rfl ?_
  refine WL.lenOf (t := 10) rfl (fun hl1 => ?_)
  simp only [List.length_map] at hl1
  refine cV rfl (oSm uT23 rfl) <| sm 1 rfl <| nL <| tBk <| Tr.sub (Sub.of (fr' := [(12, iInt 0), (11, iInt u.flows.length), (10, .pv (flws u.flows)), (1, .pv (.ept [arrs u.arrays, flws u.flows] 0))]) ⟨rfl, rfl, rfl, rfl, trivial⟩) ?_
  refine Tr.loop (fun fr σ m => ∃ (k : Nat), (k ≤ u.flows.length) ∧ (shflows u u.flows 0 = shflows u (u.flows.drop k) k) ∧ fr = [(12, iInt k), (11, iInt u.flows.length), (10, .pv (flws u.flows)), (1, .pv (.ept [arrs u.arrays, flws u.flows] 0))] ∧ σ = look [] ∧ m = u.flows.length - k) (n := u.flows.length - 0) ?_ ?_
  ·exact ⟨0, Nat.zero_le _, rfl, rfl, rfl, rfl⟩
  rintro fr σ m ⟨k, hI0, hI1, rfl, rfl, rfl⟩
  refine tQ <| tG <| sm 1 rfl <| nL <| tQ ?_
  refine tC rfl (fun hc13 => ?_) fun hc13 => ?_
  ·have hlt : k < u.flows.length := by simpa using hc13
   have hd := List.drop_eq_getElem_cons hlt
   have hm := List.getElem_mem hlt
   have hi := map_get (f := Fl.enc) (List.getElem?_eq_getElem hlt)
   generalize u.flows[k] = x at hd hm hi
   refine tSk <| tQ <| tBk <| tQ <| tG <| sm 1 rfl <| cV rfl (iSq rfl rfl rfl uT23 hi tS51 rfl (by rfl)) <| cV rfl (lEA rfl rfl Tryz.underlying51 rfl tS51 (lb rfl)) <| cE rfl (aLc (k := 105) rfl tZ51 rfl rfl rfl rfl) <| sm 1 rfl <| c0 (sBA rfl rfl rfl rfl rfl ((fun h => h)) tS51 (flk rfl) (lb rfl)) <| nL ?_
   refine tQ <| Tr.freezeBox (t := 5) (k := 105) rfl rfl rfl <| Tr.heap (σ' := look []) (fun k => by simp only [look]; cases Nat.beq 105 k <;> rfl) <| tG <| cV rfl (lEA rfl rfl uT25 rfl tS25 (lb rfl)) <| cV rfl (lEA rfl rfl Tryz.underlying51 rfl tS51 (lb rfl)) <| cE rfl (ocq (sc_shFlow u x (shHead_params hg) (shHead_params hg x hm) (flow_le hW hm)) ent38 rfl rfl) <| sm 1 rfl <| nL ?_
   refine tC rfl (fun hc20 => ?_) fun hc20 => ?_
   ·refine tQ <| tG <| sm 3 rfl <| nL <| tRt <| rOk rfl ?_ nPo
    have hx : shFlow u x = false := by simpa using hc20
    simp only [shCheck, hg, if_true, hI1, hd, shflows, hx, Bool.false_eq_true, if_false]
   refine tSk <| tG <| cV rfl (oB rfl rfl (i64_add rfl (by omega))) <| sm 1 rfl <| nL ?_
   refine ⟨_, _, ?_, Sub.of (fr' := [(12, iInt (k + 1)), (11, iInt u.flows.length), (10, .pv (flws u.flows)), (1, .pv (.ept [arrs u.arrays, flws u.flows] 0))]) ⟨rfl, rfl, rfl, rfl, trivial⟩, (k + 1), ?_, ?_, rfl, rfl, rfl⟩
   ·omega
   ·omega
   rw [hI1, hd]
   have hx : shFlow u x = true := by simpa using hc20
   simp only [shflows, hx, if_true]
   rfl
  refine tEx <| tQ <| tG <| sm 2 rfl <| nL <| tRt <| rOk rfl ?_ nPo
  have hge : u.flows.length ≤ k := by simpa using hc13
  simp only [shCheck, hg, if_true, hI1, List.drop_eq_nil_of_le hge, shflows]
theorem sc_harmless (x : Nd) : SC Tryz.prog 61 [.pv (ndv x)] [] (fun _ => False) (iBool (hmless x)) [] := by
  refine SC.of Tryz.func61 rfl (lb rfl) fun F ρ w => ?_
  refine tQ <| tG <| cE rfl (ok_box rfl rfl) <| sm 1 rfl <| nL <| tQ <| tQ <| tG <| sm 2 rfl <| nL <| tBk <| tQ ?_
  refine tQ <| tG <| sm 2 rfl <| nL ?_
  refine tC rfl (fun hc5 => ?_) fun hc5 => ?_
  ·refine tSk ?_
   refine tC rfl (fun hc5 => ?_) fun hc5 => ?_
   ·refine tQ <| tG <| sm 1 rfl <| nL <| tRt <| rOk rfl ?_ nPo
    simp_all [hmless]
   refine tQ <| tG <| sm 2 rfl <| nL ?_
   refine tC rfl (fun hc9 => ?_) fun hc9 => ?_
   ·refine tQ <| tG <| sm 4 rfl ?_
    refine wS 14 rfl (fun hb14 => ?_) fun hb14 => ?_
    ·refine sm 5 rfl <| nL <| tRt <| rOk rfl ?_ nPo
     simp_all [hmless]
    refine sm 5 rfl <| nL <| tRt <| rOk rfl ?_ nPo
    simp_all [hmless]
   refine tSk <| tQ <| tG <| sm 1 rfl <| nL <| tRt <| rOk rfl ?_ nPo
   simp_all [hmless]
  refine tQ <| tG <| sm 2 rfl <| nL ?_
  refine tC rfl (fun hc5 => ?_) fun hc5 => ?_
  ·refine tSk ?_
   refine tC rfl (fun hc5 => ?_) fun hc5 => ?_
   ·refine tQ <| tG <| sm 1 rfl <| nL <| tRt <| rOk rfl ?_ nPo
    simp_all [hmless]
   refine tQ <| tG <| sm 2 rfl <| nL ?_
   refine tC rfl (fun hc9 => ?_) fun hc9 => ?_
   ·refine tQ <| tG <| sm 4 rfl ?_
    refine wS 14 rfl (fun hb14 => ?_) fun hb14 => ?_
    ·refine sm 5 rfl <| nL <| tRt <| rOk rfl ?_ nPo
     simp_all [hmless]
    refine sm 5 rfl <| nL <| tRt <| rOk rfl ?_ nPo
    simp_all [hmless]
   refine tSk <| tQ <| tG <| sm 1 rfl <| nL <| tRt <| rOk rfl ?_ nPo
   simp_all [hmless]
  refine tG <| sm 2 rfl <| nL ?_
  refine tC rfl (fun hc5 => ?_) fun hc5 => ?_
  ·refine tQ <| tG <| sm 1 rfl <| nL <| tRt <| rOk rfl ?_ nPo
   simp_all [hmless]
  refine tQ <| tG <| sm 2 rfl <| nL ?_
  refine tC rfl (fun hc9 => ?_) fun hc9 => ?_
  ·refine tQ <| tG <| sm 4 rfl ?_
   refine wS 14 rfl (fun hb14 => ?_) fun hb14 => ?_
   ·refine sm 5 rfl <| nL <| tRt <| rOk rfl ?_ nPo
    simp_all [hmless]
   refine sm 5 rfl <| nL <| tRt <| rOk rfl ?_ nPo
   simp_all [hmless]
  refine tSk <| tQ <| tG <| sm 1 rfl <| nL <| tRt <| rOk rfl ?_ nPo
  simp_all [hmless]
theorem sc_growNode (n : Nat) (h0 : 0 < n) (hn : n ≤ 1073741824) : SC Tryz.prog 86 [.pv (.val (.slice none 0 0)), iInt n] [] (fun _ => False) (.sl 122 0) [(122, .row ⟨42, 8⟩ [])] := by
  refine SC.of Tryz.func86 rfl (lb rfl) fun F ρ w => ?_
  refine tQ <| tG <| sm 1 rfl <| nL <| tQ <| tQ <| tG <| sm 2 rfl <| nL ?_
  refine tC rfl (fun hc6 => ?_) fun hc6 => ?_
  ·exfalso
   simp at hc6
   omega
  refine tSk <| tQ <| tQ <| tG <| sm 2 rfl <| cV rfl (ok_cap_nil rfl rfl uT43) <| sm 1 rfl <| cV rfl (ok_len_nil rfl rfl uT43) <| cV rfl (oB rfl rfl (i64_sub rfl (by omega))) <| cV rfl (oB rfl rfl (i64_sub rfl (by omega))) <| sm 1 rfl <| nL ?_
  refine tQ <| Tr.sub (Sub.of (fr' := [(1, iInt n), (0, .pv (.val (.slice none 0 0)))]) ⟨congrArg (fun z => some (iInt z)) (by omega), rfl, trivial⟩) <| tG <| sm 2 rfl <| nL ?_
  refine tC rfl (fun hc16 => ?_) fun hc16 => ?_
  ·refine tG <| sm 2 rfl <| cV rfl (ok_cap_nil rfl rfl uT43) <| cV rfl (ok_slice_nil rfl rfl rfl uT43 tS42) <| sm 1 rfl ?_
   refine cE rfl (ok_append_zeros (k := 122) (s := ⟨42, 8⟩) rfl rfl rfl uT43 Tryz.underlying3 tZ42 tC42 rfl (by decide) (by omega) (by simp [maxLen]; omega) (by omega) rfl rfl rfl rfl) ?_
   refine sm 1 rfl <| cV rfl (ok_len_nil rfl rfl uT43) <| WL.sliceZero (fr' := []) rfl rfl rfl rfl rfl rfl rfl (by simp) h0 rfl uT43 tS42 (Sub.of trivial) rfl rfl <| sm 1 rfl <| nL <| tQ <| tG <| sm 2 rfl <| nL <| tRt <| rOk rfl ?_ (post_ok (And.intro rfl (trivial)))
   rfl
  exfalso
  simp at hc16
  omega
theorem sc_concatNode (ks : List (List Nd)) (h0 : 0 < tot ks) (hn : tot ks ≤ 1073741824) : SC Tryz.prog 62 [.pv (kids ks)] [] (fun _ => False) (.pv (nodes ks.flatten)) [] := by
  refine SC.of Tryz.func62 rfl (lb rfl) fun F ρ w => ?_
  refine Tr.lenOf (t := 0) rfl (fun hl => ?_)
  simp only [List.length_map] at hl
  refine tQ <| tG <| sm 1 rfl <| nL <| tQ <| tG <| sm 1 rfl <| nL <| tQ <| tQ <| tG <| sm 1 rfl ?_
  refine cV rfl (oSm uT40 rfl) <| sm 1 rfl <| nL <| tBk <| Tr.sub (Sub.of (fr' := [(11, iInt 0), (10, iInt ks.length), (9, .pv (kids ks)), (3, iInt 0), (0, .pv (kids ks))]) ⟨rfl, rfl, rfl, rfl, rfl, trivial⟩) ?_
  refine Tr.loop (fun fr σ m => ∃ (k : Nat) (n : Nat), (k ≤ ks.length) ∧ (n + tot (ks.drop k) = tot ks) ∧ fr = [(11, iInt k), (10, iInt ks.length), (9, .pv (kids ks)), (3, iInt n), (0, .pv (kids ks))] ∧ σ = look [] ∧ m = ks.length - k) (n := ks.length - 0) ?_ ?_
  ·exact ⟨0, 0, Nat.zero_le _, by simp, rfl, rfl, rfl⟩
  rintro fr σ m ⟨k, n, hI0, hI1, rfl, rfl, rfl⟩
  refine tQ <| tG <| sm 1 rfl <| nL <| tQ ?_
  refine tC rfl (fun hc12 => ?_) fun hc12 => ?_
  ·have hlt : k < ks.length := by simpa using hc12
   have hd := List.drop_eq_getElem_cons hlt
   have hm := List.getElem_mem hlt
   have hi := map_get (f := eKid) (List.getElem?_eq_getElem hlt)
   generalize ks[k] = q at hd hm hi
   have hst : tot (q :: ks.drop (k + 1)) = q.length + tot (ks.drop (k + 1)) := rfl
   rw [hd, hst] at hI1
   refine tSk <| tQ <| tBk <| tQ <| tG <| cV rfl (iSq rfl rfl rfl uT40 hi tS43 rfl (by rfl)) <| sm 2 rfl <| nL <| tQ <| tG <| sm 2 rfl <| cV rfl (oSm uT43 rfl) ?_
   refine cV rfl (oB rfl rfl (i64_add rfl (by omega))) <| sm 1 rfl <| nL <| tQ <| tG <| sm 2 rfl <| nL ?_
   refine tC rfl (fun hc20 => ?_) fun hc20 => ?_
   ·exfalso
    simp at hc20
    omega
   refine tSk <| tG <| cV rfl (oB rfl rfl (i64_add rfl (by omega))) <| sm 1 rfl <| nL ?_
   refine ⟨_, _, ?_, Sub.of (fr' := [(11, iInt (k + 1)), (10, iInt ks.length), (9, .pv (kids ks)), (3, iInt (n + q.length)), (0, .pv (kids ks))]) ⟨rfl, rfl, rfl, rfl, rfl, trivial⟩, (k + 1), (n + q.length), ?_, ?_, rfl, rfl, rfl⟩
   all_goals omega
  refine tEx <| tQ ?_
  have hnt : n = tot ks := by
    have := hI1
    rw [List.drop_eq_nil_of_le (by simpa using hc12)] at this
    simpa [tot] using this
  subst hnt
  refine tG <| sm 1 rfl <| cE rfl (ok_calln (k0 := 122) (sc_growNode (tot ks) h0 hn) ent86 rfl rfl (sRf _ _) (fun _ _ h => by cases h) rfl rfl rfl rfl rfl (fun k (h : _) => .inr h) rfl (by rfl)) <| sm 1 rfl <| nL <| tQ <| tQ <| tG <| sm 1 rfl <| cV rfl (oSm uT40 rfl) <| sm 1 rfl <| nL ?_
  refine tBk <| Tr.sub (Sub.of (fr' := [(27, iInt 0), (26, iInt ks.length), (25, .pv (kids ks)), (6, .sl 122 ([] : List Nd).length)]) ⟨rfl, rfl, rfl, rfl, trivial⟩) ?_
  refine Tr.loop (fun fr σ m => ∃ (k : Nat) (acc : List Nd), (k ≤ ks.length) ∧ (acc ++ (ks.drop k).flatten = ks.flatten) ∧ fr = [(27, iInt k), (26, iInt ks.length), (25, .pv (kids ks)), (6, .sl 122 acc.length)] ∧ σ = look [(122, some (.row ⟨42, 8⟩ (acc.map Nd.enc)))] ∧ m = ks.length - k) (n := ks.length - 0) ?_ ?_
  ·exact ⟨0, ([] : List Nd), Nat.zero_le _, by simp, rfl, rfl, rfl⟩
  rintro fr σ m ⟨k, acc, hJ0, hJ1, rfl, rfl, rfl⟩
  refine tQ <| tG <| sm 1 rfl <| nL <| tQ ?_
  refine tC rfl (fun hc28 => ?_) fun hc28 => ?_
  ·have hlt : k < ks.length := by simpa using hc28
   have hd := List.drop_eq_getElem_cons hlt
   have hm := List.getElem_mem hlt
   have hi := map_get (f := eKid) (List.getElem?_eq_getElem hlt)
   generalize ks[k] = q at hd hm hi
   have hfl := tot_flatten ks
   have hal : acc.length + q.length ≤ 1073741824 := by
     have := congrArg List.length hJ1
     rw [hd, hfl] at this
     simp at this
     omega
   have hml : (acc.map Nd.enc).length = acc.length := by simp
   have hmq : (q.map Nd.enc).length = q.length := by simp
   refine tSk <| tQ <| tBk <| tQ <| tG <| cV rfl (iSq rfl rfl rfl uT40 hi tS43 rfl (by rfl)) <| sm 2 rfl <| nL <| tG <| sm 2 rfl ?_
   refine cE rfl (aPp rfl rfl rfl rfl (by (simp; done)) ((fun h => h)) uT43 tB42 (by decide) (hw_node) (hone_node) (by simp [maxLen, chunks]; omega) (by simp [chunks]; omega)) ?_
   refine sm 1 rfl <| nL <| tG <| cV rfl (oB rfl rfl (i64_add rfl (by omega))) <| sm 1 rfl <| nL ?_
   refine ⟨_, _, ?_, Sub.of (fr' := [(27, iInt (k + 1)), (26, iInt ks.length), (25, .pv (kids ks)), (6, .sl 122 (acc ++ q).length)]) ⟨rfl, rfl, rfl, congrArg (fun z => some (IV.sl 122 z)) (by simp), trivial⟩, (k + 1), (acc ++ q), ?_, ?_, rfl, (by rw [List.map_append]; exact look_shadow), rfl⟩
   ·omega
   ·omega
   rw [← hJ1, hd]; simp
  refine tEx <| tQ <| Tr.freeze (t := 6) (k := 122) rfl rfl (by simp) <| tG <| sm 2 rfl <| nL <| tRt <| rOk rfl ?_ nPo
  have hge : ks.length ≤ k := by simpa using hc28
  have : acc = ks.flatten := by rw [← hJ1, List.drop_eq_nil_of_le hge]; simp
  rw [this]
  rfl
theorem sc_part1 (vs : List Int) (v : Int) : SC Tryz.prog 63 [iInt v, .ptr 106 0] [(106, .box [.mp 111]), (111, .map (vsOf vs))] (fun k => k = 106 ∨ k = 111) (iBool (vs.contains v)) [(106, .box [.mp 111]), (111, .map (vsOf vs))] := by
  refine SC.of Tryz.func63 rfl (lb rfl) fun F ρ w => ?_
  have hV := VSet.of vs
  have hes := hV.1
  have hzv : ((Tryz.prog.info? 102).bind (·.zero)) = some (.agg #[]) := tZ102
  refine tQ <| tG <| sm 1 rfl <| nL <| tQ <| tG <| cV rfl (ok_load_box rfl rfl rfl Tryz.underlying101 rfl rfl trivial) <| sm 1 rfl <| cV rfl (ok_lookup2 (kv := vKey v) rfl rfl rfl rfl Tryz.underlying101 Tryz.underlying3 rfl hes hzv trivial) <| sm 1 rfl <| cV rfl (ok_extract rfl rfl rfl) <| WL.sub (Sub.cons2 (fun _ _ _ _ h => unit_sub hV h) Sub.rfl') ?_
  refine cV rfl (ok_extract rfl rfl rfl) <| cE rfl (aLc (k := 104) rfl tZ102 rfl rfl rfl rfl) <| c0 (sBA rfl rfl rfl rfl rfl (by simp) tS102 (flk rfl) (lb rfl)) <| sm 1 rfl <| nL <| tQ <| tG <| sm 2 rfl <| nL <| tRt <| rOk rfl ?_ (po2 rfl rfl)
  rw [vsOf_has]
theorem sc_part (l : List Nd) (ps : List Int) (hl : ∀ x ∈ l, hmless x = true → x.outs ≠ []) (hb : l.length ≤ 1073741824) : SC Tryz.prog 39 [.pv (nodes l), .pv (ints ps)] [] (fun _ => False) (.tup [.pv (nodes (hPart ps l).1), .pv (nodes (hPart ps l).2)]) [] := by
  refine SC.of Tryz.func39 rfl (lb rfl) fun F ρ w => ?_
  refine Tr.lenOf (t := 0) rfl (fun hll => ?_)
  simp only [List.length_map] at hll
  refine Tr.lenOf (t := 1) rfl (fun hlp => ?_)
  simp only [List.length_map] at hlp
  refine tQ <| tG <| sm 2 rfl <| nL <| tQ <| tG <| cE rfl (ok_makeMap (k := 111) rfl rfl rfl rfl rfl) <| cE rfl (aLc (k := 106) rfl tZ101 rfl rfl rfl rfl) <| c0 (sBx rfl rfl rfl rfl ((fun h => h)) tS101 (⟨_, rfl⟩) (lb rfl)) <| nL <| tQ <| tQ ?_
  refine Tr.grow (t := 4) (k := 104) ⟨42, 8⟩ rfl rfl rfl rfl rfl <| Tr.grow (t := 5) (k := 105) ⟨42, 8⟩ rfl rfl rfl rfl rfl <| tG <| sm 1 rfl <| cV rfl (oSm uT35 rfl) <| sm 1 rfl <| nL <| tBk <| Tr.sub (Sub.of (fr' := [(14, iInt 0), (13, iInt ps.length), (12, .pv (ints ps)), (6, .ptr 106 0), (4, .sl 104 0), (5, .sl 105 0), (0, .pv (nodes l))]) ⟨rfl, rfl, rfl, rfl, rfl, rfl, rfl, trivial⟩) ?_
  refine Tr.heap (σ' := look [(104, some (.row ⟨42, 8⟩ [])), (105, some (.row ⟨42, 8⟩ [])), (106, some (.box [.mp 111])), (111, some (.map (vsOf ([] : List Int))))]) (by
  exact fun j => by
    simp only [look]
    by_cases h1 : 106 = j
    · subst h1; rfl
    · by_cases h2 : 111 = j
      · subst h2; rfl
      · by_cases h3 : 104 = j
        · subst h3; rfl
        · by_cases h4 : 105 = j
          · subst h4; rfl
          · simp [look, up, beq_ne h1, beq_ne h2, beq_ne h3, beq_ne h4]) ?_
  refine Tr.loop (fun fr σ m => ∃ (k : Nat) (vs : List Int), (k ≤ ps.length) ∧ (vs ++ ps.drop k = ps) ∧ fr = [(14, iInt k), (13, iInt ps.length), (12, .pv (ints ps)), (6, .ptr 106 0), (4, .sl 104 0), (5, .sl 105 0), (0, .pv (nodes l))] ∧ σ = look [(104, some (.row ⟨42, 8⟩ [])), (105, some (.row ⟨42, 8⟩ [])), (106, some (.box [.mp 111])), (111, some (.map (vsOf vs)))] ∧ m = ps.length - k) (n := ps.length - 0) ?_ ?_
  ·exact ⟨0, ([] : List Int), Nat.zero_le _, rfl, rfl, rfl, rfl⟩
  ·rintro fr σ m ⟨k, vs, hI0, hI1, rfl, rfl, rfl⟩
   refine tQ <| tG <| sm 1 rfl <| nL <| tQ ?_
   refine tC rfl (fun hc15 => ?_) fun hc15 => ?_
   ·have hlt : k < ps.length := by simpa using hc15
    have hd := List.drop_eq_getElem_cons hlt
    have hm := List.getElem_mem hlt
    have hi := map_get (f := eInt) (List.getElem?_eq_getElem hlt)
    generalize ps[k] = x at hd hm hi
    have hV := VSet.of vs
    have hes := hV.1
    refine tSk <| tQ <| tBk <| tQ <| tG <| cV rfl (iSq rfl rfl rfl uT35 hi tS3 rfl (by rfl)) <| sm 2 rfl <| nL <| tG <| cV rfl (ok_load_box rfl rfl rfl Tryz.underlying101 rfl rfl trivial) <| sm 1 rfl <| cV rfl (bPu rfl rfl tZ102 tP102 rfl (fbk rfl) rfl) ?_
    refine c0 (ok_mapUpdate rfl rfl rfl rfl rfl ((fun h => h)) Tryz.underlying101 Tryz.underlying3 rfl (by assumption)) <| nL <| tG <| cV rfl (oB rfl rfl (i64_add rfl (by omega))) <| sm 1 rfl <| nL ?_
    refine ⟨_, _, ?_, Sub.of (fr' := [(14, iInt (k + 1)), (13, iInt ps.length), (12, .pv (ints ps)), (6, .ptr 106 0), (4, .sl 104 0), (5, .sl 105 0), (0, .pv (nodes l))]) ⟨rfl, rfl, rfl, rfl, rfl, rfl, rfl, trivial⟩, (k + 1), (vs ++ [x]), ?_, ?_, rfl, (by
  rw [← vsOf_snoc]
  exact funext (by
  exact fun j => by
    simp only [look]
    by_cases h1 : 106 = j
    · subst h1; rfl
    · by_cases h2 : 111 = j
      · subst h2; rfl
      · by_cases h3 : 104 = j
        · subst h3; rfl
        · by_cases h4 : 105 = j
          · subst h4; rfl
          · simp [look, up, beq_ne h1, beq_ne h2, beq_ne h3, beq_ne h4])), rfl⟩
    ·omega
    ·omega
    rw [List.append_assoc, List.singleton_append, ← hd]; exact hI1
   refine tEx <| tQ <| tQ ?_
   have hvs : ps = vs := by
     have := hI1
     rw [List.drop_eq_nil_of_le (by simpa using hc15)] at this
     simpa using this.symm
   subst hvs
   refine tG <| sm 1 rfl <| cV rfl (oSm uT43 rfl) <| sm 1 rfl <| nL <| tBk <| Tr.sub (Sub.of (fr' := [(24, iInt 0), (23, iInt l.length), (22, .pv (nodes l)), (6, .ptr 106 0), (4, .sl 104 ([] : List Nd).length), (5, .sl 105 ([] : List Nd).length), (0, .pv (nodes l))]) ⟨rfl, rfl, rfl, rfl, rfl, rfl, rfl, trivial⟩) ?_
   refine Tr.loop (fun fr σ m => ∃ (k : Nat) (vs : List Int) (A : List Nd) (B : List Nd), (k ≤ l.length) ∧ (A.length + B.length = k) ∧ (hPart ps l = (A ++ (hPart vs (l.drop k)).1, B ++ (hPart vs (l.drop k)).2)) ∧ fr = [(24, iInt k), (23, iInt l.length), (22, .pv (nodes l)), (6, .ptr 106 0), (4, .sl 104 A.length), (5, .sl 105 B.length), (0, .pv (nodes l))] ∧ σ = look [(104, some (.row ⟨42, 8⟩ (A.map Nd.enc))), (105, some (.row ⟨42, 8⟩ (B.map Nd.enc))), (106, some (.box [.mp 111])), (111, some (.map (vsOf vs)))] ∧ m = l.length - k) (n := l.length - 0) ?_ ?_
   ·exact ⟨0, ps, ([] : List Nd), ([] : List Nd), Nat.zero_le _, rfl, by simp, rfl, rfl, rfl⟩
   ·rintro fr σ m ⟨k, vs, A, B, hJ0, hJ1, hJ2, rfl, rfl, rfl⟩
    refine tQ <| tG <| sm 1 rfl <| nL <| tQ ?_
    refine tC rfl (fun hc25 => ?_) fun hc25 => ?_
    ·have hlt : k < l.length := by simpa using hc25
     have hd := List.drop_eq_getElem_cons hlt
     have hm := List.getElem_mem hlt
     have hi := nodes_get (List.getElem?_eq_getElem hlt)
     generalize l[k] = x at hd hm hi
     have hV := VSet.of vs
     have hes := hV.1
     refine tSk <| tQ <| tBk <| tQ <| tG <| sm 1 rfl <| cV rfl (iSq rfl rfl rfl uT43 hi tS42 rfl (by rfl)) <| cV rfl (lEA rfl rfl uT42 rfl tS42 (lb rfl)) <| cE rfl (aLc (k := 110) rfl tZ42 rfl rfl rfl rfl) <| sm 1 rfl <| c0 (sBA rfl rfl rfl rfl rfl ((fun h => h)) tS42 (flk rfl) (lb rfl)) <| nL ?_
     refine tQ <| tQ <| Tr.freezeBox (t := 10) (k := 110) rfl rfl rfl ?_
     refine Tr.heap (σ' := look [(104, some (.row ⟨42, 8⟩ (A.map Nd.enc))), (105, some (.row ⟨42, 8⟩ (B.map Nd.enc))), (106, some (.box [.mp 111])), (111, some (.map (vsOf vs)))]) (fun j => by
       simp only [look]
       by_cases h : 110 = j
       · subst h; rfl
       · simp [beq_ne h]) ?_
     refine tG <| cV rfl (lEA rfl rfl uT42 rfl tS42 (lb rfl)) <| cE rfl (ocq (sc_harmless x) ent61 rfl rfl) <| sm 1 rfl <| nL ?_
     refine tC rfl (fun hc31 => ?_) fun hc31 => ?_
     ·refine Tr.freeze (t := 4) (k := 104) rfl rfl (by simp) <| Tr.freeze (t := 5) (k := 105) rfl rfl (by simp) <| tQ <| tG <| sm 4 rfl <| cV rfl (ok_slice_seq rfl rfl uT43 tS42 (.inr ⟨_, _, rfl, rfl⟩) (.inl ⟨rfl, rfl⟩) (by (simp; omega)) (by (simp; done)) (hw_node)) <| cE rfl (bSl rfl rfl uT40 tZ43 tS43 rfl rfl rfl rfl (fbk rfl) rfl) ?_
      refine cE rfl (ok_callq (sc_concatNode [B, l.drop k] (by simp [tot]; omega) (by simp [tot]; omega)) ent62 rfl rfl (sSm (by simp [kids, eKid, nodes, List.map_drop, chunks, List.take_of_length_le]) Subs.nil) rfl) ?_
      refine sm 2 rfl <| nL <| tRt <| rOk rfl ?_ nPo
      have hhm : hmless x = false := by simpa using hc31
      rw [hJ2, hd]
      simp only [hPart, hhm, Bool.false_eq_true, if_false, List.append_nil]
      simp [nodes, hd]
     ·have hhm : hmless x = true := by simpa using hc31
      have hon := hl x hm hhm
      obtain ⟨o0, ors, hos⟩ := List.exists_cons_of_ne_nil hon
      have ho0 : (x.outs.map eInt)[0]? = some [vInt o0] := by rw [hos]; rfl
      have hoh : x.outs.headD 0 = o0 := by rw [hos]; rfl
      have hAl : (A.map Nd.enc).length = A.length := by simp
      have hBl : (B.map Nd.enc).length = B.length := by simp
      refine tSk <| tQ <| tQ <| tG <| sm 2 rfl <| cV rfl (ok_makeFunc rfl rfl rfl) ?_
      refine WL.cons rfl rfl rfl (cRr (sc_has_int 63 [.ptr 106 0] [(106, .box [.mp 111]), (111, .map (vsOf vs))] rfl ent63 (fun v => vs.contains v) x.args (fun v hv => (sc_part1 vs v).sameR (fun k hk _ => by
    simp only [up, List.map_cons, List.map_nil, look] at hk
    by_cases h1 : 106 = k
    · exact .inl h1.symm
    · by_cases h2 : 111 = k
      · exact .inr h2.symm
      · simp [beq_ne h1, beq_ne h2] at hk))) ent58 rfl rfl (sRf _ _) (po2 rfl rfl) (by rfl) (fun k (h : _) => .inr trivial) rfl (by rfl)) ?_
      refine nL ?_
      refine tC rfl (fun hc42 => ?_) fun hc42 => ?_
      ·refine Tr.heap (σ' := look [(104, some (.row ⟨42, 8⟩ (A.map Nd.enc))), (105, some (.row ⟨42, 8⟩ (B.map Nd.enc))), (106, some (.box [.mp 111])), (111, some (.map (vsOf vs)))]) (by
         exact fun j => by
           simp only [look]
           by_cases h1 : 106 = j
           · subst h1; rfl
           · by_cases h2 : 111 = j
             · subst h2; rfl
             · by_cases h3 : 104 = j
               · subst h3; rfl
               · by_cases h4 : 105 = j
                 · subst h4; rfl
                 · simp [look, up, beq_ne h1, beq_ne h2, beq_ne h3, beq_ne h4]) ?_
       refine tQ <| tDr mixed (fun k => k ∈ ([106] : List Nat)) <| wR 1 [0, 1, 2, 3, 4, 5] (by kernel_rfl) (fun _ _ _ h => h) <| rV rfl rfl (ok_load_box rfl rfl rfl Tryz.underlying101 rfl rfl (by decide)) <| smR 2 rfl <| rV rfl rfl (iSq rfl rfl rfl uT35 ho0 tS3 rfl (by rfl)) <| smR 1 rfl <| rV rfl rfl (bPu rfl rfl tZ102 tP102 rfl (fbk rfl) rfl) <| nR <| wO 6 (by kernel_rfl) <| wI rfl rfl nf (nOl rfl) (fun _ _ => ok_mapUpdate rfl rfl rfl rfl rfl (by simp) Tryz.underlying101 Tryz.underlying3 rfl (by assumption)) <| wDn (by kernel_rfl) ?_
       refine tQ <| tG <| sm 1 rfl <| cV rfl (lEA rfl rfl uT42 rfl tS42 (lb rfl)) <| cE rfl (bSl rfl rfl uT43 tZ42 tS42 rfl rfl rfl rfl (fbk rfl) rfl) ?_
       refine cE rfl (aPp rfl rfl rfl rfl (by (simp; done)) ((fun h => h)) uT43 tB42 (by decide) (by (simp [chunks]; done)) (hone_cells _) (by simp [maxLen, chunks]; omega) (by simp [chunks]; omega)) ?_
       refine sm 1 rfl <| nL <| tEx <| tG <| cV rfl (oB rfl rfl (i64_add rfl (by omega))) <| sm 1 rfl <| nL ?_
       (have hany : x.args.any (fun v => vs.contains v) = true := by simpa using hc42
        refine ⟨_, _, ?_, Sub.of (fr' := [(24, iInt ((k + 1 : Nat) : Int)), (23, iInt l.length), (22, .pv (nodes l)), (6, .ptr 106 0), (4, .sl 104 A.length), (5, .sl 105 (B ++ [x]).length), (0, .pv (nodes l))]) ⟨rfl, rfl, rfl, rfl, (by rfl), (congrArg (fun z => some (IV.sl _ z)) (by simp [chunks])), rfl, trivial⟩, (k + 1), (vs ++ [o0]), A, (B ++ [x]), ?_, ?_, ?_, rfl, (funext (by
          rw [enc_snoc, ← vsOf_snoc]
          exact fun j => by
            simp only [look]
            by_cases h1 : 106 = j
            · subst h1; rfl
            · by_cases h2 : 111 = j
              · subst h2; rfl
              · by_cases h3 : 104 = j
                · subst h3; rfl
                · by_cases h4 : 105 = j
                  · subst h4; rfl
                  · simp [look, up, beq_ne h1, beq_ne h2, beq_ne h3, beq_ne h4])), rfl⟩
        · omega
        · omega
        · simp; omega
        · rw [hJ2, hd]
          simp only [hPart, hhm, if_true, hany, Bool.false_eq_true, if_false, hoh]
          simp)
       skip
      refine Tr.heap (σ' := look [(104, some (.row ⟨42, 8⟩ (A.map Nd.enc))), (105, some (.row ⟨42, 8⟩ (B.map Nd.enc))), (106, some (.box [.mp 111])), (111, some (.map (vsOf vs)))]) (by
        exact fun j => by
          simp only [look]
          by_cases h1 : 106 = j
          · subst h1; rfl
          · by_cases h2 : 111 = j
            · subst h2; rfl
            · by_cases h3 : 104 = j
              · subst h3; rfl
              · by_cases h4 : 105 = j
                · subst h4; rfl
                · simp [look, up, beq_ne h1, beq_ne h2, beq_ne h3, beq_ne h4]) ?_
      refine tSk <| tG <| sm 1 rfl <| cV rfl (lEA rfl rfl uT42 rfl tS42 (lb rfl)) <| cE rfl (bSl rfl rfl uT43 tZ42 tS42 rfl rfl rfl rfl (fbk rfl) rfl) ?_
      refine cE rfl (aPp rfl rfl rfl rfl (by (simp; done)) ((fun h => h)) uT43 tB42 (by decide) (by (simp [chunks]; done)) (hone_cells _) (by simp [maxLen, chunks]; omega) (by simp [chunks]; omega)) ?_
      refine sm 1 rfl <| nL <| tG <| cV rfl (oB rfl rfl (i64_add rfl (by omega))) <| sm 1 rfl <| nL ?_
      (have hany : x.args.any (fun v => vs.contains v) = false := by simpa using hc42
       refine ⟨_, _, ?_, Sub.of (fr' := [(24, iInt ((k + 1 : Nat) : Int)), (23, iInt l.length), (22, .pv (nodes l)), (6, .ptr 106 0), (4, .sl 104 (A ++ [x]).length), (5, .sl 105 B.length), (0, .pv (nodes l))]) ⟨rfl, rfl, rfl, rfl, (congrArg (fun z => some (IV.sl _ z)) (by simp [chunks])), (by rfl), rfl, trivial⟩, (k + 1), vs, (A ++ [x]), B, ?_, ?_, ?_, rfl, (funext (by
         rw [enc_snoc]
         exact fun j => by
           simp only [look]
           by_cases h1 : 106 = j
           · subst h1; rfl
           · by_cases h2 : 111 = j
             · subst h2; rfl
             · by_cases h3 : 104 = j
               · subst h3; rfl
               · by_cases h4 : 105 = j
                 · subst h4; rfl
                 · simp [look, up, beq_ne h1, beq_ne h2, beq_ne h3, beq_ne h4])), rfl⟩
       · omega
       · omega
       · simp; omega
       · rw [hJ2, hd]
         simp only [hPart, hhm, if_true, hany, Bool.false_eq_true, if_false, hoh]
         simp)
      skip
    refine tEx <| tQ <| Tr.freeze (t := 4) (k := 104) rfl rfl (by simp) <| Tr.freeze (t := 5) (k := 105) rfl rfl (by simp) <| tG <| sm 4 rfl <| nL <| tRt <| rOk rfl ?_ nPo
    have hge : l.length ≤ k := by simpa using hc25
    rw [hJ2, List.drop_eq_nil_of_le hge]
    simp only [hPart, List.append_nil]
    rfl
theorem sc_hList_aux (N : Nat) : ∀ (l : List Nd) (hok : hOkL l = true) (hb : lsW l ≤ 1073741824), SizeOf.sizeOf l < N → SC Tryz.prog 23 [.pv (nodes l)] [] (fun _ => False) (.pv (nodes (hList l))) [] := by
  induction N with
  | zero => intro l hok hb hN; exact absurd hN (Nat.not_lt_zero _)
  | succ N ih =>
    intro l hok hb hN
    refine SC.of Tryz.func23 rfl (lb rfl) fun F ρ w => ?_
    refine Tr.lenOf (t := 0) rfl (fun hl => ?_)
    simp only [List.length_map] at hl
    refine tQ <| tG <| sm 1 rfl <| nL <| tQ <| tQ <| Tr.grow (t := 2) (k := 102) ⟨42, 8⟩ rfl rfl rfl rfl rfl <| tG <| sm 1 rfl <| cV rfl (oSm uT43 rfl) <| sm 1 rfl <| nL ?_
    refine tBk <| Tr.sub (Sub.of (fr' := [(12, iInt 0), (11, iInt l.length), (10, .pv (nodes l)), (2, .sl 102 ([] : List Nd).length)]) ⟨rfl, rfl, rfl, rfl, trivial⟩) ?_
    refine Tr.loop (fun fr σ m => ∃ (k : Nat) (out : List Nd), (k ≤ l.length) ∧ (out ++ hList (l.drop k) = hList l) ∧ fr = [(12, iInt k), (11, iInt l.length), (10, .pv (nodes l)), (2, .sl 102 out.length)] ∧ σ = look [(102, some (.row ⟨42, 8⟩ (out.map Nd.enc)))] ∧ m = l.length - k) (n := l.length - 0) ?_ ?_
    ·exact ⟨0, ([] : List Nd), Nat.zero_le _, rfl, rfl, rfl, rfl⟩
    ·rintro fr σ m ⟨k, out, hI0, hI1, rfl, rfl, rfl⟩
     refine tQ <| tG <| sm 1 rfl <| nL <| tQ ?_
     refine tC rfl (fun hc13 => ?_) fun hc13 => ?_
     ·have hlt : k < l.length := by simpa using hc13
      have hd := List.drop_eq_getElem_cons hlt
      have hm := List.getElem_mem hlt
      have hi := nodes_get (List.getElem?_eq_getElem hlt)
      generalize l[k] = x at hd hm hi
      have hst : hList (x :: l.drop (k + 1)) = hNode x ++ hList (l.drop (k + 1)) := rfl
      have hxok := hOkL_mem hok hm
      rw [hOkN_eq] at hxok
      simp only [Bool.and_eq_true] at hxok
      have hlen1 := hList_len l
      have hol : out.length + (hNode x).length ≤ 1073741824 := by
        have := congrArg List.length hI1
        rw [hd, hst] at this
        simp only [List.length_append] at this
        omega
      have hWx := ndW_eq x
      have hWl := ndW_mem hm
      have hkl : x.kids.length ≤ 1073741824 := by
        have := kd_len x.kids; omega
      have hml : (out.map Nd.enc).length = out.length := by simp
      refine tSk <| tQ <| tBk <| tQ <| tG <| cV rfl (iSq rfl rfl rfl uT43 hi tS42 rfl (by rfl)) <| cV rfl (lEA rfl rfl uT42 rfl tS42 (lb rfl)) <| cE rfl (aLc (k := 104) rfl tZ42 rfl rfl rfl rfl) <| c0 (sBA rfl rfl rfl rfl rfl ((fun h => h)) tS42 (flk rfl) (lb rfl)) <| nL <| tQ <| tG ?_
      refine sm 1 rfl <| nL <| tQ <| tQ <| Tr.grow (t := 5) (k := 105) ⟨43, 1⟩ rfl rfl rfl rfl rfl <| tG <| sm 2 rfl <| cV rfl (oSm uT40 rfl) <| sm 1 rfl <| nL <| tBk <| Tr.sub (Sub.of (fr' := [(19, iInt 0), (18, iInt x.kids.length), (17, .pv (kids x.kids)), (5, .sl 105 (([] : List (List Nd)).map eKid).length), (4, .ptr 104 0), (2, .sl 102 out.length), (12, iInt k), (11, iInt l.length), (10, .pv (nodes l))]) ⟨rfl, rfl, rfl, rfl, rfl, rfl, rfl, rfl, rfl, trivial⟩) ?_
      refine Tr.heap (σ' := look [(105, some (.row ⟨43, 1⟩ (([] : List (List Nd)).map eKid))), (104, some (.box [iInt x.kind, iInt x.op, iInt x.n, iStr x.name, .pv (ints x.args), .pv (ints x.outs), .pv (ints x.params), .pv (kids x.kids)])), (102, some (.row ⟨42, 8⟩ (out.map Nd.enc)))]) (lkq [105, 104, 102] rfl rfl ⟨rfl, rfl, rfl, trivial⟩) ?_
      refine Tr.loop (fun fr σ m => ∃ (i : Nat) (acc : List (List Nd)), (i ≤ x.kids.length) ∧ (acc ++ hKids (x.kids.drop i) = hKids x.kids) ∧ (acc.length = i) ∧ fr = [(19, iInt i), (18, iInt x.kids.length), (17, .pv (kids x.kids)), (5, .sl 105 (acc.map eKid).length), (4, .ptr 104 0), (2, .sl 102 out.length), (12, iInt k), (11, iInt l.length), (10, .pv (nodes l))] ∧ σ = look [(105, some (.row ⟨43, 1⟩ (acc.map eKid))), (104, some (.box [iInt x.kind, iInt x.op, iInt x.n, iStr x.name, .pv (ints x.args), .pv (ints x.outs), .pv (ints x.params), .pv (kids x.kids)])), (102, some (.row ⟨42, 8⟩ (out.map Nd.enc)))] ∧ m = x.kids.length - i) (n := x.kids.length - 0) ?_ ?_
      ·exact ⟨0, ([] : List (List Nd)), Nat.zero_le _, rfl, rfl, rfl, rfl, rfl⟩
      ·rintro fr σ m ⟨i, acc, hJ0, hJ1, hJ2, rfl, rfl, rfl⟩
       refine tQ <| tG <| sm 1 rfl <| nL <| tQ ?_
       refine tC rfl (fun hc20 => ?_) fun hc20 => ?_
       ·have hlt2 : i < x.kids.length := by simpa using hc20
        have hd2 := List.drop_eq_getElem_cons hlt2
        have hm2 := List.getElem_mem hlt2
        have hi2 := map_get (f := eKid) (List.getElem?_eq_getElem hlt2)
        generalize x.kids[i] = q at hd2 hm2 hi2
        have hst2 : hKids (q :: x.kids.drop (i + 1)) = hList q :: hKids (x.kids.drop (i + 1)) := rfl
        have hdec : SizeOf.sizeOf q < N := Nat.lt_of_lt_of_le (kid_lt hm rfl hm2) (Nat.le_of_lt_succ hN)
        have hqok := hOkK_mem hxok.2 hm2
        have hqb : lsW q ≤ 1073741824 := by have := kdW_mem hm2; omega
        have hal : (acc.map eKid).length = acc.length := by simp
        refine tSk <| tQ <| tBk <| tQ <| tG <| cV rfl (iSq rfl rfl rfl uT40 hi2 tS43 rfl (by rfl)) <| sm 2 rfl <| nL <| tG <| sm 2 rfl <| cE rfl (ocq (ih q hqok hqb hdec) ent23 rfl rfl) <| cE rfl (bSl rfl rfl uT40 tZ43 tS43 rfl rfl rfl rfl (fbk rfl) rfl) ?_
        refine cE rfl (aPp rfl rfl rfl rfl (by rfl) ((fun h => h)) uT40 tB43 (by decide) (by (simp [chunks]; done)) (by (simp [chunks, PV.one]; rfl)) (by simp [maxLen, chunks]; omega) (by simp [chunks]; omega)) ?_
        refine sm 1 rfl <| nL <| tG <| cV rfl (oB rfl rfl (i64_add rfl (by omega))) <| sm 1 rfl <| nL ?_
        refine ⟨_, _, ?_, Sub.of (fr' := [(19, iInt (i + 1)), (18, iInt x.kids.length), (17, .pv (kids x.kids)), (5, .sl 105 ((acc ++ [hList q]).map eKid).length), (4, .ptr 104 0), (2, .sl 102 out.length), (12, iInt k), (11, iInt l.length), (10, .pv (nodes l))]) ⟨rfl, rfl, rfl, (by exact congrArg (fun z => some (IV.sl _ z)) (by rw [List.map_append]; simp [chunks]; done)), rfl, rfl, rfl, rfl, rfl, trivial⟩, (i + 1), (acc ++ [hList q]), ?_, ?_, ?_, rfl, (by
  rw [List.map_append]
  exact funext (lkq [105, 104, 102] rfl rfl ⟨rfl, rfl, rfl, trivial⟩)), rfl⟩
        ·omega
        ·omega
        ·rw [List.append_assoc, List.singleton_append, ← hst2, ← hd2]; exact hJ1
        simp [hJ2]
       refine tEx <| tQ ?_
       have hks : acc = hKids x.kids := by
         have := hJ1
         rw [List.drop_eq_nil_of_le (by simpa using hc20)] at this
         simpa [hKids] using this
       subst hks
       clear hJ1
       refine tG <| sm 2 rfl <| c0 (sBx rfl rfl rfl rfl ((fun h => h)) tS40 (⟨_, _, rfl, rfl⟩) (lb rfl)) <| nL <| tQ <| tQ <| Tr.heap (σ' := look [(105, some (.row ⟨43, 1⟩ ((hKids x.kids).map eKid))), (104, some (.box [iInt x.kind, iInt x.op, iInt x.n, iStr x.name, .pv (ints x.args), .pv (ints x.outs), .pv (ints x.params), .sl 105 ((hKids x.kids).map eKid).length])), (102, some (.row ⟨42, 8⟩ (out.map Nd.enc)))]) (lkq [105, 104, 102] rfl rfl ⟨rfl, rfl, rfl, trivial⟩) <| tG <| sm 3 rfl <| nL ?_
       refine tC rfl (fun hc33 => ?_) fun hc33 => ?_
       ·have hk11 : (x.kind == 11) = true := hc33
        have hkn : x.kids ≠ [] := by
          intro e
          have := hxok.1.2
          rw [e] at this
          simp [bne, hk11] at this
        obtain ⟨b0, br, hbr⟩ := List.exists_cons_of_ne_nil hkn
        have hkb : hKids x.kids = hList b0 :: hKids br := by rw [hbr]; rfl
        have hb0 : hOkL b0 = true := hOkK_mem hxok.2 (by rw [hbr]; exact .head _)
        have hb0l : lsW b0 ≤ 1073741824 := by have := kdW_mem (q := b0) (ks := x.kids) (by rw [hbr]; exact .head _); omega
        generalize hbe : hList b0 = b at hkb
        have hbo : ∀ y ∈ b, hmless y = true → y.outs ≠ [] := by rw [← hbe]; exact hList_outs b0 hb0
        have hbl : b.length ≤ 1073741824 := by have := hList_len b0; rw [hbe] at this; omega
        have hst0 : ((hKids x.kids).map eKid)[0]? = some [nodes b] := by rw [hkb]; rfl
        have hstl : 0 < ((hKids x.kids).map eKid).length := by rw [hkb]; simp
        have hNx : hNode x = (hPart x.params b).1 ++ [.mk x.kind x.op x.n x.name x.args x.outs x.params ((hPart x.params b).2 :: hKids br)] := by
          rw [hNode_eq, hkb]
          simp only [hOut, hk11, if_true]
        have hpl : (hPart x.params b).1.length + 1 = (hNode x).length := by rw [hNx]; simp
        have hpm : ((hPart x.params b).1.map Nd.enc).length = (hPart x.params b).1.length := by simp
        have hset : ((hKids x.kids).map eKid).set 0 ([nodes b].set 0 (nodes (hPart x.params b).2)) = ((hPart x.params b).2 :: hKids br).map eKid := by rw [hkb]; rfl
        refine tQ <| tDr mixed (fun k => k ∈ ([104, 105] : List Nat)) <| wR 6 [0, 1, 2, 3, 4, 5] (by kernel_rfl) (fun _ _ _ h => h) <| smR 1 rfl <| rV rfl rfl (oLb uT40 rfl rfl rfl (by decide)) <| rV rfl rfl (iRw rfl rfl rfl rfl rfl uT40 tS43 (by assumption) (by rfl)) <| rV rfl rfl (lRw rfl rfl rfl rfl (Nat.add_zero _).symm (by assumption) rfl uT43 rfl (by decide)) <| smR 1 rfl <| rV rfl rfl (oLb uT35 rfl rfl rfl (by decide)) <| nR <| wO 6 (by kernel_rfl) <| wI rfl rfl nf nw (fun _ _ => ocq (sc_part b x.params hbo hbl) ent39 rfl rfl) ?_
        refine wR 0 [7, 8, 9, 10, 11] (by kernel_rfl) (fun _ _ _ h => h) <| smR 1 rfl <| rV rfl rfl (ok_extract rfl rfl rfl) <| rV rfl rfl (ok_extract rfl rfl rfl) <| smR 2 rfl <| nR <| wDn (by kernel_rfl) <| tQ <| tG <| sm 2 rfl ?_
        refine cE rfl (aPp rfl rfl rfl rfl (by (simp; done)) ((fun h => h)) uT43 tB42 (by decide) (hw_node) (hone_node) (by simp [maxLen, chunks]; omega) (by simp [chunks]; omega)) ?_
        refine sm 1 rfl <| nL <| tG <| sm 3 rfl <| cV rfl (iRw rfl rfl rfl rfl rfl uT40 tS43 (by assumption) (by rfl)) <| c0 (ok_store_row rfl rfl rfl rfl rfl (Nat.add_zero _).symm (by assumption) (by simp) tS43 rfl ((fun h => h))) <| nL <| Tr.freezeCell (k := 105) (k2 := 104) (j := 7) rfl (by simp) rfl rfl (by decide) ?_
        refine Tr.heap (σ' := look [(104, some (.box [iInt x.kind, iInt x.op, iInt x.n, iStr x.name, .pv (ints x.args), .pv (ints x.outs), .pv (ints x.params), .pv (kids ((hPart x.params b).2 :: hKids br))])), (102, some (.row ⟨42, 8⟩ (out.map Nd.enc ++ (hPart x.params b).1.map Nd.enc)))]) (by
          rw [hset]
          intro j
          simp only [look]
          by_cases h104 : 104 = j
          · subst h104; rfl
          · by_cases h105 : 105 = j
            · subst h105; rfl
            · by_cases h102 : 102 = j
              · subst h102; rfl
              · simp [look, up, beq_ne h104, beq_ne h105, beq_ne h102]) ?_
        refine tG <| sm 1 rfl <| cV rfl (lBP rfl rfl rfl uT42 rfl tS42 (lb rfl) rfl trivial) <| cE rfl (bSl rfl rfl uT43 tZ42 tS42 rfl rfl rfl rfl (fbk rfl) rfl) ?_
        refine cE rfl (aPp rfl rfl rfl rfl (by (simp; done)) ((fun h => h)) uT43 tB42 (by decide) (by (simp [chunks]; done)) (hone_cells8 _ _ _ _ _ _ _ _) (by simp [maxLen, chunks]; omega) (by simp [chunks]; omega)) ?_
        refine sm 1 rfl <| nL <| Tr.drop (k := 104) ?_
        refine Tr.heap (σ' := look [(102, some (.row ⟨42, 8⟩ ((out ++ hNode x).map Nd.enc)))]) (by
          rw [hNx, ← List.append_assoc, enc_snoc, List.map_append]
          intro j
          simp only [look]
          by_cases h104 : 104 = j
          · subst h104; rfl
          · by_cases h102 : 102 = j
            · subst h102; rfl
            · simp [look, up, beq_ne h104, beq_ne h102]) ?_
        refine tG <| cV rfl (oB rfl rfl (i64_add rfl (by omega))) <| sm 1 rfl <| nL ?_
        refine ⟨_, _, ?_, Sub.of (fr' := [(12, iInt (k + 1)), (11, iInt l.length), (10, .pv (nodes l)), (2, .sl 102 (out ++ hNode x).length)]) ⟨rfl, rfl, rfl, congrArg (fun z => some (IV.sl _ z)) (by rw [hNx]; first | (simp [chunks]; done) | (simp [chunks]; omega)), trivial⟩, (k + 1), (out ++ hNode x), ?_, ?_, rfl, rfl, rfl⟩
        ·omega
        ·omega
        rw [List.append_assoc, ← hst, ← hd]; exact hI1
       have hk11 : (x.kind == 11) = false := hc33
       have hNx : hNode x = [.mk x.kind x.op x.n x.name x.args x.outs x.params (hKids x.kids)] := by
         rw [hNode_eq]
         simp only [hOut, hk11, Bool.false_eq_true, if_false]
       have hN1 : (hNode x).length = 1 := by rw [hNx]; rfl
       refine tSk <| Tr.freezeCell (k := 105) (k2 := 104) (j := 7) rfl (by simp) rfl rfl (by decide) ?_
       refine Tr.heap (σ' := look [(104, some (.box [iInt x.kind, iInt x.op, iInt x.n, iStr x.name, .pv (ints x.args), .pv (ints x.outs), .pv (ints x.params), .pv (kids (hKids x.kids))])), (102, some (.row ⟨42, 8⟩ (out.map Nd.enc)))]) (by
         skip
         intro j
         simp only [look]
         by_cases h104 : 104 = j
         · subst h104; rfl
         · by_cases h105 : 105 = j
           · subst h105; rfl
           · by_cases h102 : 102 = j
             · subst h102; rfl
             · simp [look, up, beq_ne h104, beq_ne h105, beq_ne h102]) ?_
       refine tG <| sm 1 rfl <| cV rfl (lBP rfl rfl rfl uT42 rfl tS42 (lb rfl) rfl trivial) <| cE rfl (bSl rfl rfl uT43 tZ42 tS42 rfl rfl rfl rfl (fbk rfl) rfl) ?_
       refine cE rfl (aPp rfl rfl rfl rfl (by (simp; done)) ((fun h => h)) uT43 tB42 (by decide) (by (simp [chunks]; done)) (hone_cells8 _ _ _ _ _ _ _ _) (by simp [maxLen, chunks]; omega) (by simp [chunks]; omega)) ?_
       refine sm 1 rfl <| nL <| Tr.drop (k := 104) ?_
       refine Tr.heap (σ' := look [(102, some (.row ⟨42, 8⟩ ((out ++ hNode x).map Nd.enc)))]) (by
         rw [hNx, enc_snoc]
         intro j
         simp only [look]
         by_cases h104 : 104 = j
         · subst h104; rfl
         · by_cases h102 : 102 = j
           · subst h102; rfl
           · simp [look, up, beq_ne h104, beq_ne h102]) ?_
       refine tG <| cV rfl (oB rfl rfl (i64_add rfl (by omega))) <| sm 1 rfl <| nL ?_
       refine ⟨_, _, ?_, Sub.of (fr' := [(12, iInt (k + 1)), (11, iInt l.length), (10, .pv (nodes l)), (2, .sl 102 (out ++ hNode x).length)]) ⟨rfl, rfl, rfl, congrArg (fun z => some (IV.sl _ z)) (by rw [hNx]; first | (simp [chunks]; done) | (simp [chunks]; omega)), trivial⟩, (k + 1), (out ++ hNode x), ?_, ?_, rfl, rfl, rfl⟩
       ·omega
       ·omega
       rw [List.append_assoc, ← hst, ← hd]; exact hI1
     refine tEx <| tQ <| Tr.freeze (t := 2) (k := 102) rfl rfl (by simp) <| tG <| sm 2 rfl <| nL <| tRt <| rOk rfl ?_ nPo
     have hge : l.length ≤ k := by simpa using hc13
     have : out = hList l := by rw [← hI1, List.drop_eq_nil_of_le hge]; simp [hList]
     rw [this]
     rfl
theorem sc_hList (l : List Nd) (hok : hOkL l = true) (hb : lsW l ≤ 1073741824) : SC Tryz.prog 23 [.pv (nodes l)] [] (fun _ => False) (.pv (nodes (hList l))) [] := sc_hList_aux _ l hok hb (Nat.lt_succ_self _)
theorem sc_Hoist (u : Un) (hW : r8Weight u ≤ 536870912) (hok : (shCheck u).1 = 0 → ∀ f ∈ u.flows, hOkL f.body = true) : SC Tryz.prog 11 [.pv u.enc] [] (fun _ => False) (.tup [.pv (hoistOf u).1.enc, iInt (hoistOf u).2]) [] := by
  refine SC.ofC2 Tryz.func11 rfl (lb rfl) rfl fun F ρ w => ?_
  have hW2 : r8Weight u = u.arrays.length + u.flows.length + wtA u.arrays + wtF u.flows := rfl
  refine tQ <| tG <| cE rfl (ok_box rfl rfl) <| cE rfl (aLc (k := 102) rfl tZ25 rfl rfl rfl rfl) <| sm 1 rfl <| nL <| tQ <| tQ <| tG <| cV rfl (lEA rfl rfl uT25 rfl tS25 (lb rfl)) <| cE rfl (ocq (sc_shCheck u hW) ent22 rfl rfl) <| sm 1 rfl ?_
  refine cV rfl (ok_extract rfl rfl rfl) <| cV rfl (ok_extract rfl rfl rfl) <| sm 2 rfl <| nL <| tQ <| tG <| sm 2 rfl <| nL ?_
  refine tC rfl (fun hc15 => ?_) fun hc15 => ?_
  ·refine tQ <| tG <| cV rfl (bPu rfl rfl tZ25 tP25 rfl (fbk rfl) rfl) <| c0 (sBA rfl rfl rfl rfl rfl ((fun h => h)) tS25 (flk rfl) (lb rfl)) <| sm 1 rfl <| nL <| tRt ?_
   have hz : ((shCheck u).1 == 0) = false := by simpa using hc15
   have hH : hoistOf u = (⟨[], []⟩, 1) := by simp [hoistOf, hz]
   rw [hH]
   exact ⟨⟨_, _, (fun _ _ ho => lBP ho rfl rfl uT25 rfl tS25 (lb rfl) rfl trivial), rfl, fun _ _ _ _ h => tup2_sub (fun _ h => empty_unit h) h⟩, nPo⟩
  have hz : (shCheck u).1 = 0 := by simpa using hc15
  have hH : hoistOf u = (hUnit u, 0) := by simp [hoistOf, hz]
  refine tSk <| tQ <| tG <| sm 2 rfl <| cV rfl (bPu rfl rfl tZ25 tP25 rfl (fbk rfl) rfl) <| cE rfl (aLc (k := 106) rfl tZ25 rfl rfl rfl rfl) <| c0 (sBA rfl rfl rfl rfl rfl ((fun h => h)) tS25 (flk rfl) (lb rfl)) <| nL <| tQ <| tQ <| Tr.growCell (k := 199) (k2 := 106) (j := 1) ⟨51, 5⟩ rfl rfl rfl rfl rfl rfl <| tG ?_
  refine sm 2 rfl <| cV rfl (oSm uT23 rfl) <| sm 1 rfl <| nL <| tBk <| Tr.sub (Sub.of (fr' := [(23, iInt 0), (22, iInt u.flows.length), (21, .pv (flws u.flows)), (6, .ptr 106 0), (2, .ptr 102 0)]) ⟨rfl, rfl, rfl, rfl, rfl, trivial⟩) <| Tr.heap (σ' := look [(106, some (.box [.pv (arrs u.arrays), .sl 199 (([] : List Fl).map Fl.enc).length])), (199, some (.row ⟨51, 5⟩ (([] : List Fl).map Fl.enc))), (102, some (.box [.pv (.val (.slice none 0 0)), .pv (.val (.slice none 0 0))]))]) (lkq [106, 199, 102] rfl rfl ⟨rfl, rfl, rfl, trivial⟩) ?_
  refine Tr.loop (fun fr σ m => ∃ (k : Nat) (out : List Fl), (k ≤ u.flows.length) ∧ (out ++ (u.flows.drop k).map hFlow = u.flows.map hFlow) ∧ (out.length = k) ∧ fr = [(23, iInt k), (22, iInt u.flows.length), (21, .pv (flws u.flows)), (6, .ptr 106 0), (2, .ptr 102 0)] ∧ σ = look [(106, some (.box [.pv (arrs u.arrays), .sl 199 (out.map Fl.enc).length])), (199, some (.row ⟨51, 5⟩ (out.map Fl.enc))), (102, some (.box [.pv (.val (.slice none 0 0)), .pv (.val (.slice none 0 0))]))] ∧ m = u.flows.length - k) (n := u.flows.length - 0) ?_ ?_
  ·exact ⟨0, ([] : List Fl), Nat.zero_le _, rfl, rfl, rfl, rfl, rfl⟩
  rintro fr σ m ⟨k, out, hI0, hI1, hI2, rfl, rfl, rfl⟩
  refine tQ <| tG <| sm 1 rfl <| nL <| tQ ?_
  refine tC rfl (fun hc24 => ?_) fun hc24 => ?_
  ·have hlt : k < u.flows.length := by simpa using hc24
   have hd := List.drop_eq_getElem_cons hlt
   have hm := List.getElem_mem hlt
   have hi := map_get (f := Fl.enc) (List.getElem?_eq_getElem hlt)
   generalize u.flows[k] = x at hd hm hi
   have hxok := hok hz x hm
   have hxb : lsW x.body ≤ 1073741824 := by have := flow_le hW hm; omega
   have hol : (out.map Fl.enc).length = out.length := by simp
   refine tSk <| tQ <| tBk <| tQ <| tG <| cV rfl (iSq rfl rfl rfl uT23 hi tS51 rfl (by rfl)) <| cV rfl (lEA rfl rfl Tryz.underlying51 rfl tS51 (lb rfl)) <| cE rfl (aLc (k := 108) rfl tZ51 rfl rfl rfl rfl) <| c0 (sBA rfl rfl rfl rfl rfl ((fun h => h)) tS51 (flk rfl) (lb rfl)) <| nL <| tQ <| tG ?_
   refine sm 2 rfl <| cE rfl (ocq (sc_hList x.body hxok hxb) ent23 rfl rfl) <| sm 1 rfl <| c0 (sBx rfl rfl rfl rfl ((fun h => h)) tS43 (rfl) (lb rfl)) <| nL <| tG <| sm 2 rfl <| cV rfl (lBP rfl rfl rfl Tryz.underlying51 rfl tS51 (lb rfl) rfl trivial) <| cE rfl (bSl rfl rfl uT23 tZ51 tS51 rfl rfl rfl rfl (fbk rfl) rfl) ?_
   refine cE rfl (aPp rfl rfl rfl rfl (by rfl) ((fun h => h)) uT23 tB51 (by decide) (by (simp [chunks]; done)) (hone_flow5 _ _ _ _ _) (by simp [maxLen, chunks]; omega) (by simp [chunks]; omega)) ?_
   refine sm 1 rfl <| c0 (sBx rfl rfl rfl rfl ((fun h => h)) tS23 (⟨_, _, rfl, by simp⟩) (lb rfl)) <| nL <| Tr.drop (k := 108) ?_
   refine Tr.heap (σ' := look [(106, some (.box [.pv (arrs u.arrays), .sl 199 ((out ++ [hFlow x]).map Fl.enc).length])), (199, some (.row ⟨51, 5⟩ ((out ++ [hFlow x]).map Fl.enc))), (102, some (.box [.pv (.val (.slice none 0 0)), .pv (.val (.slice none 0 0))]))]) (by
     rw [enc_snocF, List.length_append]
     intro j
     simp only [look]
     by_cases h108 : 108 = j
     · subst h108; rfl
     · by_cases h106 : 106 = j
       · subst h106; rfl
       · by_cases h199 : 199 = j
         · subst h199; rfl
         · by_cases h102 : 102 = j
           · subst h102; rfl
           · simp [look, up, beq_ne h108, beq_ne h106, beq_ne h199, beq_ne h102]) ?_
   refine tG <| cV rfl (oB rfl rfl (i64_add rfl (by omega))) <| sm 1 rfl <| nL ?_
   refine ⟨_, _, ?_, Sub.of (fr' := [(23, iInt (k + 1)), (22, iInt u.flows.length), (21, .pv (flws u.flows)), (6, .ptr 106 0), (2, .ptr 102 0)]) ⟨rfl, rfl, rfl, rfl, rfl, trivial⟩, (k + 1), (out ++ [hFlow x]), ?_, ?_, ?_, rfl, rfl, rfl⟩
   ·omega
   ·omega
   ·rw [List.append_assoc, ← hI1, hd]; rfl
   simp [hI2]
  refine tEx <| tQ <| Tr.freezeCell (k := 199) (k2 := 106) (j := 1) rfl rfl rfl rfl (by decide) <| tG <| cV rfl (lBP rfl rfl rfl uT25 rfl tS25 (lb rfl) rfl trivial) <| c0 (sBA rfl rfl rfl rfl rfl ((fun h => h)) tS25 (flk rfl) (lb rfl)) <| sm 1 rfl <| nL <| tRt <| retC2_ok (.inl rfl) (fun _ _ ho => lBP ho rfl rfl uT25 rfl tS25 (lb rfl) rfl trivial) rfl ?_ nPo
  have hge : u.flows.length ≤ k := by simpa using hc24
  have hout : out = u.flows.map hFlow := by rw [← hI1, List.drop_eq_nil_of_le hge]; simp
  rw [hH, hout]
  rfl
def inR (n : Nat) (ds : List Int) : Prop := ∀ v ∈ ds, 0 ≤ v ∧ v < n
def Frs (set : List Bool) (ds : List Int) : Prop := ds.Nodup ∧ ∀ v ∈ ds, set.getD v.toNat false = false
def marks (set : List Bool) (ds : List Int) : List Bool := ds.foldl (fun s v => s.set v.toNat true) set
theorem marks_length : ∀ (ds : List Int) (set : List Bool), (marks set ds).length = set.length
  | [], _ => rfl
  | v :: r, set => by have := marks_length r (set.set v.toNat true); simpa [marks] using this
theorem marks_app (set : List Bool) (a b : List Int) : marks set (a ++ b) = marks (marks set a) b := by simp [marks]
theorem marks_get {n : Nat} : ∀ (ds : List Int) (set : List Bool), set.length = n → inR n ds → ∀ v : Int, 0 ≤ v → v < n → (marks set ds).getD v.toNat false = (ds.contains v || set.getD v.toNat false)
  | [], set, _, _, v, _, _ => by simp [marks]
  | d :: r, set, hn, hr, v, h0, h1 => by
    have ih := marks_get r (set.set d.toNat true) (by simpa using hn) (fun v hv => hr v (.tail _ hv)) v h0 h1
    obtain ⟨d0, d1⟩ := hr d (.head _)
    show (marks (set.set d.toNat true) r).getD v.toNat false = _
    rw [ih, getD_set, List.contains_cons]
    by_cases e : v = d
    ·subst e
     rw [if_pos ⟨rfl, by omega⟩]; simp
    have e2 : ¬ (d.toNat = v.toNat ∧ d.toNat < set.length) := by omega
    have e3 : (v == d) = false := by simpa using e
    rw [if_neg e2, e3, Bool.false_or]
theorem frs_app {n : Nat} {set : List Bool} {a b : List Int} (hn : set.length = n) (ha : inR n a) (hb : inR n b) : Frs set (a ++ b) ↔ Frs set a ∧ Frs (marks set a) b := by
  unfold Frs
  rw [List.nodup_append]
  constructor
  ·rintro ⟨⟨h1, h2, h3⟩, h4⟩
   refine ⟨⟨h1, fun v hv => h4 v (by simp [hv])⟩, h2, fun v hv => ?_⟩
   rw [marks_get a set hn ha v (hb v hv).1 (hb v hv).2, h4 v (by simp [hv])]
   have : a.contains v = false := by
     rw [← Bool.not_eq_true, List.contains_iff_mem]
     exact fun hm => h3 v hm v hv rfl
   rw [this]; rfl
  rintro ⟨⟨h1, h2⟩, h3, h4⟩
  have hkey : ∀ v ∈ b, a.contains v = false ∧ set.getD v.toNat false = false := fun v hv => by
    have := h4 v hv
    rw [marks_get a set hn ha v (hb v hv).1 (hb v hv).2, Bool.or_eq_false_iff] at this
    exact this
  refine ⟨⟨h1, h3, fun x hx y hy e => ?_⟩, fun v hv => ?_⟩
  ·subst e
   have := (hkey x hy).1
   rw [← Bool.not_eq_true, List.contains_iff_mem] at this
   exact this hx
  rcases List.mem_append.1 hv with hv | hv
  ·exact h2 v hv
  exact (hkey v hv).2
def vOuts (tys : List Int) : List Int → List Int → Bool
  | [], [] => true
  | v :: r, w :: ws => shVal tys v w && vOuts tys r ws
  | _, _ => false
theorem vOuts_in {tys : List Int} : ∀ {l want : List Int}, vOuts tys l want = true → inR tys.length l
  | [], [], _ => fun v hv => by simp at hv
  | [], _ :: _, h => by simp [vOuts] at h
  | _ :: _, [], h => by simp [vOuts] at h
  | x :: r, w :: ws, h => by
    simp only [vOuts, Bool.and_eq_true, shVal, decide_eq_true_eq] at h
    intro v hv
    rcases List.mem_cons.1 hv with rfl | hv
    ·exact ⟨h.1.1.1, h.1.1.2⟩
    exact vOuts_in h.2 v hv
theorem vOuts_len {tys : List Int} : ∀ {l want : List Int}, vOuts tys l want = true → l.length = want.length
  | [], [], _ => rfl
  | [], _ :: _, h => by simp [vOuts] at h
  | _ :: _, [], h => by simp [vOuts] at h
  | x :: r, w :: ws, h => by
    simp only [vOuts, Bool.and_eq_true] at h
    simp [vOuts_len h.2]
theorem bad_iff (tys : List Int) (set : List Bool) (v w : Int) : r8bad tys set v w = false ↔ shVal tys v w = true ∧ set.getD v.toNat false = false := by
  unfold r8bad shVal
  simp only [Bool.or_eq_false_iff, decide_eq_false_iff_not, Bool.and_eq_true, decide_eq_true_eq, Bool.or_eq_true]
  constructor
  ·rintro ⟨⟨⟨h1, h2⟩, h3⟩, h4⟩
   refine ⟨⟨⟨by omega, by omega⟩, ?_⟩, h3⟩
   cases hw : (w == 0) with
   | true => exact .inl rfl
   | false => exact .inr (by simpa [bne, hw] using h4)
  rintro ⟨⟨⟨h1, h2⟩, h4⟩, h3⟩
  refine ⟨⟨⟨by omega, by omega⟩, h3⟩, ?_⟩
  rcases h4 with h4 | h4
  ·simp [bne, h4]
  rw [show (tys.getD v.toNat 0 != w) = false from by rw [bne, h4]; rfl, Bool.and_false]
theorem setsGo_iff (tys : List Int) : ∀ (l want : List Int) (set : List Bool), l.length = want.length → set.length = tys.length →
    ((r8setsGo tys set l want).1 = true ↔ vOuts tys l want = true ∧ Frs set l) ∧ ((r8setsGo tys set l want).1 = true → (r8setsGo tys set l want).2 = marks set l)
  | [], [], set, _, _ => by simp [r8setsGo, vOuts, Frs, marks]
  | [], _ :: _, _, h, _ => by simp at h
  | _ :: _, [], _, h, _ => by simp at h
  | x :: r, w :: ws, set, hl, hn => by
    obtain ⟨ih1, ih2⟩ := setsGo_iff tys r ws (set.set x.toNat true) (by simpa using hl) (by simpa using hn)
    simp only [r8setsGo]
    cases hb : r8bad tys set x w with
    | true =>
      simp only [if_true, Bool.false_eq_true, false_iff, not_and, false_implies, and_true]
      intro h1 h2
      simp only [vOuts, Bool.and_eq_true] at h1
      have := (bad_iff tys set x w).2 ⟨h1.1, h2.2 x (.head _)⟩
      rw [hb] at this; cases this
    | false =>
      obtain ⟨b1, b2⟩ := (bad_iff tys set x w).1 hb
      simp only [Bool.false_eq_true, if_false]
      refine ⟨?_, fun h => ih2 h⟩
      rw [ih1]
      simp only [vOuts, b1, Bool.true_and]
      refine and_congr_right fun hv => ?_
      have hx : inR tys.length [x] := fun v hv => by
        obtain rfl := List.mem_singleton.1 hv
        simp only [shVal, Bool.and_eq_true, decide_eq_true_eq] at b1
        exact ⟨b1.1.1, b1.1.2⟩
      have := frs_app (a := [x]) (b := r) hn hx (vOuts_in hv)
      rw [show x :: r = [x] ++ r from rfl, this]
      exact ⟨fun h => ⟨⟨by simp, fun v hv => by obtain rfl := List.mem_singleton.1 hv; exact b2⟩, h⟩, fun h => h.2⟩
theorem sets_iff (tys : List Int) (set : List Bool) (l want : List Int) (hn : set.length = tys.length) :
    ((r8sets tys set l want).1 = true ↔ vOuts tys l want = true ∧ Frs set l) ∧ ((r8sets tys set l want).1 = true → (r8sets tys set l want).2 = marks set l) := by
  unfold r8sets
  by_cases hl : l.length = want.length
  ·have e : ((l.length : Int) == want.length) = true := by simp; omega
   rw [if_pos e]
   exact setsGo_iff tys l want set hl hn
  have e : ¬ ((l.length : Int) == want.length) = true := by simp; omega
  rw [if_neg e]
  refine ⟨⟨fun h => (by cases h), fun h => absurd (vOuts_len h.1) hl⟩, fun h => by cases h⟩
structure SForm where
  b : Bool
  want : Option (List Int)
def SForm.run (s : SForm) (tys : List Int) (outs : List Int) (set : List Bool) : Bool × List Bool := match s.want with
  | some wt => andS s.b set (r8sets tys set outs wt)
  | none => (s.b && (outs.length : Int) == 0, set)
def SForm.ok (s : SForm) (tys : List Int) (outs : List Int) : Bool := match s.want with
  | some wt => s.b && vOuts tys outs wt
  | none => s.b && (outs.length : Int) == 0
def sForm (u : Un) (f : Fl) (x : Nd) (seen : List Int) (w : Wh) : SForm :=
  if x.kind == 1 then ⟨r8types f.types seen x.args [], some [1]⟩
  else if x.kind == 2 then ⟨(x.n == 0 || x.n == 1) && r8types f.types seen x.args [], some [2]⟩
  else if x.kind == 3 then ⟨r1IsOne x.op && r8types f.types seen x.args [(r5Operand x.op).1], some [(r5Operand x.op).2]⟩
  else if x.kind == 4 then ⟨r1IsTwo x.op && r8types f.types seen x.args [(r5Operand x.op).1, (r5Operand x.op).1] && f.types.getD (x.args.getD 0 0).toNat 0 == f.types.getD (x.args.getD 1 0).toNat 0, some [(r5Operand x.op).2]⟩
  else if x.kind == 5 then ⟨decide (r8Array x.name u.arrays 0 ≥ 0) && r8types f.types seen x.args [1], some [1]⟩
  else if x.kind == 6 then ⟨decide (r8Array x.name u.arrays 0 ≥ 0) && r8types f.types seen x.args [1, 1], none⟩
  else if x.kind == 7 then (if decide (r8Place x.name u.flows 0 ≥ 0) = true then match u.flows[(r8Place x.name u.flows 0).toNat]? with
      | some g => ⟨r8types f.types seen x.args (g.types.take g.params.toNat), some [g.ty]⟩
      | none => ⟨false, none⟩
    else ⟨false, none⟩)
  else if x.kind == 8 then ⟨(x.args.length : Int) == 0, some [1]⟩
  else if x.kind == 9 then ⟨r8types f.types seen x.args [1], none⟩
  else if x.kind == 12 then ⟨w.If && r8types f.types seen x.args w.Yield, none⟩
  else if x.kind == 13 then ⟨w.Loop && r8types f.types seen x.args w.Next, none⟩
  else if x.kind == 14 then ⟨w.Loop && r8types f.types seen x.args w.Left, none⟩
  else if x.kind == 15 then ⟨r8types f.types seen x.args [f.ty], none⟩
  else ⟨false, none⟩
theorem simple_form (u : Un) (f : Fl) (set : List Bool) (x : Nd) (seen : List Int) (w : Wh) : r8simple u f set x seen w = (sForm u f x seen w).run f.types x.outs set := by
  unfold r8simple sForm r8call
  by_cases k1 : (x.kind == 1) = true
  ·rw [if_pos k1, if_pos k1]; rfl
  rw [if_neg k1, if_neg k1]
  by_cases k2 : (x.kind == 2) = true
  ·rw [if_pos k2, if_pos k2]; rfl
  rw [if_neg k2, if_neg k2]
  by_cases k3 : (x.kind == 3) = true
  ·rw [if_pos k3, if_pos k3]; rfl
  rw [if_neg k3, if_neg k3]
  by_cases k4 : (x.kind == 4) = true
  ·rw [if_pos k4, if_pos k4]; rfl
  rw [if_neg k4, if_neg k4]
  by_cases k5 : (x.kind == 5) = true
  ·rw [if_pos k5, if_pos k5]; rfl
  rw [if_neg k5, if_neg k5]
  by_cases k6 : (x.kind == 6) = true
  ·rw [if_pos k6, if_pos k6]; rfl
  rw [if_neg k6, if_neg k6]
  by_cases k7 : (x.kind == 7) = true
  ·rw [if_pos k7, if_pos k7]
   by_cases hp : decide (r8Place x.name u.flows 0 ≥ 0) = true
   ·rw [if_pos hp, if_pos hp]
    cases u.flows[(r8Place x.name u.flows 0).toNat]? with
    | none => rfl
    | some g => rfl
   rw [if_neg hp, if_neg hp]; rfl
  rw [if_neg k7, if_neg k7]
  by_cases k8 : (x.kind == 8) = true
  ·rw [if_pos k8, if_pos k8]; rfl
  rw [if_neg k8, if_neg k8]
  by_cases k9 : (x.kind == 9) = true
  ·rw [if_pos k9, if_pos k9]; rfl
  rw [if_neg k9, if_neg k9]
  by_cases k12 : (x.kind == 12) = true
  ·rw [if_pos k12, if_pos k12]; rfl
  rw [if_neg k12, if_neg k12]
  by_cases k13 : (x.kind == 13) = true
  ·rw [if_pos k13, if_pos k13]; rfl
  rw [if_neg k13, if_neg k13]
  by_cases k14 : (x.kind == 14) = true
  ·rw [if_pos k14, if_pos k14]; rfl
  rw [if_neg k14, if_neg k14]
  by_cases k15 : (x.kind == 15) = true
  ·rw [if_pos k15, if_pos k15]; rfl
  rw [if_neg k15, if_neg k15]
  rfl
theorem run_iff {tys outs : List Int} {set : List Bool} (s : SForm) (hn : set.length = tys.length) : ((s.run tys outs set).1 = true ↔ s.ok tys outs = true ∧ Frs set outs) ∧ ((s.run tys outs set).1 = true → (s.run tys outs set).2 = marks set outs) := by
  obtain ⟨b, want⟩ := s
  cases want with
  | some wt =>
    obtain ⟨h1, h2⟩ := sets_iff tys set outs wt hn
    simp only [SForm.run, SForm.ok, andS]
    cases b with
    | false => simp
    | true => simp only [if_true, Bool.true_and]; exact ⟨h1, h2⟩
  | none =>
    simp only [SForm.run, SForm.ok]
    constructor
    ·constructor
     ·intro h
      refine ⟨h, ?_⟩
      simp only [Bool.and_eq_true, beq_iff_eq] at h
      have : outs = [] := List.eq_nil_of_length_eq_zero (by omega)
      subst this
      exact ⟨by simp, fun v hv => by simp at hv⟩
     exact fun h => h.1
    intro h
    simp only [Bool.and_eq_true, beq_iff_eq] at h
    have : outs = [] := List.eq_nil_of_length_eq_zero (by omega)
    subst this
    rfl
theorem ok_in {tys outs : List Int} {s : SForm} (h : s.ok tys outs = true) : inR tys.length outs := by
  obtain ⟨b, want⟩ := s
  cases want with
  | some wt => simp only [SForm.ok, Bool.and_eq_true] at h; exact vOuts_in h.2
  | none =>
    simp only [SForm.ok, Bool.and_eq_true, beq_iff_eq] at h
    have : outs = [] := List.eq_nil_of_length_eq_zero (by omega)
    subst this
    exact fun v hv => by simp at hv
mutual
def dN : Nd → List Int
  | .mk _ _ _ _ _ outs params ks => params ++ (dK ks ++ outs)
def dL : List Nd → List Int
  | [] => []
  | x :: r => dN x ++ dL r
def dK : List (List Nd) → List Int
  | [] => []
  | l :: r => dL l ++ dK r
end
theorem dN_eq (x : Nd) : dN x = x.params ++ (dK x.kids ++ x.outs) := by cases x; simp [dN, Nd.params, Nd.kids, Nd.outs]
def zer (l : List Int) : List Int := List.replicate l.length 0
def w1 (w : Wh) (f : Fl) (x : Nd) : Wh := ⟨true, w.Loop, r8of f.types x.outs, w.Next, w.Left⟩
def w2 (f : Fl) (x : Nd) : Wh := ⟨false, true, [], r8of f.types x.params, r8of f.types x.outs⟩
def outOk (x : Nd) : Bool := (x.outs.length : Int) == 0 || !r8Closed x
mutual
def vNode (u : Un) (f : Fl) (deep : Int) (w : Wh) (seen : List Int) : Nd → Bool
  | .mk kind op n name args outs params kids =>
    r8bare (.mk kind op n name args outs params kids) &&
    (if kind == 10 then
      match kids with
      | a :: b :: _ => r8types f.types seen args [2] && (!a.isEmpty && vGo u f (deep + 1) (w1 w f (.mk kind op n name args outs params kids)) seen a) && (!b.isEmpty && vGo u f (deep + 1) (w1 w f (.mk kind op n name args outs params kids)) seen b) &&
          outOk (.mk kind op n name args outs params kids) && vOuts f.types outs (zer outs)
      | _ => false
    else if kind == 11 then
      match kids with
      | a :: _ => r8types f.types seen args (r8of f.types params) && vOuts f.types params (zer params) && (!a.isEmpty && vGo u f (deep + 1) (w2 f (.mk kind op n name args outs params kids)) (seen ++ params) a) &&
          outOk (.mk kind op n name args outs params kids) && vOuts f.types outs (zer outs)
      | _ => false
    else (sForm u f (.mk kind op n name args outs params kids) seen w).ok f.types outs)
def vGo (u : Un) (f : Fl) (deep : Int) (w : Wh) (all : List Int) : List Nd → Bool
  | [] => true
  | x :: r => !decide (deep > 100) && vNode u f deep w all x && (r8Closed x == r.isEmpty) && vGo u f deep w (all ++ x.outs) r
end
def vList (u : Un) (f : Fl) (deep : Int) (w : Wh) (all : List Int) (l : List Nd) : Bool := !l.isEmpty && vGo u f deep w all l
theorem vNode_if (u : Un) (f : Fl) (deep : Int) (w : Wh) (seen : List Int) {x : Nd} {a b : List Nd} (h : r8bare x = true) (hk : x.kind = 10) (hx : x.kids = [a, b]) :
    vNode u f deep w seen x = (r8types f.types seen x.args [2] && vList u f (deep + 1) (w1 w f x) seen a && vList u f (deep + 1) (w1 w f x) seen b && outOk x && vOuts f.types x.outs (zer x.outs)) := by
  cases x
  simp only [Nd.kind, Nd.kids] at hk hx
  subst hk hx
  unfold vNode
  simp only [h, Bool.true_and, Nd.args, Nd.outs]
  rfl
theorem vNode_loop (u : Un) (f : Fl) (deep : Int) (w : Wh) (seen : List Int) {x : Nd} {a : List Nd} (h : r8bare x = true) (hk : x.kind = 11) (hx : x.kids = [a]) :
    vNode u f deep w seen x = (r8types f.types seen x.args (r8of f.types x.params) && vOuts f.types x.params (zer x.params) && vList u f (deep + 1) (w2 f x) (seen ++ x.params) a && outOk x && vOuts f.types x.outs (zer x.outs)) := by
  cases x
  simp only [Nd.kind, Nd.kids] at hk hx
  subst hk hx
  unfold vNode
  simp only [h, Bool.true_and, Nd.args, Nd.outs, Nd.params]
  rfl
theorem vNode_simple (u : Un) (f : Fl) (deep : Int) (w : Wh) (seen : List Int) {x : Nd} (h : r8bare x = true) (h1 : (x.kind == 10) = false) (h2 : (x.kind == 11) = false) :
    vNode u f deep w seen x = (sForm u f x seen w).ok f.types x.outs := by
  cases x
  simp only [Nd.kind] at h1 h2
  unfold vNode
  simp only [h, Bool.true_and, Nd.outs, h1, h2, Bool.false_eq_true, if_false]
theorem vNode_bare (u : Un) (f : Fl) (deep : Int) (w : Wh) (seen : List Int) {x : Nd} (h : vNode u f deep w seen x = true) : r8bare x = true := by
  cases x
  unfold vNode at h
  simp only [Bool.and_eq_true] at h
  exact h.1
theorem bare_params {x : Nd} (h : r8bare x = true) (hk : (x.kind == 11) = false) : x.params = [] := by
  simp only [r8bare, Bool.and_eq_true, hk, Bool.false_or, beq_iff_eq] at h
  exact List.eq_nil_of_length_eq_zero (by omega)
theorem bare_kids0 {x : Nd} (h : r8bare x = true) (h1 : (x.kind == 10) = false) (h2 : (x.kind == 11) = false) : x.kids = [] := by
  have := r8bare_kids h
  simp only [r8kn, h1, h2, Bool.false_eq_true, if_false] at this
  exact List.eq_nil_of_length_eq_zero (by omega)
theorem dN_simple {x : Nd} (h : r8bare x = true) (h1 : (x.kind == 10) = false) (h2 : (x.kind == 11) = false) : dN x = x.outs := by
  rw [dN_eq, bare_params h h2, bare_kids0 h h1 h2]; rfl
theorem dN_if {x : Nd} {a b : List Nd} (h : r8bare x = true) (hk : x.kind = 10) (hx : x.kids = [a, b]) : dN x = dL a ++ (dL b ++ x.outs) := by
  rw [dN_eq, bare_params h (by rw [hk]; rfl), hx]; simp [dK]
theorem dN_loop {x : Nd} {a : List Nd} (hx : x.kids = [a]) : dN x = x.params ++ (dL a ++ x.outs) := by
  rw [dN_eq, hx]; simp [dK]
theorem inR_app {n : Nat} {a b : List Int} : inR n (a ++ b) ↔ inR n a ∧ inR n b :=
  ⟨fun h => ⟨fun v hv => h v (by simp [hv]), fun v hv => h v (by simp [hv])⟩, fun h v hv => (List.mem_append.1 hv).elim (h.1 v) (h.2 v)⟩
theorem frs_app3 {n : Nat} {set : List Bool} {a b d : List Int} (hn : set.length = n) (ha : inR n a) (hb : inR n b) (hd : inR n d) : Frs set (a ++ (b ++ d)) ↔ Frs set a ∧ Frs (marks set a) b ∧ Frs (marks (marks set a) b) d := by
  rw [frs_app hn ha (inR_app.2 ⟨hb, hd⟩), frs_app ((marks_length a set).trans hn) hb hd]
def RG (u : Un) (f : Fl) (l : List Nd) : Prop := ∀ (deep : Int) (w : Wh) (all : List Int), vGo u f deep w all l = true → inR f.types.length (dL l)
theorem node_in (u : Un) (f : Fl) (x : Nd) (ih : ∀ q ∈ x.kids, RG u f q) (deep : Int) (w : Wh) (seen : List Int) (h : vNode u f deep w seen x = true) : inR f.types.length (dN x) := by
  have hb := vNode_bare u f deep w seen h
  by_cases h10 : x.kind = 10
  ·obtain ⟨a, b, hk⟩ := r8bare_if hb h10
   rw [vNode_if u f deep w seen hb h10 hk] at h
   simp only [Bool.and_eq_true, vList] at h
   rw [dN_if hb h10 hk]
   exact inR_app.2 ⟨ih a (by rw [hk]; simp) _ _ _ h.1.1.1.2.2, inR_app.2 ⟨ih b (by rw [hk]; simp) _ _ _ h.1.1.2.2, vOuts_in h.2⟩⟩
  by_cases h11 : x.kind = 11
  ·obtain ⟨a, hk⟩ := r8bare_loop hb h11
   rw [vNode_loop u f deep w seen hb h11 hk] at h
   simp only [Bool.and_eq_true, vList] at h
   rw [dN_loop hk]
   exact inR_app.2 ⟨vOuts_in h.1.1.1.2, inR_app.2 ⟨ih a (by rw [hk]; simp) _ _ _ h.1.1.2.2, vOuts_in h.2⟩⟩
  have e10 : (x.kind == 10) = false := by simpa using h10
  have e11 : (x.kind == 11) = false := by simpa using h11
  rw [vNode_simple u f deep w seen hb e10 e11] at h
  rw [dN_simple hb e10 e11]
  exact ok_in h
theorem go_in (u : Un) (f : Fl) : ∀ (l : List Nd), (∀ x ∈ l, ∀ q ∈ x.kids, RG u f q) → RG u f l
  | [], _ => fun _ _ _ _ v hv => by simp [dL] at hv
  | x :: r, ih => fun deep w all h => by
    simp only [vGo, Bool.and_eq_true] at h
    exact inR_app.2 ⟨node_in u f x (ih x (.head _)) _ _ _ h.1.1.2, go_in u f r (fun y hy => ih y (.tail _ hy)) _ _ _ h.2⟩
theorem rg_all (u : Un) (f : Fl) : ∀ (N : Nat) (l : List Nd), SizeOf.sizeOf l < N → RG u f l
  | 0, _, h => absurd h (Nat.not_lt_zero _)
  | N + 1, l, hN => go_in u f l fun x hx q hq => rg_all u f N q (Nat.lt_of_lt_of_le (kid_lt hx rfl hq) (Nat.le_of_lt_succ hN))
theorem rg (u : Un) (f : Fl) (l : List Nd) : RG u f l := rg_all u f _ l (Nat.lt_succ_self _)
def CH (u : Un) (f : Fl) (l : List Nd) : Prop := ∀ (deep : Int) (w : Wh) (seen : List Int) (set : List Bool), set.length = f.types.length →
  ((r8list u f deep w seen set l).1 = true ↔ vList u f deep w seen l = true ∧ Frs set (dL l)) ∧ ((r8list u f deep w seen set l).1 = true → (r8list u f deep w seen set l).2 = marks set (dL l))
theorem andT_iff {q : Bool × List Bool} {k : List Bool → Bool × List Bool} : ((andT q k).1 = true ↔ q.1 = true ∧ (k q.2).1 = true) ∧ ((andT q k).1 = true → (andT q k).2 = (k q.2).2) := by
  unfold andT
  cases q.1 with
  | false => simp
  | true => simp
theorem end_iff (f : Fl) (x : Nd) (set : List Bool) (hn : set.length = f.types.length) : ((r8end f x set).1 = true ↔ (outOk x = true ∧ vOuts f.types x.outs (zer x.outs) = true) ∧ Frs set x.outs) ∧ ((r8end f x set).1 = true → (r8end f x set).2 = marks set x.outs) := by
  obtain ⟨h1, h2⟩ := sets_iff f.types set x.outs (zer x.outs) hn
  unfold r8end andS
  show ((if outOk x = true then _ else _ : Bool × List Bool).1 = true ↔ _) ∧ _
  by_cases ho : outOk x = true
  ·simp only [ho, if_true, true_and]
   exact ⟨h1, fun h => by
     have ho2 : ((x.outs.length : Int) == 0 || !r8Closed x) = true := ho
     rw [if_pos ho2] at h ⊢
     exact h2 h⟩
  have ho2 : ¬ ((x.outs.length : Int) == 0 || !r8Closed x) = true := ho
  rw [if_neg ho, if_neg ho2]
  simp [ho]
theorem node_iff (u : Un) (f : Fl) (x : Nd) (ih : ∀ q ∈ x.kids, CH u f q) (deep : Int) (w : Wh) (seen : List Int) (set : List Bool) (hn : set.length = f.types.length) :
    ((r8node u f deep w seen set x).1 = true ↔ vNode u f deep w seen x = true ∧ Frs set (dN x)) ∧ ((r8node u f deep w seen set x).1 = true → (r8node u f deep w seen set x).2 = marks set (dN x)) := by
  cases hb : r8bare x with
  | false =>
    rw [r8node_bare _ _ _ _ _ _ hb]
    refine ⟨⟨fun h => (by cases h), fun h => ?_⟩, fun h => by cases h⟩
    have := vNode_bare u f deep w seen h.1
    rw [hb] at this; cases this
  | true =>
    by_cases h10 : x.kind = 10
    ·obtain ⟨a, b, hk⟩ := r8bare_if hb h10
     rw [r8node_if _ _ _ _ _ _ hb h10 hk, vNode_if u f deep w seen hb h10 hk, dN_if hb h10 hk, show (⟨true, w.Loop, r8of f.types x.outs, w.Next, w.Left⟩ : Wh) = w1 w f x from rfl]
     by_cases ht : r8types f.types seen x.args [2] = true
     ·rw [if_pos ht]
      obtain ⟨a1, a2⟩ := ih a (by rw [hk]; simp) (deep + 1) (w1 w f x) seen set hn
      have hna : (marks set (dL a)).length = f.types.length := (marks_length _ _).trans hn
      obtain ⟨b1, b2⟩ := ih b (by rw [hk]; simp) (deep + 1) (w1 w f x) seen (marks set (dL a)) hna
      have hnb : (marks (marks set (dL a)) (dL b)).length = f.types.length := (marks_length _ _).trans hna
      obtain ⟨e1, e2⟩ := end_iff f x (marks (marks set (dL a)) (dL b)) hnb
      have key : (andT (r8list u f (deep + 1) (w1 w f x) seen set a) (fun s1 => andT (r8list u f (deep + 1) (w1 w f x) seen s1 b) fun s2 => r8end f x s2)).1 = true ↔
          (r8list u f (deep + 1) (w1 w f x) seen set a).1 = true ∧ (r8list u f (deep + 1) (w1 w f x) seen (marks set (dL a)) b).1 = true ∧ (r8end f x (marks (marks set (dL a)) (dL b))).1 = true := by
        rw [andT_iff.1]
        refine and_congr_right fun h => ?_
        rw [a2 h, andT_iff.1]
        exact and_congr_right fun h2 => by rw [b2 h2]
      refine ⟨?_, fun h => ?_⟩
      ·rw [key, a1, b1, e1]
       simp only [ht, Bool.true_and, Bool.and_eq_true]
       constructor
       ·rintro ⟨⟨c1, c2⟩, ⟨c3, c4⟩, ⟨c5, c6⟩, c7⟩
        have ra := rg u f a _ _ _ (by simp only [vList, Bool.and_eq_true] at c1; exact c1.2)
        have rb := rg u f b _ _ _ (by simp only [vList, Bool.and_eq_true] at c3; exact c3.2)
        exact ⟨⟨⟨⟨c1, c3⟩, c5⟩, c6⟩, (frs_app3 hn ra rb (vOuts_in c6)).2 ⟨c2, c4, c7⟩⟩
       rintro ⟨⟨⟨⟨c1, c3⟩, c5⟩, c6⟩, c7⟩
       have ra := rg u f a _ _ _ (by simp only [vList, Bool.and_eq_true] at c1; exact c1.2)
       have rb := rg u f b _ _ _ (by simp only [vList, Bool.and_eq_true] at c3; exact c3.2)
       obtain ⟨d1, d2, d3⟩ := (frs_app3 hn ra rb (vOuts_in c6)).1 c7
       exact ⟨⟨c1, d1⟩, ⟨c3, d2⟩, ⟨c5, c6⟩, d3⟩
      obtain ⟨k1, k2, k3⟩ := key.1 h
      have h' := (andT_iff.1.1 h).2
      rw [andT_iff.2 h, a2 k1]
      rw [a2 k1] at h'
      rw [andT_iff.2 h', b2 k2, e2 k3, marks_app, marks_app]
     rw [if_neg ht]
     refine ⟨⟨fun h => (by cases h), fun h => ?_⟩, fun h => by cases h⟩
     simp only [Bool.and_eq_true] at h
     exact absurd h.1.1.1.1.1 ht
    by_cases h11 : x.kind = 11
    ·obtain ⟨a, hk⟩ := r8bare_loop hb h11
     rw [r8node_loop _ _ _ _ _ _ hb h11 hk, vNode_loop u f deep w seen hb h11 hk, dN_loop hk, show (⟨false, true, [], r8of f.types x.params, r8of f.types x.outs⟩ : Wh) = w2 f x from rfl, show List.replicate x.params.length 0 = zer x.params from rfl]
     by_cases ht : r8types f.types seen x.args (r8of f.types x.params) = true
     ·rw [if_pos ht]
      obtain ⟨a1, a2⟩ := sets_iff f.types set x.params (zer x.params) hn
      have hna : (marks set x.params).length = f.types.length := (marks_length _ _).trans hn
      obtain ⟨b1, b2⟩ := ih a (by rw [hk]; simp) (deep + 1) (w2 f x) (seen ++ x.params) (marks set x.params) hna
      have hnb : (marks (marks set x.params) (dL a)).length = f.types.length := (marks_length _ _).trans hna
      obtain ⟨e1, e2⟩ := end_iff f x (marks (marks set x.params) (dL a)) hnb
      have key : (andT (r8sets f.types set x.params (zer x.params)) (fun s1 => andT (r8list u f (deep + 1) (w2 f x) (seen ++ x.params) s1 a) fun s2 => r8end f x s2)).1 = true ↔
          (r8sets f.types set x.params (zer x.params)).1 = true ∧ (r8list u f (deep + 1) (w2 f x) (seen ++ x.params) (marks set x.params) a).1 = true ∧ (r8end f x (marks (marks set x.params) (dL a))).1 = true := by
        rw [andT_iff.1]
        refine and_congr_right fun h => ?_
        rw [a2 h, andT_iff.1]
        exact and_congr_right fun h2 => by rw [b2 h2]
      refine ⟨?_, fun h => ?_⟩
      ·rw [key, a1, b1, e1]
       simp only [ht, Bool.true_and, Bool.and_eq_true]
       constructor
       ·rintro ⟨⟨c1, c2⟩, ⟨c3, c4⟩, ⟨c5, c6⟩, c7⟩
        have rb := rg u f a _ _ _ (by simp only [vList, Bool.and_eq_true] at c3; exact c3.2)
        exact ⟨⟨⟨⟨c1, c3⟩, c5⟩, c6⟩, (frs_app3 hn (vOuts_in c1) rb (vOuts_in c6)).2 ⟨c2, c4, c7⟩⟩
       rintro ⟨⟨⟨⟨c1, c3⟩, c5⟩, c6⟩, c7⟩
       have rb := rg u f a _ _ _ (by simp only [vList, Bool.and_eq_true] at c3; exact c3.2)
       obtain ⟨d1, d2, d3⟩ := (frs_app3 hn (vOuts_in c1) rb (vOuts_in c6)).1 c7
       exact ⟨⟨c1, d1⟩, ⟨c3, d2⟩, ⟨c5, c6⟩, d3⟩
      obtain ⟨k1, k2, k3⟩ := key.1 h
      have h' := (andT_iff.1.1 h).2
      rw [andT_iff.2 h, a2 k1]
      rw [a2 k1] at h'
      rw [andT_iff.2 h', b2 k2, e2 k3, marks_app, marks_app]
     rw [if_neg ht]
     refine ⟨⟨fun h => (by cases h), fun h => ?_⟩, fun h => by cases h⟩
     simp only [Bool.and_eq_true] at h
     exact absurd h.1.1.1.1.1 ht
    have e10 : (x.kind == 10) = false := by simpa using h10
    have e11 : (x.kind == 11) = false := by simpa using h11
    rw [r8node_simple _ _ _ _ _ _ hb e10 e11, vNode_simple u f deep w seen hb e10 e11, dN_simple hb e10 e11, simple_form]
    exact run_iff _ hn
theorem go_iff (u : Un) (f : Fl) (deep : Int) (w : Wh) : ∀ (l : List Nd), (∀ x ∈ l, ∀ q ∈ x.kids, CH u f q) → ∀ (all : List Int) (set : List Bool), set.length = f.types.length →
    ((r8go u f deep w all set l).1 = true ↔ vGo u f deep w all l = true ∧ Frs set (dL l)) ∧ ((r8go u f deep w all set l).1 = true → (r8go u f deep w all set l).2 = marks set (dL l))
  | [], _, all, set, _ => by simp [r8go, vGo, dL, Frs, marks]
  | x :: r, ih, all, set, hn => by
    obtain ⟨n1, n2⟩ := node_iff u f x (ih x (.head _)) deep w all set hn
    have hm : (marks set (dN x)).length = f.types.length := (marks_length _ _).trans hn
    obtain ⟨r1, r2⟩ := go_iff u f deep w r (fun y hy => ih y (.tail _ hy)) (all ++ x.outs) (marks set (dN x)) hm
    unfold r8go vGo
    by_cases hd : deep > 100
    ·rw [if_pos hd]
     simp [hd]
    rw [if_neg hd]
    have hdb : (!decide (deep > 100)) = true := by simpa using hd
    by_cases hc : (r8Closed x != r.isEmpty) = true
    ·have hcb : (r8Closed x == r.isEmpty) = false := by
       cases hcc : (r8Closed x == r.isEmpty) with
       | false => rfl
       | true => simp [bne, hcc] at hc
     simp only [if_pos hc, hcb, Bool.and_false, Bool.false_and, Bool.false_eq_true, false_and, iff_false, Bool.not_eq_true]
     have : (andT (r8node u f deep w all set x) fun s1 => (false, s1)).1 = false := by
       unfold andT; split <;> rfl
     exact ⟨this, fun h => by rw [this] at h; cases h⟩
    have hcb : (r8Closed x == r.isEmpty) = true := by
      cases hcc : (r8Closed x == r.isEmpty) with
      | true => rfl
      | false => simp [bne, hcc] at hc
    simp only [if_neg hc, hcb, hdb, Bool.true_and, Bool.and_true, Bool.and_eq_true]
    have key : (andT (r8node u f deep w all set x) fun s1 => r8go u f deep w (all ++ x.outs) s1 r).1 = true ↔ (r8node u f deep w all set x).1 = true ∧ (r8go u f deep w (all ++ x.outs) (marks set (dN x)) r).1 = true := by
      rw [andT_iff.1]
      exact and_congr_right fun h => by rw [n2 h]
    refine ⟨?_, fun h => ?_⟩
    ·rw [key, n1, r1]
     constructor
     ·rintro ⟨⟨c1, c2⟩, c3, c4⟩
      exact ⟨⟨c1, c3⟩, (frs_app hn (node_in u f x (fun q _ => rg u f q) _ _ _ c1) (rg u f r _ _ _ c3)).2 ⟨c2, c4⟩⟩
     rintro ⟨⟨c1, c3⟩, c4⟩
     obtain ⟨d1, d2⟩ := (frs_app hn (node_in u f x (fun q _ => rg u f q) _ _ _ c1) (rg u f r _ _ _ c3)).1 c4
     exact ⟨⟨c1, d1⟩, c3, d2⟩
    obtain ⟨k1, k2⟩ := key.1 h
    rw [andT_iff.2 h, n2 k1, r2 k2]
    show _ = marks set (dN x ++ dL r)
    rw [marks_app]
theorem ch_all (u : Un) (f : Fl) : ∀ (N : Nat) (l : List Nd), SizeOf.sizeOf l < N → CH u f l
  | 0, _, h => absurd h (Nat.not_lt_zero _)
  | N + 1, l, hN => by
    intro deep w seen set hn
    obtain ⟨h1, h2⟩ := go_iff u f deep w l (fun x hx q hq => ch_all u f N q (Nat.lt_of_lt_of_le (kid_lt hx rfl hq) (Nat.le_of_lt_succ hN))) seen set hn
    unfold r8list ne vList
    cases l with
    | nil => simp
    | cons x r => simpa using ⟨h1, h2⟩
theorem r8list_iff (u : Un) (f : Fl) (l : List Nd) (deep : Int) (w : Wh) (seen : List Int) (set : List Bool) (hn : set.length = f.types.length) : (r8list u f deep w seen set l).1 = true ↔ vList u f deep w seen l = true ∧ Frs set (dL l) :=
  (ch_all u f _ l (Nat.lt_succ_self _) deep w seen set hn).1
def SubL (a b : List Int) : Prop := ∀ v : Int, a.contains v = true → b.contains v = true
theorem SubL.refl (a : List Int) : SubL a a := fun _ h => h
theorem SubL.app {a b c d : List Int} (h : SubL a b) (h2 : SubL c d) : SubL (a ++ c) (b ++ d) := fun v hv => by
  rw [List.contains_append, Bool.or_eq_true] at hv ⊢
  exact hv.elim (fun h' => .inl (h v h')) (fun h' => .inr (h2 v h'))
theorem SubL.left {a b c : List Int} (h : SubL a b) : SubL a (b ++ c) := fun v hv => by rw [List.contains_append, h v hv]; rfl
theorem typesGo_sub {tys s s' : List Int} : ∀ {l want : List Int}, (∀ v ∈ l, s.contains v = true → s'.contains v = true) → r8typesGo tys s l want = true → r8typesGo tys s' l want = true
  | [], _, _, _ => by simp [r8typesGo]
  | _ :: _, [], _, _ => by simp [r8typesGo]
  | x :: r, w :: ws, hs, h => by
    simp only [r8typesGo, Bool.and_eq_true] at h ⊢
    refine ⟨?_, typesGo_sub (fun v hv => hs v (.tail _ hv)) h.2⟩
    have h1 := h.1
    unfold r8use at h1 ⊢
    cases hc : s.contains x with
    | false => rw [hc] at h1; simp at h1
    | true => rw [hs x (.head _) hc]; rw [hc] at h1; exact h1
theorem types_sub {tys s s' l want : List Int} (hs : ∀ v ∈ l, s.contains v = true → s'.contains v = true) (h : r8types tys s l want = true) : r8types tys s' l want = true := by
  unfold r8types at h ⊢
  simp only [Bool.and_eq_true] at h ⊢
  exact ⟨h.1, typesGo_sub hs h.2⟩
theorem types_mono {tys s s' l want : List Int} (hs : SubL s s') (h : r8types tys s l want = true) : r8types tys s' l want = true := types_sub (fun v _ => hs v) h
theorem hmless_kind {x : Nd} (h : hmless x = true) : (x.kind = 1 ∨ x.kind = 2 ∨ x.kind = 3 ∨ x.kind = 4) := by
  simp only [hmless, Bool.or_eq_true, Bool.and_eq_true, beq_iff_eq] at h
  rcases h with ((h | h) | h) | h
  ·exact .inl h
  ·exact .inr (.inl h)
  ·exact .inr (.inr (.inl h))
  exact .inr (.inr (.inr h.1.1))
theorem hmless_no {x : Nd} (h : hmless x = true) : (x.kind == 10) = false ∧ (x.kind == 11) = false ∧ r8Closed x = false ∧ r8LeavesN x = false := by
  have hk := hmless_kind h
  have h10 : (x.kind == 10) = false := by simp; omega
  have h11 : (x.kind == 11) = false := by simp; omega
  have h14 : (x.kind == 14) = false := by simp; omega
  refine ⟨h10, h11, ?_, ?_⟩
  ·simp only [r8Closed, h10, h11, Bool.false_and, Bool.false_eq_true, if_false, r8Ender]
   simp; omega
  rw [r8LeavesN_eq, h10, h14]; rfl
theorem sform_mono {u : Un} {f : Fl} {x : Nd} {s s' : List Int} {w : Wh} {outs : List Int} (hs : SubL s s') (h : (sForm u f x s w).ok f.types outs = true) : (sForm u f x s' w).ok f.types outs = true := by
  have M : ∀ want, r8types f.types s x.args want = true → r8types f.types s' x.args want = true := fun want => types_mono hs
  have F : ∀ (b b' : Bool) (want : Option (List Int)), (b = true → b' = true) → SForm.ok ⟨b, want⟩ f.types outs = true → SForm.ok ⟨b', want⟩ f.types outs = true := fun b b' want hb h => by
    cases want <;> simp only [SForm.ok, Bool.and_eq_true] at h ⊢ <;> exact ⟨hb h.1, h.2⟩
  unfold sForm at h ⊢
  by_cases k1 : (x.kind == 1) = true
  ·rw [if_pos k1] at h ⊢
   exact F _ _ _ (fun hb => M _ hb) h
  rw [if_neg k1] at h ⊢
  by_cases k2 : (x.kind == 2) = true
  ·rw [if_pos k2] at h ⊢
   exact F _ _ _ (fun hb => by simp only [Bool.and_eq_true] at hb ⊢; exact ⟨hb.1, M _ hb.2⟩) h
  rw [if_neg k2] at h ⊢
  by_cases k3 : (x.kind == 3) = true
  ·rw [if_pos k3] at h ⊢
   exact F _ _ _ (fun hb => by simp only [Bool.and_eq_true] at hb ⊢; exact ⟨hb.1, M _ hb.2⟩) h
  rw [if_neg k3] at h ⊢
  by_cases k4 : (x.kind == 4) = true
  ·rw [if_pos k4] at h ⊢
   exact F _ _ _ (fun hb => by simp only [Bool.and_eq_true] at hb ⊢; exact ⟨⟨hb.1.1, M _ hb.1.2⟩, hb.2⟩) h
  rw [if_neg k4] at h ⊢
  by_cases k5 : (x.kind == 5) = true
  ·rw [if_pos k5] at h ⊢
   exact F _ _ _ (fun hb => by simp only [Bool.and_eq_true] at hb ⊢; exact ⟨hb.1, M _ hb.2⟩) h
  rw [if_neg k5] at h ⊢
  by_cases k6 : (x.kind == 6) = true
  ·rw [if_pos k6] at h ⊢
   exact F _ _ _ (fun hb => by simp only [Bool.and_eq_true] at hb ⊢; exact ⟨hb.1, M _ hb.2⟩) h
  rw [if_neg k6] at h ⊢
  by_cases k7 : (x.kind == 7) = true
  ·rw [if_pos k7] at h ⊢
   by_cases hp : decide (r8Place x.name u.flows 0 ≥ 0) = true
   ·rw [if_pos hp] at h ⊢
    cases hg : u.flows[(r8Place x.name u.flows 0).toNat]? with
    | none => rw [hg] at h; exact h
    | some g => rw [hg] at h; exact F _ _ _ (fun hb => M _ hb) h
   rw [if_neg hp] at h ⊢; exact h
  rw [if_neg k7] at h ⊢
  by_cases k8 : (x.kind == 8) = true
  ·rw [if_pos k8] at h ⊢
   exact h
  rw [if_neg k8] at h ⊢
  by_cases k9 : (x.kind == 9) = true
  ·rw [if_pos k9] at h ⊢
   exact F _ _ _ (fun hb => M _ hb) h
  rw [if_neg k9] at h ⊢
  by_cases k12 : (x.kind == 12) = true
  ·rw [if_pos k12] at h ⊢
   exact F _ _ _ (fun hb => by simp only [Bool.and_eq_true] at hb ⊢; exact ⟨hb.1, M _ hb.2⟩) h
  rw [if_neg k12] at h ⊢
  by_cases k13 : (x.kind == 13) = true
  ·rw [if_pos k13] at h ⊢
   exact F _ _ _ (fun hb => by simp only [Bool.and_eq_true] at hb ⊢; exact ⟨hb.1, M _ hb.2⟩) h
  rw [if_neg k13] at h ⊢
  by_cases k14 : (x.kind == 14) = true
  ·rw [if_pos k14] at h ⊢
   exact F _ _ _ (fun hb => by simp only [Bool.and_eq_true] at hb ⊢; exact ⟨hb.1, M _ hb.2⟩) h
  rw [if_neg k14] at h ⊢
  by_cases k15 : (x.kind == 15) = true
  ·rw [if_pos k15] at h ⊢
   exact F _ _ _ (fun hb => M _ hb) h
  rw [if_neg k15] at h ⊢
  exact h
theorem sform_moved {u : Un} {f : Fl} {x : Nd} {s s' : List Int} {w w' : Wh} {outs : List Int} (hm : hmless x = true) (hs : ∀ v ∈ x.args, s.contains v = true → s'.contains v = true) (h : (sForm u f x s w).ok f.types outs = true) :
    (sForm u f x s' w').ok f.types outs = true ∧ outs.length = 1 := by
  have M : ∀ want, r8types f.types s x.args want = true → r8types f.types s' x.args want = true := fun want => types_sub hs
  have F : ∀ (b b' : Bool) (t : Int), (b = true → b' = true) → SForm.ok ⟨b, some [t]⟩ f.types outs = true → SForm.ok ⟨b', some [t]⟩ f.types outs = true ∧ outs.length = 1 := fun b b' t hb h => by
    simp only [SForm.ok, Bool.and_eq_true] at h ⊢
    exact ⟨⟨hb h.1, h.2⟩, vOuts_len h.2⟩
  unfold sForm at h ⊢
  by_cases k1 : (x.kind == 1) = true
  ·rw [if_pos k1] at h ⊢
   exact F _ _ _ (fun hb => M _ hb) h
  rw [if_neg k1] at h ⊢
  by_cases k2 : (x.kind == 2) = true
  ·rw [if_pos k2] at h ⊢
   exact F _ _ _ (fun hb => by simp only [Bool.and_eq_true] at hb ⊢; exact ⟨hb.1, M _ hb.2⟩) h
  rw [if_neg k2] at h ⊢
  by_cases k3 : (x.kind == 3) = true
  ·rw [if_pos k3] at h ⊢
   exact F _ _ _ (fun hb => by simp only [Bool.and_eq_true] at hb ⊢; exact ⟨hb.1, M _ hb.2⟩) h
  rw [if_neg k3] at h ⊢
  by_cases k4 : (x.kind == 4) = true
  ·rw [if_pos k4] at h ⊢
   exact F _ _ _ (fun hb => by simp only [Bool.and_eq_true] at hb ⊢; exact ⟨⟨hb.1.1, M _ hb.1.2⟩, hb.2⟩) h
  rw [if_neg k4] at h ⊢
  have hk := hmless_kind hm
  simp only [beq_iff_eq] at k1 k2 k3 k4
  omega
theorem dL_app : ∀ (a b : List Nd), dL (a ++ b) = dL a ++ dL b
  | [], _ => rfl
  | x :: r, b => by simp only [List.cons_append, dL, dL_app r b, List.append_assoc]
theorem part_perm : ∀ (l : List Nd) (vs : List Int), List.Perm (dL (hPart vs l).1 ++ dL (hPart vs l).2) (dL l)
  | [], _ => by simp [hPart, dL]
  | x :: r, vs => by
    unfold hPart
    split
    ·split
     ·have ih := part_perm r (vs ++ [x.outs.headD 0])
      simp only [dL]
      refine (List.perm_append_comm_assoc _ _ _).trans ?_
      exact ih.append_left (dN x)
     have ih := part_perm r vs
     simp only [dL, List.append_assoc]
     exact ih.append_left (dN x)
    simp [dL]
mutual
theorem hNode_perm : ∀ x : Nd, List.Perm (dL (hNode x)) (dN x)
  | .mk kind op n name args outs params ks => by
    have hk := hKids_perm ks
    unfold hNode hOut
    split
    ·cases hq : hKids ks with
     | nil =>
       rw [hq] at hk
       simp only [dL, dN, List.append_nil]
       exact (hk.append_right outs).append_left params
     | cons b r =>
       rw [hq] at hk
       simp only [dL_app, dL, dN, dK, List.append_nil] at hk ⊢
       have hp := part_perm b params
       refine (List.perm_append_comm_assoc _ _ _).trans (List.Perm.append_left params ?_)
       rw [← List.append_assoc, ← List.append_assoc]
       refine List.Perm.append_right outs ?_
       refine (List.Perm.append_right (dK r) hp).trans hk
    simp only [dL, dN, List.append_nil]
    exact (hk.append_right outs).append_left params
theorem hList_perm : ∀ l : List Nd, List.Perm (dL (hList l)) (dL l)
  | [] => by simp [hList]
  | x :: r => by
    simp only [hList, dL_app, dL]
    exact (hNode_perm x).append (hList_perm r)
theorem hKids_perm : ∀ ks : List (List Nd), List.Perm (dK (hKids ks)) (dK ks)
  | [] => by simp [hKids]
  | l :: r => by
    simp only [hKids, dK]
    exact (hList_perm l).append (hKids_perm r)
end
theorem Frs.perm {set : List Bool} {a b : List Int} (h : Frs set a) (hp : List.Perm a b) : Frs set b := ⟨hp.nodup_iff.1 h.1, fun v hv => h.2 v (hp.mem_iff.2 hv)⟩
theorem leaves_app : ∀ (a b : List Nd), r8Leaves (a ++ b) = (r8Leaves a || r8Leaves b)
  | [], b => by simp [r8Leaves]
  | x :: r, b => by simp only [List.cons_append, r8Leaves, leaves_app r b, Bool.or_assoc]
theorem leaves_part : ∀ (l : List Nd) (vs : List Int), r8Leaves (hPart vs l).1 = false ∧ r8Leaves (hPart vs l).2 = r8Leaves l
  | [], _ => by simp [hPart, r8Leaves]
  | x :: r, vs => by
    unfold hPart
    split
    ·rename_i hm
     obtain ⟨_, _, _, h4⟩ := hmless_no hm
     split
     ·obtain ⟨h1, h2⟩ := leaves_part r (vs ++ [x.outs.headD 0])
      exact ⟨h1, by simp only [r8Leaves, h2]⟩
     obtain ⟨h1, h2⟩ := leaves_part r vs
     exact ⟨by simp only [r8Leaves, h1, h4, Bool.or_false], by simp only [r8Leaves, h2, h4, Bool.false_or]⟩
    simp [r8Leaves]
mutual
theorem leaves_node : ∀ x : Nd, r8Leaves (hNode x) = r8LeavesN x
  | .mk kind op n name args outs params ks => by
    have hk := leaves_kids ks
    unfold hNode hOut
    split
    ·rename_i h11
     have e11 : kind = 11 := by simpa using h11
     subst e11
     cases hq : hKids ks with
     | nil => simp [r8Leaves, r8LeavesN]
     | cons b r => simp only [leaves_app, (leaves_part b params).1]; simp [r8Leaves, r8LeavesN]
    simp only [r8Leaves, r8LeavesN, hk, Bool.or_false]
theorem leaves_list : ∀ l : List Nd, r8Leaves (hList l) = r8Leaves l
  | [] => by simp [hList]
  | x :: r => by simp only [hList, leaves_app, leaves_node x, leaves_list r, r8Leaves]
theorem leaves_kids : ∀ ks : List (List Nd), r8LeavesK (hKids ks) = r8LeavesK ks
  | [] => by simp [hKids]
  | l :: r => by simp only [hKids, r8LeavesK, leaves_list l, leaves_kids r]
end
theorem hNode_last (x : Nd) : ∃ A y, hNode x = A ++ [y] ∧ y.kind = x.kind := by
  cases x with
  | mk kind op n name args outs params ks =>
    unfold hNode hOut
    split
    ·cases hKids ks with
     | nil => exact ⟨[], _, rfl, rfl⟩
     | cons b r => exact ⟨_, _, rfl, rfl⟩
    exact ⟨[], _, rfl, rfl⟩
theorem hList_ne {l : List Nd} (h : l ≠ []) : hList l ≠ [] := by
  cases l with
  | nil => exact absurd rfl h
  | cons x r =>
    obtain ⟨A, y, e, _⟩ := hNode_last x
    simp [hList, e]
theorem last_h : ∀ l : List Nd, r8last (hList l) = r8last l
  | [] => by simp [hList]
  | x :: r => by
    obtain ⟨A, y, e, hk⟩ := hNode_last x
    cases r with
    | nil => simp [hList, e, r8last, hk]
    | cons z r' =>
      have ih := last_h (z :: r')
      have hne : hList (z :: r') ≠ [] := hList_ne (by simp)
      have h1 : (hList (x :: z :: r')).getLast? = (hList (z :: r')).getLast? := by
        rw [show hList (x :: z :: r') = hNode x ++ hList (z :: r') from rfl, List.getLast?_append]
        cases hl : (hList (z :: r')).getLast? with
        | none => exact absurd (List.getLast?_eq_none_iff.1 hl) hne
        | some q => rfl
      unfold r8last at ih ⊢
      rw [h1, ih]
      simp [List.getLast?_cons_cons]
def MG (u : Un) (f : Fl) (l : List Nd) : Prop := ∀ (deep : Int) (w : Wh) (all all' : List Int), SubL all all' → vGo u f deep w all l = true → vGo u f deep w all' l = true
theorem MG.list {u : Un} {f : Fl} {l : List Nd} (h : MG u f l) {deep : Int} {w : Wh} {all all' : List Int} (hs : SubL all all') (hv : vList u f deep w all l = true) : vList u f deep w all' l = true := by
  simp only [vList, Bool.and_eq_true] at hv ⊢
  exact ⟨hv.1, h deep w all all' hs hv.2⟩
theorem node_mono (u : Un) (f : Fl) (x : Nd) (ih : ∀ q ∈ x.kids, MG u f q) (deep : Int) (w : Wh) (s s' : List Int) (hs : SubL s s') (h : vNode u f deep w s x = true) : vNode u f deep w s' x = true := by
  have hb := vNode_bare u f deep w s h
  by_cases h10 : x.kind = 10
  ·obtain ⟨a, b, hk⟩ := r8bare_if hb h10
   rw [vNode_if u f deep w _ hb h10 hk] at h ⊢
   simp only [Bool.and_eq_true] at h ⊢
   exact ⟨⟨⟨⟨types_mono hs h.1.1.1.1, (ih a (by rw [hk]; simp)).list hs h.1.1.1.2⟩, (ih b (by rw [hk]; simp)).list hs h.1.1.2⟩, h.1.2⟩, h.2⟩
  by_cases h11 : x.kind = 11
  ·obtain ⟨a, hk⟩ := r8bare_loop hb h11
   rw [vNode_loop u f deep w _ hb h11 hk] at h ⊢
   simp only [Bool.and_eq_true] at h ⊢
   exact ⟨⟨⟨⟨types_mono hs h.1.1.1.1, h.1.1.1.2⟩, (ih a (by rw [hk]; simp)).list (hs.app (.refl _)) h.1.1.2⟩, h.1.2⟩, h.2⟩
  have e10 : (x.kind == 10) = false := by simpa using h10
  have e11 : (x.kind == 11) = false := by simpa using h11
  rw [vNode_simple u f deep w _ hb e10 e11] at h ⊢
  exact sform_mono hs h
theorem go_mono (u : Un) (f : Fl) : ∀ (l : List Nd), (∀ x ∈ l, ∀ q ∈ x.kids, MG u f q) → MG u f l
  | [], _ => fun _ _ _ _ _ _ => by simp [vGo]
  | x :: r, ih => fun deep w all all' hs h => by
    simp only [vGo, Bool.and_eq_true] at h ⊢
    exact ⟨⟨⟨h.1.1.1, node_mono u f x (ih x (.head _)) _ _ _ _ hs h.1.1.2⟩, h.1.2⟩, go_mono u f r (fun y hy => ih y (.tail _ hy)) _ _ _ _ (hs.app (.refl _)) h.2⟩
theorem mg_all (u : Un) (f : Fl) : ∀ (N : Nat) (l : List Nd), SizeOf.sizeOf l < N → MG u f l
  | 0, _, h => absurd h (Nat.not_lt_zero _)
  | N + 1, l, hN => go_mono u f l fun x hx q hq => mg_all u f N q (Nat.lt_of_lt_of_le (kid_lt hx rfl hq) (Nat.le_of_lt_succ hN))
theorem mg (u : Un) (f : Fl) (l : List Nd) : MG u f l := mg_all u f _ l (Nat.lt_succ_self _)
def vPre (u : Un) (f : Fl) (deep : Int) (w : Wh) (all : List Int) : List Nd → Bool
  | [] => true
  | x :: r => !decide (deep > 100) && vNode u f deep w all x && !r8Closed x && vPre u f deep w (all ++ x.outs) r
theorem go_app (u : Un) (f : Fl) (deep : Int) (w : Wh) : ∀ (A T : List Nd) (all : List Int), T ≠ [] → vPre u f deep w all A = true → vGo u f deep w (all ++ A.flatMap Nd.outs) T = true → vGo u f deep w all (A ++ T) = true
  | [], T, all, _, _, h => by simpa using h
  | x :: r, T, all, hT, h1, h2 => by
    simp only [vPre, Bool.and_eq_true] at h1
    simp only [List.cons_append, vGo, Bool.and_eq_true]
    refine ⟨⟨h1.1.1, ?_⟩, go_app u f deep w r T (all ++ x.outs) hT h1.2 (by rw [List.flatMap_cons, ← List.append_assoc] at h2; exact h2)⟩
    have hc : r8Closed x = false := by simpa using h1.1.2
    have he : (r ++ T).isEmpty = false := by
      cases r with
      | nil => cases T with
        | nil => exact absurd rfl hT
        | cons _ _ => rfl
      | cons _ _ => rfl
    rw [hc, he]; rfl
theorem contains_headD {l : List Int} (h : l.length = 1) (v : Int) (hv : l.contains v = true) : v = l.headD 0 := by
  match l, h with
  | [a], _ => simpa using hv
theorem part_ok (u : Un) (f : Fl) (dI dO : Int) (wI wO : Wh) (hdO : ¬ dO > 100) : ∀ (l : List Nd) (V S vs : List Int), vGo u f dI wI V l = true → (∀ v, V.contains v = true → S.contains v = true ∨ vs.contains v = true) →
    vPre u f dO wO S (hPart vs l).1 = true ∧ (∀ V', SubL V V' → SubL ((hPart vs l).1.flatMap Nd.outs) V' → vGo u f dI wI V' (hPart vs l).2 = true) ∧ (l ≠ [] → (hPart vs l).2 ≠ [])
  | [], V, S, vs, _, _ => ⟨rfl, fun _ _ _ => rfl, fun h => absurd rfl h⟩
  | x :: r, V, S, vs, h, hV => by
    have h0 := h
    simp only [vGo, Bool.and_eq_true] at h
    obtain ⟨⟨⟨hd, hx⟩, hc⟩, hr⟩ := h
    have hb := vNode_bare u f dI wI V hx
    unfold hPart
    by_cases hm : hmless x = true
    ·rw [if_pos hm]
     obtain ⟨e10, e11, hcl, _⟩ := hmless_no hm
     have hne : r ≠ [] := by
       intro e; subst e
       rw [hcl] at hc; simp at hc
     have hx2 := hx
     rw [vNode_simple u f dI wI V hb e10 e11] at hx2
     by_cases ha : x.args.any (fun v => vs.contains v) = true
     ·rw [if_pos ha]
      obtain ⟨_, hol⟩ := sform_moved (s' := V) (w' := wI) hm (fun _ _ h => h) hx2
      obtain ⟨i1, i2, i3⟩ := part_ok u f dI dO wI wO hdO r (V ++ x.outs) S (vs ++ [x.outs.headD 0]) hr (fun v hv => by
        rw [List.contains_append, Bool.or_eq_true] at hv
        rw [List.contains_append, Bool.or_eq_true]
        rcases hv with hv | hv
        · exact (hV v hv).imp_right .inl
        · have := contains_headD hol v hv
          exact .inr (.inr (by rw [this]; simp)))
      refine ⟨i1, fun V' h1 h2 => ?_, fun _ => by simp⟩
      have hR := i3 hne
      have hRe : (hPart (vs ++ [x.outs.headD 0]) r).2.isEmpty = false := by
        cases hq : (hPart (vs ++ [x.outs.headD 0]) r).2 with
        | nil => exact absurd hq hR
        | cons _ _ => rfl
      simp only [vGo, Bool.and_eq_true]
      refine ⟨⟨⟨hd, node_mono u f x (fun q _ => mg u f q) _ _ _ _ h1 hx⟩, by rw [hcl, hRe]; rfl⟩, i2 (V' ++ x.outs) (h1.app (.refl _)) (fun v hv => ?_)⟩
      rw [List.contains_append, h2 v hv]; rfl
     rw [if_neg ha]
     have hargs : ∀ v ∈ x.args, V.contains v = true → S.contains v = true := fun v hv hVv => by
       rcases hV v hVv with h | h
       ·exact h
       exact absurd (List.any_eq_true.2 ⟨v, hv, h⟩) ha
     obtain ⟨hmv, _⟩ := sform_moved (s' := S) (w' := wO) hm hargs hx2
     obtain ⟨i1, i2, i3⟩ := part_ok u f dI dO wI wO hdO r (V ++ x.outs) (S ++ x.outs) vs hr (fun v hv => by
       rw [List.contains_append, Bool.or_eq_true] at hv
       rw [List.contains_append, Bool.or_eq_true]
       rcases hv with hv | hv
       · exact (hV v hv).imp_left .inl
       · exact .inl (.inr hv))
     refine ⟨?_, fun V' h1 h2 => ?_, fun _ => i3 hne⟩
     ·simp only [vPre, Bool.and_eq_true]
      refine ⟨⟨⟨by simpa using hdO, ?_⟩, by rw [hcl]; rfl⟩, i1⟩
      rw [vNode_simple u f dO wO S hb e10 e11]
      exact hmv
     refine i2 V' (fun v hv => ?_) (fun v hv => h2 v (by rw [List.flatMap_cons, List.contains_append, hv, Bool.or_true]))
     rw [List.contains_append, Bool.or_eq_true] at hv
     rcases hv with hv | hv
     ·exact h1 v hv
     exact h2 v (by rw [List.flatMap_cons, List.contains_append, hv]; rfl)
    rw [if_neg hm]
    refine ⟨rfl, fun V' h1 _ => mg u f (x :: r) dI wI V V' h1 h0, fun _ => by simp⟩
def HP (u : Un) (f : Fl) (l : List Nd) : Prop := ∀ (deep : Int) (w : Wh) (all all' : List Int), SubL all all' → vGo u f deep w all l = true → vGo u f deep w all' (hList l) = true
theorem HP.list {u : Un} {f : Fl} {l : List Nd} (h : HP u f l) {deep : Int} {w : Wh} {all all' : List Int} (hs : SubL all all') (hv : vList u f deep w all l = true) : vList u f deep w all' (hList l) = true := by
  simp only [vList, Bool.and_eq_true] at hv ⊢
  refine ⟨?_, h deep w all all' hs hv.2⟩
  have hne : l ≠ [] := by intro e; subst e; simp at hv
  cases hq : hList l with
  | nil => exact absurd hq (hList_ne hne)
  | cons _ _ => rfl
theorem bare_kidsEq {kind op n : Int} {name : ByteArray} {args outs params : List Int} {ks ks' : List (List Nd)} (h : ks'.length = ks.length) : r8bare (.mk kind op n name args outs params ks') = r8bare (.mk kind op n name args outs params ks) := by
  unfold r8bare r8op r8num r8name r8kn
  simp only [Nd.kind, Nd.op, Nd.n, Nd.name, Nd.kids, Nd.params]
  rw [h]
  rfl
theorem node_h (u : Un) (f : Fl) (x : Nd) (ih : ∀ q ∈ x.kids, HP u f q) (deep : Int) (w : Wh) (all all' : List Int) (hd : ¬ deep > 100) (hs : SubL all all') (h : vNode u f deep w all x = true) :
    ∃ A y, hNode x = A ++ [y] ∧ vPre u f deep w all' A = true ∧ vNode u f deep w (all' ++ A.flatMap Nd.outs) y = true ∧ r8Closed y = r8Closed x ∧ y.outs = x.outs := by
  have hb := vNode_bare u f deep w all h
  by_cases h10 : x.kind = 10
  ·obtain ⟨a, b, hk⟩ := r8bare_if hb h10
   rw [vNode_if u f deep w all hb h10 hk] at h
   simp only [Bool.and_eq_true] at h
   have ha := (ih a (by rw [hk]; simp)).list hs h.1.1.1.2
   have hbb := (ih b (by rw [hk]; simp)).list hs h.1.1.2
   have hla := last_h a
   have hlb := last_h b
   cases x with
   | mk kind op n name args outs params ks =>
     simp only [Nd.kind, Nd.kids] at h10 hk
     subst h10 hk
     refine ⟨[], .mk 10 op n name args outs params [hList a, hList b], rfl, rfl, ?_, ?_, rfl⟩
     ·rw [List.flatMap_nil, List.append_nil]
      have hb2 : r8bare (.mk 10 op n name args outs params [hList a, hList b]) = true := (bare_kidsEq (ks := [a, b]) (ks' := [hList a, hList b]) rfl).trans hb
      rw [vNode_if u f deep w all' hb2 rfl rfl]
      simp only [Bool.and_eq_true]
      refine ⟨⟨⟨⟨types_mono hs h.1.1.1.1, ha⟩, hbb⟩, ?_⟩, h.2⟩
      have ho := h.1.2
      unfold outOk r8Closed at ho ⊢
      simpa [Nd.kind, Nd.kids, Nd.outs, kid0, kid1, hla, hlb] using ho
     simp [r8Closed, Nd.kind, Nd.kids, kid0, kid1, hla, hlb]
  by_cases h11 : x.kind = 11
  ·obtain ⟨a, hk⟩ := r8bare_loop hb h11
   rw [vNode_loop u f deep w all hb h11 hk] at h
   simp only [Bool.and_eq_true] at h
   have hIH := (ih a (by rw [hk]; simp)).list (SubL.refl (all ++ x.params)) h.1.1.2
   simp only [vList, Bool.and_eq_true] at hIH
   have hne : hList a ≠ [] := by intro e; rw [e] at hIH; simp at hIH
   obtain ⟨p1, p2, p3⟩ := part_ok u f (deep + 1) deep (w2 f x) w hd (hList a) (all ++ x.params) all' x.params hIH.2 (fun v hv => by
     rw [List.contains_append, Bool.or_eq_true] at hv
     exact hv.imp_left (hs v))
   obtain ⟨l1, l2⟩ := leaves_part (hList a) x.params
   have l3 := leaves_list a
   cases x with
   | mk kind op n name args outs params ks =>
     simp only [Nd.kind, Nd.kids] at h11 hk
     subst h11 hk
     simp only [Nd.params] at p1 p2 p3 l2 h
     refine ⟨(hPart params (hList a)).1, .mk 11 op n name args outs params [(hPart params (hList a)).2], rfl, p1, ?_, ?_, rfl⟩
     ·have hb2 : r8bare (.mk 11 op n name args outs params [(hPart params (hList a)).2]) = true := (bare_kidsEq (ks := [a]) (ks' := [(hPart params (hList a)).2]) rfl).trans hb
      rw [vNode_loop u f deep w _ hb2 rfl rfl]
      simp only [Bool.and_eq_true, vList, Nd.params, Nd.args, Nd.outs] at h ⊢
      refine ⟨⟨⟨⟨types_mono hs.left h.1.1.1.1, h.1.1.1.2⟩, ?_, ?_⟩, ?_⟩, h.2⟩
      ·cases hq : (hPart params (hList a)).2 with
       | nil => exact absurd hq (p3 hne)
       | cons _ _ => rfl
      ·exact p2 _ (hs.left.app (.refl _)) (fun v hv => by rw [List.contains_append, List.contains_append, hv, Bool.or_true, Bool.true_or])
      have ho := h.1.2
      unfold outOk r8Closed at ho ⊢
      simpa [Nd.kind, Nd.kids, Nd.outs, kid0, l2, l3] using ho
     simp [r8Closed, Nd.kind, Nd.kids, kid0, l2, l3]
  have e10 : (x.kind == 10) = false := by simpa using h10
  have e11 : (x.kind == 11) = false := by simpa using h11
  have hk0 := bare_kids0 hb e10 e11
  have hx : hNode x = [x] := by
    cases x with
    | mk kind op n name args outs params ks =>
      simp only [Nd.kind, Nd.kids] at e11 hk0
      subst hk0
      simp [hNode, hOut, hKids, e11]
  refine ⟨[], x, hx, rfl, ?_, rfl, rfl⟩
  rw [List.flatMap_nil, List.append_nil]
  exact node_mono u f x (fun q _ => mg u f q) _ _ _ _ hs h
theorem go_h (u : Un) (f : Fl) : ∀ (l : List Nd), (∀ x ∈ l, ∀ q ∈ x.kids, HP u f q) → HP u f l
  | [], _ => fun _ _ _ _ _ _ => by simp [hList, vGo]
  | x :: r, ih => fun deep w all all' hs h => by
    simp only [vGo, Bool.and_eq_true] at h
    obtain ⟨⟨⟨hd, hx⟩, hc⟩, hr⟩ := h
    obtain ⟨A, y, e, hA, hy, hcy, hoy⟩ := node_h u f x (ih x (.head _)) deep w all all' (by simpa using hd) hs hx
    rw [show hList (x :: r) = hNode x ++ hList r from rfl, e, List.append_assoc]
    refine go_app u f deep w A _ all' (by simp) hA ?_
    simp only [List.singleton_append, vGo, Bool.and_eq_true]
    refine ⟨⟨⟨hd, hy⟩, ?_⟩, go_h u f r (fun z hz => ih z (.tail _ hz)) deep w (all ++ x.outs) _ (by rw [hoy]; exact hs.left.app (.refl _)) hr⟩
    rw [hcy]
    have he : (hList r).isEmpty = r.isEmpty := by
      cases r with
      | nil => rfl
      | cons z r' =>
        cases hq : hList (z :: r') with
        | nil => exact absurd hq (hList_ne (by simp))
        | cons _ _ => rfl
    rw [he]; exact hc
theorem hp_all (u : Un) (f : Fl) : ∀ (N : Nat) (l : List Nd), SizeOf.sizeOf l < N → HP u f l
  | 0, _, h => absurd h (Nat.not_lt_zero _)
  | N + 1, l, hN => go_h u f l fun x hx q hq => hp_all u f N q (Nat.lt_of_lt_of_le (kid_lt hx rfl hq) (Nat.le_of_lt_succ hN))
theorem vList_hoist (u : Un) (f : Fl) {deep : Int} {w : Wh} {all : List Int} {l : List Nd} (h : vList u f deep w all l = true) : vList u f deep w all (hList l) = true :=
  (hp_all u f _ l (Nat.lt_succ_self _)).list (SubL.refl _) h
theorem place_h (name : ByteArray) : ∀ (l : List Fl) (i : Int), r8Place name (l.map hFlow) i = r8Place name l i
  | [], _ => rfl
  | f :: r, i => by
    have ih := place_h name r (i + 1)
    unfold r8Place
    rw [List.map_cons]
    simp only [ih]
    rfl
theorem sForm_h (u : Un) (f : Fl) (x : Nd) (s : List Int) (w : Wh) : sForm (hUnit u) (hFlow f) x s w = sForm u f x s w := by
  unfold sForm
  simp only [hUnit, hFlow, place_h, List.getElem?_map]
  cases u.flows[(r8Place x.name u.flows 0).toNat]? with
  | none => rfl
  | some g => rfl
mutual
theorem vNode_h (u : Un) (f : Fl) : ∀ (x : Nd) (deep : Int) (w : Wh) (s : List Int), vNode (hUnit u) (hFlow f) deep w s x = vNode u f deep w s x
  | .mk kind op n name args outs params ks, deep, w, s => by
    unfold vNode
    rw [sForm_h]
    match ks with
    | [] => rfl
    | [a] =>
      have h1 := vGo_h u f a (deep + 1) (w2 f (.mk kind op n name args outs params [a])) (s ++ params)
      simp only [show w2 (hFlow f) (.mk kind op n name args outs params [a]) = w2 f (.mk kind op n name args outs params [a]) from rfl, h1]
      rfl
    | a :: b :: r =>
      have h1 := vGo_h u f a (deep + 1) (w2 f (.mk kind op n name args outs params (a :: b :: r))) (s ++ params)
      have h2 := vGo_h u f a (deep + 1) (w1 w f (.mk kind op n name args outs params (a :: b :: r))) s
      have h3 := vGo_h u f b (deep + 1) (w1 w f (.mk kind op n name args outs params (a :: b :: r))) s
      simp only [show w2 (hFlow f) (.mk kind op n name args outs params (a :: b :: r)) = w2 f (.mk kind op n name args outs params (a :: b :: r)) from rfl, show w1 w (hFlow f) (.mk kind op n name args outs params (a :: b :: r)) = w1 w f (.mk kind op n name args outs params (a :: b :: r)) from rfl, h1, h2, h3]
      rfl
theorem vGo_h (u : Un) (f : Fl) : ∀ (l : List Nd) (deep : Int) (w : Wh) (s : List Int), vGo (hUnit u) (hFlow f) deep w s l = vGo u f deep w s l
  | [], _, _, _ => by simp [vGo]
  | x :: r, deep, w, s => by
    unfold vGo
    rw [vNode_h u f x, vGo_h u f r]
end
theorem flow_h {u : Un} {f : Fl} (h : r8Flow u f = true) : r8Flow (hUnit u) (hFlow f) = true := by
  unfold r8Flow at h ⊢
  simp only [Bool.and_eq_true] at h ⊢
  obtain ⟨h1, h2⟩ := h
  refine ⟨h1, ?_⟩
  have hp : f.params.toNat ≤ f.types.length := by
    have a1 := h1.1.1.1.1
    have a2 := h1.1.1.2
    simp only [Bool.not_eq_true', decide_eq_false_iff_not] at a1 a2
    omega
  have hn : (firsts f.params.toNat f.types.length).length = f.types.length := firsts_length hp
  rw [r8list_iff u f f.body 1 r8where0 _ _ hn] at h2
  show (r8list (hUnit u) (hFlow f) 1 r8where0 (iota f.params.toNat) (firsts f.params.toNat f.types.length) (hList f.body)).1 = true
  rw [r8list_iff (hUnit u) (hFlow f) (hList f.body) 1 r8where0 _ _ hn]
  have hv := vList_hoist u f h2.1
  simp only [vList, Bool.and_eq_true] at hv ⊢
  exact ⟨⟨hv.1, by rw [vGo_h]; exact hv.2⟩, h2.2.perm (hList_perm f.body).symm⟩
theorem gA_h (u : Un) : ∀ (l : List Ar) (i : Int), r8gA (hUnit u) l i = r8gA u l i
  | [], _ => rfl
  | a :: r, i => by
    have h1 : gArr (hUnit u) a i = gArr u a i := by simp only [gArr, hUnit, place_h]
    simp only [r8gA, gA_h u r, h1]
theorem gF_h (u : Un) : ∀ (l : List Fl) (i : Int), r8gF (hUnit u) (l.map hFlow) i = r8gF u l i
  | [], _ => rfl
  | a :: r, i => by
    have h1 : gFlw (hUnit u) (hFlow a) i = gFlw u a i := by
      simp only [gFlw, hUnit, place_h]
      rfl
    simp only [List.map_cons, r8gF, gF_h u r, h1]
theorem getD_map_h (l : List Fl) (k : Nat) : ((l.map hFlow).getD k flDef).ty = (l.getD k flDef).ty ∧ ((l.map hFlow).getD k flDef).params = (l.getD k flDef).params := by
  simp only [List.getD_eq_getElem?_getD, List.getElem?_map]
  cases l[k]? with
  | none => exact ⟨rfl, rfl⟩
  | some g => exact ⟨rfl, rfl⟩
theorem globals_h (u : Un) : r8globals (hUnit u) = r8globals u := by
  unfold r8globals
  rw [show (hUnit u).arrays = u.arrays from rfl, show (hUnit u).flows = u.flows.map hFlow from rfl, gA_h, gF_h]
  unfold r8main
  rw [show (hUnit u).flows = u.flows.map hFlow from rfl, place_h, (getD_map_h _ _).1, (getD_map_h _ _).2]
theorem flows_iff (u : Un) : ∀ (l : List Fl) (i : Int), (r8flows u l i).1 = 0 ↔ ∀ f ∈ l, r8Flow u f = true
  | [], _ => by simp [r8flows]
  | f :: r, i => by
    unfold r8flows
    cases h : r8Flow u f with
    | false => simp [h]
    | true => simp [h, flows_iff u r (i + 1)]
theorem flows_zero (u : Un) : ∀ (l : List Fl) (i : Int), (∀ f ∈ l, r8Flow u f = true) → r8flows u l i = (0, 0)
  | [], _, _ => rfl
  | f :: r, i, h => by
    unfold r8flows
    rw [if_pos (h f (.head _))]
    exact flows_zero u r (i + 1) fun g hg => h g (.tail _ hg)
theorem check_iff (u : Un) : (r8Check u).1 = 0 ↔ r8globals u = true ∧ ∀ f ∈ u.flows, r8Flow u f = true := by
  unfold r8Check
  cases h : r8globals u with
  | false => simp
  | true => simp [flows_iff]
theorem check_hoist {u : Un} (h : (r8Check u).1 = 0) : r8Check (hUnit u) = (0, 0) := by
  obtain ⟨h1, h2⟩ := (check_iff u).1 h
  unfold r8Check
  rw [globals_h, h1, if_pos rfl]
  refine flows_zero (hUnit u) _ 0 fun g hg => ?_
  obtain ⟨f, hf, rfl⟩ := List.mem_map.1 hg
  exact flow_h (h2 f hf)
mutual
theorem okN_valid (u : Un) (f : Fl) : ∀ (x : Nd) (deep : Int) (w : Wh) (s : List Int), vNode u f deep w s x = true → hOkN x = true
  | .mk kind op n name args outs params ks, deep, w, s, h => by
    have hb := vNode_bare u f deep w s h
    simp only [hOkN, Bool.and_eq_true]
    refine ⟨⟨?_, ?_⟩, ?_⟩
    ·cases hm : hmless (.mk kind op n name args outs params ks) with
     | false => rfl
     | true =>
       obtain ⟨e10, e11, _, _⟩ := hmless_no hm
       rw [vNode_simple u f deep w s hb e10 e11] at h
       obtain ⟨_, hl⟩ := sform_moved (s' := s) (w' := w) hm (fun _ _ h => h) h
       simp only [Nd.outs] at hl
       cases outs with
       | nil => simp at hl
       | cons _ _ => rfl
    ·cases hk : (kind == 11) with
     | false => simp [bne, hk]
     | true =>
       obtain ⟨a, ha⟩ := r8bare_loop hb (show kind = 11 by simpa using hk)
       simp only [Nd.kids] at ha
       simp [ha]
    by_cases h10 : kind = 10
    ·obtain ⟨a, b, hk⟩ := r8bare_if hb h10
     rw [vNode_if u f deep w s hb h10 hk] at h
     simp only [Bool.and_eq_true, vList] at h
     simp only [Nd.kids] at hk
     match ks, hk with
     | [a', b'], hk =>
       cases hk
       simp only [hOkK, Bool.and_eq_true, Bool.and_true]
       exact ⟨okL_valid u f a _ _ _ h.1.1.1.2.2, okL_valid u f b _ _ _ h.1.1.2.2⟩
    by_cases h11 : kind = 11
    ·obtain ⟨a, hk⟩ := r8bare_loop hb h11
     rw [vNode_loop u f deep w s hb h11 hk] at h
     simp only [Bool.and_eq_true, vList] at h
     simp only [Nd.kids] at hk
     match ks, hk with
     | [a'], hk =>
       cases hk
       simp only [hOkK, Bool.and_true]
       exact okL_valid u f a _ _ _ h.1.1.2.2
    have hk0 := bare_kids0 hb (show (kind == 10) = false by simpa using h10) (show (kind == 11) = false by simpa using h11)
    simp only [Nd.kids] at hk0
    rw [hk0]; rfl
theorem okL_valid (u : Un) (f : Fl) : ∀ (l : List Nd) (deep : Int) (w : Wh) (s : List Int), vGo u f deep w s l = true → hOkL l = true
  | [], _, _, _, _ => rfl
  | x :: r, deep, w, s, h => by
    simp only [vGo, Bool.and_eq_true] at h
    simp only [hOkL, Bool.and_eq_true]
    exact ⟨okN_valid u f x _ _ _ h.1.1.2, okL_valid u f r _ _ _ h.2⟩
end
theorem hok_valid {u : Un} (h : (shCheck u).1 = 0) : ∀ f ∈ u.flows, hOkL f.body = true := by
  rw [shCheck_eq] at h
  intro f hf
  have hF := ((check_iff u).1 h).2 f hf
  unfold r8Flow at hF
  simp only [Bool.and_eq_true] at hF
  obtain ⟨h1, h2⟩ := hF
  have hp : f.params.toNat ≤ f.types.length := by
    have a1 := h1.1.1.1.1
    have a2 := h1.1.1.2
    simp only [Bool.not_eq_true', decide_eq_false_iff_not] at a1 a2
    omega
  have hn : (firsts f.params.toNat f.types.length).length = f.types.length := firsts_length hp
  rw [r8list_iff u f f.body 1 r8where0 _ _ hn] at h2
  have hv := h2.1
  simp only [vList, Bool.and_eq_true] at hv
  exact okL_valid u f f.body _ _ _ hv.2
theorem wtL_app : ∀ (a b : List Nd), wtL (a ++ b) = wtL a + wtL b
  | [], b => by simp [wtL]
  | x :: r, b => by simp only [List.cons_append, wtL, wtL_app r b]; omega
theorem wt_part : ∀ (l : List Nd) (vs : List Int), wtL (hPart vs l).1 + wtL (hPart vs l).2 = wtL l
  | [], _ => rfl
  | x :: r, vs => by
    unfold hPart
    split
    ·split
     ·have := wt_part r (vs ++ [x.outs.headD 0]); simp only [wtL]; omega
     have := wt_part r vs; simp only [wtL]; omega
    simp [wtL]
mutual
theorem wt_node : ∀ x : Nd, (hNode x).length + wtL (hNode x) = 1 + wtN x
  | .mk kind op n name args outs params ks => by
    have hk := wt_kids ks
    unfold hNode hOut
    split
    ·cases hq : hKids ks with
     | nil => rw [hq] at hk; simp only [wtL, wtN, List.length_cons, List.length_nil] at hk ⊢; omega
     | cons b r =>
       rw [hq] at hk
       have h1 := wt_part b params
       have h2 := hPart_len b params
       simp only [wtL_app, wtL, wtN, wtK, List.length_append, List.length_cons, List.length_nil] at hk ⊢
       omega
    simp only [wtL, wtN, List.length_cons, List.length_nil]; omega
theorem wt_list : ∀ l : List Nd, (hList l).length + wtL (hList l) = l.length + wtL l
  | [] => rfl
  | x :: r => by
    have h1 := wt_node x
    have h2 := wt_list r
    simp only [hList, wtL_app, wtL, List.length_append, List.length_cons]
    omega
theorem wt_kids : ∀ ks : List (List Nd), wtK (hKids ks) = wtK ks
  | [] => rfl
  | l :: r => by
    have h1 := wt_list l
    have h2 := wt_kids r
    simp only [hKids, wtK]
    omega
end
theorem wtF_h : ∀ l : List Fl, wtF (l.map hFlow) = wtF l
  | [] => rfl
  | f :: r => by
    have h1 := wt_list f.body
    have h2 := wtF_h r
    simp only [List.map_cons, wtF, r8nodes, hFlow] at h2 ⊢
    omega
theorem weight_h (u : Un) : r8Weight (hUnit u) = r8Weight u := by
  unfold r8Weight
  rw [show (hUnit u).flows = u.flows.map hFlow from rfl, wtF_h, List.length_map]
  rfl
theorem hoistOf_bad {u : Un} (h : (r8Check u).1 ≠ 0) : hoistOf u = (⟨[], []⟩, 1) := by
  have : ((shCheck u).1 == 0) = false := by rw [shCheck_eq]; simpa using h
  simp [hoistOf, this]
theorem hoistOf_good {u : Un} (h : (r8Check u).1 = 0) : hoistOf u = (hUnit u, 0) := by
  have : ((shCheck u).1 == 0) = true := by rw [shCheck_eq]; simpa using h
  simp [hoistOf, this]
theorem hoistOf_weight (u : Un) : r8Weight (hoistOf u).1 ≤ r8Weight u := by
  unfold hoistOf
  split
  · rw [weight_h]; exact Nat.le_refl _
  · simp [r8Weight, wtA, wtF]
def fIdle (x : Nd) : Bool := decide (x.kind ≤ 3) || (x.kind == 4 && x.op != 4 && x.op != 5)
def fAny (l m : List Int) : Bool := l.any fun v => m.any fun w => v == w
def fHead (x : Nd) : Bool := x.kind == 11 && (match x.kids with
  | [y :: _] => fIdle y && !fAny y.args x.params
  | _ => false)
mutual
def fineN : Nd → Bool
  | .mk kind op n name args outs params ks => !fHead (.mk kind op n name args outs params ks) && fineK ks
def fineL : List Nd → Bool
  | [] => true
  | x :: r => fineN x && fineL r
def fineK : List (List Nd) → Bool
  | [] => true
  | l :: r => fineL l && fineK r
end
theorem fineN_eq (x : Nd) : fineN x = (!fHead x && fineK x.kids) := by cases x; simp [fineN, Nd.kids]
def fRight (u : Un) : Bool := u.flows.all fun f => fineL f.body
theorem sc_idle (x : Nd) : SC Tryz.prog 40 [.pv (ndv x)] [] (fun _ => False) (iBool (fIdle x)) [] := by
  refine SC.of Tryz.func40 rfl (lb rfl) fun F ρ w => ?_
  refine tQ <| tG <| cE rfl (ok_box rfl rfl) <| sm 1 rfl <| nL <| tQ <| tG <| sm 4 rfl ?_
  refine wS 6 rfl (fun hb6 => ?_) fun hb6 => ?_
  ·refine sm 4 rfl <| nUu rfl rfl rfl rfl rfl rfl <| nUu rfl rfl rfl rfl rfl rfl <| nUu rfl rfl rfl rfl rfl rfl <| sm 2 rfl <| nUu rfl rfl rfl rfl rfl rfl <| nUu rfl rfl rfl rfl rfl rfl <| nUu rfl rfl rfl rfl rfl rfl <| sm 3 rfl <| nL <| tRt <| rOk rfl ?_ nPo
   refine congrArg (fun b => iBool b) ?_
   simp_all [fIdle]
  refine sm 4 rfl ?_
  refine wS 10 rfl (fun hb10 => ?_) fun hb10 => ?_
  ·refine sm 5 rfl ?_
   refine wS 15 rfl (fun hb15 => ?_) fun hb15 => ?_
   ·refine sm 6 rfl <| nL <| tRt <| rOk rfl ?_ nPo
    refine congrArg (fun b => iBool b) ?_
    simp_all [fIdle]
   refine sm 6 rfl <| nL <| tRt <| rOk rfl ?_ nPo
   refine congrArg (fun b => iBool b) ?_
   simp_all [fIdle]
  refine sm 11 rfl <| nL <| tRt <| rOk rfl ?_ nPo
  refine congrArg (fun b => iBool b) ?_
  simp_all [fIdle]
theorem sc_any (l ms : List Int) : SC Tryz.prog 41 [.pv (ints l), .pv (ints ms)] [] (fun _ => False) (iBool (fAny l ms)) [] := by
  refine SC.of Tryz.func41 rfl (lb rfl) fun F ρ w => ?_
  refine Tr.lenOf (t := 0) rfl (fun hl => ?_)
  simp only [List.length_map] at hl
  refine Tr.lenOf (t := 1) rfl (fun hl2 => ?_)
  simp only [List.length_map] at hl2
  refine tQ <| tG <| sm 1 rfl <| nL <| tQ <| tQ <| tG <| sm 1 rfl <| nL <| tBk <| Tr.sub (Sub.of (fr' := [(5, iInt 0), (0, .pv (ints l)), (1, .pv (ints ms))]) ⟨rfl, rfl, rfl, trivial⟩) ?_
  refine Tr.loop (fun fr σ m => ∃ (k : Nat), (k ≤ l.length) ∧ (fAny l ms = fAny (l.drop k) ms) ∧ fr = [(5, iInt k), (0, .pv (ints l)), (1, .pv (ints ms))] ∧ σ = look [] ∧ m = l.length - k) (n := l.length - 0) ?_ ?_
  ·exact ⟨0, Nat.zero_le _, rfl, rfl, rfl, rfl⟩
  rintro fr σ m ⟨k, hI0, hI1, rfl, rfl, rfl⟩
  refine tQ <| tQ <| tG <| sm 2 rfl <| cV rfl (oSm uT35 rfl) <| sm 1 rfl <| nL ?_
  refine tC rfl (fun hc10 => ?_) fun hc10 => ?_
  ·have hlt : k < l.length := by simpa using hc10
   have hd := List.drop_eq_getElem_cons hlt
   have hm := List.getElem_mem hlt
   have hi := map_get (f := eInt) (List.getElem?_eq_getElem hlt)
   generalize l[k] = x at hd hm hi
   refine tSk <| tQ <| tBk <| tQ <| tG <| sm 1 rfl <| nL <| tBk ?_
   have hstart : fAny l ms = ((ms.drop 0).any (fun w => x == w) || fAny (l.drop (k + 1)) ms) := by rw [hI1, hd]; rfl
   refine Tr.sub (Sub.of (fr' := [(6, iInt 0), (5, iInt k), (0, .pv (ints l)), (1, .pv (ints ms))]) ⟨rfl, rfl, rfl, rfl, trivial⟩) ?_
   refine Tr.loop (fun fr σ m => ∃ (i : Nat), (i ≤ ms.length) ∧ (fAny l ms = ((ms.drop i).any (fun w => x == w) || fAny (l.drop (k + 1)) ms)) ∧ fr = [(6, iInt i), (5, iInt k), (0, .pv (ints l)), (1, .pv (ints ms))] ∧ σ = look [] ∧ m = ms.length - i) (n := ms.length - 0) ?_ ?_
   ·exact ⟨0, Nat.zero_le _, hstart, rfl, rfl, rfl⟩
   rintro fr σ m ⟨i, hJ0, hJ1, rfl, rfl, rfl⟩
   refine tQ <| tQ <| tG <| sm 2 rfl <| cV rfl (oSm uT35 rfl) <| sm 1 rfl <| nL ?_
   refine tC rfl (fun hc16 => ?_) fun hc16 => ?_
   ·have hlt2 : i < ms.length := by simpa using hc16
    have hd2 := List.drop_eq_getElem_cons hlt2
    have hm2 := List.getElem_mem hlt2
    have hi2 := map_get (f := eInt) (List.getElem?_eq_getElem hlt2)
    generalize ms[i] = y at hd2 hm2 hi2
    refine tSk <| tQ <| tBk <| tQ <| Tr.still mixed (by kernel_rfl) rfl <| smS 2 rfl <| sV rfl (iSq rfl rfl rfl uT35 hi tS3 rfl (by rfl)) <| smS 3 rfl <| sV rfl (iSq rfl rfl rfl uT35 hi2 tS3 rfl (by rfl)) <| smS 2 rfl <| WS.nil ?_
    refine tC rfl (fun hc27 => ?_) fun hc27 => ?_
    ·refine tQ <| tG <| sm 1 rfl <| nL <| tRt <| rOk rfl ?_ nPo
     have hxy : (x == y) = true := by simpa using hc27
     rw [hJ1, hd2]
     simp only [List.any_cons, hxy, Bool.true_or]
    refine tSk <| tG <| sm 1 rfl <| cV rfl (oB rfl rfl (i64_add rfl (by omega))) <| sm 1 rfl <| nL ?_
    refine ⟨_, _, ?_, Sub.of (fr' := [(6, iInt (i + 1)), (5, iInt k), (0, .pv (ints l)), (1, .pv (ints ms))]) ⟨rfl, rfl, rfl, rfl, trivial⟩, (i + 1), ?_, ?_, rfl, rfl, rfl⟩
    ·omega
    ·omega
    rw [hJ1, hd2]
    have hxy : (x == y) = false := by simpa using hc27
    simp only [List.any_cons, hxy, Bool.false_or]
   refine tEx <| tG <| sm 1 rfl <| cV rfl (oB rfl rfl (i64_add rfl (by omega))) <| sm 1 rfl <| nL ?_
   refine ⟨_, _, ?_, Sub.of (fr' := [(5, iInt (k + 1)), (0, .pv (ints l)), (1, .pv (ints ms))]) ⟨rfl, rfl, rfl, trivial⟩, (k + 1), ?_, ?_, rfl, rfl, rfl⟩
   ·omega
   ·omega
   rw [hJ1, List.drop_eq_nil_of_le (by simpa using hc16)]
   rfl
  refine tEx <| tQ <| tG <| sm 1 rfl <| nL <| tRt <| rOk rfl ?_ nPo
  have hge : l.length ≤ k := by simpa using hc10
  rw [hI1, List.drop_eq_nil_of_le hge]
  rfl
theorem sc_fine_aux (N : Nat) : ∀ (l : List Nd), SizeOf.sizeOf l < N → SC Tryz.prog 24 [.pv (nodes l)] [] (fun _ => False) (iBool (fineL l)) [] := by
  induction N with
  | zero => intro l hN; exact absurd hN (Nat.not_lt_zero _)
  | succ N ih =>
    intro l hN
    refine SC.of Tryz.func24 rfl (lb rfl) fun F ρ w => ?_
    refine Tr.lenOf (t := 0) rfl (fun hl => ?_)
    simp only [List.length_map] at hl
    refine tQ <| tG <| sm 1 rfl <| nL <| tQ <| tQ <| tG <| sm 1 rfl <| nL <| tBk <| Tr.sub (Sub.of (fr' := [(3, iInt 0), (0, .pv (nodes l))]) ⟨rfl, rfl, trivial⟩) ?_
    refine Tr.loop (fun fr σ m => ∃ (k : Nat), (k ≤ l.length) ∧ (fineL l = fineL (l.drop k)) ∧ fr = [(3, iInt k), (0, .pv (nodes l))] ∧ σ = look [] ∧ m = l.length - k) (n := l.length - 0) ?_ ?_
    ·exact ⟨0, Nat.zero_le _, rfl, rfl, rfl, rfl⟩
    rintro fr σ m ⟨k, hI0, hI1, rfl, rfl, rfl⟩
    refine tQ <| tQ <| tG <| sm 2 rfl <| cV rfl (oSm uT43 rfl) <| sm 1 rfl <| nL ?_
    refine tC rfl (fun hc9 => ?_) fun hc9 => ?_
    ·have hlt : k < l.length := by simpa using hc9
     have hd := List.drop_eq_getElem_cons hlt
     have hm := List.getElem_mem hlt
     have hi := nodes_get (List.getElem?_eq_getElem hlt)
     generalize l[k] = x at hd hm hi
     refine tSk <| tQ <| tBk <| tQ <| tG <| sm 2 rfl <| cV rfl (iSq rfl rfl rfl uT43 hi tS42 rfl (by rfl)) <| cV rfl (lEA rfl rfl uT42 rfl tS42 (lb rfl)) <| cE rfl (aLc (k := 104) rfl tZ42 rfl rfl rfl rfl) <| c0 (sBA rfl rfl rfl rfl rfl ((fun h => h)) tS42 (flk rfl) (lb rfl)) <| nL <| tQ ?_
     refine tQ <| Tr.freezeBox (t := 4) (k := 104) rfl rfl rfl <| Tr.heap (σ' := look []) (fun k => by simp only [look]; cases Nat.beq 104 k <;> rfl) ?_
     refine Tr.cut (fr' := [(54, iBool (fHead x)), (4, .pv (.ept [vInt x.kind, vInt x.op, vInt x.n, vStr x.name, ints x.args, ints x.outs, ints x.params, kids x.kids] 0)), (3, iInt k), (0, .pv (nodes l))]) (σ' := look []) ?_ ?_
     ·refine tDr mixed (fun k => k ∈ ([] : List Nat)) <| wR 15 [0, 1, 2, 3, 4, 5, 6, 7, 8, 9, 10, 11, 12, 13, 14, 15, 16, 17, 18, 19, 20, 21, 22, 23] (by kernel_rfl) (fun _ _ _ h => pn h.1) <| smR 4 rfl ?_
      refine WR.split (t := 19) rfl (fun hb19 => ?_) (fun hb19 => ?_)
      ·refine smR 2 rfl <| ryV rfl rfl rfl (oSm uT40 rfl) <| smR 3 rfl ?_
       refine WR.split (t := 25) rfl (fun hb25 => ?_) (fun hb25 => ?_)
       ·obtain ⟨q0, hq0⟩ : ∃ q, x.kids = [q] := List.length_eq_one_iff.1 (by have := hb25; simp at this; omega)
        have hiq : (x.kids.map eKid)[0]? = some [nodes q0] := by rw [hq0]; rfl
        refine smR 2 rfl <| ryV rfl rfl rfl (iSq rfl rfl rfl uT40 hiq tS43 rfl (by rfl)) <| smR 1 rfl <| ryV rfl rfl rfl (oSm uT43 rfl) <| smR 3 rfl ?_
        refine WR.split (t := 33) rfl (fun hb33 => ?_) (fun hb33 => ?_)
        ·obtain ⟨y, yr, hy⟩ : ∃ y yr, q0 = y :: yr := List.exists_cons_of_ne_nil (by intro e; simp_all)
         have hiy := nodes_get (l := q0) (i := 0) (x := y) (by rw [hy]; rfl)
         refine smR 2 rfl <| ryV rfl rfl rfl (iSq rfl rfl rfl uT40 hiq tS43 rfl (by rfl)) <| smR 1 rfl <| ryV rfl rfl rfl (iSq rfl rfl rfl uT43 hiy tS42 rfl (by rfl)) <| ryV rfl rfl rfl (lEA rfl rfl uT42 rfl tS42 (lb rfl)) <| nR <| wO 24 (by kernel_rfl) <| wY rfl rfl rfl nf nw (fun _ _ => ocq (sc_idle y) ent40 rfl rfl) <| wR 3 [25, 26, 27, 28, 29, 30, 31, 32, 33, 34, 35] (by kernel_rfl) (fun _ _ _ h => pn h.1) <| smR 2 rfl ?_
         refine WR.split (t := 42) rfl (fun hb42 => ?_) (fun hb42 => ?_)
         ·refine smR 2 rfl <| ryV rfl rfl rfl (iSq rfl rfl rfl uT40 hiq tS43 rfl (by rfl)) <| smR 1 rfl <| ryV rfl rfl rfl (iSq rfl rfl rfl uT43 hiy tS42 rfl (by rfl)) <| smR 4 rfl <| nR <| wO 36 (by kernel_rfl) <| wY rfl rfl rfl nf nw (fun _ _ => ocq (sc_any y.args x.params) ent41 rfl rfl) <| wR 0 [37, 38] (by kernel_rfl) (fun _ _ _ h => pn h.1) <| smR 2 rfl <| nR <| wDn (by kernel_rfl) ?_
          refine ⟨rfl, Sub.of ⟨?_, rfl, rfl, rfl, trivial⟩, rfl⟩
          refine congrArg (fun b => some (iBool b)) ?_
          unfold fHead
          simp_all
         refine smR 9 rfl <| nR <| wN 36 (by kernel_rfl) (fun _ _ _ h => pn h.1) rfl rfl rfl <| wR 0 [37, 38] (by kernel_rfl) (fun _ _ _ h => pn h.1) <| smR 2 rfl <| nR <| wDn (by kernel_rfl) ?_
         refine ⟨rfl, Sub.of ⟨?_, rfl, rfl, rfl, trivial⟩, rfl⟩
         refine congrArg (fun b => some (iBool b)) ?_
         unfold fHead
         simp_all
        refine smR 6 rfl <| nR <| wN 24 (by kernel_rfl) (fun _ _ _ h => pn h.1) rfl rfl rfl <| wR 3 [25, 26, 27, 28, 29, 30, 31, 32, 33, 34, 35] (by kernel_rfl) (fun _ _ _ h => pn h.1) <| smR 11 rfl <| nR <| wN 36 (by kernel_rfl) (fun _ _ _ h => pn h.1) rfl rfl rfl <| wR 0 [37, 38] (by kernel_rfl) (fun _ _ _ h => pn h.1) <| smR 2 rfl <| nR <| wDn (by kernel_rfl) ?_
        refine ⟨rfl, Sub.of ⟨?_, rfl, rfl, rfl, trivial⟩, rfl⟩
        refine congrArg (fun b => some (iBool b)) ?_
        unfold fHead
        simp_all
       refine smR 14 rfl <| nR <| wN 24 (by kernel_rfl) (fun _ _ _ h => pn h.1) rfl rfl rfl <| wR 3 [25, 26, 27, 28, 29, 30, 31, 32, 33, 34, 35] (by kernel_rfl) (fun _ _ _ h => pn h.1) <| smR 11 rfl <| nR <| wN 36 (by kernel_rfl) (fun _ _ _ h => pn h.1) rfl rfl rfl <| wR 0 [37, 38] (by kernel_rfl) (fun _ _ _ h => pn h.1) <| smR 2 rfl <| nR <| wDn (by kernel_rfl) ?_
       refine ⟨rfl, Sub.of ⟨?_, rfl, rfl, rfl, trivial⟩, rfl⟩
       refine congrArg (fun b => some (iBool b)) ?_
       unfold fHead
       (rcases hxk : x.kids with _ | ⟨_ | ⟨y', r'⟩, _ | ⟨q', r''⟩⟩ <;> simp_all; done)
      refine smR 20 rfl <| nR <| wN 24 (by kernel_rfl) (fun _ _ _ h => pn h.1) rfl rfl rfl <| wR 3 [25, 26, 27, 28, 29, 30, 31, 32, 33, 34, 35] (by kernel_rfl) (fun _ _ _ h => pn h.1) <| smR 11 rfl <| nR <| wN 36 (by kernel_rfl) (fun _ _ _ h => pn h.1) rfl rfl rfl <| wR 0 [37, 38] (by kernel_rfl) (fun _ _ _ h => pn h.1) <| smR 2 rfl <| nR <| wDn (by kernel_rfl) ?_
      refine ⟨rfl, Sub.of ⟨?_, rfl, rfl, rfl, trivial⟩, rfl⟩
      refine congrArg (fun b => some (iBool b)) ?_
      unfold fHead
      simp_all
     refine tC rfl (fun hc54 => ?_) fun hc54 => ?_
     ·refine tQ <| tG <| sm 1 rfl <| nL <| tRt <| rOk rfl ?_ nPo
      have hf : fHead x = true := hc54
      rw [hI1, hd]
      simp only [fineL, fineN_eq, hf, Bool.not_true, Bool.false_and]
     refine tSk <| tQ ?_
     have hf : fHead x = false := hc54
     refine tG <| sm 1 rfl <| nL <| tBk <| Tr.sub (Sub.of (fr' := [(5, iInt 0), (4, .pv (.ept [vInt x.kind, vInt x.op, vInt x.n, vStr x.name, ints x.args, ints x.outs, ints x.params, kids x.kids] 0)), (3, iInt k), (0, .pv (nodes l))]) ⟨rfl, rfl, rfl, rfl, trivial⟩) ?_
     refine Tr.loop (fun fr σ m => ∃ (i : Nat), (i ≤ x.kids.length) ∧ (fineK x.kids = fineK (x.kids.drop i)) ∧ fr = [(5, iInt i), (4, .pv (.ept [vInt x.kind, vInt x.op, vInt x.n, vStr x.name, ints x.args, ints x.outs, ints x.params, kids x.kids] 0)), (3, iInt k), (0, .pv (nodes l))] ∧ σ = look [] ∧ m = x.kids.length - i) (n := x.kids.length - 0) ?_ ?_
     ·exact ⟨0, Nat.zero_le _, rfl, rfl, rfl, rfl⟩
     rintro fr σ m ⟨i, hJ0, hJ1, rfl, rfl, rfl⟩
     refine tQ <| tQ <| tG <| sm 3 rfl ?_
     refine WL.lenOf (t := 57) rfl (fun hl2 => ?_)
     simp only [List.length_map] at hl2
     refine cV rfl (oSm uT40 rfl) <| sm 1 rfl <| nL ?_
     refine tC rfl (fun hc59 => ?_) fun hc59 => ?_
     ·have hlt2 : i < x.kids.length := by simpa using hc59
      have hd2 := List.drop_eq_getElem_cons hlt2
      have hm2 := List.getElem_mem hlt2
      have hi2 := map_get (f := eKid) (List.getElem?_eq_getElem hlt2)
      generalize x.kids[i] = q at hd2 hm2 hi2
      have hdec : SizeOf.sizeOf q < N := Nat.lt_of_lt_of_le (kid_lt hm rfl hm2) (Nat.le_of_lt_succ hN)
      refine tSk <| tQ <| tBk <| tQ <| tG <| sm 3 rfl <| cV rfl (iSq rfl rfl rfl uT40 hi2 tS43 rfl (by rfl)) <| sm 1 rfl <| cE rfl (ocq (ih q hdec) ent24 rfl rfl) <| sm 1 rfl <| nL ?_
      refine tC rfl (fun hc68 => ?_) fun hc68 => ?_
      ·refine tQ <| tG <| sm 1 rfl <| nL <| tRt <| rOk rfl ?_ nPo
       have hq : fineL q = false := by simpa using hc68
       rw [hI1, hd]
       simp only [fineL, fineN_eq, hJ1, hd2, fineK, hq, Bool.false_and, Bool.and_false]
      refine tSk <| tG <| sm 1 rfl <| cV rfl (oB rfl rfl (i64_add rfl (by omega))) <| sm 1 rfl <| nL ?_
      refine ⟨_, _, ?_, Sub.of (fr' := [(5, iInt (i + 1)), (4, .pv (.ept [vInt x.kind, vInt x.op, vInt x.n, vStr x.name, ints x.args, ints x.outs, ints x.params, kids x.kids] 0)), (3, iInt k), (0, .pv (nodes l))]) ⟨rfl, rfl, rfl, rfl, trivial⟩, (i + 1), ?_, ?_, rfl, rfl, rfl⟩
      ·omega
      ·omega
      rw [hJ1, hd2]
      have hq : fineL q = true := by simpa using hc68
      simp only [fineK, hq, Bool.true_and]
     have hxf : fineN x = true := by
       have hge : x.kids.length ≤ i := by simpa using hc59
       rw [fineN_eq, hf, hJ1, List.drop_eq_nil_of_le hge]
       rfl
     refine tEx <| tG <| sm 1 rfl <| cV rfl (oB rfl rfl (i64_add rfl (by omega))) <| sm 1 rfl <| nL ?_
     refine ⟨_, _, ?_, Sub.of (fr' := [(3, iInt (k + 1)), (0, .pv (nodes l))]) ⟨rfl, rfl, trivial⟩, (k + 1), ?_, ?_, rfl, rfl, rfl⟩
     ·omega
     ·omega
     rw [hI1, hd]
     simp only [fineL, hxf, Bool.true_and]
    refine tEx <| tQ <| tG <| sm 1 rfl <| nL <| tRt <| rOk rfl ?_ nPo
    have hge : l.length ≤ k := by simpa using hc9
    rw [hI1, List.drop_eq_nil_of_le hge]
    rfl
theorem sc_fine (l : List Nd) : SC Tryz.prog 24 [.pv (nodes l)] [] (fun _ => False) (iBool (fineL l)) [] := sc_fine_aux _ l (Nat.lt_succ_self _)
theorem sc_right (u : Un) : SC Tryz.prog 12 [.pv u.enc] [] (fun _ => False) (iBool (fRight u)) [] := by
  refine SC.of Tryz.func12 rfl (lb rfl) fun F ρ w => ?_
  refine tQ <| tG <| cE rfl (ok_box rfl rfl) <| sm 1 rfl <| nL <| tQ <| tQ <| tG <| sm 1 rfl <| nL <| tBk <| Tr.sub (Sub.of (fr' := [(3, iInt 0), (1, .pv (.ept [arrs u.arrays, flws u.flows] 0))]) ⟨rfl, rfl, trivial⟩) ?_
  refine Tr.loop (fun fr σ m => ∃ (k : Nat), (k ≤ u.flows.length) ∧ (fRight u = (u.flows.drop k).all (fun f => fineL f.body)) ∧ fr = [(3, iInt k), (1, .pv (.ept [arrs u.arrays, flws u.flows] 0))] ∧ σ = look [] ∧ m = u.flows.length - k) (n := u.flows.length - 0) ?_ ?_
  ·exact ⟨0, Nat.zero_le _, rfl, rfl, rfl, rfl⟩
  rintro fr σ m ⟨k, hI0, hI1, rfl, rfl, rfl⟩
  refine tQ <| tQ <| tG <| sm 3 rfl ?_
  refine WL.lenOf (t := 6) rfl (fun hl2 => ?_)
  simp only [List.length_map] at hl2
  refine cV rfl (oSm uT23 rfl) <| sm 1 rfl <| nL ?_
  refine tC rfl (fun hc8 => ?_) fun hc8 => ?_
  ·have hlt : k < u.flows.length := by simpa using hc8
   have hd := List.drop_eq_getElem_cons hlt
   have hm := List.getElem_mem hlt
   have hi := map_get (f := Fl.enc) (List.getElem?_eq_getElem hlt)
   generalize u.flows[k] = x at hd hm hi
   refine tSk <| tQ <| tBk <| tQ <| tG <| sm 3 rfl <| cV rfl (iSq rfl rfl rfl uT23 hi tS51 rfl (by rfl)) <| sm 2 rfl <| cE rfl (ocq (sc_fine x.body) ent24 rfl rfl) <| sm 1 rfl <| nL ?_
   refine tC rfl (fun hc18 => ?_) fun hc18 => ?_
   ·refine tQ <| tG <| sm 1 rfl <| nL <| tRt <| rOk rfl ?_ nPo
    have hq : fineL x.body = false := by simpa using hc18
    rw [hI1, hd]
    simp only [List.all_cons, hq, Bool.false_and]
   refine tSk <| tG <| sm 1 rfl <| cV rfl (oB rfl rfl (i64_add rfl (by omega))) <| sm 1 rfl <| nL ?_
   refine ⟨_, _, ?_, Sub.of (fr' := [(3, iInt (k + 1)), (1, .pv (.ept [arrs u.arrays, flws u.flows] 0))]) ⟨rfl, rfl, trivial⟩, (k + 1), ?_, ?_, rfl, rfl, rfl⟩
   ·omega
   ·omega
   rw [hI1, hd]
   have hq : fineL x.body = true := by simpa using hc18
   simp only [List.all_cons, hq, Bool.true_and]
  refine tEx <| tQ <| tG <| sm 1 rfl <| nL <| tRt <| rOk rfl ?_ nPo
  have hge : u.flows.length ≤ k := by simpa using hc8
  rw [hI1, List.drop_eq_nil_of_le hge]
  rfl
theorem sc_unit15 (ts : List Int) (l : List Nd) : SC Tryz.prog 16 [.pv (ints ts), .pv (nodes l)] [] (fun _ => False) (.pv (.agg [.val (.slice none 0 0), flws [⟨mainName, 1, 0, ts, l⟩]])) [] := by
  refine SC.ofC Tryz.func16 rfl (lb rfl) rfl fun F ρ w => ?_
  refine tQ <| tG <| cE rfl (aLc (k := 104) rfl tZ25 rfl rfl rfl rfl) <| nL <| tQ <| tG <| sm 2 rfl <| cV rfl (bPu rfl rfl tZ51 tP51 rfl (fbk rfl) rfl) <| cE rfl (bSl rfl rfl uT23 tZ51 tS51 rfl rfl rfl rfl (fbk rfl) rfl) <| cV rfl (bPu rfl rfl tZ25 tP25 rfl (fbk rfl) rfl) <| c0 (sBA rfl rfl rfl rfl rfl ((fun h => h)) tS25 (flk rfl) (lb rfl)) <| nL ?_
  refine tRt <| rCk (.inl rfl) (fun _ _ ho => lBP ho rfl rfl uT25 rfl tS25 (lb rfl) rfl trivial) ?_ nPo
  rfl
theorem sc_mFlag (b : Bool) : SC Tryz.prog 104 [iBool b] [] (fun _ => False) (iInt (mFlag b)) [] := by
  refine SC.of Tryz.func104 rfl (lb rfl) fun F ρ w => ?_
  refine tQ <| tG <| sm 1 rfl <| nL <| tQ <| tQ <| tG <| sm 1 rfl <| nL ?_
  refine tC rfl (fun hc3 => ?_) fun hc3 => ?_
  ·refine tQ <| tG <| sm 1 rfl <| nL <| tRt <| rOk rfl ?_ nPo
   cases b <;> first | rfl | (simp_all; done)
  refine tSk <| tQ <| tG <| sm 1 rfl <| nL <| tRt <| rOk rfl ?_ nPo
  cases b <;> first | rfl | (simp_all; done)
theorem sc_mOne (op a : Int) : SC Tryz.prog 87 [iInt op, iInt a] [] (fun _ => False) (iInt (mOne op a)) [] := by
  refine SC.of Tryz.func87 rfl (lb rfl) fun F ρ w => ?_
  refine tQ <| tG <| sm 1 rfl <| nL <| tQ <| tQ <| tG <| sm 1 rfl <| nL <| tBk <| tQ <| tG ?_
  refine sm 2 rfl <| nL ?_
  refine tC rfl (fun hc6 => ?_) fun hc6 => ?_
  ·refine tQ <| tG <| sm 3 rfl <| nL <| tRt <| rOk rfl ?_ nPo
   (simp only [mOne, *, if_true, Bool.false_eq_true, if_false, Bool.or_true, Bool.true_or, Bool.or_false] <;> rfl)
  refine tQ <| tG <| sm 2 rfl <| nL ?_
  refine tC rfl (fun hc10 => ?_) fun hc10 => ?_
  ·refine tQ <| tG <| sm 3 rfl <| nL <| tRt <| rOk rfl ?_ nPo
   (simp only [mOne, *, if_true, Bool.false_eq_true, if_false, Bool.or_true, Bool.true_or, Bool.or_false] <;> rfl)
  refine tQ <| tG <| sm 2 rfl <| nL ?_
  refine tC rfl (fun hc14 => ?_) fun hc14 => ?_
  ·refine tQ <| tG <| sm 2 rfl <| cE rfl (ocq (sc_mFlag _) ent104 rfl rfl) <| sm 1 rfl <| nL <| tRt <| rOk rfl ?_ nPo
   (simp only [mOne, *, if_true, Bool.false_eq_true, if_false, Bool.or_true, Bool.true_or, Bool.or_false] <;> rfl)
  refine tQ <| tG <| sm 2 rfl <| nL ?_
  refine tC rfl (fun hc19 => ?_) fun hc19 => ?_
  ·refine tQ <| tG <| sm 3 rfl <| nL <| tRt <| rOk rfl ?_ nPo
   (simp only [mOne, *, if_true, Bool.false_eq_true, if_false, Bool.or_true, Bool.true_or, Bool.or_false] <;> rfl)
  refine tQ <| tG <| sm 2 rfl <| nL ?_
  refine tC rfl (fun hc23 => ?_) fun hc23 => ?_
  ·refine tQ <| tG <| sm 3 rfl <| nL <| tRt <| rOk rfl ?_ nPo
   (simp only [mOne, *, if_true, Bool.false_eq_true, if_false, Bool.or_true, Bool.true_or, Bool.or_false] <;> rfl)
  refine tQ <| tG <| sm 2 rfl <| nL ?_
  refine tC rfl (fun hc27 => ?_) fun hc27 => ?_
  ·refine tQ <| tG <| sm 3 rfl <| nL <| tRt <| rOk rfl ?_ nPo
   (simp only [mOne, *, if_true, Bool.false_eq_true, if_false, Bool.or_true, Bool.true_or, Bool.or_false] <;> rfl)
  refine tQ <| tG <| sm 2 rfl <| nL ?_
  refine tC rfl (fun hc31 => ?_) fun hc31 => ?_
  ·refine tQ <| tG <| sm 5 rfl <| nL <| tRt <| rOk rfl ?_ nPo
   (simp only [mOne, *, if_true, Bool.false_eq_true, if_false, Bool.or_true, Bool.true_or, Bool.or_false] <;> rfl)
  refine tQ <| tG <| sm 2 rfl <| nL ?_
  refine tC rfl (fun hc37 => ?_) fun hc37 => ?_
  ·refine tQ <| tG <| sm 5 rfl <| nL <| tRt <| rOk rfl ?_ nPo
   (simp only [mOne, *, if_true, Bool.false_eq_true, if_false, Bool.or_true, Bool.true_or, Bool.or_false] <;> rfl)
  refine tQ <| tG <| sm 2 rfl <| nL ?_
  refine tC rfl (fun hc43 => ?_) fun hc43 => ?_
  ·refine tQ <| tG <| sm 5 rfl <| nL <| tRt <| rOk rfl ?_ nPo
   (simp only [mOne, *, if_true, Bool.false_eq_true, if_false, Bool.or_true, Bool.true_or, Bool.or_false] <;> rfl)
  refine tSk <| tQ <| tG <| sm 1 rfl <| nL <| tRt <| rOk rfl ?_ nPo
  (simp only [mOne, *, if_true, Bool.false_eq_true, if_false, Bool.or_true, Bool.true_or, Bool.or_false] <;> rfl)
theorem sc_mTwo (op a b : Int) : SC Tryz.prog 88 [iInt op, iInt a, iInt b] [] (fun _ => False) (.tup [iInt (mTwo op a b).1, iBool (mTwo op a b).2]) [] := by
  refine SC.of Tryz.func88 rfl (lb rfl) fun F ρ w => ?_
  refine tQ <| tG <| sm 2 rfl <| nL <| tQ <| tQ <| tG <| sm 1 rfl <| nL <| tBk <| tQ <| tG ?_
  refine sm 2 rfl <| nL ?_
  refine tC rfl (fun hc9 => ?_) fun hc9 => ?_
  ·refine tQ <| tG <| sm 5 rfl <| nL <| tRt <| rOk rfl ?_ nPo
   (simp only [mTwo, *, if_true, Bool.false_eq_true, if_false, Bool.or_true, Bool.true_or, Bool.or_false] <;> rfl)
  refine tQ <| tG <| sm 2 rfl <| nL ?_
  refine tC rfl (fun hc14 => ?_) fun hc14 => ?_
  ·refine tQ <| tG <| sm 5 rfl <| nL <| tRt <| rOk rfl ?_ nPo
   (simp only [mTwo, *, if_true, Bool.false_eq_true, if_false, Bool.or_true, Bool.true_or, Bool.or_false] <;> rfl)
  refine tQ <| tG <| sm 2 rfl <| nL ?_
  refine tC rfl (fun hc19 => ?_) fun hc19 => ?_
  ·refine tQ <| tG <| sm 5 rfl <| nL <| tRt <| rOk rfl ?_ nPo
   (simp only [mTwo, *, if_true, Bool.false_eq_true, if_false, Bool.or_true, Bool.true_or, Bool.or_false] <;> rfl)
  refine tQ <| tQ <| tG <| sm 2 rfl <| nL ?_
  refine tC rfl (fun hc24 => ?_) fun hc24 => ?_
  ·refine tSk ?_
   refine tC rfl (fun hc24 => ?_) fun hc24 => ?_
   ·refine tQ <| tQ <| tG <| sm 2 rfl <| nL ?_
    refine tC rfl (fun hc28 => ?_) fun hc28 => ?_
    ·refine tQ <| tG <| sm 2 rfl <| nL <| tRt <| rOk rfl ?_ nPo
     (simp only [mTwo, *, if_true, Bool.false_eq_true, if_false, Bool.or_true, Bool.true_or, Bool.or_false] <;> rfl)
    refine tSk <| tQ <| tQ <| tG <| sm 2 rfl <| nL ?_
    refine tC rfl (fun hc30 => ?_) fun hc30 => ?_
    ·refine tQ <| tG <| sm 2 rfl <| cV rfl (oB rfl rfl (show intBin .quo .i64 a b = some (.int .i64 (w64 (a.tdiv b))) by simp [intBin, w64, show ¬ b = 0 by simpa using hc28])) <| sm 2 rfl <| nL <| tRt <| rOk rfl ?_ nPo
     (simp only [mTwo, *, if_true, Bool.false_eq_true, if_false, Bool.or_true, Bool.true_or, Bool.or_false] <;> rfl)
    refine tSk <| tQ <| tG <| sm 2 rfl <| cV rfl (oB rfl rfl (show intBin .rem .i64 a b = some (.int .i64 (a.tmod b)) by simp [intBin, show ¬ b = 0 by simpa using hc28])) <| sm 2 rfl <| nL <| tRt <| rOk rfl ?_ nPo
    (exfalso; simp_all; done)
   refine tQ <| tG <| sm 2 rfl <| nL ?_
   refine tC rfl (fun hc37 => ?_) fun hc37 => ?_
   ·refine tQ <| tG <| sm 5 rfl <| nL <| tRt <| rOk rfl ?_ nPo
    (exfalso; simp_all; done)
   refine tQ <| tG <| sm 2 rfl <| nL ?_
   refine tC rfl (fun hc42 => ?_) fun hc42 => ?_
   ·refine tQ <| tG <| sm 5 rfl <| nL <| tRt <| rOk rfl ?_ nPo
    (exfalso; simp_all; done)
   refine tQ <| tG <| sm 2 rfl <| nL ?_
   refine tC rfl (fun hc47 => ?_) fun hc47 => ?_
   ·refine tQ <| tG <| sm 5 rfl <| nL <| tRt <| rOk rfl ?_ nPo
    (exfalso; simp_all; done)
   refine tQ <| tG <| sm 2 rfl <| nL ?_
   refine tC rfl (fun hc52 => ?_) fun hc52 => ?_
   ·refine tQ <| tG <| sm 3 rfl <| cV rfl (ok_shl rfl rfl rfl (and63 b)) <| sm 2 rfl <| nL <| tRt <| rOk rfl ?_ nPo
    (exfalso; simp_all; done)
   refine tQ <| tG <| sm 2 rfl <| nL ?_
   refine tC rfl (fun hc58 => ?_) fun hc58 => ?_
   ·refine tQ <| tG <| sm 3 rfl <| cV rfl (ok_shr rfl rfl rfl (and63 b)) <| sm 2 rfl <| nL <| tRt <| rOk rfl ?_ nPo
    (exfalso; simp_all; done)
   refine tQ <| tG <| sm 2 rfl <| nL ?_
   refine tC rfl (fun hc64 => ?_) fun hc64 => ?_
   ·refine tQ <| tG <| sm 1 rfl <| cV rfl (ok_conv_int rfl rfl ⟨_, Tryz.underlying3⟩ Tryz.underlying128) <| sm 2 rfl <| cV rfl (ok_shr rfl rfl rfl (and63 b)) <| cV rfl (ok_conv_int rfl rfl ⟨_, Tryz.underlying128⟩ Tryz.underlying3) <| sm 2 rfl <| nL <| tRt <| rOk rfl ?_ nPo
    (exfalso; simp_all; done)
   refine tQ <| tG <| sm 2 rfl <| nL ?_
   refine tC rfl (fun hc72 => ?_) fun hc72 => ?_
   ·refine tQ <| tG <| sm 3 rfl <| cE rfl (ocq (sc_mFlag _) ent104 rfl rfl) <| sm 2 rfl <| nL <| tRt <| rOk rfl ?_ nPo
    (exfalso; simp_all; done)
   refine tQ <| tG <| sm 2 rfl <| nL ?_
   refine tC rfl (fun hc78 => ?_) fun hc78 => ?_
   ·refine tQ <| tG <| sm 3 rfl <| cE rfl (ocq (sc_mFlag _) ent104 rfl rfl) <| sm 2 rfl <| nL <| tRt <| rOk rfl ?_ nPo
    (exfalso; simp_all; done)
   refine tQ <| tG <| sm 2 rfl <| nL ?_
   refine tC rfl (fun hc84 => ?_) fun hc84 => ?_
   ·refine tQ <| tG <| sm 3 rfl <| cE rfl (ocq (sc_mFlag _) ent104 rfl rfl) <| sm 2 rfl <| nL <| tRt <| rOk rfl ?_ nPo
    (exfalso; simp_all; done)
   refine tQ <| tG <| sm 2 rfl <| nL ?_
   refine tC rfl (fun hc90 => ?_) fun hc90 => ?_
   ·refine tQ <| tG <| sm 3 rfl <| cE rfl (ocq (sc_mFlag _) ent104 rfl rfl) <| sm 2 rfl <| nL <| tRt <| rOk rfl ?_ nPo
    (exfalso; simp_all; done)
   refine tQ <| tG <| sm 2 rfl <| nL ?_
   refine tC rfl (fun hc96 => ?_) fun hc96 => ?_
   ·refine tQ <| tG <| sm 3 rfl <| cE rfl (ocq (sc_mFlag _) ent104 rfl rfl) <| sm 2 rfl <| nL <| tRt <| rOk rfl ?_ nPo
    (exfalso; simp_all; done)
   refine tQ <| tG <| sm 2 rfl <| nL ?_
   refine tC rfl (fun hc102 => ?_) fun hc102 => ?_
   ·refine tQ <| tG <| sm 3 rfl <| cE rfl (ocq (sc_mFlag _) ent104 rfl rfl) <| sm 2 rfl <| nL <| tRt <| rOk rfl ?_ nPo
    (exfalso; simp_all; done)
   refine tSk <| tQ <| tG <| sm 2 rfl <| nL <| tRt <| rOk rfl ?_ nPo
   (exfalso; simp_all; done)
  refine tG <| sm 2 rfl <| nL ?_
  refine tC rfl (fun hc24 => ?_) fun hc24 => ?_
  ·refine tQ <| tQ <| tG <| sm 2 rfl <| nL ?_
   refine tC rfl (fun hc28 => ?_) fun hc28 => ?_
   ·refine tQ <| tG <| sm 2 rfl <| nL <| tRt <| rOk rfl ?_ nPo
    (simp only [mTwo, *, if_true, Bool.false_eq_true, if_false, Bool.or_true, Bool.true_or, Bool.or_false] <;> rfl)
   refine tSk <| tQ <| tQ <| tG <| sm 2 rfl <| nL ?_
   refine tC rfl (fun hc30 => ?_) fun hc30 => ?_
   ·refine tQ <| tG <| sm 2 rfl <| cV rfl (oB rfl rfl (show intBin .quo .i64 a b = some (.int .i64 (w64 (a.tdiv b))) by simp [intBin, w64, show ¬ b = 0 by simpa using hc28])) <| sm 2 rfl <| nL <| tRt <| rOk rfl ?_ nPo
    (exfalso; simp_all; done)
   refine tSk <| tQ <| tG <| sm 2 rfl <| cV rfl (oB rfl rfl (show intBin .rem .i64 a b = some (.int .i64 (a.tmod b)) by simp [intBin, show ¬ b = 0 by simpa using hc28])) <| sm 2 rfl <| nL <| tRt <| rOk rfl ?_ nPo
   (simp only [mTwo, *, if_true, Bool.false_eq_true, if_false, Bool.or_true, Bool.true_or, Bool.or_false] <;> rfl)
  refine tQ <| tG <| sm 2 rfl <| nL ?_
  refine tC rfl (fun hc37 => ?_) fun hc37 => ?_
  ·refine tQ <| tG <| sm 5 rfl <| nL <| tRt <| rOk rfl ?_ nPo
   (simp only [mTwo, *, if_true, Bool.false_eq_true, if_false, Bool.or_true, Bool.true_or, Bool.or_false] <;> rfl)
  refine tQ <| tG <| sm 2 rfl <| nL ?_
  refine tC rfl (fun hc42 => ?_) fun hc42 => ?_
  ·refine tQ <| tG <| sm 5 rfl <| nL <| tRt <| rOk rfl ?_ nPo
   (simp only [mTwo, *, if_true, Bool.false_eq_true, if_false, Bool.or_true, Bool.true_or, Bool.or_false] <;> rfl)
  refine tQ <| tG <| sm 2 rfl <| nL ?_
  refine tC rfl (fun hc47 => ?_) fun hc47 => ?_
  ·refine tQ <| tG <| sm 5 rfl <| nL <| tRt <| rOk rfl ?_ nPo
   (simp only [mTwo, *, if_true, Bool.false_eq_true, if_false, Bool.or_true, Bool.true_or, Bool.or_false] <;> rfl)
  refine tQ <| tG <| sm 2 rfl <| nL ?_
  refine tC rfl (fun hc52 => ?_) fun hc52 => ?_
  ·refine tQ <| tG <| sm 3 rfl <| cV rfl (ok_shl rfl rfl rfl (and63 b)) <| sm 2 rfl <| nL <| tRt <| rOk rfl ?_ nPo
   (simp only [mTwo, *, if_true, Bool.false_eq_true, if_false, Bool.or_true, Bool.true_or, Bool.or_false] <;> rfl)
  refine tQ <| tG <| sm 2 rfl <| nL ?_
  refine tC rfl (fun hc58 => ?_) fun hc58 => ?_
  ·refine tQ <| tG <| sm 3 rfl <| cV rfl (ok_shr rfl rfl rfl (and63 b)) <| sm 2 rfl <| nL <| tRt <| rOk rfl ?_ nPo
   (simp only [mTwo, *, if_true, Bool.false_eq_true, if_false, Bool.or_true, Bool.true_or, Bool.or_false] <;> rfl)
  refine tQ <| tG <| sm 2 rfl <| nL ?_
  refine tC rfl (fun hc64 => ?_) fun hc64 => ?_
  ·refine tQ <| tG <| sm 1 rfl <| cV rfl (ok_conv_int rfl rfl ⟨_, Tryz.underlying3⟩ Tryz.underlying128) <| sm 2 rfl <| cV rfl (ok_shr rfl rfl rfl (and63 b)) <| cV rfl (ok_conv_int rfl rfl ⟨_, Tryz.underlying128⟩ Tryz.underlying3) <| sm 2 rfl <| nL <| tRt <| rOk rfl ?_ nPo
   (simp only [mTwo, *, if_true, Bool.false_eq_true, if_false, Bool.or_true, Bool.true_or, Bool.or_false] <;> rfl)
  refine tQ <| tG <| sm 2 rfl <| nL ?_
  refine tC rfl (fun hc72 => ?_) fun hc72 => ?_
  ·refine tQ <| tG <| sm 3 rfl <| cE rfl (ocq (sc_mFlag _) ent104 rfl rfl) <| sm 2 rfl <| nL <| tRt <| rOk rfl ?_ nPo
   (simp only [mTwo, *, if_true, Bool.false_eq_true, if_false, Bool.or_true, Bool.true_or, Bool.or_false] <;> rfl)
  refine tQ <| tG <| sm 2 rfl <| nL ?_
  refine tC rfl (fun hc78 => ?_) fun hc78 => ?_
  ·refine tQ <| tG <| sm 3 rfl <| cE rfl (ocq (sc_mFlag _) ent104 rfl rfl) <| sm 2 rfl <| nL <| tRt <| rOk rfl ?_ nPo
   (simp only [mTwo, *, if_true, Bool.false_eq_true, if_false, Bool.or_true, Bool.true_or, Bool.or_false] <;> rfl)
  refine tQ <| tG <| sm 2 rfl <| nL ?_
  refine tC rfl (fun hc84 => ?_) fun hc84 => ?_
  ·refine tQ <| tG <| sm 3 rfl <| cE rfl (ocq (sc_mFlag _) ent104 rfl rfl) <| sm 2 rfl <| nL <| tRt <| rOk rfl ?_ nPo
   (simp only [mTwo, *, if_true, Bool.false_eq_true, if_false, Bool.or_true, Bool.true_or, Bool.or_false] <;> rfl)
  refine tQ <| tG <| sm 2 rfl <| nL ?_
  refine tC rfl (fun hc90 => ?_) fun hc90 => ?_
  ·refine tQ <| tG <| sm 3 rfl <| cE rfl (ocq (sc_mFlag _) ent104 rfl rfl) <| sm 2 rfl <| nL <| tRt <| rOk rfl ?_ nPo
   (simp only [mTwo, *, if_true, Bool.false_eq_true, if_false, Bool.or_true, Bool.true_or, Bool.or_false] <;> rfl)
  refine tQ <| tG <| sm 2 rfl <| nL ?_
  refine tC rfl (fun hc96 => ?_) fun hc96 => ?_
  ·refine tQ <| tG <| sm 3 rfl <| cE rfl (ocq (sc_mFlag _) ent104 rfl rfl) <| sm 2 rfl <| nL <| tRt <| rOk rfl ?_ nPo
   (simp only [mTwo, *, if_true, Bool.false_eq_true, if_false, Bool.or_true, Bool.true_or, Bool.or_false] <;> rfl)
  refine tQ <| tG <| sm 2 rfl <| nL ?_
  refine tC rfl (fun hc102 => ?_) fun hc102 => ?_
  ·refine tQ <| tG <| sm 3 rfl <| cE rfl (ocq (sc_mFlag _) ent104 rfl rfl) <| sm 2 rfl <| nL <| tRt <| rOk rfl ?_ nPo
   (simp only [mTwo, *, if_true, Bool.false_eq_true, if_false, Bool.or_true, Bool.true_or, Bool.or_false] <;> rfl)
  refine tSk <| tQ <| tG <| sm 2 rfl <| nL <| tRt <| rOk rfl ?_ nPo
  (simp only [mTwo, *, if_true, Bool.false_eq_true, if_false, Bool.or_true, Bool.true_or, Bool.or_false] <;> rfl)
end Go.Proofs.YtfaeemilgahcpaaGreat
