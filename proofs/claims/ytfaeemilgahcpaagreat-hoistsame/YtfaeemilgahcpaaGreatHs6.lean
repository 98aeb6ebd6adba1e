/- Units by numbers: the same unit gives the same by hoist, each time, and what comes out may be given again. Conditions: none beyond those of the given statement. -/
import Derived.Test.YtfaeemilgahcpaaGreatHs5
set_option maxRecDepth 8000
set_option maxHeartbeats 2000000
set_option linter.unusedSimpArgs false
set_option linter.unusedVariables false
set_option linter.unusedSectionVars false
namespace Go.Proofs.YtfaeemilgahcpaaGreat
open Go
theorem sc_over (u : Un) (s : Rs) : SC Tryz.prog 31 [.ptr 1001 0] (runH u s) (fun _ => True) (iBool (mOver s)) (runH u s) := by
  refine SC.of Tryz.func31 rfl (lb rfl) fun F ρ w => ?_
  refine tQ <| tG <| sm 1 rfl <| nL <| tQ <| tG <| sm 1 rfl <| cV rfl (nCk rfl rfl rfl) <| sm 3 rfl ?_
  refine wS 7 rfl (fun hb7 => ?_) fun hb7 => ?_
  ·refine sm 8 rfl <| nL <| tRt <| rOk rfl ?_ (fun _ _ h => h)
   cases hsp : s.spent <;> simp_all [mOver, iBool]
  refine sm 1 rfl <| yV rfl rfl (nCk rfl rfl rfl) <| sm 6 rfl <| nL <| tRt <| rOk rfl ?_ (fun _ _ h => h)
  cases hsp : s.spent <;> simp_all [mOver, iBool]
theorem sc_step (u : Un) (s : Rs) : SC Tryz.prog 64 [.ptr 1001 0] (runH u s) (fun _ => False) (iBool (mStep s).1) (runH u (mStep s).2) := by
  refine SC.of Tryz.func64 rfl (lb rfl) fun F ρ w => ?_
  refine tQ <| tG <| sm 1 rfl <| nL <| tQ <| tQ <| tG <| sm 1 rfl <| cE rfl (ocr (sc_over u s) ent31 rfl (fun _ _ h => h) rfl (fun k (h : _) => .inr trivial) rfl rfl) <| nL ?_
  refine tC rfl (fun hc4 => ?_) fun hc4 => ?_
  ·refine tQ <| tG <| sm 1 rfl <| nL <| tRt ?_
   have e : mStep s = (false, s) := by simp [mStep, hc4]
   rw [e]
   refine rOk rfl rfl (po2 rfl rfl)
  refine tSk <| tQ <| tQ <| tG <| sm 1 rfl <| cV rfl (nCk rfl rfl rfl) <| sm 4 rfl <| nL ?_
  refine tC rfl (fun hc10 => ?_) fun hc10 => ?_
  ·refine tQ <| tG <| sm 1 rfl <| cV rfl (nCk rfl rfl rfl) <| sm 1 rfl <| c0 (sBx rfl rfl rfl rfl ((fun h => h)) tS4 (rfl) (lb rfl)) <| nL <| tQ <| tG <| sm 1 rfl <| nL <| tRt ?_
   have e : mStep s = (false, { s with spent := true }) := by
     have h1 : s.fuel < 1 := by simpa using hc10
     simp [mStep, hc4, h1]
   rw [e]
   refine rOk rfl rfl (po2 rfl rfl)
  refine tSk <| tQ <| tG <| sm 2 rfl <| cV rfl (nCk rfl rfl rfl) <| sm 4 rfl <| cV rfl (nCk rfl rfl rfl) <| sm 2 rfl <| c0 (sBx rfl rfl rfl rfl ((fun h => h)) tS3 (rfl) (lb rfl)) <| nL <| tQ <| tG ?_
  refine sm 1 rfl <| nL <| tRt ?_
  have e : mStep s = (true, { s with fuel := w64 (s.fuel - 1) }) := by
    have h1 : ¬ s.fuel < 1 := by simpa using hc10
    simp [mStep, hc4, h1]
  rw [e]
  refine rOk rfl rfl (po2 rfl rfl)
theorem sc_of (v l o : List Int) (h : mOf v l = some o) (hb : l.length ≤ 1073741824) : SC Tryz.prog 65 [.sl 510 (v.map eInt).length, .pv (ints l)] [(510, rowI v)] (fun k => k = 510) (.pv (ints o)) [(510, rowI v)] := by
  refine SC.of Tryz.func65 rfl (lb rfl) fun F ρ w => ?_
  refine Tr.lenOf (t := 1) rfl (fun hl => ?_)
  simp only [List.length_map] at hl
  refine tQ <| tG <| sm 1 rfl <| nL <| tQ <| tG <| sm 1 rfl <| nL <| tQ <| tQ <| Tr.grow (t := 5) (k := 105) ⟨3, 1⟩ rfl rfl rfl rfl rfl <| tG ?_
  refine sm 1 rfl <| nL <| tBk <| Tr.sub (Sub.of (fr' := [(6, iInt 0), (5, .sl 105 (([] : List Int).map eInt).length), (0, .sl 510 (v.map eInt).length), (1, .pv (ints l))]) ⟨rfl, rfl, rfl, rfl, trivial⟩) ?_
  refine Tr.heap (σ' := look [(105, some (rowI ([] : List Int))), (510, some (rowI v))]) (by
  intro j
  simp only [look]
  by_cases h1 : 105 = j
  · subst h1; rfl
  · simp [look, up, beq_ne h1]) ?_
  refine Tr.loop (fun fr σ m => ∃ (k : Nat) (acc : List Int), (k ≤ l.length) ∧ ((mOf v (l.drop k)).map (acc ++ ·) = some o) ∧ (acc.length = k) ∧ fr = [(6, iInt k), (5, .sl 105 (acc.map eInt).length), (0, .sl 510 (v.map eInt).length), (1, .pv (ints l))] ∧ σ = look [(105, some (rowI acc)), (510, some (rowI v))] ∧ m = l.length - k) (n := l.length - 0) ?_ ?_
  ·exact ⟨0, ([] : List Int), Nat.zero_le _, (by rw [List.drop_zero, h]; rfl), rfl, rfl, rfl, rfl⟩
  rintro fr σ m ⟨k, acc, hI0, hI1, hI2, rfl, rfl, rfl⟩
  refine tQ <| tQ <| tG <| sm 2 rfl <| cV rfl (oSm uT35 rfl) <| sm 1 rfl <| nL ?_
  refine tC rfl (fun hc10 => ?_) fun hc10 => ?_
  ·have hlt : k < l.length := by simpa using hc10
   have hd := List.drop_eq_getElem_cons hlt
   have hm := List.getElem_mem hlt
   have hi := map_get (f := eInt) (List.getElem?_eq_getElem hlt)
   generalize l[k] = x at hd hm hi
   rw [hd] at hI1
   obtain ⟨y, hy, hO⟩ := mOf_step hI1
   obtain ⟨hx0, hxl, hxg⟩ := getV_some hy
   have hal : (acc.map eInt).length = acc.length := by simp
   refine tSk <| tQ <| tBk <| tG <| sm 4 rfl <| cV rfl (iSq rfl rfl rfl uT35 hi tS3 rfl (by rfl)) <| sm 1 rfl <| cV rfl (iRw rfl rfl rfl rfl rfl uT35 tS3 hxl (by omega)) <| cV rfl (lRw rfl rfl rfl rfl (Nat.add_zero _).symm hxg rfl Tryz.underlying3 rfl trivial) <| cE rfl (bSl rfl rfl uT35 tZ3 tS3 rfl rfl rfl rfl (fbk rfl) rfl) ?_
   refine cE rfl (aPp rfl rfl rfl rfl (by rfl) (by simp) uT35 tB3 (by decide) (by (simp [chunks]; done)) (by (simp [chunks, PV.one]; rfl)) (by simp [maxLen, chunks]; omega) (by simp [chunks]; omega)) ?_
   refine sm 1 rfl <| nL <| tG <| sm 1 rfl <| cV rfl (oB rfl rfl (i64_add rfl (by omega))) <| sm 1 rfl <| nL ?_
   refine ⟨_, _, ?_, Sub.of (fr' := [(6, iInt (k + 1)), (5, .sl 105 ((acc ++ [y]).map eInt).length), (0, .sl 510 (v.map eInt).length), (1, .pv (ints l))]) ⟨rfl, congrArg (fun z => some (IV.sl _ z)) (by simp [chunks, eInt]), rfl, rfl, trivial⟩, (k + 1), (acc ++ [y]), ?_, ?_, ?_, rfl, (funext (by
  intro j
  simp only [look]
  by_cases h1 : 105 = j
  · subst h1; exact congrArg (fun z => some (HO.row _ z)) (by simp [chunks, eInt])
  · simp [look, beq_ne h1])), rfl⟩
   ·omega
   ·omega
   ·exact hO
   simp [hI2]
  refine tEx <| tQ <| Tr.freeze (t := 5) (k := 105) rfl rfl (by simp) <| tG <| sm 2 rfl <| nL <| tRt <| rOk rfl ?_ (po1 rfl)
  have hge : l.length ≤ k := by simpa using hc10
  rw [List.drop_eq_nil_of_le hge] at hI1
  have : acc = o := by simpa [mOf] using hI1
  rw [this]
  rfl
theorem sc_set (v l n v' : List Int) (h : mSet v l n = some v') : SC Tryz.prog 66 [.sl 510 (v.map eInt).length, .pv (ints l), .pv (ints n)] [(510, rowI v)] (fun _ => False) (.tup []) [(510, rowI v')] := by
  refine SC.of Tryz.func66 rfl (lb rfl) fun F ρ w => ?_
  refine Tr.lenOf (t := 1) rfl (fun hl => ?_)
  simp only [List.length_map] at hl
  refine Tr.lenOf (t := 2) rfl (fun hl2 => ?_)
  simp only [List.length_map] at hl2
  refine tQ <| tG <| sm 1 rfl <| nL <| tBk <| Tr.sub (Sub.of (fr' := [(6, iInt 0), (0, .sl 510 (v.map eInt).length), (1, .pv (ints l)), (2, .pv (ints n))]) ⟨rfl, rfl, rfl, rfl, trivial⟩) ?_
  refine Tr.loop (fun fr σ m => ∃ (k : Nat) (w1 : List Int) (m1 : List Int), (k ≤ l.length) ∧ (mSet w1 (l.drop k) m1 = some v') ∧ (w1.length = v.length) ∧ (m1 = n.drop k) ∧ fr = [(6, iInt k), (0, .sl 510 (v.map eInt).length), (1, .pv (ints l)), (2, .pv (ints n))] ∧ σ = look [(510, some (rowI w1))] ∧ m = l.length - k) (n := l.length - 0) ?_ ?_
  ·exact ⟨0, v, n, Nat.zero_le _, h, rfl, rfl, rfl, rfl, rfl⟩
  rintro fr σ m ⟨k, w1, m1, hI0, hI1, hI2, hI3, rfl, rfl, rfl⟩
  refine tQ <| tQ <| tG <| sm 2 rfl <| cV rfl (oSm uT35 rfl) <| sm 1 rfl <| nL ?_
  refine tC rfl (fun hc10 => ?_) fun hc10 => ?_
  ·have hlt : k < l.length := by simpa using hc10
   have hd := List.drop_eq_getElem_cons hlt
   have hm := List.getElem_mem hlt
   have hi := map_get (f := eInt) (List.getElem?_eq_getElem hlt)
   generalize l[k] = x at hd hm hi
   rw [hd] at hI1
   obtain ⟨y, m2, w2, hm1, hs, hO⟩ := mSet_step hI1
   obtain ⟨hx0, hxl, hw2⟩ := setV_some hs
   obtain ⟨z0, hxg⟩ := row_at hxl
   have hwn : (w1.map eInt).length = (v.map eInt).length := by simp [hI2]
   have hxl2 : x.toNat < (v.map eInt).length := by rw [← hwn]; exact hxl
   have hnk : n[k]? = some y := by
     have h0 := List.getElem?_drop (xs := n) (i := k) (j := 0)
     rw [← hI3, hm1] at h0
     simpa using h0.symm
   have hi2 := map_get (f := eInt) hnk
   refine tSk <| tQ <| tBk <| tDr mixed (fun k => k ∈ ([] : List Nat)) <| wR 1 [0, 1, 2, 3, 4, 5, 6, 7, 8, 9] (by kernel_rfl) (fun _ _ _ h => h) <| smR 3 rfl <| rV rfl rfl (iSq rfl rfl rfl uT35 hi tS3 rfl (by rfl)) <| smR 3 rfl <| rV rfl rfl (iSq rfl rfl rfl uT35 hi2 tS3 rfl (by rfl)) <| smR 1 rfl <| rV rfl rfl (iRw rfl rfl rfl rfl hwn uT35 tS3 hxl2 (by omega)) <| nR ?_
   refine wO 10 (by kernel_rfl) <| wI rfl rfl nf (nOl rfl) (fun _ _ => ok_store_row rfl rfl rfl rfl hwn (Nat.add_zero _).symm hxg (by simp) tS3 rfl (by simp)) <| wDn (by kernel_rfl) <| tG <| sm 1 rfl <| cV rfl (oB rfl rfl (i64_add rfl (by omega))) <| sm 1 rfl <| nL ?_
   refine ⟨_, _, ?_, Sub.of (fr' := [(6, iInt (k + 1)), (0, .sl 510 (v.map eInt).length), (1, .pv (ints l)), (2, .pv (ints n))]) ⟨rfl, rfl, rfl, rfl, trivial⟩, (k + 1), w2, m2, ?_, ?_, ?_, ?_, rfl, (funext (by
  intro j
  simp only [look]
  by_cases h1 : 510 = j
  · subst h1; exact congrArg (fun z => some (HO.row _ z)) (by rw [hw2]; exact set_row _ _ _ _ hxg)
  · simp [look, beq_ne h1])), rfl⟩
   ·omega
   ·omega
   ·exact hO
   ·rw [hw2, List.length_set]; exact hI2
   rw [← List.drop_drop, ← hI3, hm1]; rfl
  refine tEx ?_
  have hge : l.length ≤ k := by simpa using hc10
  rw [List.drop_eq_nil_of_le hge] at hI1
  have hw : w1 = v' := by simpa [mSet] using hI1
  subst hw
  refine end_ok rfl rfl (po1 rfl)
section
def mCost (s : Rs) : Rs := { s with cost := w64 (s.cost + 1) }
theorem setV_len {v v' : List Int} {x y : Int} (h : setV v x y = some v') : v'.length = v.length := by
  rw [(setV_some h).2.2, List.length_set]
theorem mSet_len : ∀ {l n v v' : List Int}, mSet v l n = some v' → v'.length = v.length
  | [], _, _, _, h => by cases h; rfl
  | _ :: _, _, _, _, h => by
    obtain ⟨y, n', v1, rfl, h1, h2⟩ := mSet_step h
    rw [mSet_len h2, setV_len h1]
theorem mNode_len {rec : List Nd → List Int → Rs → Option Rres} {recLoop : Nd → List Int → List Int → Rs → Option Rres} {recSum : Nd → List Int → Rs → Option (Int × Rs)} {x : Nd} {a v : List Int} {s : Rs} {r : Rres}
    (hr : ∀ q v s r, rec q v s = some r → r.2.1.length = v.length) (hl : ∀ x v a s r, recLoop x v a s = some r → r.2.1.length = v.length) (h : mNode rec recLoop recSum x a v s = some r) : r.2.1.length = v.length := by
  unfold mNode at h
  split at h
  ·simp only [Option.bind_eq_some_iff, Option.map_eq_some_iff] at h
   obtain ⟨o, _, v', h1, rfl⟩ := h
   exact setV_len h1
  split at h
  ·cases h; rfl
  split at h
  ·simp only [Option.bind_eq_some_iff] at h
   obtain ⟨a0, _, q, _, r1, h1, h2⟩ := h
   have h3 := hr _ _ _ _ h1
   split at h2
   ·simp only [Option.map_eq_some_iff] at h2
    obtain ⟨v', h4, rfl⟩ := h2
    exact (mSet_len h4).trans h3
   cases h2; exact h3
  split at h
  ·exact hl _ _ _ _ _ h
  simp only [Option.bind_eq_some_iff] at h
  obtain ⟨r1, h1, h2⟩ := h
  split at h2
  ·simp only [Option.bind_eq_some_iff, Option.map_eq_some_iff] at h2
   obtain ⟨o, _, v', h4, rfl⟩ := h2
   exact setV_len h4
  cases h2; rfl
theorem mLL_len (u : Un) : ∀ d, (∀ l v s r, mList u d l v s = some r → r.2.1.length = v.length) ∧ ∀ x v a s r, mLoop u d x v a s = some r → r.2.1.length = v.length
  | 0 => ⟨fun _ _ _ _ h => by simp [mList] at h, fun _ _ _ _ _ h => by simp [mLoop] at h⟩
  | d + 1 => by
    obtain ⟨i1, i2⟩ := mLL_len u d
    refine ⟨fun l v s r h => ?_, fun x v a s r h => ?_⟩
    ·cases l with
     | nil => simp only [mList] at h; cases h; rfl
     | cons x l =>
       rw [mList] at h
       split at h
       ·cases h; rfl
       simp only [Option.bind_eq_some_iff] at h
       obtain ⟨a, _, r1, h1, h2⟩ := h
       have h3 := mNode_len i1 i2 h1
       split at h2
       ·cases h2; exact h3
       exact (i1 _ _ _ _ h2).trans h3
    rw [mLoop] at h
    simp only [Option.bind_eq_some_iff] at h
    obtain ⟨v1, hv1, q, _, r1, h1, h2⟩ := h
    have h3 := (i1 _ _ _ _ h1).trans (mSet_len hv1)
    split at h2
    ·cases h2; exact h3
    split at h2
    ·simp only [Option.map_eq_some_iff] at h2
     obtain ⟨v', h4, rfl⟩ := h2
     exact (mSet_len h4).trans h3
    exact (i2 _ _ _ _ _ h2).trans h3
theorem mList_len {u : Un} {d : Nat} {l : List Nd} {v : List Int} {s : Rs} {r : Rres} (h : mList u d l v s = some r) : r.2.1.length = v.length := (mLL_len u d).1 _ _ _ _ h
theorem mLoop_step {u : Un} {d : Nat} {x : Nd} {v a : List Int} {s : Rs} {r : Rres} (h : mLoop u d x v a s = some r) : ∃ d1 v2 q r1, d = d1 + 1 ∧ mSet v x.params a = some v2 ∧ x.kids[0]? = some q ∧ mList u d1 q v2 s = some r1 ∧
    (if mOver r1.2.2 || r1.1.1 == 15 then some r1 else if r1.1.1 == 14 then (mSet r1.2.1 x.outs r1.1.2).map fun v => ((0, []), v, r1.2.2) else mLoop u d1 x r1.2.1 r1.1.2 r1.2.2) = some r := by
  cases d with
  | zero => simp [mLoop] at h
  | succ d =>
    rw [mLoop] at h
    simp only [Option.bind_eq_some_iff] at h
    obtain ⟨v2, h1, q, h2, r1, h3, h4⟩ := h
    exact ⟨d, v2, q, r1, rfl, h1, h2, h3, h4⟩
theorem mList_step {u : Un} {d : Nat} {x : Nd} {l : List Nd} {v : List Int} {s s2 : Rs} {r : Rres} (hs2 : (mStep s).2 = s2) (h : mList u d (x :: l) v s = some r) : ∃ d1, d = d1 + 1 ∧ (((mStep s).1 = false ∧ r = ((0, []), v, s2)) ∨
    ((mStep s).1 = true ∧ ∃ a r1, mOf v x.args = some a ∧ mNode (mList u d1) (mLoop u d1) (mSum u d1) x a v s2 = some r1 ∧ (if mOver r1.2.2 || r1.1.1 != 0 then some r1 else mList u d1 l r1.2.1 r1.2.2) = some r)) := by
  cases d with
  | zero => simp [mList] at h
  | succ d =>
    refine ⟨d, rfl, ?_⟩
    subst hs2
    rw [mList] at h
    split at h
    ·rename_i s' e; cases h; exact .inl ⟨by rw [e], by rw [e]⟩
    rename_i s' e
    simp only [Option.bind_eq_some_iff] at h
    obtain ⟨a, h1, r1, h2, h3⟩ := h
    exact .inr ⟨by rw [e], a, r1, h1, by rw [e]; exact h2, h3⟩
section
variable {rec : List Nd → List Int → Rs → Option Rres} {recLoop : Nd → List Int → List Int → Rs → Option Rres} {recSum : Nd → List Int → Rs → Option (Int × Rs)} {x : Nd} {a v : List Int} {s : Rs} {r : Rres}
theorem mNode_set (h : mNode rec recLoop recSum x a v s = some r) (hk : (x.kind == 1 || x.kind == 2) = true) : ∃ o v2, x.outs[0]? = some o ∧ setV v o x.n = some v2 ∧ r = ((0, []), v2, s) := by
  unfold mNode at h
  rw [if_pos hk] at h
  simp only [Option.bind_eq_some_iff, Option.map_eq_some_iff] at h
  obtain ⟨o, h1, v2, h2, rfl⟩ := h
  exact ⟨o, v2, h1, h2, rfl⟩
theorem mNode_end (h : mNode rec recLoop recSum x a v s = some r) (hk : (x.kind == 12 || x.kind == 13 || x.kind == 14 || x.kind == 15) = true) : r = ((x.kind, a), v, s) := by
  unfold mNode at h
  rw [if_neg (by simp only [Bool.or_eq_true, beq_iff_eq] at hk ⊢; omega), if_pos hk] at h
  cases h; rfl
theorem mNode_if (h : mNode rec recLoop recSum x a v s = some r) (hk : (x.kind == 10) = true) : ∃ a0 q r1, a[0]? = some a0 ∧ x.kids[if a0 != 0 then 0 else 1]? = some q ∧ rec q v s = some r1 ∧
    (if !mOver r1.2.2 && r1.1.1 == 12 then (mSet r1.2.1 x.outs r1.1.2).map fun v' => ((0, []), v', r1.2.2) else some r1) = some r := by
  unfold mNode at h
  rw [if_neg (by simp only [Bool.or_eq_true, beq_iff_eq] at hk ⊢; omega), if_neg (by simp only [Bool.or_eq_true, beq_iff_eq] at hk ⊢; omega), if_pos hk] at h
  simp only [Option.bind_eq_some_iff] at h
  obtain ⟨a0, h1, q, h2, r1, h3, h4⟩ := h
  exact ⟨a0, q, r1, h1, h2, h3, h4⟩
theorem mNode_loop (h : mNode rec recLoop recSum x a v s = some r) (hk : (x.kind == 11) = true) : recLoop x v a s = some r := by
  unfold mNode at h
  rw [if_neg (by simp only [Bool.or_eq_true, beq_iff_eq] at hk ⊢; omega), if_neg (by simp only [Bool.or_eq_true, beq_iff_eq] at hk ⊢; omega), if_neg (by simp only [beq_iff_eq] at hk ⊢; omega), if_pos hk] at h
  exact h
theorem mNode_sum (h : mNode rec recLoop recSum x a v s = some r) (h1 : (x.kind == 1 || x.kind == 2) = false) (h2 : (x.kind == 12 || x.kind == 13 || x.kind == 14 || x.kind == 15) = false) (h3 : (x.kind == 10) = false) (h4 : (x.kind == 11) = false) : ∃ r1, recSum x a s = some r1 ∧
    (if !mOver r1.2 && decide (0 < x.outs.length) then (x.outs[0]?).bind fun o => (setV v o r1.1).map fun v' => ((0, []), v', r1.2) else some ((0, []), v, r1.2)) = some r := by
  unfold mNode at h
  rw [h1, h2, h3, h4] at h
  simp only [Bool.false_eq_true, if_false, Option.bind_eq_some_iff] at h
  exact h
end
theorem mCall_step {u : Un} {d : Nat} {k : Int} {a : List Int} {s : Rs} {r : Int × Rs} (h : mCall u d k a s = some r) : ∃ d1 f r1, d = d1 + 1 ∧ 0 ≤ k ∧ u.flows[k.toNat]? = some f ∧ a.length ≤ f.types.length ∧ f.types.length ≤ 1073741824 ∧
    mList u d1 f.body (a ++ List.replicate (f.types.length - a.length) 0) s = some r1 ∧ r = (if mOver r1.2.2 then 0 else r1.1.2.headD 0, r1.2.2) := by
  cases d with
  | zero => simp [mCall] at h
  | succ d =>
    rw [mCall] at h
    split at h
    ·rename_i hk
     simp only [Option.bind_eq_some_iff] at h
     obtain ⟨f, hf, h⟩ := h
     split at h
     ·rename_i hl
      simp only [Option.bind_eq_some_iff] at h
      obtain ⟨r1, h1, h2⟩ := h
      refine ⟨d, f, r1, rfl, hk, hf, hl.1, hl.2, h1, ?_⟩
      split at h2 <;> cases h2 <;> simp_all
     cases h
    cases h
variable {u : Un} {d : Nat} {x : Nd} {a : List Int} {s : Rs} {r : Int × Rs}
theorem mSum_pos (h : mSum u d x a s = some r) : ∃ d', d = d' + 1 := by
  cases d with
  | zero => simp [mSum] at h
  | succ d => exact ⟨d, rfl⟩
theorem mSum_one (h : mSum u (d + 1) x a s = some r) (hk : (x.kind == 3) = true) : ∃ a0, a[0]? = some a0 ∧ r = (mOne x.op a0, mCost s) := by
  simp only [mSum, hk, if_true, Option.map_eq_some_iff] at h
  obtain ⟨a0, h1, rfl⟩ := h
  exact ⟨a0, h1, rfl⟩
theorem mSum_two (h : mSum u (d + 1) x a s = some r) (hk : (x.kind == 4) = true) : ∃ a0 a1, a[0]? = some a0 ∧ a[1]? = some a1 ∧ r = ((mTwo x.op a0 a1).1, if (mTwo x.op a0 a1).2 then mCost s else { mCost s with st := 2 }) := by
  have h3 : (x.kind == 3) = false := by have := eq_of_beq hk; rw [this]; rfl
  simp only [mSum, h3, hk, if_true, Bool.false_eq_true, if_false, Option.map_eq_some_iff, Option.bind_eq_some_iff] at h
  obtain ⟨a0, h1, a1, h2, rfl⟩ := h
  exact ⟨a0, a1, h1, h2, rfl⟩
theorem mCell_neg {k n : Int} {q : Bool × Rs} (hk : k < 0) (h : mCell s k n = some q) : n < 0 ∧ q = (false, { s with st := 3 }) := by
  unfold mCell at h
  split at h
  ·rename_i h1; cases h; exact ⟨h1, rfl⟩
  rw [if_neg (by omega)] at h; cases h
theorem mSum_load (hu : u.arrays = []) (h : mSum u (d + 1) x a s = some r) (hk : (x.kind == 5) = true) : ∃ a0, a[0]? = some a0 ∧ a0 < 0 ∧ r = (0, { mCost s with st := 3 }) := by
  have h3 : (x.kind == 3) = false := by have := eq_of_beq hk; rw [this]; rfl
  have h4 : (x.kind == 4) = false := by have := eq_of_beq hk; rw [this]; rfl
  simp only [mSum, h3, h4, hk, if_true, Bool.false_eq_true, if_false, Option.bind_eq_some_iff] at h
  obtain ⟨a0, h1, q, h2, h5⟩ := h
  rw [hu] at h2
  obtain ⟨h6, rfl⟩ := mCell_neg (by show (-1 : Int) < 0; decide) h2
  simp only [Bool.false_eq_true, if_false] at h5
  cases h5
  exact ⟨a0, h1, h6, rfl⟩
theorem mSum_store (hu : u.arrays = []) (h : mSum u (d + 1) x a s = some r) (hk : (x.kind == 6) = true) : ∃ a0, a[0]? = some a0 ∧ a0 < 0 ∧ r = (0, { mCost s with st := 3 }) := by
  have h3 : (x.kind == 3) = false := by have := eq_of_beq hk; rw [this]; rfl
  have h4 : (x.kind == 4) = false := by have := eq_of_beq hk; rw [this]; rfl
  have h5 : (x.kind == 5) = false := by have := eq_of_beq hk; rw [this]; rfl
  simp only [mSum, h3, h4, h5, hk, if_true, Bool.false_eq_true, if_false, Option.bind_eq_some_iff] at h
  obtain ⟨a0, h1, q, h2, h5⟩ := h
  rw [hu] at h2
  obtain ⟨h6, rfl⟩ := mCell_neg (by show (-1 : Int) < 0; decide) h2
  simp only [Bool.false_eq_true, if_false] at h5
  cases h5
  exact ⟨a0, h1, h6, rfl⟩
theorem mSum_call (h : mSum u (d + 1) x a s = some r) (hk : (x.kind == 7) = true) : mCall u d (r8Place x.name u.flows 0) a (mCost s) = some r := by
  have e := eq_of_beq hk
  simp only [mSum, e] at h
  exact h
theorem mSum_print (h : mSum u (d + 1) x a s = some r) (hk : (x.kind == 9) = true) : ∃ a0, a[0]? = some a0 ∧ s.out.length < 1073741824 ∧ r = (0, { mCost s with out := s.out ++ [a0] }) := by
  have e := eq_of_beq hk
  simp only [mSum, e] at h
  simp only [show ((9 : Int) == 3) = false from rfl, show ((9 : Int) == 4) = false from rfl, show ((9 : Int) == 5) = false from rfl, show ((9 : Int) == 6) = false from rfl, show ((9 : Int) == 7) = false from rfl, show ((9 : Int) == 9) = true from rfl, if_true, Bool.false_eq_true, if_false, Option.bind_eq_some_iff] at h
  obtain ⟨a0, h1, h2⟩ := h
  split at h2
  ·rename_i h3; cases h2; exact ⟨a0, h1, h3, rfl⟩
  cases h2
theorem mSum_read (h : mSum u (d + 1) x a s = some r) (hk : (x.kind == 8) = true) : (s.ins = [] ∧ r = (0, { mCost s with st := 4 })) ∨ ∃ y q, s.ins = y :: q ∧ r = (y, { mCost s with ins := q }) := by
  have e := eq_of_beq hk
  simp only [mSum, e] at h
  simp only [show ((8 : Int) == 3) = false from rfl, show ((8 : Int) == 4) = false from rfl, show ((8 : Int) == 5) = false from rfl, show ((8 : Int) == 6) = false from rfl, show ((8 : Int) == 7) = false from rfl, show ((8 : Int) == 9) = false from rfl, show ((8 : Int) == 8) = true from rfl, if_true, Bool.false_eq_true, if_false] at h
  split at h
  ·rename_i h1; cases h; exact .inl ⟨h1, rfl⟩
  rename_i y q h1; cases h; exact .inr ⟨y, q, h1, rfl⟩
theorem mSum_else (h : mSum u (d + 1) x a s = some r) (h3 : (x.kind == 3) = false) (h4 : (x.kind == 4) = false) (h5 : (x.kind == 5) = false) (h6 : (x.kind == 6) = false) (h7 : (x.kind == 7) = false) (h9 : (x.kind == 9) = false) (h8 : (x.kind == 8) = false) : r = (0, mCost s) := by
  simp only [mSum, h3, h4, h5, h6, h7, h8, h9, Bool.false_eq_true, if_false] at h
  cases h; rfl
end
theorem sc_cell0 (u : Un) (s : Rs) (k n : Int) (hn : n < 0) : SC Tryz.prog 89 [.ptr 1001 0, iInt k, iInt n] (runH u s) (fun _ => False) (iBool false) (runH u { s with st := 3 }) := by
  refine SC.of Tryz.func89 rfl (lb rfl) fun F ρ w => ?_
  refine tQ <| tG <| sm 1 rfl <| nL <| tQ <| tQ <| tG <| sm 3 rfl ?_
  refine wS 9 rfl (fun hb9 => ?_) fun hb9 => ?_
  ·refine sm 11 rfl <| nL <| Tr.condT rfl <| tQ <| tG <| sm 1 rfl <| cV rfl (nCk rfl rfl rfl) <| sm 2 rfl <| c0 (sBx rfl rfl rfl rfl ((fun h => h)) tS3 (rfl) (lb rfl)) <| nL <| tQ <| tG ?_
   refine sm 1 rfl <| nL <| tRt <| rOk rfl rfl (po2 rfl rfl)
  exact absurd hn (by simpa using hb9)
def SCC (u : Un) (D : Nat) : Prop := ∀ d, d < D → ∀ k a s r, mCall u d k a s = some r → SC Tryz.prog 29 [.ptr 1001 0, iInt k, .pv (ints a)] (runH u s) (fun _ => False) (iInt r.1) (runH u r.2)
def SCL (u : Un) (D : Nat) : Prop := ∀ d, d < D → ∀ l v s r, mList u d l v s = some r → lsW l ≤ 1073741824 → SC Tryz.prog 45 [.ptr 1001 0, .pv (nodes l), .sl 510 (v.map eInt).length] (runV u s v) (fun _ => False) (.pv (endv r.1)) (runV u r.2.2 r.2.1)
theorem sc_sum (u : Un) (hu : u.arrays = []) (D : Nat) (ihC : SCC u D) (d : Nat) (hd : d ≤ D) (x : Nd) (a : List Int) (s : Rs) (r : Int × Rs) (h : mSum u d x a s = some r) : SC Tryz.prog 68 [.ptr 1001 0, .pv (ndv x), .pv (ints a)] (runH u s) (fun _ => False) (iInt r.1) (runH u r.2) := by
  refine SC.of Tryz.func68 rfl (lb rfl) fun F ρ w => ?_
  obtain ⟨d, rfl⟩ := mSum_pos h
  refine Tr.lenOf (t := 2) rfl (fun hl => ?_)
  simp only [List.length_map] at hl
  refine tQ <| tG <| cE rfl (ok_box rfl rfl) <| sm 1 rfl <| nL <| tQ <| tG <| sm 2 rfl <| cV rfl (nCk rfl rfl rfl) <| sm 4 rfl <| cV rfl (nCk rfl rfl rfl) <| sm 2 rfl ?_
  refine c0 (sBx rfl rfl rfl rfl ((fun h => h)) tS3 (rfl) (lb rfl)) <| nL <| tQ <| Tr.heap (σ' := look (up (runH u (mCost s)))) (lkq [1001, 1002] rfl rfl ⟨rfl, rfl, trivial⟩) <| tDr mixed (fun k => k ∈ ([1001] : List Nat)) <| wR 2 [0, 1, 2, 3, 4, 5] (by kernel_rfl) (fun _ _ _ h => h) <| smR 1 rfl <| rV rfl rfl (nCk rfl rfl rfl) <| smR 1 rfl <| rV rfl rfl (lBP rfl rfl rfl uT25 rfl tS25 (lb rfl) rfl (by decide)) <| smR 2 rfl <| nR ?_
  refine wO 6 (by kernel_rfl) <| wI rfl rfl nf nw (fun _ _ => ocq (sc_r8Array _ _) ent47 rfl rfl) <| wR 0 [7] (by kernel_rfl) (fun _ _ _ h => h) <| smR 1 rfl <| nR <| wDn (by kernel_rfl) <| tQ <| tQ <| tG <| sm 2 rfl <| nL <| tBk ?_
  refine tQ <| tG <| sm 2 rfl <| nL ?_
  refine tC rfl (fun hc30 => ?_) fun hc30 => ?_
  ·obtain ⟨a0, h0, rfl⟩ := mSum_one h hc30
   have hi0 := map_get (f := eInt) h0
   refine tQ <| tDr mixed (fun k => k ∈ ([] : List Nat)) <| wR 2 [0, 1, 2, 3, 4] (by kernel_rfl) (fun _ _ _ h => h) <| smR 3 rfl <| rV rfl rfl (iSq rfl rfl rfl uT35 hi0 tS3 rfl (by rfl)) <| smR 1 rfl <| nR <| wO 5 (by kernel_rfl) <| wI rfl rfl nf nw (fun _ _ => ocq (sc_mOne _ _) ent87 rfl rfl) <| wR 0 [6] (by kernel_rfl) (fun _ _ _ h => h) <| smR 1 rfl <| nR ?_
   refine wDn (by kernel_rfl) <| tRt <| rOk rfl ?_ (po2 rfl rfl)
   rfl
  refine tQ <| tG <| sm 2 rfl <| nL ?_
  refine tC rfl (fun hc38 => ?_) fun hc38 => ?_
  ·obtain ⟨a0, a1, h0, h1, rfl⟩ := mSum_two h hc38
   have hi0 := map_get (f := eInt) h0
   have hi1 := map_get (f := eInt) h1
   refine tQ <| tDr mixed (fun k => k ∈ ([] : List Nat)) <| wR 6 [0, 1, 2, 3, 4, 5, 6, 7] (by kernel_rfl) (fun _ _ _ h => h) <| smR 3 rfl <| rV rfl rfl (iSq rfl rfl rfl uT35 hi0 tS3 rfl (by rfl)) <| smR 2 rfl <| rV rfl rfl (iSq rfl rfl rfl uT35 hi1 tS3 rfl (by rfl)) <| smR 1 rfl <| nR <| wO 8 (by kernel_rfl) <| wI rfl rfl nf nw (fun _ _ => ocq (sc_mTwo _ _ _) ent88 rfl rfl) <| wR 0 [9, 10, 11, 12, 13] (by kernel_rfl) (fun _ _ _ h => h) ?_
   refine smR 1 rfl <| rV rfl rfl (ok_extract rfl rfl rfl) <| rV rfl rfl (ok_extract rfl rfl rfl) <| smR 2 rfl <| nR <| wDn (by kernel_rfl) <| tQ <| tQ <| tG <| sm 2 rfl <| nL ?_
   refine tC rfl (fun hc53 => ?_) fun hc53 => ?_
   ·have hok : (mTwo x.op a0 a1).2 = false := by simpa using hc53
    refine tG <| sm 1 rfl <| cV rfl (nCk rfl rfl rfl) <| sm 2 rfl <| c0 (sBx rfl rfl rfl rfl ((fun h => h)) tS3 (rfl) (lb rfl)) <| nL <| tQ <| tG <| sm 2 rfl <| nL <| tRt ?_
    rw [hok]
    refine rOk rfl rfl (po2 rfl rfl)
   have hok : (mTwo x.op a0 a1).2 = true := by simpa using hc53
   refine tSk <| tQ <| tG <| sm 2 rfl <| nL <| tRt ?_
   rw [hok]
   refine rOk rfl rfl (po2 rfl rfl)
  refine tQ <| tG <| sm 2 rfl <| nL ?_
  refine tC rfl (fun hc59 => ?_) fun hc59 => ?_
  ·obtain ⟨a0, h0, ha0, rfl⟩ := mSum_load hu h hc59
   have hi0 := map_get (f := eInt) h0
   refine tQ <| tG <| sm 3 rfl <| cV rfl (iSq rfl rfl rfl uT35 hi0 tS3 rfl (by rfl)) <| sm 1 rfl <| cE rfl (ocr (sc_cell0 u (mCost s) _ a0 ha0) ent89 rfl (fun _ _ h => h) rfl (fun k (h : _) => .inr h) rfl rfl) <| nL ?_
   refine tC rfl (fun hc66 => ?_) fun hc66 => ?_
   ·cases hc66
   refine tSk <| tQ <| tG <| sm 1 rfl <| nL <| tRt <| rOk rfl rfl (po2 rfl rfl)
  refine tQ <| tG <| sm 2 rfl <| nL ?_
  refine tC rfl (fun hc79 => ?_) fun hc79 => ?_
  ·obtain ⟨a0, h0, ha0, rfl⟩ := mSum_store hu h hc79
   have hi0 := map_get (f := eInt) h0
   refine tQ <| tG <| sm 3 rfl <| cV rfl (iSq rfl rfl rfl uT35 hi0 tS3 rfl (by rfl)) <| sm 1 rfl <| cE rfl (ocr (sc_cell0 u (mCost s) _ a0 ha0) ent89 rfl (fun _ _ h => h) rfl (fun k (h : _) => .inr h) rfl rfl) <| nL ?_
   refine tC rfl (fun hc86 => ?_) fun hc86 => ?_
   ·cases hc86
   refine tSk <| tQ <| tG <| sm 1 rfl <| nL <| tRt <| rOk rfl rfl (po2 rfl rfl)
  refine tQ <| tG <| sm 2 rfl <| nL ?_
  refine tC rfl (fun hc101 => ?_) fun hc101 => ?_
  ·have hcall := mSum_call h hc101
   refine tQ <| tDr mixed (fun k => k ∈ ([] : List Nat)) <| wR 4 [0, 1, 2, 3, 5, 6, 8] (by kernel_rfl) (fun _ _ _ h => h) <| smR 2 rfl <| rV rfl rfl (nCk rfl rfl rfl) <| smR 4 rfl <| nR <| wO 4 (by kernel_rfl) <| wI rfl rfl nf nw (fun _ _ => OkV.ok (R1 := fun _ => True) ((lBP rfl rfl rfl uT25 rfl tS25 (lb rfl) rfl trivial))) <| wO 7 (by kernel_rfl) <| wI rfl rfl nf nw (fun _ _ => ocq (sc_r8Place _ _) ent30 rfl rfl) <| wO 9 (by kernel_rfl) ?_
   refine wI rfl rfl nf (nAp rfl) (fun _ _ => ocr (ihC d (by omega) _ a (mCost s) r hcall) ent29 rfl (fun _ _ h => h) rfl nl rfl rfl) <| wR 0 [10] (by kernel_rfl) (fun _ _ _ h => h) <| smR 1 rfl <| nR <| wDn (by kernel_rfl) <| tRt <| rOk rfl ?_ (po2 rfl rfl)
   rfl
  refine tQ <| tG <| sm 2 rfl <| nL ?_
  refine tC rfl (fun hc113 => ?_) fun hc113 => ?_
  ·obtain ⟨a0, h0, hol, rfl⟩ := mSum_print h hc113
   have hi0 := map_get (f := eInt) h0
   have hol2 : (mCost s).out.length < 1073741824 := hol
   refine tDr mixed (fun k => k ∈ ([] : List Nat)) <| wR 7 [0, 1, 2, 3, 4, 6, 7, 8] (by kernel_rfl) (fun _ _ _ h => h) <| smR 2 rfl <| rV rfl rfl (nCk rfl rfl rfl) <| smR 3 rfl <| rV rfl rfl (iSq rfl rfl rfl uT35 hi0 tS3 rfl (by rfl)) <| smR 1 rfl <| nR <| WA.all (rs := [5, 9]) (by kernel_rfl) (by simp) ?_
   refine fmc ⟨?_, fmc ⟨?_, by simp⟩⟩
   ·refine wI rfl rfl nf nw (fun _ _ => OkV.ok (R1 := fun _ => True) ((ok_load_box rfl rfl rfl uT35 rfl rfl trivial))) <| wO 9 (by kernel_rfl) <| wI rfl rfl nf nw (fun _ _ => bSl rfl rfl uT35 tZ3 tS3 rfl rfl rfl rfl (fbk rfl) rfl) <| wO 10 (by kernel_rfl) ?_
    refine wI rfl rfl nf (nOl rfl) (fun _ _ => aPp rfl rfl rfl rfl (by rfl) (by simp) uT35 tB3 (by decide) (by (simp [chunks]; done)) (by (simp [chunks, PV.one]; rfl)) (by simp [maxLen, chunks]; omega) (by simp [chunks]; omega)) ?_
    refine wR 1 [11, 12, 13] (by kernel_rfl) (fun _ _ _ h => h) <| rV rfl rfl (nCk rfl rfl rfl) <| smR 2 rfl <| nR <| wO 14 (by kernel_rfl) <| wI rfl rfl nf (nOl rfl) (fun _ _ => sBx rfl rfl rfl rfl (by simp) tS35 (⟨_, _, rfl, by simp⟩) (lb rfl)) <| wDn (by kernel_rfl) <| tQ <| tG <| sm 1 rfl <| nL <| tRt <| rOk rfl rfl (post_ok (And.intro (congrArg (fun z => some (HO.box z)) (by simp [chunks, eInt, mCost])) (And.intro (congrArg (fun z => some (HO.row _ z)) (by simp [chunks, eInt, mCost])) trivial)))
   refine wI rfl rfl nf nw (fun _ _ => bSl rfl rfl uT35 tZ3 tS3 rfl rfl rfl rfl (fbk rfl) rfl) <| wO 5 (by kernel_rfl) <| wI rfl rfl nf nw (fun _ _ => OkV.ok (R1 := fun _ => True) ((ok_load_box rfl rfl rfl uT35 rfl rfl trivial))) <| wO 10 (by kernel_rfl) ?_
   refine wI rfl rfl nf (nOl rfl) (fun _ _ => aPp rfl rfl rfl rfl (by rfl) (by simp) uT35 tB3 (by decide) (by (simp [chunks]; done)) (by (simp [chunks, PV.one]; rfl)) (by simp [maxLen, chunks]; omega) (by simp [chunks]; omega)) ?_
   refine wR 1 [11, 12, 13] (by kernel_rfl) (fun _ _ _ h => h) <| rV rfl rfl (nCk rfl rfl rfl) <| smR 2 rfl <| nR <| wO 14 (by kernel_rfl) <| wI rfl rfl nf (nOl rfl) (fun _ _ => sBx rfl rfl rfl rfl (by simp) tS35 (⟨_, _, rfl, by simp⟩) (lb rfl)) <| wDn (by kernel_rfl) <| tQ <| tG <| sm 1 rfl <| nL <| tRt <| rOk rfl rfl (post_ok (And.intro (congrArg (fun z => some (HO.box z)) (by simp [chunks, eInt, mCost])) (And.intro (congrArg (fun z => some (HO.row _ z)) (by simp [chunks, eInt, mCost])) trivial)))
  refine tQ <| tG <| sm 2 rfl <| nL ?_
  refine tC rfl (fun hc129 => ?_) fun hc129 => ?_
  ·have hrd := mSum_read h hc129
   refine tQ <| tQ <| tG <| sm 1 rfl <| cV rfl (nCk rfl rfl rfl) <| sm 2 rfl <| cV rfl (oSm uT35 rfl) <| sm 1 rfl <| nL ?_
   refine tC rfl (fun hc136 => ?_) fun hc136 => ?_
   ·obtain ⟨hin, rfl⟩ : s.ins = [] ∧ r = (0, { mCost s with st := 4 }) := by
      rcases hrd with h1 | ⟨y, q, h1, _⟩
      ·exact h1
      simp [mCost, h1] at hc136
      omega
    refine tQ <| tG <| sm 1 rfl <| cV rfl (nCk rfl rfl rfl) <| sm 2 rfl <| c0 (sBx rfl rfl rfl rfl ((fun h => h)) tS3 (rfl) (lb rfl)) <| nL <| tQ <| tG <| sm 1 rfl <| nL <| tRt <| rOk rfl ?_ (po2 rfl rfl)
    rfl
   obtain ⟨y, q, hin, rfl⟩ : ∃ y q, s.ins = y :: q ∧ r = (y, { mCost s with ins := q }) := by
     rcases hrd with ⟨h1, _⟩ | h1
     ·simp [mCost, h1] at hc136
     exact h1
   have hil : (mCost s).ins = y :: q := hin
   have hi0 : ((mCost s).ins.map eInt)[0]? = some (eInt y) := by show (s.ins.map eInt)[0]? = _; rw [hin]; rfl
   refine tSk <| tQ <| tG <| sm 1 rfl <| cV rfl (nCk rfl rfl rfl) <| sm 2 rfl <| cV rfl (iSq rfl rfl rfl uT35 hi0 tS3 rfl (by rfl)) <| sm 2 rfl <| nL <| tQ <| tG <| sm 2 rfl ?_
   refine cV rfl (nCk rfl rfl rfl) <| sm 2 rfl ?_
   refine cV rfl (ok_slice_seq (i := 1) (j := (y :: q).length) rfl (show _ = some (IV.pv (ints (mCost s).ins)) from rfl) uT35 tS3 (.inr ⟨_, _, rfl, rfl⟩) (.inl ⟨rfl, by simp [hil]⟩) (by simp) (by simp [hil]) hw_int) ?_
   refine cV rfl (nCk rfl rfl rfl) <| sm 1 rfl <| c0 (sBx rfl rfl rfl rfl ((fun h => h)) tS35 (rfl) (lb rfl)) <| nL <| tQ <| tG <| sm 2 rfl <| nL <| tRt <| rOk rfl rfl (post_ok (And.intro (congrArg (fun z => some (HO.box z)) (by (simp [hil, ints, List.take_of_length_le]; done))) (And.intro rfl trivial)))
  obtain rfl := mSum_else h hc30 hc38 hc59 hc79 hc101 hc113 hc129
  refine tSk <| tQ <| tG <| sm 1 rfl <| nL <| tRt <| rOk rfl rfl (po2 rfl rfl)
theorem end_nil : PSub (.agg [vInt 0, .val (.slice none 0 0)]) (endv (0, [])) := PSub.agg (ps := [vInt 0, .val (.slice none 0 0)]) (qs := [vInt 0, .seq []]) (And.intro (PSub.refl _) (And.intro PSub.nil trivial))
theorem sc_loop (u : Un) (D : Nat) (ihL : SCL u D) (d : Nat) (hd : d ≤ D) (x : Nd) (hx : ndW x ≤ 1073741824) (v a : List Int) (s : Rs) (r : Rres) (h : mLoop u d x v a s = some r) : SC Tryz.prog 67 [.ptr 1001 0, .pv (ndv x), .sl 510 (v.map eInt).length, .pv (ints a)] (runV u s v) (fun _ => False) (.pv (endv r.1)) (runV u r.2.2 r.2.1) := by
  refine SC.ofC Tryz.func67 rfl (lb rfl) rfl fun F ρ w => ?_
  refine tQ <| tG <| cE rfl (ok_box rfl rfl) <| cE rfl (aLc (k := 108) rfl tZ79 rfl rfl rfl rfl) <| nL <| tBk <| Tr.sub (Sub.of (fr' := [(8, .ptr 108 0), (5, .pv (.ept [vInt x.kind, vInt x.op, vInt x.n, vStr x.name, ints x.args, ints x.outs, ints x.params, kids x.kids] 0)), (0, .ptr 1001 0), (2, .sl 510 (v.map eInt).length), (3, .pv (ints a))]) ⟨rfl, rfl, rfl, rfl, rfl, trivial⟩) <| Tr.heap (σ' := look [(108, some (.box [iInt 0, .pv (.val (.slice none 0 0))])), (1001, some (runBox u s)), (1002, some (rowI (s).out)), (510, some (rowI v))]) (lkq [108, 1001, 1002, 510] rfl rfl ⟨rfl, rfl, rfl, rfl, trivial⟩) ?_
  refine Tr.loop (fun fr σ m => ∃ (d0 : Nat) (v1 : List Int) (a1 : List Int) (s1 : Rs), (d0 ≤ d) ∧ (mLoop u d0 x v1 a1 s1 = some r) ∧ ((v1.map eInt).length = (v.map eInt).length) ∧ fr = [(8, .ptr 108 0), (5, .pv (.ept [vInt x.kind, vInt x.op, vInt x.n, vStr x.name, ints x.args, ints x.outs, ints x.params, kids x.kids] 0)), (0, .ptr 1001 0), (2, .sl 510 (v.map eInt).length), (3, .pv (ints a1))] ∧ σ = look [(108, some (.box [iInt 0, .pv (.val (.slice none 0 0))])), (1001, some (runBox u s1)), (1002, some (rowI (s1).out)), (510, some (rowI v1))] ∧ m = d0) (n := d) ?_ ?_
  ·exact ⟨d, v, a, s, Nat.le_refl _, h, rfl, rfl, rfl, rfl⟩
  rintro fr σ m ⟨d0, v1, a1, s1, hI0, hI1, hI2, rfl, rfl, rfl⟩
  obtain ⟨d1, v2, q, r1, rfl, hset, hq, hlist, hrest⟩ := mLoop_step hI1
  have hi0 := map_get (f := eKid) hq
  have hqb : lsW q ≤ 1073741824 := by have := kdW_mem (List.mem_of_getElem? hq); have := ndW_eq x; omega
  have hl2 : (v2.map eInt).length = (v.map eInt).length := by rw [← hI2]; simp [mSet_len hset]
  have hl3 : (r1.2.1.map eInt).length = (v.map eInt).length := by rw [← hl2]; simp [mList_len hlist]
  refine tBk <| tQ <| tG <| sm 4 rfl <| cE rfl (cRr (sc_set v1 x.params a1 v2 hset) ent66 rfl rfl (sSm (congrArg (fun n => IV.sl 510 n) hI2.symm) (sRf _ _)) (po1 rfl) (by rfl) (fun k (h : _) => .inr h) rfl (by rfl)) <| nL <| tQ <| Tr.heap (σ' := look [(108, some (.box [iInt 0, .pv (.val (.slice none 0 0))])), (1001, some (runBox u s1)), (1002, some (rowI (s1).out)), (510, some (rowI v2))]) (lkq [108, 1001, 1002, 510] rfl rfl ⟨rfl, rfl, rfl, rfl, trivial⟩) <| tG <| sm 3 rfl <| cV rfl (iSq rfl rfl rfl uT40 hi0 tS43 rfl (by rfl)) <| sm 2 rfl ?_
  refine cE rfl (cRr (ihL d1 (by omega) q v2 s1 r1 hlist hqb) ent45 rfl rfl (sSm rfl (sSm rfl (sSm (congrArg (fun n => IV.sl 510 n) hl2.symm) Subs.nil))) (po3 rfl rfl rfl) (by rfl) (fun k (h : _) => .inr h) rfl (by rfl)) <| cE rfl (aLc (k := 109) rfl tZ79 rfl rfl rfl rfl) <| c0 (sBA rfl rfl rfl rfl rfl ((fun h => h)) tS79 (flk rfl) (lb rfl)) <| nL <| tQ <| tBk <| tQ <| Tr.freezeBox (t := 9) (k := 109) rfl rfl rfl <| Tr.heap (σ' := look [(108, some (.box [iInt 0, .pv (.val (.slice none 0 0))])), (1001, some (runBox u r1.2.2)), (1002, some (rowI (r1.2.2).out)), (510, some (rowI r1.2.1))]) (lkq [109, 108, 1001, 1002, 510] rfl rfl ⟨rfl, rfl, rfl, rfl, rfl, trivial⟩) <| tG <| sm 1 rfl <| cE rfl (ocr (sc_over u r1.2.2) ent31 rfl (po2 rfl rfl) rfl (fun k (h : _) => .inr trivial) rfl rfl) ?_
  refine sm 1 rfl ?_
  refine wS 25 rfl (fun hb25 => ?_) fun hb25 => ?_
  ·refine sm 5 rfl <| nL <| Tr.condT rfl <| tQ <| tG <| cV rfl (lEA rfl rfl Tryz.underlying79 rfl tS79 (lb rfl)) <| c0 (sBA rfl rfl rfl rfl rfl ((fun h => h)) tS79 (flk rfl) (lb rfl)) <| nL <| tRt ?_
   have hov : (mOver r1.2.2 || r1.1.1 == 15) = true := by first | (rw [hb25]; rfl) | (rw [hc22, Bool.or_true])
   rw [if_pos hov] at hrest
   obtain rfl : r1 = r := by injection hrest
   refine rCk (.inl rfl) (fun _ _ ho => lBP ho rfl rfl Tryz.underlying79 rfl tS79 (lb rfl) rfl trivial) rfl (po3 rfl rfl rfl)
  refine sm 5 rfl <| nL ?_
  refine tC rfl (fun hc22 => ?_) fun hc22 => ?_
  ·refine tQ <| tG <| cV rfl (lEA rfl rfl Tryz.underlying79 rfl tS79 (lb rfl)) <| c0 (sBA rfl rfl rfl rfl rfl ((fun h => h)) tS79 (flk rfl) (lb rfl)) <| nL <| tRt ?_
   have hov : (mOver r1.2.2 || r1.1.1 == 15) = true := by first | (rw [hb25]; rfl) | (rw [hc22, Bool.or_true])
   rw [if_pos hov] at hrest
   obtain rfl : r1 = r := by injection hrest
   refine rCk (.inl rfl) (fun _ _ ho => lBP ho rfl rfl Tryz.underlying79 rfl tS79 (lb rfl) rfl trivial) rfl (po3 rfl rfl rfl)
  rw [if_neg (by rw [hb25, hc22]; decide)] at hrest
  refine tQ <| tG <| sm 4 rfl <| nL ?_
  refine tC rfl (fun hc31 => ?_) fun hc31 => ?_
  ·rw [if_pos hc31, Option.map_eq_some_iff] at hrest
   obtain ⟨v3, hset2, rfl⟩ := hrest
   refine tQ <| tG <| sm 5 rfl <| cE rfl (cRr (sc_set r1.2.1 x.outs r1.1.2 v3 hset2) ent66 rfl rfl (sSm (congrArg (fun n => IV.sl 510 n) hl3.symm) (sRf _ _)) (po1 rfl) (by rfl) (fun k (h : _) => .inr h) rfl (by rfl)) <| nL <| tQ <| tG <| cV rfl (bPu rfl rfl tZ79 tP79 rfl (fbk rfl) rfl) <| WL.sub (Sub.cons2 (fun _ _ _ _ h => sub_pv end_nil h) Sub.rfl') <| c0 (sBA rfl rfl rfl rfl rfl ((fun h => h)) tS79 (flk rfl) (lb rfl)) <| nL <| tRt <| rCk (.inl rfl) (fun _ _ ho => lBP ho rfl rfl Tryz.underlying79 rfl tS79 (lb rfl) rfl trivial) rfl (po3 rfl rfl rfl)
  rw [if_neg (by rw [hc31]; decide)] at hrest
  have hrest3 := hrest
  refine tSk <| tG <| sm 3 rfl <| nL ?_
  refine ⟨_, _, ?_, Sub.of (fr' := [(8, .ptr 108 0), (5, .pv (.ept [vInt x.kind, vInt x.op, vInt x.n, vStr x.name, ints x.args, ints x.outs, ints x.params, kids x.kids] 0)), (0, .ptr 1001 0), (2, .sl 510 (v.map eInt).length), (3, .pv (ints r1.1.2))]) ⟨rfl, rfl, rfl, rfl, rfl, trivial⟩, d1, r1.2.1, r1.1.2, r1.2.2, ?_, ?_, ?_, rfl, (funext (lkq [108, 1001, 1002, 510] rfl rfl ⟨rfl, rfl, rfl, rfl, trivial⟩)), rfl⟩
  ·omega
  ·omega
  ·exact hrest3
  exact hl3
theorem mList_nil {u : Un} {d : Nat} {v : List Int} {s : Rs} {r : Rres} (h : mList u d [] v s = some r) : r = ((0, []), v, s) := by
  cases d with
  | zero => simp [mList] at h
  | succ d => simp only [mList] at h; cases h; rfl
theorem sc_list0 (u : Un) (hu : u.arrays = []) (D : Nat) (ihC : SCC u D) (ihL : SCL u D) (d : Nat) (hd : d ≤ D) (l : List Nd) (v : List Int) (s : Rs) (r : Rres) (h : mList u d l v s = some r) (hb : lsW l ≤ 1073741824) : SC Tryz.prog 45 [.ptr 1001 0, .pv (nodes l), .sl 510 (v.map eInt).length] (runV u s v) (fun _ => False) (.pv (endv r.1)) (runV u r.2.2 r.2.1) := by
  refine SC.ofC Tryz.func45 rfl (lb rfl) rfl fun F ρ w => ?_
  refine Tr.lenOf (t := 1) rfl (fun hl => ?_)
  simp only [List.length_map] at hl
  refine tQ <| tG <| cE rfl (aLc (k := 106) rfl tZ79 rfl rfl rfl rfl) <| nL <| tQ <| tQ <| Tr.subBox (k := 106) [.pv (vInt 0), .pv (ints [])] rfl ⟨ISub.refl _, ISub.pv PSub.nil, trivial⟩ (fun h => h) <| tG <| sm 1 rfl <| nL <| tBk <| Tr.sub (Sub.of (fr' := [(7, iInt 0), (6, .ptr 106 0), (0, .ptr 1001 0), (1, .pv (nodes l)), (2, .sl 510 (v.map eInt).length)]) ⟨rfl, rfl, rfl, rfl, rfl, trivial⟩) ?_
  refine Tr.heap (σ' := look [(106, some (.box [.pv (vInt 0), .pv (ints [])])), (1001, some (runBox u s)), (1002, some (rowI (s).out)), (510, some (rowI v))]) (lkq [106, 1001, 1002, 510] rfl rfl ⟨rfl, rfl, rfl, rfl, trivial⟩) ?_
  refine Tr.loop (fun fr σ m => ∃ (k : Nat) (d0 : Nat) (v1 : List Int) (s1 : Rs), (k ≤ l.length) ∧ (d0 ≤ d) ∧ (mList u d0 (l.drop k) v1 s1 = some r) ∧ ((v1.map eInt).length = (v.map eInt).length) ∧ fr = [(7, iInt k), (6, .ptr 106 0), (0, .ptr 1001 0), (1, .pv (nodes l)), (2, .sl 510 (v.map eInt).length)] ∧ σ = look [(106, some (.box [.pv (vInt 0), .pv (ints [])])), (1001, some (runBox u s1)), (1002, some (rowI (s1).out)), (510, some (rowI v1))] ∧ m = l.length - k) (n := l.length - 0) ?_ ?_
  ·exact ⟨0, d, v, s, Nat.zero_le _, Nat.le_refl _, h, rfl, rfl, rfl, rfl⟩
  rintro fr σ m ⟨k, d0, v1, s1, hIk, hI1, hI2, hI3, rfl, rfl, rfl⟩
  refine tQ <| tQ <| tG <| sm 2 rfl <| cV rfl (oSm uT43 rfl) <| sm 1 rfl <| nL ?_
  refine tC rfl (fun hc16 => ?_) fun hc16 => ?_
  ·have hlt : k < l.length := by simpa using hc16
   have hd2 := List.drop_eq_getElem_cons hlt
   have hm := List.getElem_mem hlt
   have hi := nodes_get (List.getElem?_eq_getElem hlt)
   generalize l[k] = x at hd2 hm hi
   rw [hd2] at hI2
   obtain ⟨s2, hs2⟩ : ∃ s2, (mStep s1).2 = s2 := ⟨_, rfl⟩
   obtain ⟨d1, rfl, hst⟩ := mList_step hs2 hI2
   have hxb : ndW x ≤ 1073741824 := by have := ndW_mem hm; omega
   refine tSk <| tQ <| tBk <| tQ <| tG <| sm 2 rfl <| cV rfl (iSq rfl rfl rfl uT43 hi tS42 rfl (by rfl)) <| cV rfl (lEA rfl rfl uT42 rfl tS42 (lb rfl)) <| cE rfl (aLc (k := 108) rfl tZ42 rfl rfl rfl rfl) <| c0 (sBA rfl rfl rfl rfl rfl ((fun h => h)) tS42 (flk rfl) (lb rfl)) <| nL <| tQ ?_
   refine tQ <| Tr.freezeBox (t := 8) (k := 108) rfl rfl rfl <| Tr.heap (σ' := look [(106, some (.box [.pv (vInt 0), .pv (ints [])])), (1001, some (runBox u s1)), (1002, some (rowI (s1).out)), (510, some (rowI v1))]) (lkq [108, 106, 1001, 1002, 510] rfl rfl ⟨rfl, rfl, rfl, rfl, rfl, trivial⟩) <| tG <| sm 1 rfl <| cE rfl (ocr (sc_step u s1) ent64 rfl (po2 rfl rfl) rfl (fun k (h : _) => .inr h) rfl rfl) ?_
   rw [hs2]
   refine sm 1 rfl <| nL ?_
   refine tC rfl (fun hc25 => ?_) fun hc25 => ?_
   ·refine tQ <| tG <| cV rfl (bPu rfl rfl tZ79 tP79 rfl (fbk rfl) rfl) <| WL.sub (Sub.cons2 (fun _ _ _ _ h => sub_pv end_nil h) Sub.rfl') <| c0 (sBA rfl rfl rfl rfl rfl ((fun h => h)) tS79 (flk rfl) (lb rfl)) <| nL <| tRt ?_
    obtain rfl : r = ((0, []), v1, s2) := by
      rcases hst with ⟨_, e⟩ | ⟨e, _⟩
      ·exact e
      rw [e] at hc25; exact absurd hc25 (by decide)
    refine rCk (.inl rfl) (fun _ _ ho => lBP ho rfl rfl Tryz.underlying79 rfl tS79 (lb rfl) rfl trivial) rfl (po3 rfl rfl rfl)
   obtain ⟨hst1, a, r1, hof, hnode, hrest⟩ := hst.resolve_left (fun hh => by rw [hh.1] at hc25; exact absurd hc25 (by decide))
   have hl1 : (r1.2.1.map eInt).length = (v.map eInt).length := by
     have := mNode_len (fun _ _ _ _ h => (mLL_len u d1).1 _ _ _ _ h) (fun _ _ _ _ _ h => (mLL_len u d1).2 _ _ _ _ _ h) hnode
     rw [← hI3, List.length_map, List.length_map, this]
   refine Tr.heap (σ' := look [(106, some (.box [.pv (vInt 0), .pv (ints [])])), (1001, some (runBox u s2)), (1002, some (rowI (s2).out)), (510, some (rowI v1))]) (lkq [106, 1001, 1002, 510] rfl rfl ⟨rfl, rfl, rfl, rfl, trivial⟩) <| tSk <| tQ <| tG <| sm 3 rfl <| cE rfl (cRr (sc_of v1 x.args a hof (by have := ndW_eq x; omega)) ent65 rfl rfl (sSm (congrArg (fun n => IV.sl 510 n) hI3.symm) (sRf _ _)) (po1 rfl) (by rfl) (fun k (h : _) => (show False from h).elim) rfl (by rfl)) <| sm 1 rfl <| nL <| tQ <| tG <| cE rfl (aLc (k := 110) rfl tZ79 rfl rfl rfl rfl) <| nL ?_
   refine tQ <| tQ <| Tr.subBox (k := 110) [.pv (vInt 0), .pv (ints [])] rfl ⟨ISub.refl _, ISub.pv PSub.nil, trivial⟩ (fun h => h) <| Tr.heap (σ' := look [(110, some (.box [.pv (vInt (((0, []) : Rend)).1), .pv (ints (((0, []) : Rend)).2)])), (106, some (.box [.pv (vInt 0), .pv (ints [])])), (1001, some (runBox u s2)), (1002, some (rowI (s2).out)), (510, some (rowI v1))]) (lkq [110, 106, 1001, 1002, 510] rfl rfl ⟨rfl, rfl, rfl, rfl, rfl, trivial⟩) <| tG <| sm 2 rfl <| nL ?_
   refine Tr.cutR (fr' := [(10, .ptr 110 0), (7, iInt k), (6, .ptr 106 0), (0, .ptr 1001 0), (1, .pv (nodes l)), (2, .sl 510 (v.map eInt).length)]) (σ' := look [(110, some (.box [.pv (vInt (r1.1).1), .pv (ints (r1.1).2)])), (106, some (.box [.pv (vInt 0), .pv (ints [])])), (1001, some (runBox u r1.2.2)), (1002, some (rowI (r1.2.2).out)), (510, some (rowI r1.2.1))]) ?_ ?_
   ·refine tBk <| tQ <| tQ <| tG <| sm 2 rfl <| nL ?_
    refine tC rfl (fun hc53 => ?_) fun hc53 => ?_
    ·refine tSk ?_
     refine tC rfl (fun hd53 => ?_) fun hd53 => ?_
     ·have hk : (x.kind == 1 || x.kind == 2) = true := by first | (rw [hc53]; rfl) | (rw [hc53, Bool.or_true])
      obtain ⟨o, v2, ho, hv0, rfl⟩ := mNode_set hnode hk
      obtain ⟨hx0, hxl, hv2⟩ := setV_some hv0
      obtain ⟨z0, hxg⟩ := row_at hxl
      have hi2 := map_get (f := eInt) ho
      have hxl2 : o.toNat < (v.map eInt).length := by rw [← hI3]; exact hxl
      refine tDr mixed (fun k => k ∈ ([] : List Nat)) <| wR 1 [0, 1, 2, 3, 4, 5, 6, 7] (by kernel_rfl) (fun _ _ _ h => h.elim (fun g => pn g.1) (fun g => g.2)) <| smR 3 rfl <| rV rfl rfl (iSq rfl rfl rfl uT35 hi2 tS3 rfl (by rfl)) <| smR 3 rfl <| rV rfl rfl (iRw rfl rfl rfl rfl hI3 uT35 tS3 hxl2 (by omega)) <| nR <| wO 8 (by kernel_rfl) <| wI rfl rfl nf (nOl rfl) (fun _ _ => ok_store_row rfl rfl rfl rfl hI3 (Nat.add_zero _).symm hxg (by simp) tS3 rfl (by simp)) <| wDn (by kernel_rfl) <| Or.inl ?_
      refine ⟨rfl, Sub.of ⟨rfl, rfl, rfl, rfl, rfl, rfl, trivial⟩, funext (lkq [110, 106, 1001, 1002, 510] rfl rfl ⟨rfl, rfl, rfl, rfl, (by first | rfl | exact congrArg (fun z => some (HO.row _ z)) (by rw [hv2]; exact set_row _ _ _ _ hxg)), trivial⟩)⟩
     exact absurd (hc53.symm.trans hd53) (by decide)
    have hk1 := hc53
    refine tG <| sm 2 rfl <| nL ?_
    refine tC rfl (fun hc53 => ?_) fun hc53 => ?_
    ·have hk : (x.kind == 1 || x.kind == 2) = true := by first | (rw [hc53]; rfl) | (rw [hc53, Bool.or_true])
     obtain ⟨o, v2, ho, hv0, rfl⟩ := mNode_set hnode hk
     obtain ⟨hx0, hxl, hv2⟩ := setV_some hv0
     obtain ⟨z0, hxg⟩ := row_at hxl
     have hi2 := map_get (f := eInt) ho
     have hxl2 : o.toNat < (v.map eInt).length := by rw [← hI3]; exact hxl
     refine tDr mixed (fun k => k ∈ ([] : List Nat)) <| wR 1 [0, 1, 2, 3, 4, 5, 6, 7] (by kernel_rfl) (fun _ _ _ h => h.elim (fun g => pn g.1) (fun g => g.2)) <| smR 3 rfl <| rV rfl rfl (iSq rfl rfl rfl uT35 hi2 tS3 rfl (by rfl)) <| smR 3 rfl <| rV rfl rfl (iRw rfl rfl rfl rfl hI3 uT35 tS3 hxl2 (by omega)) <| nR <| wO 8 (by kernel_rfl) <| wI rfl rfl nf (nOl rfl) (fun _ _ => ok_store_row rfl rfl rfl rfl hI3 (Nat.add_zero _).symm hxg (by simp) tS3 rfl (by simp)) <| wDn (by kernel_rfl) <| Or.inl ?_
     refine ⟨rfl, Sub.of ⟨rfl, rfl, rfl, rfl, rfl, rfl, trivial⟩, funext (lkq [110, 106, 1001, 1002, 510] rfl rfl ⟨rfl, rfl, rfl, rfl, (by first | rfl | exact congrArg (fun z => some (HO.row _ z)) (by rw [hv2]; exact set_row _ _ _ _ hxg)), trivial⟩)⟩
    refine tQ <| tQ ?_
    have hk12 : (x.kind == 1 || x.kind == 2) = false := by rw [hk1, hc53]; rfl
    refine tG <| sm 2 rfl <| nL ?_
    refine tC rfl (fun hc64 => ?_) fun hc64 => ?_
    ·refine tSk ?_
     refine tC rfl (fun hd64 => ?_) fun hd64 => ?_
     ·refine tQ ?_
      have hke : (x.kind == 12 || x.kind == 13 || x.kind == 14 || x.kind == 15) = true := by simp only [hc64, Bool.or_true, Bool.true_or]
      obtain rfl := mNode_end hnode hke
      have hne : (x.kind != 0) = true := by rw [eq_of_beq hc64]; rfl
      simp only [hne, Bool.or_true, if_true] at hrest
      cases hrest
      refine tG <| sm 3 rfl <| cV rfl (bPu rfl rfl tZ79 tP79 rfl (fbk rfl) rfl) <| c0 (sBA rfl rfl rfl rfl rfl ((fun h => h)) tS79 (flk rfl) (lb rfl)) <| nL <| tRt ?_
      refine Or.inr ⟨Exit.noConfusion, ?_⟩
      refine rCk (.inl rfl) (fun _ _ ho => lBP ho rfl rfl Tryz.underlying79 rfl tS79 (lb rfl) rfl trivial) rfl (po3 rfl rfl rfl)
     exact absurd (hc64.symm.trans hd64) (by decide)
    refine tQ ?_
    have hk3 := hc64
    refine tG <| sm 2 rfl <| nL ?_
    refine tC rfl (fun hc64 => ?_) fun hc64 => ?_
    ·refine tSk ?_
     refine tC rfl (fun hd64 => ?_) fun hd64 => ?_
     ·refine tQ ?_
      have hke : (x.kind == 12 || x.kind == 13 || x.kind == 14 || x.kind == 15) = true := by simp only [hc64, Bool.or_true, Bool.true_or]
      obtain rfl := mNode_end hnode hke
      have hne : (x.kind != 0) = true := by rw [eq_of_beq hc64]; rfl
      simp only [hne, Bool.or_true, if_true] at hrest
      cases hrest
      refine tG <| sm 3 rfl <| cV rfl (bPu rfl rfl tZ79 tP79 rfl (fbk rfl) rfl) <| c0 (sBA rfl rfl rfl rfl rfl ((fun h => h)) tS79 (flk rfl) (lb rfl)) <| nL <| tRt ?_
      refine Or.inr ⟨Exit.noConfusion, ?_⟩
      refine rCk (.inl rfl) (fun _ _ ho => lBP ho rfl rfl Tryz.underlying79 rfl tS79 (lb rfl) rfl trivial) rfl (po3 rfl rfl rfl)
     exact absurd (hc64.symm.trans hd64) (by decide)
    refine tQ ?_
    have hk4 := hc64
    refine tG <| sm 2 rfl <| nL ?_
    refine tC rfl (fun hc64 => ?_) fun hc64 => ?_
    ·refine tSk ?_
     refine tC rfl (fun hd64 => ?_) fun hd64 => ?_
     ·refine tQ ?_
      have hke : (x.kind == 12 || x.kind == 13 || x.kind == 14 || x.kind == 15) = true := by simp only [hc64, Bool.or_true, Bool.true_or]
      obtain rfl := mNode_end hnode hke
      have hne : (x.kind != 0) = true := by rw [eq_of_beq hc64]; rfl
      simp only [hne, Bool.or_true, if_true] at hrest
      cases hrest
      refine tG <| sm 3 rfl <| cV rfl (bPu rfl rfl tZ79 tP79 rfl (fbk rfl) rfl) <| c0 (sBA rfl rfl rfl rfl rfl ((fun h => h)) tS79 (flk rfl) (lb rfl)) <| nL <| tRt ?_
      refine Or.inr ⟨Exit.noConfusion, ?_⟩
      refine rCk (.inl rfl) (fun _ _ ho => lBP ho rfl rfl Tryz.underlying79 rfl tS79 (lb rfl) rfl trivial) rfl (po3 rfl rfl rfl)
     exact absurd (hc64.symm.trans hd64) (by decide)
    have hk5 := hc64
    refine tG <| sm 2 rfl <| nL ?_
    refine tC rfl (fun hc64 => ?_) fun hc64 => ?_
    ·refine tQ ?_
     have hke : (x.kind == 12 || x.kind == 13 || x.kind == 14 || x.kind == 15) = true := by simp only [hc64, Bool.or_true, Bool.true_or]
     obtain rfl := mNode_end hnode hke
     have hne : (x.kind != 0) = true := by rw [eq_of_beq hc64]; rfl
     simp only [hne, Bool.or_true, if_true] at hrest
     cases hrest
     refine tG <| sm 3 rfl <| cV rfl (bPu rfl rfl tZ79 tP79 rfl (fbk rfl) rfl) <| c0 (sBA rfl rfl rfl rfl rfl ((fun h => h)) tS79 (flk rfl) (lb rfl)) <| nL <| tRt ?_
     refine Or.inr ⟨Exit.noConfusion, ?_⟩
     refine rCk (.inl rfl) (fun _ _ ho => lBP ho rfl rfl Tryz.underlying79 rfl tS79 (lb rfl) rfl trivial) rfl (po3 rfl rfl rfl)
    refine tQ ?_
    have hke : (x.kind == 12 || x.kind == 13 || x.kind == 14 || x.kind == 15) = false := by rw [hk3, hk4, hk5, hc64]; rfl
    refine tG <| sm 2 rfl <| nL ?_
    refine tC rfl (fun hc73 => ?_) fun hc73 => ?_
    ·refine tQ ?_
     obtain ⟨a0, q, r2, ha0, hq, hlist, hcont⟩ := mNode_if hnode hc73
     have hi0 := map_get (f := eInt) ha0
     have hl2 : (r2.2.1.map eInt).length = (v.map eInt).length := by rw [← hI3]; simp [mList_len hlist]
     refine tG <| sm 1 rfl <| nL <| tQ <| tQ <| tG <| sm 1 rfl <| cV rfl (iSq rfl rfl rfl uT35 hi0 tS3 rfl (by rfl)) <| sm 2 rfl <| nL ?_
     refine tC rfl (fun hc78 => ?_) fun hc78 => ?_
     ·rw [if_pos hc78] at hq
      have hi1 := map_get (f := eKid) hq
      have hqb : lsW q ≤ 1073741824 := by have := kdW_mem (List.mem_of_getElem? hq); have := ndW_eq x; omega
      refine tG <| sm 1 rfl <| nL <| tQ <| tG <| sm 4 rfl <| cV rfl (iSq rfl rfl rfl uT40 hi1 tS43 rfl (by rfl)) <| sm 2 rfl <| cE rfl (cRr (ihL d1 (by omega) q v1 s2 r2 hlist hqb) ent45 rfl rfl (sSm rfl (sSm rfl (sSm (congrArg (fun n => IV.sl 510 n) hI3.symm) Subs.nil))) (po3 rfl rfl rfl) (by rfl) (fun k (h : _) => .inr h) rfl (by rfl)) <| c0 (sBA rfl rfl rfl rfl rfl ((fun h => h)) tS79 (flk rfl) (lb rfl)) <| nL <| tQ ?_
      refine tG <| sm 1 rfl <| cE rfl (ocr (sc_over u r2.2.2) ent31 rfl (po2 rfl rfl) rfl (fun k (h : _) => .inr trivial) rfl rfl) <| sm 2 rfl ?_
      refine wS 90 rfl (fun hb90 => ?_) fun hb90 => ?_
      ·refine sm 4 rfl <| nL ?_
       refine tC rfl (fun hc94 => ?_) fun hc94 => ?_
       ·have hcd : (!mOver r2.2.2 && r2.1.1 == 12) = true := by rw [hb90, hc94]; rfl
        rw [if_pos hcd, Option.map_eq_some_iff] at hcont
        obtain ⟨v3, hset, rfl⟩ := hcont
        refine tQ <| tG <| sm 5 rfl <| cE rfl (cRr (sc_set r2.2.1 x.outs r2.1.2 v3 hset) ent66 rfl rfl (sSm (congrArg (fun n => IV.sl 510 n) hl2.symm) (sRf _ _)) (po1 rfl) (by rfl) (fun k (h : _) => .inr h) rfl (by rfl)) <| nL <| tG <| cV rfl (bPu rfl rfl tZ79 tP79 rfl (fbk rfl) rfl) <| WL.sub (Sub.cons2 (fun _ _ _ _ h => sub_pv end_nil h) Sub.rfl') <| c0 (sBA rfl rfl rfl rfl rfl ((fun h => h)) tS79 (flk rfl) (lb rfl)) <| nL <| Or.inl ?_
        refine ⟨rfl, Sub.of ⟨rfl, rfl, rfl, rfl, rfl, rfl, trivial⟩, funext (lkq [110, 106, 1001, 1002, 510] rfl rfl ⟨rfl, rfl, rfl, rfl, (by first | rfl | exact congrArg (fun z => some (HO.row _ z)) (by rw [hv2]; exact set_row _ _ _ _ hxg)), trivial⟩)⟩
       have hcd : (!mOver r2.2.2 && r2.1.1 == 12) = false := by first | (rw [hb90, hc94]; rfl) | (rw [hb90]; rfl)
       rw [if_neg (by rw [hcd]; decide)] at hcont
       cases hcont
       refine tSk <| Or.inl ?_
       refine ⟨rfl, Sub.of ⟨rfl, rfl, rfl, rfl, rfl, rfl, trivial⟩, funext (lkq [110, 106, 1001, 1002, 510] rfl rfl ⟨rfl, rfl, rfl, rfl, (by first | rfl | exact congrArg (fun z => some (HO.row _ z)) (by rw [hv2]; exact set_row _ _ _ _ hxg)), trivial⟩)⟩
      refine sm 4 rfl <| nL <| Tr.condF rfl ?_
      have hcd : (!mOver r2.2.2 && r2.1.1 == 12) = false := by first | (rw [hb90, hc94]; rfl) | (rw [hb90]; rfl)
      rw [if_neg (by rw [hcd]; decide)] at hcont
      cases hcont
      refine tSk <| Or.inl ?_
      refine ⟨rfl, Sub.of ⟨rfl, rfl, rfl, rfl, rfl, rfl, trivial⟩, funext (lkq [110, 106, 1001, 1002, 510] rfl rfl ⟨rfl, rfl, rfl, rfl, (by first | rfl | exact congrArg (fun z => some (HO.row _ z)) (by rw [hv2]; exact set_row _ _ _ _ hxg)), trivial⟩)⟩
     rw [if_neg (by rw [hc78]; decide)] at hq
     have hi1 := map_get (f := eKid) hq
     have hqb : lsW q ≤ 1073741824 := by have := kdW_mem (List.mem_of_getElem? hq); have := ndW_eq x; omega
     refine tSk <| tQ <| tG <| sm 4 rfl <| cV rfl (iSq rfl rfl rfl uT40 hi1 tS43 rfl (by rfl)) <| sm 2 rfl <| cE rfl (cRr (ihL d1 (by omega) q v1 s2 r2 hlist hqb) ent45 rfl rfl (sSm rfl (sSm rfl (sSm (congrArg (fun n => IV.sl 510 n) hI3.symm) Subs.nil))) (po3 rfl rfl rfl) (by rfl) (fun k (h : _) => .inr h) rfl (by rfl)) <| c0 (sBA rfl rfl rfl rfl rfl ((fun h => h)) tS79 (flk rfl) (lb rfl)) <| nL <| tQ <| tG <| sm 1 rfl ?_
     refine cE rfl (ocr (sc_over u r2.2.2) ent31 rfl (po2 rfl rfl) rfl (fun k (h : _) => .inr trivial) rfl rfl) <| sm 2 rfl ?_
     refine wS 90 rfl (fun hb90 => ?_) fun hb90 => ?_
     ·refine sm 4 rfl <| nL ?_
      refine tC rfl (fun hc94 => ?_) fun hc94 => ?_
      ·have hcd : (!mOver r2.2.2 && r2.1.1 == 12) = true := by rw [hb90, hc94]; rfl
       rw [if_pos hcd, Option.map_eq_some_iff] at hcont
       obtain ⟨v3, hset, rfl⟩ := hcont
       refine tQ <| tG <| sm 5 rfl <| cE rfl (cRr (sc_set r2.2.1 x.outs r2.1.2 v3 hset) ent66 rfl rfl (sSm (congrArg (fun n => IV.sl 510 n) hl2.symm) (sRf _ _)) (po1 rfl) (by rfl) (fun k (h : _) => .inr h) rfl (by rfl)) <| nL <| tG <| cV rfl (bPu rfl rfl tZ79 tP79 rfl (fbk rfl) rfl) <| WL.sub (Sub.cons2 (fun _ _ _ _ h => sub_pv end_nil h) Sub.rfl') <| c0 (sBA rfl rfl rfl rfl rfl ((fun h => h)) tS79 (flk rfl) (lb rfl)) <| nL <| Or.inl ?_
       refine ⟨rfl, Sub.of ⟨rfl, rfl, rfl, rfl, rfl, rfl, trivial⟩, funext (lkq [110, 106, 1001, 1002, 510] rfl rfl ⟨rfl, rfl, rfl, rfl, (by first | rfl | exact congrArg (fun z => some (HO.row _ z)) (by rw [hv2]; exact set_row _ _ _ _ hxg)), trivial⟩)⟩
      have hcd : (!mOver r2.2.2 && r2.1.1 == 12) = false := by first | (rw [hb90, hc94]; rfl) | (rw [hb90]; rfl)
      rw [if_neg (by rw [hcd]; decide)] at hcont
      cases hcont
      refine tSk <| Or.inl ?_
      refine ⟨rfl, Sub.of ⟨rfl, rfl, rfl, rfl, rfl, rfl, trivial⟩, funext (lkq [110, 106, 1001, 1002, 510] rfl rfl ⟨rfl, rfl, rfl, rfl, (by first | rfl | exact congrArg (fun z => some (HO.row _ z)) (by rw [hv2]; exact set_row _ _ _ _ hxg)), trivial⟩)⟩
     refine sm 4 rfl <| nL <| Tr.condF rfl ?_
     have hcd : (!mOver r2.2.2 && r2.1.1 == 12) = false := by first | (rw [hb90, hc94]; rfl) | (rw [hb90]; rfl)
     rw [if_neg (by rw [hcd]; decide)] at hcont
     cases hcont
     refine tSk <| Or.inl ?_
     refine ⟨rfl, Sub.of ⟨rfl, rfl, rfl, rfl, rfl, rfl, trivial⟩, funext (lkq [110, 106, 1001, 1002, 510] rfl rfl ⟨rfl, rfl, rfl, rfl, (by first | rfl | exact congrArg (fun z => some (HO.row _ z)) (by rw [hv2]; exact set_row _ _ _ _ hxg)), trivial⟩)⟩
    refine tQ ?_
    have hk10 := hc73
    refine tG <| sm 2 rfl <| nL ?_
    refine tC rfl (fun hc102 => ?_) fun hc102 => ?_
    ·have hlp := mNode_loop hnode hc102
     refine tG <| sm 1 rfl <| cV rfl (lEA rfl rfl uT42 rfl tS42 (lb rfl)) <| sm 2 rfl <| cE rfl (cRr (sc_loop u D ihL d1 (by omega) x hxb v1 a s2 r1 hlp) ent67 rfl rfl (sSm rfl (sSm rfl (sSm (congrArg (fun n => IV.sl 510 n) hI3.symm) (sRf _ _)))) (po3 rfl rfl rfl) (by rfl) (fun k (h : _) => .inr h) rfl (by rfl)) <| c0 (sBA rfl rfl rfl rfl rfl ((fun h => h)) tS79 (flk rfl) (lb rfl)) <| nL <| Or.inl ?_
     refine ⟨rfl, Sub.of ⟨rfl, rfl, rfl, rfl, rfl, rfl, trivial⟩, funext (lkq [110, 106, 1001, 1002, 510] rfl rfl ⟨rfl, rfl, rfl, rfl, (by first | rfl | exact congrArg (fun z => some (HO.row _ z)) (by rw [hv2]; exact set_row _ _ _ _ hxg)), trivial⟩)⟩
    refine tQ ?_
    obtain ⟨q1, hsum, hcont⟩ := mNode_sum hnode hk12 hke hk10 hc102
    refine tG <| sm 1 rfl <| cV rfl (lEA rfl rfl uT42 rfl tS42 (lb rfl)) <| sm 1 rfl <| cE rfl (ocr (sc_sum u hu D ihC d1 (by omega) x a s2 q1 hsum) ent68 rfl (po2 rfl rfl) rfl (fun k (h : _) => .inr h) rfl rfl) <| sm 1 rfl <| nL <| tQ <| tG <| sm 1 rfl <| cE rfl (ocr (sc_over u q1.2) ent31 rfl (po2 rfl rfl) rfl (fun k (h : _) => .inr trivial) rfl rfl) <| sm 2 rfl ?_
    refine wS 40 rfl (fun hb40 => ?_) fun hb40 => ?_
    ·refine sm 2 rfl <| yV rfl rfl (oSm uT35 rfl) <| sm 2 rfl <| nL ?_
     refine tC rfl (fun hc45 => ?_) fun hc45 => ?_
     ·have h0 : 0 < x.outs.length := by simpa using hc45
      rw [if_pos (by rw [hb40, decide_eq_true h0]; rfl)] at hcont
      simp only [Option.bind_eq_some_iff, Option.map_eq_some_iff] at hcont
      obtain ⟨o, ho, v2, hv0, rfl⟩ := hcont
      obtain ⟨hx0, hxl, hv2⟩ := setV_some hv0
      obtain ⟨z0, hxg⟩ := row_at hxl
      have hi2 := map_get (f := eInt) ho
      have hxl2 : o.toNat < (v.map eInt).length := by rw [← hI3]; exact hxl
      refine tG <| sm 3 rfl <| cV rfl (iSq rfl rfl rfl uT35 hi2 tS3 rfl (by rfl)) <| sm 2 rfl <| cV rfl (iRw rfl rfl rfl rfl hI3 uT35 tS3 hxl2 (by omega)) <| c0 (ok_store_row rfl rfl rfl rfl hI3 (Nat.add_zero _).symm hxg (by simp) tS3 rfl (by simp)) <| nL <| Or.inl ?_
      refine ⟨rfl, Sub.of ⟨rfl, rfl, rfl, rfl, rfl, rfl, trivial⟩, funext (lkq [110, 106, 1001, 1002, 510] rfl rfl ⟨rfl, rfl, rfl, rfl, (by first | rfl | exact congrArg (fun z => some (HO.row _ z)) (by rw [hv2]; exact set_row _ _ _ _ hxg)), trivial⟩)⟩
     have hcd : (!mOver q1.2 && decide (0 < x.outs.length)) = false := by first | (rw [hb40]; rfl) | (rw [hb40]; simpa using hc45)
     rw [if_neg (by rw [hcd]; decide)] at hcont
     cases hcont
     refine tSk <| Or.inl ?_
     refine ⟨rfl, Sub.of ⟨rfl, rfl, rfl, rfl, rfl, rfl, trivial⟩, funext (lkq [110, 106, 1001, 1002, 510] rfl rfl ⟨rfl, rfl, rfl, rfl, (by first | rfl | exact congrArg (fun z => some (HO.row _ z)) (by rw [hv2]; exact set_row _ _ _ _ hxg)), trivial⟩)⟩
    refine sm 5 rfl <| nL <| Tr.condF rfl ?_
    have hcd : (!mOver q1.2 && decide (0 < x.outs.length)) = false := by first | (rw [hb40]; rfl) | (rw [hb40]; simpa using hc45)
    rw [if_neg (by rw [hcd]; decide)] at hcont
    cases hcont
    refine tSk <| Or.inl ?_
    refine ⟨rfl, Sub.of ⟨rfl, rfl, rfl, rfl, rfl, rfl, trivial⟩, funext (lkq [110, 106, 1001, 1002, 510] rfl rfl ⟨rfl, rfl, rfl, rfl, (by first | rfl | exact congrArg (fun z => some (HO.row _ z)) (by rw [hv2]; exact set_row _ _ _ _ hxg)), trivial⟩)⟩
   refine tQ <| tG <| sm 1 rfl <| cE rfl (ocr (sc_over u r1.2.2) ent31 rfl (po2 rfl rfl) rfl (fun k (h : _) => .inr trivial) rfl rfl) <| sm 1 rfl ?_
   refine wS 111 rfl (fun hb111 => ?_) fun hb111 => ?_
   ·refine sm 4 rfl <| nL <| Tr.condT rfl ?_
    have hov : (mOver r1.2.2 || r1.1.1 != 0) = true := by first | (rw [hb111]; rfl) | (rw [hc115, Bool.or_true])
    rw [if_pos hov] at hrest
    obtain rfl : r1 = r := by injection hrest
    refine tQ <| tG <| cV rfl (lBP rfl rfl rfl Tryz.underlying79 rfl tS79 (lb rfl) rfl trivial) <| c0 (sBA rfl rfl rfl rfl rfl ((fun h => h)) tS79 (flk rfl) (lb rfl)) <| nL <| tRt <| rCk (.inl rfl) (fun _ _ ho => lBP ho rfl rfl Tryz.underlying79 rfl tS79 (lb rfl) rfl trivial) rfl (po3 rfl rfl rfl)
   refine sm 4 rfl <| nL ?_
   refine tC rfl (fun hc115 => ?_) fun hc115 => ?_
   ·have hov : (mOver r1.2.2 || r1.1.1 != 0) = true := by first | (rw [hb111]; rfl) | (rw [hc115, Bool.or_true])
    rw [if_pos hov] at hrest
    obtain rfl : r1 = r := by injection hrest
    refine tQ <| tG <| cV rfl (lBP rfl rfl rfl Tryz.underlying79 rfl tS79 (lb rfl) rfl trivial) <| c0 (sBA rfl rfl rfl rfl rfl ((fun h => h)) tS79 (flk rfl) (lb rfl)) <| nL <| tRt <| rCk (.inl rfl) (fun _ _ ho => lBP ho rfl rfl Tryz.underlying79 rfl tS79 (lb rfl) rfl trivial) rfl (po3 rfl rfl rfl)
   rw [if_neg (by rw [hb111, hc115]; decide)] at hrest
   refine tSk <| Tr.drop (k := 110) <| tG <| sm 1 rfl <| cV rfl (oB rfl rfl (i64_add rfl (by omega))) <| sm 1 rfl <| nL ?_
   refine ⟨_, _, ?_, Sub.of (fr' := [(7, iInt (k + 1)), (6, .ptr 106 0), (0, .ptr 1001 0), (1, .pv (nodes l)), (2, .sl 510 (v.map eInt).length)]) ⟨rfl, rfl, rfl, rfl, rfl, trivial⟩, (k + 1), d1, r1.2.1, r1.2.2, ?_, ?_, ?_, ?_, rfl, (funext (lkq [110, 106, 1001, 1002, 510] rfl rfl ⟨rfl, rfl, rfl, rfl, rfl, trivial⟩)), rfl⟩
   ·omega
   ·omega
   ·omega
   ·exact hrest
   exact hl1
  refine tEx <| tQ ?_
  have hge : l.length ≤ k := by simpa using hc16
  rw [List.drop_eq_nil_of_le hge] at hI2
  obtain rfl := mList_nil hI2
  refine tG <| cV rfl (bPu rfl rfl tZ79 tP79 rfl (fbk rfl) rfl) <| WL.sub (Sub.cons2 (fun _ _ _ _ h => sub_pv end_nil h) Sub.rfl') <| c0 (sBA rfl rfl rfl rfl rfl ((fun h => h)) tS79 (flk rfl) (lb rfl)) <| nL <| tRt <| rCk (.inl rfl) (fun _ _ ho => lBP ho rfl rfl Tryz.underlying79 rfl tS79 (lb rfl) rfl trivial) rfl (po3 rfl rfl rfl)
theorem copy_step {a : List Int} {i n : Nat} {x : Int} (hx : a[i]? = some x) (hn : a.length ≤ n) : (a.take i ++ List.replicate (n - i) 0).set i x = a.take (i + 1) ++ List.replicate (n - (i + 1)) 0 := by
  have hi : i < a.length := (List.getElem?_eq_some_iff.1 hx).1
  have hl : (a.take i).length = i := by rw [List.length_take]; omega
  rw [List.set_append_right _ _ (by omega), hl, Nat.sub_self, show n - i = (n - (i + 1)) + 1 by omega, List.replicate_succ, List.set_cons_zero, List.take_add_one, hx]
  simp
theorem sc_call0 (u : Un) (hub : ∀ f ∈ u.flows, lsW f.body ≤ 1073741824) (D : Nat) (ihL : SCL u D) (d : Nat) (hd : d ≤ D) (k : Int) (a : List Int) (s : Rs) (r : Int × Rs) (h : mCall u d k a s = some r) : SC Tryz.prog 29 [.ptr 1001 0, iInt k, .pv (ints a)] (runH u s) (fun _ => False) (iInt r.1) (runH u r.2) := by
  refine SC.of Tryz.func29 rfl (lb rfl) fun F ρ w => ?_
  refine Tr.lenOf (t := 2) rfl (fun hl => ?_)
  simp only [List.length_map] at hl
  obtain ⟨d1, f, r1, rfl, hk0, hf, hal, hfl, hlist, rfl⟩ := mCall_step h
  have hif := map_get (f := Fl.enc) hf
  have hfb := hub f (List.mem_of_getElem? hf)
  refine tQ <| tG <| sm 1 rfl <| nL <| tQ <| tG <| sm 1 rfl <| cV rfl (nCk rfl rfl rfl) <| sm 4 rfl <| cV rfl (iSq rfl rfl rfl uT23 hif tS51 rfl (by omega)) <| cV rfl (lEA rfl rfl Tryz.underlying51 rfl tS51 (lb rfl)) <| cE rfl (aLc (k := 107) rfl tZ51 rfl rfl rfl rfl) ?_
  refine c0 (sBA rfl rfl rfl rfl rfl ((fun h => h)) tS51 (flk rfl) (lb rfl)) <| nL <| tQ <| Tr.freezeBox (t := 7) (k := 107) rfl rfl rfl <| tG <| sm 2 rfl <| cV rfl (oSm uT35 rfl) <| cE rfl (ok_makeSlice (k := 510) (s := ⟨3, 1⟩) rfl rfl rfl uT35 tZ3 tC3 rfl (by decide) (by omega) (by omega) rfl rfl rfl rfl) <| sm 1 rfl <| nL <| tQ <| tQ ?_
  refine tG <| sm 1 rfl <| nL <| tBk <| Tr.sub (Sub.of (fr' := [(9, iInt 0), (8, .sl 510 f.types.length), (7, .pv (.ept [vStr f.name, vInt f.ty, vInt f.params, ints f.types, nodes f.body] 0)), (0, .ptr 1001 0), (2, .pv (ints a))]) ⟨rfl, rfl, rfl, rfl, rfl, trivial⟩) <| Tr.heap (σ' := look [(1001, some (runBox u s)), (1002, some (rowI (s).out)), (510, some (rowI (a.take 0 ++ List.replicate (f.types.length - 0) 0)))]) (lkq [107, 1001, 1002, 510] rfl rfl ⟨rfl, rfl, rfl, (by exact congrArg (fun z => some (HO.row _ z)) (by rw [List.take_zero, List.nil_append, Nat.sub_zero, List.map_replicate]; rfl)), trivial⟩) ?_
  refine Tr.loop (fun fr σ m => ∃ (i : Nat), (i ≤ a.length) ∧ fr = [(9, iInt i), (8, .sl 510 f.types.length), (7, .pv (.ept [vStr f.name, vInt f.ty, vInt f.params, ints f.types, nodes f.body] 0)), (0, .ptr 1001 0), (2, .pv (ints a))] ∧ σ = look [(1001, some (runBox u s)), (1002, some (rowI (s).out)), (510, some (rowI (a.take i ++ List.replicate (f.types.length - i) 0)))] ∧ m = a.length - i) (n := a.length - 0) ?_ ?_
  ·exact ⟨0, Nat.zero_le _, rfl, rfl, rfl⟩
  rintro fr σ m ⟨i, hI0, rfl, rfl, rfl⟩
  refine tQ <| tQ <| tG <| sm 2 rfl <| cV rfl (oSm uT35 rfl) <| sm 1 rfl <| nL ?_
  refine tC rfl (fun hc26 => ?_) fun hc26 => ?_
  ·have hlt : i < a.length := by simpa using hc26
   have hil : i < f.types.length := by omega
   obtain ⟨x, hx⟩ : ∃ x, a[i]? = some x := ⟨_, List.getElem?_eq_getElem hlt⟩
   have hi := map_get (f := eInt) hx
   have hvl : ((a.take i ++ List.replicate (f.types.length - i) 0).map eInt).length = f.types.length := by simp; omega
   obtain ⟨z0, hxg⟩ := row_at (v := (a.take i ++ List.replicate (f.types.length - i) 0)) (i := i) (by rw [hvl]; omega)
   refine tSk <| tQ <| tBk <| tG <| sm 4 rfl <| cV rfl (iSq rfl rfl rfl uT35 hi tS3 rfl (by rfl)) <| sm 1 rfl <| cV rfl (iRw rfl rfl rfl rfl hvl uT35 tS3 hil rfl) <| c0 (ok_store_row rfl rfl rfl rfl hvl (Nat.add_zero _).symm hxg (by simp) tS3 rfl (by simp)) <| nL <| tG <| sm 1 rfl ?_
   refine cV rfl (oB rfl rfl (i64_add rfl (by omega))) <| sm 1 rfl <| nL ?_
   refine ⟨_, _, ?_, Sub.of (fr' := [(9, iInt (i + 1)), (8, .sl 510 f.types.length), (7, .pv (.ept [vStr f.name, vInt f.ty, vInt f.params, ints f.types, nodes f.body] 0)), (0, .ptr 1001 0), (2, .pv (ints a))]) ⟨rfl, rfl, rfl, rfl, rfl, trivial⟩, (i + 1), ?_, rfl, (funext (lkq [1001, 1002, 510] rfl rfl ⟨rfl, rfl, (congrArg (fun z => some (HO.row _ z)) ((set_row _ _ _ _ hxg).trans (congrArg (List.map eInt) (copy_step hx hal)))), trivial⟩)), rfl⟩
   ·omega
   omega
  refine tEx <| tQ ?_
  have he : (a.take i ++ List.replicate (f.types.length - i) 0) = a ++ List.replicate (f.types.length - a.length) 0 := by
    have hge : a.length ≤ i := by simpa using hc26
    obtain rfl : i = a.length := by omega
    rw [List.take_length]
  rw [he]
  have hvl2 : ((a ++ List.replicate (f.types.length - a.length) 0).map eInt).length = f.types.length := by simp; omega
  refine tG <| sm 4 rfl <| cE rfl (cRr (ihL d1 (by omega) f.body (a ++ List.replicate (f.types.length - a.length) 0) s r1 hlist hfb) ent45 rfl rfl (sSm rfl (sSm rfl (sSm (congrArg (fun n => IV.sl 510 n) hvl2.symm) Subs.nil))) (po3 rfl rfl rfl) (by rfl) (fun k (h : _) => .inr h) rfl (by rfl)) <| cE rfl (aLc (k := 110) rfl tZ79 rfl rfl rfl rfl) <| c0 (sBA rfl rfl rfl rfl rfl ((fun h => h)) tS79 (flk rfl) (lb rfl)) <| nL <| tQ <| tQ <| tG <| sm 1 rfl <| cE rfl (ocr (sc_over u r1.2.2) ent31 rfl (po2 rfl rfl) rfl (fun k (h : _) => .inr trivial) rfl rfl) <| sm 1 rfl ?_
  refine wS 43 rfl (fun hb43 => ?_) fun hb43 => ?_
  ·refine sm 5 rfl <| nL <| Tr.condT rfl <| tQ <| tG <| sm 1 rfl <| nL <| tRt <| rOk rfl ?_ (po2 rfl rfl)
   (rw [if_pos hb43]; done)
  refine sm 2 rfl <| yV rfl rfl (oSm uT35 rfl) <| sm 2 rfl <| nL ?_
  refine tC rfl (fun hc48 => ?_) fun hc48 => ?_
  ·refine tQ <| tG <| sm 1 rfl <| nL <| tRt <| rOk rfl ?_ (po2 rfl rfl)
   (have hz : r1.1.2 = [] := by simpa using hc48
    rw [hz]
    split <;> rfl)
  obtain ⟨x, q, hxq⟩ : ∃ x q, r1.1.2 = x :: q := by
    cases hz : r1.1.2 with
    | nil => rw [hz] at hc48; simp at hc48
    | cons x q => exact ⟨x, q, rfl⟩
  have hi0 : (r1.1.2.map eInt)[0]? = some (eInt x) := by rw [hxq]; rfl
  refine tSk <| tQ <| tG <| sm 2 rfl <| cV rfl (iSq rfl rfl rfl uT35 hi0 tS3 rfl (by rfl)) <| sm 2 rfl <| nL <| tRt <| rOk rfl ?_ (po2 rfl rfl)
  rw [if_neg (by rw [hb43]; decide), hxq]
  rfl
theorem sc_run_all (u : Un) (hu : u.arrays = []) (hub : ∀ f ∈ u.flows, lsW f.body ≤ 1073741824) : ∀ D, SCC u D ∧ SCL u D
  | 0 => ⟨fun _ h => absurd h (Nat.not_lt_zero _), fun _ h => absurd h (Nat.not_lt_zero _)⟩
  | D + 1 => ⟨fun d hd k a s r h => sc_call0 u hub D (sc_run_all u hu hub D).2 d (Nat.le_of_lt_succ hd) k a s r h,
      fun d hd l v s r h hb => sc_list0 u hu D (sc_run_all u hu hub D).1 (sc_run_all u hu hub D).2 d (Nat.le_of_lt_succ hd) l v s r h hb⟩
def run0 (ins : List Int) (fuel : Int) : Rs := { ins := ins, ar := [], st := 0, code := 0, out := [], cost := 0, fuel := if fuel < 0 then 0 else fuel, spent := false }
def mEnd (r : Int × Rs) : Rs := if mOver r.2 then r.2 else { r.2 with st := 1, code := r.1 }
def runv (s : Rs) : PV := .agg [vInt s.st, vInt s.code, ints s.out, vInt s.cost, vInt s.fuel]
theorem sc_run0 (u : Un) (hu : u.arrays = []) (hW : r8Weight u ≤ 536870912) (hz : (r8Check u).1 = 0) (ins : List Int) (fuel : Int) (d : Nat) (r : Int × Rs) (h : mCall u d (r8Place mainName u.flows 0) [] (run0 ins fuel) = some r) : SC Tryz.prog 17 [.pv u.enc, .pv (ints ins), iInt fuel] [] (fun _ => False) (.pv (runv (mEnd r))) [] := by
  refine SC.ofC Tryz.func17 rfl (lb rfl) rfl fun F ρ w => ?_
  have hub : ∀ f ∈ u.flows, lsW f.body ≤ 1073741824 := fun f hf => Nat.le_trans (flow_le hW hf) (by omega)
  have hcall := (sc_run_all u hu hub (d + 1)).1 d (Nat.lt_succ_self d) _ _ _ _ h
  refine tQ <| tG <| cE rfl (ok_box rfl rfl) <| cE rfl (aLc (k := 106) rfl tZ46 rfl rfl rfl rfl) <| nL <| tQ <| tQ <| tG <| cV rfl (lEA rfl rfl uT25 rfl tS25 (lb rfl)) <| cE rfl (ocq (sc_r8Check u hW) ent19 rfl rfl) <| sm 1 rfl <| cV rfl (ok_extract rfl rfl rfl) ?_
  refine cV rfl (ok_extract rfl rfl rfl) <| sm 2 rfl <| nL <| tQ <| tG <| sm 2 rfl <| nL ?_
  refine tC rfl (fun hc18 => ?_) fun hc18 => ?_
  ·exact absurd hc18 (by rw [hz]; decide)
  refine tSk <| tQ <| tG <| cV rfl (lEA rfl rfl uT25 rfl tS25 (lb rfl)) <| sm 2 rfl <| cV rfl (ok_max rfl rfl rfl) <| cV rfl (bPu rfl rfl tZ46 tP46 rfl (fbk rfl) rfl) <| cV rfl (bPu rfl rfl tZ67 tP67 rfl (fbk rfl) rfl) <| cE rfl (ok_boxOwnP (k := 1001) rfl rfl rfl rfl rfl rfl) <| sm 1 rfl <| nL <| tQ ?_
  refine tQ <| Tr.growCell (k := 1002) (k2 := 1001) (j := 6) ⟨3, 1⟩ rfl rfl rfl rfl rfl rfl <| tG <| sm 1 rfl <| nL <| tBk <| Tr.sub (Sub.of (fr' := [(10, iInt 0), (9, .ptr 1001 0), (6, .ptr 106 0), (3, .pv (.ept [arrs u.arrays, flws u.flows] 0))]) ⟨rfl, rfl, rfl, rfl, trivial⟩) <| Tr.heap (σ' := look [(106, some (.box [iInt 0, iInt 0, .pv (.val (.slice none 0 0)), iInt 0, iInt 0])), (1001, some (runBox u (run0 ins fuel))), (1002, some (rowI []))]) (lkq [106, 1001, 1002] rfl rfl ⟨rfl, rfl, rfl, trivial⟩) ?_
  refine Tr.loop (fun fr σ m => fr = [(10, iInt 0), (9, .ptr 1001 0), (6, .ptr 106 0), (3, .pv (.ept [arrs u.arrays, flws u.flows] 0))] ∧ σ = look [(106, some (.box [iInt 0, iInt 0, .pv (.val (.slice none 0 0)), iInt 0, iInt 0])), (1001, some (runBox u (run0 ins fuel))), (1002, some (rowI []))] ∧ m = 0) (n := 0) ?_ ?_
  ·exact ⟨rfl, rfl, rfl⟩
  rintro fr σ m ⟨rfl, rfl, rfl⟩
  refine tQ <| tQ <| tG <| sm 3 rfl <| cV rfl (oSm Tryz.underlying22 rfl) <| sm 1 rfl <| nL ?_
  refine tC rfl (fun hc31 => ?_) fun hc31 => ?_
  ·exact absurd hc31 (by rw [hu]; simp)
  refine tEx <| tQ <| tG <| sm 1 rfl <| cV rfl (lEA rfl rfl uT25 rfl tS25 (lb rfl)) <| cE rfl (ocq (sc_r8Place _ _) ent30 rfl rfl) <| cE rfl (cRr (hcall) ent29 rfl rfl (sSm rfl (sSm rfl (Subs.cons (fun _ _ _ _ h => sub_pv PSub.nil h) Subs.nil))) (po2 rfl rfl) (by rfl) (fun k (h : _) => .inr h) rfl (by rfl)) <| sm 1 rfl <| nL <| tQ <| tQ <| tG ?_
  refine sm 1 rfl <| cE rfl (ocr (sc_over u r.2) ent31 rfl (po2 rfl rfl) rfl (fun k (h : _) => .inr trivial) rfl rfl) <| sm 1 rfl <| nL ?_
  refine tC rfl (fun hc56 => ?_) fun hc56 => ?_
  ·have hend : mEnd r = { r.2 with st := 1, code := r.1 } := if_neg (by intro hh; rw [hh] at hc56; exact absurd hc56 (by decide))
   refine tG <| sm 3 rfl <| cV rfl (nCk rfl rfl rfl) <| sm 2 rfl <| c0 (sBx rfl rfl rfl rfl ((fun h => h)) tS3 (rfl) (lb rfl)) <| cV rfl (nCk rfl rfl rfl) <| sm 2 rfl <| c0 (sBx rfl rfl rfl rfl ((fun h => h)) tS3 (rfl) (lb rfl)) <| nL <| tQ <| Tr.freezeCell (k := 1002) (k2 := 1001) (j := 6) (n := (r.2.out.map eInt).length) rfl rfl rfl rfl (by decide) <| tG ?_
   refine sm 1 rfl <| cV rfl (nCk rfl rfl rfl) <| sm 1 rfl <| cV rfl (lBP rfl rfl rfl Tryz.underlying46 rfl tS46 (lb rfl) rfl trivial) <| c0 (sBA rfl rfl rfl rfl rfl ((fun h => h)) tS46 (flk rfl) (lb rfl)) <| nL <| tRt ?_
   rw [hend]
   refine rCk (.inl rfl) (fun _ _ ho => lBP ho rfl rfl Tryz.underlying46 rfl tS46 (lb rfl) rfl trivial) rfl nPo
  have hend : mEnd r = r.2 := if_pos (by simpa using hc56)
  refine tSk <| tQ <| Tr.freezeCell (k := 1002) (k2 := 1001) (j := 6) (n := (r.2.out.map eInt).length) rfl rfl rfl rfl (by decide) <| tG <| sm 1 rfl <| cV rfl (nCk rfl rfl rfl) <| sm 1 rfl <| cV rfl (lBP rfl rfl rfl Tryz.underlying46 rfl tS46 (lb rfl) rfl trivial) <| c0 (sBA rfl rfl rfl rfl rfl ((fun h => h)) tS46 (flk rfl) (lb rfl)) <| nL <| tRt ?_
  rw [hend]
  refine rCk (.inl rfl) (fun _ _ ho => lBP ho rfl rfl Tryz.underlying46 rfl tS46 (lb rfl) rfl trivial) rfl nPo
mutual
def kdN : Nd → Bool
  | .mk kind _ _ _ _ _ _ ks => decide (1 ≤ kind) && kdK ks
def kdL : List Nd → Bool
  | [] => true
  | x :: r => kdN x && kdL r
def kdK : List (List Nd) → Bool
  | [] => true
  | l :: r => kdL l && kdK r
end
theorem kdN_eq (x : Nd) : kdN x = (decide (1 ≤ x.kind) && kdK x.kids) := by cases x; simp only [kdN]; rfl
theorem fineL_append : ∀ a b : List Nd, fineL (a ++ b) = (fineL a && fineL b)
  | [], b => by simp [fineL]
  | x :: a, b => by simp only [List.cons_append, fineL, fineL_append a b, Bool.and_assoc]
theorem kdL_append : ∀ a b : List Nd, kdL (a ++ b) = (kdL a && kdL b)
  | [], b => by simp [kdL]
  | x :: a, b => by simp only [List.cons_append, kdL, kdL_append a b, Bool.and_assoc]
theorem part_fine : ∀ (l : List Nd) (vs : List Int), fineL l = true → fineL (hPart vs l).1 = true ∧ fineL (hPart vs l).2 = true
  | [], _, _ => ⟨rfl, rfl⟩
  | x :: r, vs, h => by
    simp only [fineL, Bool.and_eq_true] at h
    unfold hPart
    split
    ·split
     ·have := part_fine r (vs ++ [x.outs.headD 0]) h.2
      exact ⟨this.1, by simp only [fineL, Bool.and_eq_true]; exact ⟨h.1, this.2⟩⟩
     have := part_fine r vs h.2
     exact ⟨by simp only [fineL, Bool.and_eq_true]; exact ⟨h.1, this.1⟩, this.2⟩
    exact ⟨rfl, by simp only [fineL, Bool.and_eq_true]; exact h⟩
theorem part_kd : ∀ (l : List Nd) (vs : List Int), kdL l = true → kdL (hPart vs l).1 = true ∧ kdL (hPart vs l).2 = true
  | [], _, _ => ⟨rfl, rfl⟩
  | x :: r, vs, h => by
    simp only [kdL, Bool.and_eq_true] at h
    unfold hPart
    split
    ·split
     ·have := part_kd r (vs ++ [x.outs.headD 0]) h.2
      exact ⟨this.1, by simp only [kdL, Bool.and_eq_true]; exact ⟨h.1, this.2⟩⟩
     have := part_kd r vs h.2
     exact ⟨by simp only [kdL, Bool.and_eq_true]; exact ⟨h.1, this.1⟩, this.2⟩
    exact ⟨rfl, by simp only [kdL, Bool.and_eq_true]; exact h⟩
theorem part_head : ∀ (l : List Nd) (vs : List Int) (y : Nd) (q : List Nd), (hPart vs l).2 = y :: q → hmless y = false ∨ (y.args.any fun v => vs.contains v) = true
  | [], _, _, _, h => by simp [hPart] at h
  | x :: r, vs, y, q, h => by
    unfold hPart at h
    split at h
    ·split at h
     ·rename_i h1 h2
      cases h
      exact .inr h2
     exact part_head r vs y q h
    rename_i h1
    cases h
    exact .inl (by simpa using h1)
theorem idle_hmless {y : Nd} (h : 1 ≤ y.kind) (hm : hmless y = false) : fIdle y = false := by
  simp only [hmless, Bool.or_eq_false_iff, beq_eq_false_iff_ne] at hm
  obtain ⟨⟨⟨h1, h2⟩, h3⟩, h4⟩ := hm
  simp only [fIdle, h4, Bool.or_false, decide_eq_false_iff_not]
  omega
theorem any_contains (l vs : List Int) : (l.any fun v => vs.contains v) = fAny l vs := by
  unfold fAny
  congr 1
  funext v
  exact List.contains_eq_any_beq
theorem out_fine (kind op n : Int) (name : ByteArray) (args outs params : List Int) (ks : List (List Nd)) (h0 : 1 ≤ kind) (hk : kdK ks = true) (hf : fineK ks = true) :
    kdL (hOut kind op n name args outs params ks) = true ∧ fineL (hOut kind op n name args outs params ks) = true := by
  have one : ∀ ks', kdK ks' = true → fineK ks' = true → fHead (.mk kind op n name args outs params ks') = false → kdL [.mk kind op n name args outs params ks'] = true ∧ fineL [.mk kind op n name args outs params ks'] = true := by
    intro ks' h1 h2 h3
    simp only [kdL, kdN, fineL, fineN, h1, h2, h3, Bool.and_true, Bool.not_false, decide_eq_true_eq]
    exact ⟨h0, trivial⟩
  unfold hOut
  split
  ·rename_i h11
   cases ks with
   | nil => exact one [] rfl rfl (by simp [fHead, Nd.kids])
   | cons b r =>
     simp only [kdK, fineK, Bool.and_eq_true] at hk hf
     have p1 := part_fine b params hf.1
     have p2 := part_kd b params hk.1
     have hh : fHead (.mk kind op n name args outs params ((hPart params b).2 :: r)) = false := by
       unfold fHead
       simp only [Nd.kids, Nd.params]
       split
       ·rename_i y q he
        cases he' : (hPart params b).2 with
        | nil => rw [he'] at he; simp at he
        | cons z w =>
          rw [he'] at he
          simp only [List.cons.injEq] at he
          obtain ⟨⟨rfl, _⟩, _⟩ := he
          have hkd := p2.2
          rw [he'] at hkd
          simp only [kdL, kdN_eq, Bool.and_eq_true, decide_eq_true_eq] at hkd
          rcases part_head b params _ _ he' with h1 | h1
          ·rw [idle_hmless hkd.1.1 h1]; simp
          rw [any_contains] at h1
          rw [h1]; simp
       simp
     have h1 := one ((hPart params b).2 :: r) (by simp only [kdK, Bool.and_eq_true]; exact ⟨p2.2, hk.2⟩) (by simp only [fineK, Bool.and_eq_true]; exact ⟨p1.2, hf.2⟩) hh
     simp only [kdL_append, fineL_append, Bool.and_eq_true]
     exact ⟨⟨p2.1, h1.1⟩, ⟨p1.1, h1.2⟩⟩
  rename_i h11
  exact one ks hk hf (by simp [fHead, Nd.kind, h11])
mutual
theorem fineN_h : ∀ x : Nd, kdN x = true → kdL (hNode x) = true ∧ fineL (hNode x) = true
  | .mk kind op n name args outs params ks, h => by
    simp only [kdN, Bool.and_eq_true, decide_eq_true_eq] at h
    have := fineK_h ks h.2
    unfold hNode
    exact out_fine kind op n name args outs params _ h.1 this.1 this.2
theorem fineL_h : ∀ l : List Nd, kdL l = true → kdL (hList l) = true ∧ fineL (hList l) = true
  | [], _ => ⟨rfl, rfl⟩
  | x :: r, h => by
    simp only [kdL, Bool.and_eq_true] at h
    have h1 := fineN_h x h.1
    have h2 := fineL_h r h.2
    simp only [hList, kdL_append, fineL_append, Bool.and_eq_true]
    exact ⟨⟨h1.1, h2.1⟩, ⟨h1.2, h2.2⟩⟩
theorem fineK_h : ∀ ks : List (List Nd), kdK ks = true → kdK (hKids ks) = true ∧ fineK (hKids ks) = true
  | [], _ => ⟨rfl, rfl⟩
  | l :: r, h => by
    simp only [kdK, Bool.and_eq_true] at h
    have h1 := fineL_h l h.1
    have h2 := fineK_h r h.2
    simp only [hKids, kdK, fineK, Bool.and_eq_true]
    exact ⟨⟨h1.1, h2.1⟩, ⟨h1.2, h2.2⟩⟩
end
theorem sForm_kind {u : Un} {f : Fl} {x : Nd} {s : List Int} {w : Wh} {tys outs : List Int} (h : (sForm u f x s w).ok tys outs = true) : 1 ≤ x.kind := by
  rcases Int.lt_or_le x.kind 1 with hk | hk
  ·exfalso
   have e : ∀ n : Int, 1 ≤ n → (x.kind == n) = false := fun n hn => by simp only [beq_eq_false_iff_ne]; omega
   unfold sForm at h
   simp only [e 1 (by omega), e 2 (by omega), e 3 (by omega), e 4 (by omega), e 5 (by omega), e 6 (by omega), e 7 (by omega), e 8 (by omega), e 9 (by omega), e 12 (by omega), e 13 (by omega), e 14 (by omega), e 15 (by omega), Bool.false_eq_true, if_false] at h
   simp [SForm.ok] at h
  exact hk
mutual
theorem kdN_valid (u : Un) (f : Fl) : ∀ (x : Nd) (deep : Int) (w : Wh) (s : List Int), vNode u f deep w s x = true → kdN x = true
  | .mk kind op n name args outs params ks, deep, w, s, h => by
    have hb := vNode_bare u f deep w s h
    simp only [kdN, Bool.and_eq_true, decide_eq_true_eq]
    by_cases h10 : kind = 10
    ·refine ⟨by omega, ?_⟩
     obtain ⟨a, b, hk⟩ := r8bare_if hb h10
     rw [vNode_if u f deep w s hb h10 hk] at h
     simp only [Bool.and_eq_true, vList] at h
     simp only [Nd.kids] at hk
     match ks, hk with
     | [a', b'], hk =>
       cases hk
       simp only [kdK, Bool.and_eq_true, Bool.and_true]
       exact ⟨kdL_valid u f a _ _ _ h.1.1.1.2.2, kdL_valid u f b _ _ _ h.1.1.2.2⟩
    by_cases h11 : kind = 11
    ·refine ⟨by omega, ?_⟩
     obtain ⟨a, hk⟩ := r8bare_loop hb h11
     rw [vNode_loop u f deep w s hb h11 hk] at h
     simp only [Bool.and_eq_true, vList] at h
     simp only [Nd.kids] at hk
     match ks, hk with
     | [a'], hk =>
       cases hk
       simp only [kdK, Bool.and_true]
       exact kdL_valid u f a _ _ _ h.1.1.2.2
    have e10 : (kind == 10) = false := by simpa using h10
    have e11 : (kind == 11) = false := by simpa using h11
    have hk0 := bare_kids0 hb e10 e11
    simp only [Nd.kids] at hk0
    rw [vNode_simple u f deep w s hb e10 e11] at h
    exact ⟨sForm_kind h, by rw [hk0]; rfl⟩
theorem kdL_valid (u : Un) (f : Fl) : ∀ (l : List Nd) (deep : Int) (w : Wh) (s : List Int), vGo u f deep w s l = true → kdL l = true
  | [], _, _, _, _ => rfl
  | x :: r, deep, w, s, h => by
    simp only [vGo, Bool.and_eq_true] at h
    simp only [kdL, Bool.and_eq_true]
    exact ⟨kdN_valid u f x _ _ _ h.1.1.2, kdL_valid u f r _ _ _ h.2⟩
end
theorem kd_valid {u : Un} (h : (shCheck u).1 = 0) : ∀ f ∈ u.flows, kdL f.body = true := by
  rw [shCheck_eq] at h
  intro f hf
  have hF := ((check_iff u).1 h).2 f hf
  unfold r8Flow at hF
  simp only [Bool.and_eq_true] at hF
  obtain ⟨h1, h2⟩ := hF
  have hp : f.params.toNat ≤ f.types.length := by
    have a1 := h1.1.1.1.1
    have a2 := h1.1.1.2
    simp only [Bool.not_eq_true', decide_eq_false_iff_not] at a1 a2
    omega
  have hn : (firsts f.params.toNat f.types.length).length = f.types.length := firsts_length hp
  rw [r8list_iff u f f.body 1 r8where0 _ _ hn] at h2
  have hv := h2.1
  simp only [vList, Bool.and_eq_true] at hv
  exact kdL_valid u f f.body _ _ _ hv.2
theorem right_hoist (u : Un) : fRight (hoistOf u).1 = true := by
  unfold hoistOf
  split
  ·rename_i h
   unfold fRight hUnit
   simp only [List.all_map, List.all_eq_true]
   intro f hf
   exact (fineL_h f.body (kd_valid (by simpa using h) f hf)).2
  rfl
def wakeL : List Nd := [(.mk 1 0 1 ⟨#[]⟩ [] [0] [] []), (.mk 11 0 0 ⟨#[]⟩ [0] [4] [1] [[(.mk 1 0 10 ⟨#[]⟩ [] [2] [] []), (.mk 4 1 0 ⟨#[]⟩ [1, 2] [3] [] []), (.mk 14 0 0 ⟨#[]⟩ [3] [] [] [])]]), (.mk 15 0 0 ⟨#[]⟩ [4] [] [] [])]
def wakeU : Un := ⟨[], [⟨mainName, 1, 0, [1, 1, 1, 1, 1], wakeL⟩]⟩
theorem wake_check : (r8Check wakeU).1 = 0 := by decide +kernel
theorem wake_weight : r8Weight wakeU ≤ 536870912 := by decide +kernel
theorem wake_run0 : ((mCall (hUnit wakeU) 20 (r8Place mainName (hUnit wakeU).flows 0) [] (run0 [] 6)).map fun r => (mOver r.2, r.1)) = some (false, 11) := by decide +kernel
theorem wake_run : ∃ r, mCall (hUnit wakeU) 20 (r8Place mainName (hUnit wakeU).flows 0) [] (run0 [] 6) = some r ∧ (mEnd r).st = 1 ∧ (mEnd r).code = 11 := by
  have h := wake_run0
  rw [Option.map_eq_some_iff] at h
  obtain ⟨r, h1, h2⟩ := h
  simp only [Prod.mk.injEq] at h2
  refine ⟨r, h1, ?_, ?_⟩
  ·simp only [mEnd, h2.1, Bool.false_eq_true, if_false]
  simp only [mEnd, h2.1, Bool.false_eq_true, if_false, h2.2]
def wakeRaw : PV := .seq [[vInt 1, vInt 0, vInt 1, vStr ⟨#[]⟩, .val (.slice none 0 0), .seq [[vInt 0]], .val (.slice none 0 0), .val (.slice none 0 0)], [vInt 11, vInt 0, vInt 0, vStr ⟨#[]⟩, .seq [[vInt 0]], .seq [[vInt 4]], .seq [[vInt 1]], .seq [[.seq [[vInt 1, vInt 0, vInt 10, vStr ⟨#[]⟩, .val (.slice none 0 0), .seq [[vInt 2]], .val (.slice none 0 0), .val (.slice none 0 0)], [vInt 4, vInt 1, vInt 0, vStr ⟨#[]⟩, .seq [[vInt 1], [vInt 2]], .seq [[vInt 3]], .val (.slice none 0 0), .val (.slice none 0 0)], [vInt 14, vInt 0, vInt 0, vStr ⟨#[]⟩, .seq [[vInt 3]], .val (.slice none 0 0), .val (.slice none 0 0), .val (.slice none 0 0)]]]]], [vInt 15, vInt 0, vInt 0, vStr ⟨#[]⟩, .seq [[vInt 4]], .val (.slice none 0 0), .val (.slice none 0 0), .val (.slice none 0 0)]]
theorem wake_sub : PSub wakeRaw (nodes wakeL) := by
  show PSub _ (.seq [_, _, _])
  repeat' (first | exact PSub.nil | exact PSub.refl _ | exact trivial | refine And.intro ?_ ?_ | refine PSub.seq (ps := [_, _, _]) (qs := [_, _, _]) ?_ | refine PSub.seq (ps := [_]) (qs := [_]) ?_)
theorem empty_hoist : hoistOf ⟨[], []⟩ = (⟨[], []⟩, 1) := hoistOf_bad (by decide +kernel)
theorem sc_awake0 (L : List Nd) (hL : PSub wakeRaw (nodes L)) (V : Un) (hH : hoistOf (⟨[], [⟨mainName, 1, 0, [1, 1, 1, 1, 1], L⟩]⟩ : Un) = (V, 0)) (hW : r8Weight (⟨[], [⟨mainName, 1, 0, [1, 1, 1, 1, 1], L⟩]⟩ : Un) ≤ 536870912) (hVa : V.arrays = []) (hVl : V.flows.length = 1) (hVr : fRight V = true) (hVW : r8Weight V ≤ 536870912) (hVz : (r8Check V).1 = 0) (r : Int × Rs) (hr : mCall V 20 (r8Place mainName V.flows 0) [] (run0 [] 6) = some r) (h1 : (mEnd r).st = 1) (h2 : (mEnd r).code = 11) : SC Tryz.prog 7 [] [] (fun _ => False) (iBool true) [] := by
  refine SC.of Tryz.func7 rfl (lb rfl) fun F ρ w => ?_
  have hsc := sc_Hoist (⟨[], [⟨mainName, 1, 0, [1, 1, 1, 1, 1], L⟩]⟩ : Un) hW hok_valid
  rw [hH] at hsc
  have hse := sc_Hoist ⟨[], []⟩ (by decide) hok_valid
  rw [empty_hoist] at hse
  refine tQ <| tG <| sm 1 rfl <| nL <| tQ <| tG <| sm 1 rfl <| nL <| tQ <| tG <| cE rfl (bSl rfl rfl uT35 tZ3 tS3 rfl rfl rfl rfl (fbk rfl) rfl) <| cE rfl (bSl rfl rfl uT35 tZ3 tS3 rfl rfl rfl rfl (fbk rfl) rfl) ?_
  refine cE rfl (bSl rfl rfl uT35 tZ3 tS3 rfl rfl rfl rfl (fbk rfl) rfl) <| cE rfl (bSl rfl rfl uT35 tZ3 tS3 rfl rfl rfl rfl (fbk rfl) rfl) <| cV rfl (bPu rfl rfl tZ42 tP42 rfl (fbk rfl) rfl) <| cE rfl (bSl rfl rfl uT35 tZ3 tS3 rfl rfl rfl rfl (fbk rfl) rfl) <| cE rfl (bSl rfl rfl uT35 tZ3 tS3 rfl rfl rfl rfl (fbk rfl) rfl) <| cV rfl (bPu rfl rfl tZ42 tP42 rfl (fbk rfl) rfl) <| cE rfl (bSl rfl rfl uT35 tZ3 tS3 rfl rfl rfl rfl (fbk rfl) rfl) <| cV rfl (bPu rfl rfl tZ42 tP42 rfl (fbk rfl) rfl) <| cE rfl (bSl rfl rfl uT43 tZ42 tS42 rfl rfl rfl rfl (fbk rfl) rfl) <| cE rfl (bSl rfl rfl uT40 tZ43 tS43 rfl rfl rfl rfl (fbk rfl) rfl) <| cV rfl (bPu rfl rfl tZ42 tP42 rfl (fbk rfl) rfl) <| cE rfl (aLc (k := 102) rfl tZ42 rfl rfl rfl rfl) ?_
  refine c0 (sBA rfl rfl rfl rfl rfl ((fun h => h)) tS42 (flk rfl) (lb rfl)) <| nL <| tQ <| tG <| sm 5 rfl <| cE rfl (bSl rfl rfl uT35 tZ3 tS3 rfl rfl rfl rfl (fbk rfl) rfl) <| cE rfl (bSl rfl rfl uT35 tZ3 tS3 rfl rfl rfl rfl (fbk rfl) rfl) <| cV rfl (bPu rfl rfl tZ42 tP42 rfl (fbk rfl) rfl) <| cV rfl (lBP rfl rfl rfl uT42 rfl tS42 (lb rfl) rfl trivial) <| cE rfl (bSl rfl rfl uT35 tZ3 tS3 rfl rfl rfl rfl (fbk rfl) rfl) <| cV rfl (bPu rfl rfl tZ42 tP42 rfl (fbk rfl) rfl) <| cE rfl (bSl rfl rfl uT43 tZ42 tS42 rfl rfl rfl rfl (fbk rfl) rfl) ?_
  refine cE rfl (ok_callq (sc_unit15 [1, 1, 1, 1, 1] L) ent16 rfl rfl (sSm rfl (Subs.cons (fun _ _ _ _ h => sub_pv hL h) Subs.nil)) rfl) <| cE rfl (ok_callq (hsc) ent11 rfl rfl (Subs.cons (fun _ _ _ _ h => sub_pv (PSub.agg (ps := [.val (.slice none 0 0), flws [⟨mainName, 1, 0, [1, 1, 1, 1, 1], L⟩]]) (qs := [.seq [], flws [⟨mainName, 1, 0, [1, 1, 1, 1, 1], L⟩]]) (And.intro PSub.nil (And.intro (PSub.refl _) trivial))) h) Subs.nil) rfl) <| sm 1 rfl <| cV rfl (ok_extract rfl rfl rfl) <| cV rfl (ok_extract rfl rfl rfl) <| cE rfl (aLc (k := 103) rfl tZ25 rfl rfl rfl rfl) <| c0 (sBA rfl rfl rfl rfl rfl ((fun h => h)) tS25 (flk rfl) (lb rfl)) <| sm 1 rfl <| nL <| tQ <| tG <| cV rfl (lBP rfl rfl rfl uT25 rfl tS25 (lb rfl) rfl trivial) ?_
  refine cE rfl (ok_callq (sc_run0 V hVa hVW hVz [] 6 20 r hr) ent17 rfl rfl (sSm rfl (Subs.cons (fun _ _ _ _ h => sub_pv PSub.nil h) (sSm rfl Subs.nil))) rfl) <| cE rfl (aLc (k := 105) rfl tZ46 rfl rfl rfl rfl) <| c0 (sBA rfl rfl rfl rfl rfl ((fun h => h)) tS46 (flk rfl) (lb rfl)) <| nL <| tQ <| tG <| sm 3 rfl ?_
  refine wS 43 rfl (fun hb43 => ?_) fun hb43 => ?_
  ·refine sm 2 rfl <| yV rfl rfl (oSm uT23 rfl) <| sm 3 rfl ?_
   refine wS 49 rfl (fun hb49 => ?_) fun hb49 => ?_
   ·refine yV rfl rfl (lBP rfl rfl rfl uT25 rfl tS25 (lb rfl) rfl trivial) <| WL.yes rfl rfl rfl rfl rfl rfl (ok_callq (sc_right V) ent12 rfl rfl (sRf _ _) rfl) <| sm 2 rfl ?_
    refine wS 53 rfl (fun hb53 => ?_) fun hb53 => ?_
    ·refine sm 5 rfl ?_
     refine wS 58 rfl (fun hb58 => ?_) fun hb58 => ?_
     ·refine sm 5 rfl <| nL <| tQ <| tG <| cV rfl (bPu rfl rfl tZ25 tP25 rfl (fbk rfl) rfl) <| cE rfl (ok_callq (hse) ent11 rfl rfl (Subs.cons (fun _ _ _ _ h => empty_unit h) Subs.nil) rfl) <| sm 1 rfl <| cV rfl (ok_extract rfl rfl rfl) <| cV rfl (ok_extract rfl rfl rfl) <| cE rfl (aLc (k := 107) rfl tZ25 rfl rfl rfl rfl) <| c0 (sBA rfl rfl rfl rfl rfl ((fun h => h)) tS25 (flk rfl) (lb rfl)) <| sm 1 rfl ?_
      refine nL <| tQ <| tG <| sm 3 rfl ?_
      refine wS 70 rfl (fun hb70 => ?_) fun hb70 => ?_
      ·refine sm 3 rfl <| nL <| tRt <| rOk rfl ?_ nPo
       rw [h2]
       rfl
      exact Bool.noConfusion (show true = false from hb70)
     rw [h1] at hb58
     cases hb58
    rw [hVr] at hb53
    cases hb53
   simp [hVl] at hb49
  exact Bool.noConfusion (show true = false from hb43)
theorem sc_awake : SC Tryz.prog 7 [] [] (fun _ => False) (iBool true) [] := by
  obtain ⟨r, hr, h1, h2⟩ := wake_run
  have hc := check_hoist wake_check
  exact sc_awake0 wakeL wake_sub (hUnit wakeU) (hoistOf_good wake_check) wake_weight rfl rfl (by have := right_hoist wakeU; rw [hoistOf_good wake_check] at this; exact this) (by rw [weight_h]; exact wake_weight) (by rw [hc]) r hr h1 h2
section
def Px (g g' : Gn) : Prop := ∃ q, g'.types = g.types ++ q
theorem Px.refl (g : Gn) : Px g g := ⟨[], by simp⟩
theorem Px.trans {a b c : Gn} (h : Px a b) (h' : Px b c) : Px a c := by
  obtain ⟨q, e⟩ := h
  obtain ⟨r, e'⟩ := h'
  exact ⟨q ++ r, by rw [e', e, List.append_assoc]⟩
theorem Px.len {a b : Gn} (h : Px a b) : a.types.length ≤ b.types.length := by obtain ⟨q, e⟩ := h; rw [e]; simp
section
variable (l : List UInt8)
theorem px_pick (n : Nat) (g : Gn) : Px g (gPick l n g).2 := ⟨[], by simp [gPick]⟩
theorem px_each (seen ts : List Int) (g : Gn) : Px g (gEach l seen ts g).2 := ⟨[], by rw [(gEach_st l seen ts g).1]; simp⟩
theorem px_outs (ts : List Int) (g : Gn) : Px g (gOuts ts g).2 := ⟨ts, by rw [(gOuts_st ts g).1]⟩
theorem px_types (g : Gn) : Px g (gTypes l g).2 := ⟨[], by rw [(gTypes_st l g).1]; simp⟩
theorem px_node (kind op n : Int) (name : ByteArray) (seen ins outs : List Int) (g : Gn) : Px g (gNode l kind op n name seen ins outs g).2 := (px_each l seen ins g).trans (px_outs outs _)
theorem px_simple (seen : List Int) (g : Gn) : Px g (gSimple l seen g).2 := by
  unfold gSimple
  have h0 := px_pick l 12 g
  simp only
  repeat' split
  all_goals first
  | exact h0.trans ((px_pick l _ _).trans (px_node l _ _ _ _ _ _ _ _))
  | exact h0.trans (px_node l _ _ _ _ _ _ _ _)
theorem px_end (seen : List Int) (p : Plc) (g : Gn) : Px g (gEnd l seen p g).2 := by
  unfold gEnd
  have h0 := px_pick l 6 g
  simp only
  repeat' split
  all_goals exact h0.trans (px_node l _ _ _ _ _ _ _ _)
def RecPx (rec : GRec) : Prop := ∀ seen p g, Px g (rec seen p g).2
theorem px_shut (x : List Int → Nd) (t : List Int) (g : Gn) : Px g (gShut x t g).2 := by
  unfold gShut
  split
  ·exact .refl _
  exact px_outs t g
theorem px_if {rec : GRec} (hr : RecPx rec) (all : List Int) (p : Plc) (g : Gn) : Px g (gIf l rec all p g).2 := by
  unfold gIf
  exact (px_types l g).trans ((px_each l _ _ _).trans ((hr _ _ _).trans ((hr _ _ _).trans (px_shut _ _ _))))
theorem px_loop {rec : GRec} (hr : RecPx rec) (all : List Int) (g : Gn) : Px g (gLoop l rec all g).2 := by
  unfold gLoop
  exact (px_types l g).trans ((px_types l _).trans ((px_each l _ _ _).trans ((px_outs _ _).trans ((hr _ _ _).trans (px_shut _ _ _)))))
theorem px_any {rec : Option GRec} (hr : ∀ r, rec = some r → RecPx r) (all : List Int) (p : Plc) (g : Gn) : Px g (gAny l rec all p g).2 := by
  have h0 : Px g { g with left := g.left - 1 } := ⟨[], by simp⟩
  have hs := h0.trans ((px_simple l all { g with left := g.left - 1 }).trans (px_pick l 6 _))
  unfold gAny
  simp only
  cases rec with
  | none => exact hs
  | some r =>
    simp only
    split
    ·exact hs.trans (px_if l (hr r rfl) all p _)
    split
    ·exact hs.trans (px_loop l (hr r rfl) all _)
    exact hs
def gTail (rec : Option GRec) (p : Plc) : Nat → List Int → Gn → List Nd × Gn
  | 0, all, g => ([(gEnd l all p g).1], (gEnd l all p g).2)
  | i + 1, all, g =>
    if g.left = 0 then ([(gEnd l all p g).1], (gEnd l all p g).2)
    else if r8Closed (gAny l rec all p g).1 then ([(gAny l rec all p g).1], (gAny l rec all p g).2)
      else ((gAny l rec all p g).1 :: (gTail rec p i (all ++ (gAny l rec all p g).1.outs) (gAny l rec all p g).2).1, (gTail rec p i (all ++ (gAny l rec all p g).1.outs) (gAny l rec all p g).2).2)
theorem gNodes_tail (rec : Option GRec) (p : Plc) : ∀ (i : Nat) (out : List Nd) (all : List Int) (g : Gn), gNodes l rec p i out all g = (out ++ (gTail l rec p i all g).1, (gTail l rec p i all g).2)
  | 0, out, all, g => rfl
  | i + 1, out, all, g => by
    unfold gNodes gTail
    split
    ·rfl
    simp only
    split
    ·rfl
    rw [gNodes_tail rec p i]; simp
theorem gTail_ne (rec : Option GRec) (p : Plc) : ∀ (i : Nat) (all : List Int) (g : Gn), (gTail l rec p i all g).1 ≠ []
  | 0, all, g => by simp [gTail]
  | i + 1, all, g => by
    unfold gTail
    repeat' split
    all_goals simp
theorem px_tail {rec : Option GRec} (hr : ∀ r, rec = some r → RecPx r) (p : Plc) : ∀ (i : Nat) (all : List Int) (g : Gn), Px g (gTail l rec p i all g).2
  | 0, all, g => px_end l all p g
  | i + 1, all, g => by
    unfold gTail
    split
    ·exact px_end l all p g
    split
    ·exact px_any l hr all p g
    exact (px_any l hr all p g).trans (px_tail hr p i _ _)
theorem px_list (d : Nat) : RecPx (gList l d) := by
  induction d with
  | zero =>
    intro seen p g
    rw [gList_eq, gNodes_tail]
    exact (px_pick l 6 g).trans (px_tail l (fun r h => by cases h) p _ _ _)
  | succ d ih =>
    intro seen p g
    rw [gList_eq, gNodes_tail]
    exact (px_pick l 6 g).trans (px_tail l (fun r h => by cases h; exact ih) p _ _ _)
theorem gList_tail (d : Nat) (seen : List Int) (p : Plc) (g : Gn) : gList l d seen p g = gTail l (gRec l d) p (gPick l 6 g).1 seen (gPick l 6 g).2 := by
  rw [gList_eq, gNodes_tail]; simp
def Fresh (a b : Nat) (ds : List Int) : Prop := ds.Nodup ∧ ∀ v ∈ ds, (a : Int) ≤ v ∧ v < (b : Int)
theorem Fresh.nil (a b : Nat) : Fresh a b [] := ⟨List.nodup_nil, fun _ h => by simp at h⟩
theorem Fresh.app {a b b' c : Nat} {x y : List Int} (h : Fresh a b x) (h' : Fresh b' c y) (hb : b ≤ b') (ha : a ≤ b') (hc : b ≤ c) : Fresh a c (x ++ y) := by
  refine ⟨List.nodup_append.2 ⟨h.1, h'.1, fun u hu v hv e => ?_⟩, fun v hv => ?_⟩
  ·have h1 := h.2 u hu
   have h2 := h'.2 v hv
   omega
  rcases List.mem_append.1 hv with hv | hv
  ·have := h.2 v hv; omega
  have := h'.2 v hv; omega
theorem Fresh.mono {a b a' b' : Nat} {x : List Int} (h : Fresh a b x) (ha : a' ≤ a) (hb : b ≤ b') : Fresh a' b' x := ⟨h.1, fun v hv => by have := h.2 v hv; omega⟩
theorem fresh_outs : ∀ (ts : List Int) (g : Gn), Fresh g.types.length (gOuts ts g).2.types.length (gOuts ts g).1
  | [], g => .nil _ _
  | t :: r, g => by
    have ih := fresh_outs r (gFresh t g).2
    have h1 : Fresh g.types.length (g.types.length + 1) [(gFresh t g).1] := ⟨by simp, fun v hv => by
      rw [List.mem_singleton.1 hv]; simp only [gFresh]; omega⟩
    have e : (gFresh t g).2.types.length = g.types.length + 1 := by simp [gFresh]
    have hl := (px_outs r (gFresh t g).2).len
    rw [e] at ih hl
    exact h1.app ih (Nat.le_refl _) (by omega) hl
theorem fresh_node (kind op n : Int) (name : ByteArray) (seen ins outs : List Int) (g : Gn) : Fresh g.types.length (gNode l kind op n name seen ins outs g).2.types.length (dN (gNode l kind op n name seen ins outs g).1) := by
  have h := fresh_outs outs (gEach l seen ins g).2
  have e : (gEach l seen ins g).2.types = g.types := by rw [(gEach_st l seen ins g).1]
  rw [e] at h
  simpa [gNode, dN_eq, Nd.params, Nd.kids, Nd.outs, dK] using h
theorem fresh_simple (seen : List Int) (g : Gn) : Fresh g.types.length (gSimple l seen g).2.types.length (dN (gSimple l seen g).1) := by
  have N := fun kind op n name ins outs g' => fresh_node l kind op n name seen ins outs g'
  unfold gSimple
  simp only
  repeat' split
  all_goals exact N _ _ _ _ _ _ _
theorem fresh_end (seen : List Int) (p : Plc) (g : Gn) : Fresh g.types.length (gEnd l seen p g).2.types.length (dN (gEnd l seen p g).1) := by
  have N := fun kind op n name ins outs g' => fresh_node l kind op n name seen ins outs g'
  unfold gEnd
  simp only
  repeat' split
  all_goals exact N _ _ _ _ _ _ _
def RecFr (rec : GRec) : Prop := ∀ seen p g, Fresh g.types.length (rec seen p g).2.types.length (dL (rec seen p g).1)
theorem fresh_shut (x : List Int → Nd) (D : List Int) (a : Nat) (hx : ∀ o, dN (x o) = D ++ o) (t : List Int) (g : Gn) (hD : Fresh a g.types.length D) (ha : a ≤ g.types.length) : Fresh a (gShut x t g).2.types.length (dN (gShut x t g).1) := by
  unfold gShut
  split
  ·rw [hx, List.append_nil]; exact hD
  rw [hx]; exact hD.app (fresh_outs t g) (Nat.le_refl _) ha (px_outs t g).len
theorem fresh_if {rec : GRec} (hr : RecFr rec) (hp : RecPx rec) (all : List Int) (p : Plc) (g : Gn) : Fresh g.types.length (gIf l rec all p g).2.types.length (dN (gIf l rec all p g).1) := by
  unfold gIf
  simp only
  generalize hT : gTypes l g = T
  generalize hC : gEach l all [2] T.2 = C
  have eT : T.2.types = g.types := by rw [← hT, (gTypes_st l g).1]
  have eC : C.2.types = g.types := by rw [← hC, (gEach_st l all [2] T.2).1]; exact eT
  have hA := hr all ⟨true, p.Loop, T.1, p.Next, p.Left⟩ C.2
  have pA := (hp all ⟨true, p.Loop, T.1, p.Next, p.Left⟩ C.2).len
  generalize rec all ⟨true, p.Loop, T.1, p.Next, p.Left⟩ C.2 = A at *
  have hB := hr all ⟨true, p.Loop, T.1, p.Next, p.Left⟩ A.2
  have pB := (hp all ⟨true, p.Loop, T.1, p.Next, p.Left⟩ A.2).len
  generalize rec all ⟨true, p.Loop, T.1, p.Next, p.Left⟩ A.2 = B at *
  rw [eC] at hA pA
  refine fresh_shut _ (dL A.1 ++ dL B.1) g.types.length (fun o => by simp [dN, dK]) T.1 B.2 (hA.app hB (Nat.le_refl _) pA pB) (by omega)
theorem fresh_loop {rec : GRec} (hr : RecFr rec) (hp : RecPx rec) (all : List Int) (g : Gn) : Fresh g.types.length (gLoop l rec all g).2.types.length (dN (gLoop l rec all g).1) := by
  unfold gLoop
  simp only
  generalize hT : gTypes l g = T
  generalize hO : gTypes l T.2 = O
  generalize hA : gEach l all T.1 O.2 = A
  have eT : T.2.types = g.types := by rw [← hT, (gTypes_st l g).1]
  have eO : O.2.types = g.types := by rw [← hO, (gTypes_st l T.2).1]; exact eT
  have eA : A.2.types = g.types := by rw [← hA, (gEach_st l all T.1 O.2).1]; exact eO
  have hQ := fresh_outs T.1 A.2
  have pQ := (px_outs T.1 A.2).len
  generalize gOuts T.1 A.2 = Q at *
  have hB := hr (all ++ Q.1) ⟨false, true, [], T.1, O.1⟩ Q.2
  have pB := (hp (all ++ Q.1) ⟨false, true, [], T.1, O.1⟩ Q.2).len
  generalize rec (all ++ Q.1) ⟨false, true, [], T.1, O.1⟩ Q.2 = B at *
  rw [eA] at hQ pQ
  refine fresh_shut _ (Q.1 ++ dL B.1) g.types.length (fun o => by simp [dN, dK]) O.1 B.2 (hQ.app hB (Nat.le_refl _) pQ pB) (by omega)
theorem fresh_any {rec : Option GRec} (hr : ∀ r, rec = some r → RecFr r ∧ RecPx r) (all : List Int) (p : Plc) (g : Gn) : Fresh g.types.length (gAny l rec all p g).2.types.length (dN (gAny l rec all p g).1) := by
  have hs := fresh_simple l all { g with left := g.left - 1 }
  have ps := (px_simple l all { g with left := g.left - 1 }).len
  unfold gAny
  simp only
  cases rec with
  | none => exact hs
  | some r =>
    simp only
    split
    ·exact (fresh_if l (hr r rfl).1 (hr r rfl).2 all p _).mono ps (Nat.le_refl _)
    split
    ·exact (fresh_loop l (hr r rfl).1 (hr r rfl).2 all _).mono ps (Nat.le_refl _)
    exact hs
theorem fresh_tail {rec : Option GRec} (hr : ∀ r, rec = some r → RecFr r ∧ RecPx r) (p : Plc) : ∀ (i : Nat) (all : List Int) (g : Gn), Fresh g.types.length (gTail l rec p i all g).2.types.length (dL (gTail l rec p i all g).1)
  | 0, all, g => by
    have := fresh_end l all p g
    simpa [gTail, dL] using this
  | i + 1, all, g => by
    have he := fresh_end l all p g
    have hx := fresh_any l hr all p g
    have px := (px_any l (fun r h => (hr r h).2) all p g).len
    unfold gTail
    split
    ·simpa [dL] using he
    split
    ·simpa [dL] using hx
    have ih := fresh_tail hr p i (all ++ (gAny l rec all p g).1.outs) (gAny l rec all p g).2
    have pt := (px_tail l (fun r h => (hr r h).2) p i (all ++ (gAny l rec all p g).1.outs) (gAny l rec all p g).2).len
    simp only [dL]
    exact hx.app ih (Nat.le_refl _) px pt
theorem fresh_list (d : Nat) : RecFr (gList l d) := by
  induction d with
  | zero =>
    intro seen p g
    rw [gList_tail]
    exact fresh_tail l (fun r h => by cases h) p (gPick l 6 g).1 seen (gPick l 6 g).2
  | succ d ih =>
    intro seen p g
    rw [gList_tail]
    exact fresh_tail l (fun r h => by cases h; exact ⟨ih, px_list l d⟩) p (gPick l 6 g).1 seen (gPick l 6 g).2
end
end
section
def PxT (g : Gn) (T : List Int) : Prop := ∃ q, T = g.types ++ q
theorem PxT.of {a b : Gn} {T : List Int} (h : Px a b) (h' : PxT b T) : PxT a T := by
  obtain ⟨q, e⟩ := h
  obtain ⟨r, e'⟩ := h'
  exact ⟨q ++ r, by rw [e', e, List.append_assoc]⟩
theorem PxT.len {a : Gn} {T : List Int} (h : PxT a T) : a.types.length ≤ T.length := by obtain ⟨q, e⟩ := h; rw [e]; simp
theorem PxT.getD {a : Gn} {T : List Int} (h : PxT a T) {n : Nat} (hn : n < a.types.length) : a.types.getD n 0 = T.getD n 0 := by
  obtain ⟨q, rfl⟩ := h
  simp [List.getD, List.getElem?_append_left hn]
structure Sn (T : List Int) (n : Nat) (seen : List Int) : Prop where
  zero : (0 : Int) ∈ seen
  one : ∃ s ∈ seen, T.getD s.toNat 0 = 1
  two : ∃ s ∈ seen, T.getD s.toNat 0 = 2
  inr : ∀ s ∈ seen, 0 ≤ s ∧ s.toNat < n
theorem Sn.mono {T : List Int} {n m : Nat} {seen : List Int} (h : Sn T n seen) (hm : n ≤ m) : Sn T m seen := ⟨h.zero, h.one, h.two, fun s hs => ⟨(h.inr s hs).1, Nat.lt_of_lt_of_le (h.inr s hs).2 hm⟩⟩
theorem Sn.app {T : List Int} {n m : Nat} {seen new : List Int} (h : Sn T n seen) (hm : n ≤ m) (hn : ∀ s ∈ new, 0 ≤ s ∧ s.toNat < m) : Sn T m (seen ++ new) := by
  obtain ⟨s, h1, h2⟩ := h.one
  obtain ⟨s', h3, h4⟩ := h.two
  exact ⟨List.mem_append_left _ h.zero, ⟨s, List.mem_append_left _ h1, h2⟩, ⟨s', List.mem_append_left _ h3, h4⟩, fun v hv => (List.mem_append.1 hv).elim ((h.mono hm).inr v) (hn v)⟩
theorem gS1_mem {tys seen : List Int} {t : Int} : ∀ (r : List Int) (b : Bool) (k v : Int), (∀ s ∈ r, s ∈ seen) → v ∈ seen → gS1 tys t b k v r ∈ seen
  | [], _, _, _, _, hv => hv
  | s :: r, b, k, v, h, hv => by
    unfold gS1
    have hr : ∀ x ∈ r, x ∈ seen := fun x hx => h x (.tail _ hx)
    split
    ·exact gS1_mem r _ _ _ hr (h s (.head _))
    exact gS1_mem r _ _ _ hr hv
theorem gS2_mem {tys seen : List Int} {t : Int} : ∀ (r : List Int) (v : Int), (∀ s ∈ r, s ∈ seen) → v ∈ seen → gS2 tys t v r ∈ seen
  | [], _, _, hv => hv
  | s :: r, v, h, hv => by
    unfold gS2
    have hr : ∀ x ∈ r, x ∈ seen := fun x hx => h x (.tail _ hx)
    split
    ·split
     ·exact gS2_mem r _ hr (h s (.head _))
     exact gS2_mem r _ hr hv
    exact hv
theorem gS2_keep {tys : List Int} {t : Int} {r : List Int} {v : Int} (h : tys.getD v.toNat 0 = t) : gS2 tys t v r = v := by
  cases r with
  | nil => rfl
  | cons s r => unfold gS2; rw [if_neg (by rw [h]; simp)]
theorem gS2_ty {tys : List Int} {t : Int} : ∀ (r : List Int) (v : Int), (∃ s ∈ r, tys.getD s.toNat 0 = t) → tys.getD (gS2 tys t v r).toNat 0 = t
  | [], v, h => by obtain ⟨s, hs, _⟩ := h; simp at hs
  | s :: r, v, h => by
    by_cases hv : tys.getD v.toNat 0 = t
    ·rw [gS2_keep hv]; exact hv
    unfold gS2
    rw [if_pos (by simpa using hv)]
    by_cases hs : tys.getD s.toNat 0 = t
    ·rw [if_pos (by simpa using hs), gS2_keep hs]; exact hs
    rw [if_neg (by simpa using hs)]
    refine gS2_ty r v ?_
    obtain ⟨x, hx, hxt⟩ := h
    rcases List.mem_cons.1 hx with rfl | hx
    ·exact absurd hxt hs
    exact ⟨x, hx, hxt⟩
def Ty12 (ts : List Int) : Prop := ∀ t ∈ ts, t = 1 ∨ t = 2
theorem Ty12.ne {ts : List Int} (h : Ty12 ts) : ∀ t ∈ ts, t ≠ 0 := fun t ht => by rcases h t ht with rfl | rfl <;> decide
section
variable (l : List UInt8)
theorem some_ok {g : Gn} {T seen : List Int} {t : Int} (h : PxT g T) (hs : Sn T g.types.length seen) (ht : t = 1 ∨ t = 2) : (gSome l seen t g).1 ∈ seen ∧ T.getD (gSome l seen t g).1.toNat 0 = t := by
  have hm : (gSome l seen t g).1 ∈ seen := gS2_mem seen _ (fun _ h => h) (gS1_mem seen _ _ _ (fun _ h => h) hs.zero)
  refine ⟨hm, ?_⟩
  rw [← h.getD (hs.inr _ hm).2]
  refine gS2_ty seen _ ?_
  obtain ⟨s, h1, h2⟩ : ∃ s ∈ seen, T.getD s.toNat 0 = t := by
    rcases ht with rfl | rfl
    ·exact hs.one
    exact hs.two
  exact ⟨s, h1, by rw [h.getD (hs.inr s h1).2]; exact h2⟩
theorem use_ok {T seen : List Int} {n : Nat} {v w : Int} (hs : Sn T n seen) (hn : n ≤ T.length) (hv : v ∈ seen) (hw : w = 0 ∨ T.getD v.toNat 0 = w) : r8use T seen v w = true := by
  obtain ⟨h1, h2⟩ := hs.inr v hv
  unfold r8use
  have e1 : decide (v < 0) = false := by simp; omega
  have e2 : decide (v ≥ T.length) = false := by simp; omega
  have e3 : seen.contains v = true := by simpa using hv
  have e4 : (w != 0 && (T.getD v.toNat 0 != w)) = false := by
    rcases hw with rfl | h
    ·rfl
    rw [h]; simp
  rw [e1, e2, e3, e4]; rfl
theorem each_ok {T seen : List Int} : ∀ (ts : List Int) {g : Gn}, PxT g T → Sn T g.types.length seen → Ty12 ts → r8types T seen (gEach l seen ts g).1 ts = true ∧ (∀ v ∈ (gEach l seen ts g).1, v ∈ seen) ∧ (gEach l seen ts g).1.map (fun v => T.getD v.toNat 0) = ts
  | [], g, _, _, _ => ⟨rfl, fun v hv => by simp [gEach] at hv, rfl⟩
  | t :: r, g, h, hs, ht => by
    obtain ⟨h1, h2⟩ := some_ok l h hs (ht t (.head _))
    obtain ⟨i1, i2, i3⟩ := each_ok (seen := seen) r (g := (gSome l seen t g).2) h hs (fun x hx => ht x (.tail _ hx))
    simp only [r8types, Bool.and_eq_true] at i1
    refine ⟨?_, fun v hv => ?_, ?_⟩
    ·simp only [gEach, r8types, r8typesGo, Bool.and_eq_true, List.length_cons]
     refine ⟨?_, use_ok hs h.len h1 (.inr h2), i1.2⟩
     have := i1.1
     simp only [beq_iff_eq] at this ⊢
     omega
    ·simp only [gEach, List.mem_cons] at hv
     rcases hv with rfl | hv
     ·exact h1
     exact i2 v hv
    simp only [gEach, List.map_cons, h2, i3]
theorem outs_ok {T : List Int} : ∀ (ts : List Int) (g : Gn), PxT (gOuts ts g).2 T → vOuts T (gOuts ts g).1 ts = true
  | [], _, _ => rfl
  | t :: r, g, h => by
    have ih := outs_ok r (gFresh t g).2 h
    have hg : PxT (gFresh t g).2 T := PxT.of (px_outs r (gFresh t g).2) h
    obtain ⟨q, e⟩ := hg
    have e2 : T = (g.types ++ [t]) ++ q := e
    simp only [gOuts, vOuts, Bool.and_eq_true]
    refine ⟨?_, ih⟩
    simp only [shVal, Bool.and_eq_true, Bool.or_eq_true, beq_iff_eq, gFresh]
    refine ⟨⟨decide_eq_true (by omega), decide_eq_true ?_⟩, .inr ?_⟩
    ·rw [e2]; simp only [List.length_append, List.length_cons, List.length_nil]; omega
    rw [e2]
    simp [List.getD]
theorem vOuts_zer {T : List Int} : ∀ {l ts : List Int}, vOuts T l ts = true → vOuts T l (zer l) = true
  | [], [], _ => rfl
  | [], _ :: _, h => by simp [vOuts] at h
  | _ :: _, [], h => by simp [vOuts] at h
  | v :: r, t :: ts, h => by
    simp only [vOuts, Bool.and_eq_true] at h
    have ih := vOuts_zer h.2
    have h1 := h.1
    simp only [shVal, Bool.and_eq_true] at h1
    show (shVal T v 0 && vOuts T r (zer r)) = true
    rw [ih]
    simp [shVal, h1.1.1, h1.1.2]
theorem vOuts_of {T : List Int} : ∀ {l ts : List Int}, vOuts T l ts = true → (∀ t ∈ ts, t ≠ 0) → l.all (r8inr T) = true ∧ l.map (fun v => T.getD v.toNat 0) = ts
  | [], [], _, _ => ⟨rfl, rfl⟩
  | [], _ :: _, h, _ => by simp [vOuts] at h
  | _ :: _, [], h, _ => by simp [vOuts] at h
  | v :: r, t :: ts, h, hn => by
    simp only [vOuts, Bool.and_eq_true] at h
    obtain ⟨i1, i2⟩ := vOuts_of h.2 (fun x hx => hn x (.tail _ hx))
    have h1 := h.1
    simp only [shVal, Bool.and_eq_true, Bool.or_eq_true, beq_iff_eq] at h1
    have ht : T.getD v.toNat 0 = t := h1.2.resolve_left (hn t (.head _))
    refine ⟨?_, ?_⟩
    ·simp only [List.all_cons, Bool.and_eq_true]
     exact ⟨by simp only [r8inr, Bool.and_eq_true]; exact h1.1, i1⟩
    simp only [List.map_cons, ht, i2]
theorem of_outs {T : List Int} {ts : List Int} {g : Gn} (h : PxT (gOuts ts g).2 T) (ht : Ty12 ts) : r8of T (gOuts ts g).1 = ts := by
  obtain ⟨h1, h2⟩ := vOuts_of (outs_ok ts g h) ht.ne
  unfold r8of
  rw [if_pos h1, h2]
theorem tyN_12 : ∀ (n : Nat) (g : Gn), Ty12 (gTyN l n g).1
  | 0, _ => fun t ht => by simp [gTyN] at ht
  | n + 1, g => fun t ht => by
    have h2 : (gPick l 2 g).1 < 2 := gPick_lt (by omega)
    simp only [gTyN, List.mem_cons] at ht
    rcases ht with rfl | ht
    ·omega
    exact tyN_12 n _ t ht
theorem types_12 (g : Gn) : Ty12 (gTypes l g).1 := tyN_12 l _ _
structure Env (u : Un) (f : Fl) : Prop where
  ty : f.ty = 1
  ar : r8Array aName u.arrays 0 ≥ 0
  fl : r8Place fName u.flows 0 ≥ 0
  flw : ∃ g, u.flows[(r8Place fName u.flows 0).toNat]? = some g ∧ g.types.take g.params.toNat = [1, 2] ∧ g.ty = 1
end
end
section
theorem bare_leaf {kind op n : Int} {name : ByteArray} {args outs : List Int} (ho : (kind = 3 ∨ kind = 4) ∨ op = 0) (hn : (kind = 1 ∨ kind = 2) ∨ n = 0) (hm : (kind = 5 ∨ kind = 6 ∨ kind = 7) ∨ name = nName) (h10 : kind ≠ 10) (h11 : kind ≠ 11) :
    r8bare (.mk kind op n name args outs [] []) = true := by
  have e0 : nName.toList = [] := ba_toList nName
  have hm2 : (kind = 5 ∨ kind = 6 ∨ kind = 7) ∨ name.toList = [] := hm.imp id fun h => by rw [h, e0]
  simp only [r8bare, r8op, r8num, r8name, r8kn, Nd.kind, Nd.op, Nd.n, Nd.name, Nd.kids, Nd.params, Bool.and_eq_true, Bool.or_eq_true, beq_iff_eq, List.length_nil]
  refine ⟨⟨⟨⟨ho, hn⟩, ?_⟩, ?_⟩, .inr rfl⟩
  ·rcases hm2 with (h | h | h) | h
   ·exact .inl (.inl (.inl h))
   ·exact .inl (.inl (.inr h))
   ·exact .inl (.inr h)
   exact .inr h
  rw [if_neg h11, if_neg h10]; rfl
section
variable (l : List UInt8) {u : Un} {f : Fl} {seen : List Int} {w : Wh} {deep : Int}
def Leaf (u : Un) (f : Fl) (seen : List Int) (w : Wh) (x : Nd) : Prop := r8bare x = true ∧ (x.kind == 10) = false ∧ (x.kind == 11) = false ∧ (sForm u f x seen w).ok f.types x.outs = true
theorem Leaf.ok {x : Nd} (h : Leaf u f seen w x) : vNode u f deep w seen x = true := by
  rw [vNode_simple u f deep w seen h.1 h.2.1 h.2.2.1]; exact h.2.2.2
theorem closed_leaf {x : Nd} (h1 : (x.kind == 10) = false) (h2 : (x.kind == 11) = false) : r8Closed x = r8Ender x.kind := by
  unfold r8Closed
  rw [h1, h2]; rfl
section
variable {A O : List Int} {op n : Int} {name : ByteArray}
theorem sF1 : sForm u f (.mk 1 op n name A O [] []) seen w = ⟨r8types f.types seen A [], some [1]⟩ := rfl
theorem sF2 : sForm u f (.mk 2 op n name A O [] []) seen w = ⟨(n == 0 || n == 1) && r8types f.types seen A [], some [2]⟩ := rfl
theorem sF3 : sForm u f (.mk 3 op n name A O [] []) seen w = ⟨r1IsOne op && r8types f.types seen A [(r5Operand op).1], some [(r5Operand op).2]⟩ := rfl
theorem sF4 : sForm u f (.mk 4 op n name A O [] []) seen w = ⟨r1IsTwo op && r8types f.types seen A [(r5Operand op).1, (r5Operand op).1] && f.types.getD (A.getD 0 0).toNat 0 == f.types.getD (A.getD 1 0).toNat 0, some [(r5Operand op).2]⟩ := rfl
theorem sF5 : sForm u f (.mk 5 op n name A O [] []) seen w = ⟨decide (r8Array name u.arrays 0 ≥ 0) && r8types f.types seen A [1], some [1]⟩ := rfl
theorem sF6 : sForm u f (.mk 6 op n name A O [] []) seen w = ⟨decide (r8Array name u.arrays 0 ≥ 0) && r8types f.types seen A [1, 1], none⟩ := rfl
theorem sF7 {g : Fl} (h : r8Place name u.flows 0 ≥ 0) (hg : u.flows[(r8Place name u.flows 0).toNat]? = some g) : sForm u f (.mk 7 op n name A O [] []) seen w = ⟨r8types f.types seen A (g.types.take g.params.toNat), some [g.ty]⟩ := by
  have e : sForm u f (.mk 7 op n name A O [] []) seen w = (if decide (r8Place name u.flows 0 ≥ 0) = true then match u.flows[(r8Place name u.flows 0).toNat]? with
      | some g => ⟨r8types f.types seen A (g.types.take g.params.toNat), some [g.ty]⟩
      | none => ⟨false, none⟩
    else ⟨false, none⟩) := rfl
  rw [e, if_pos (decide_eq_true h), hg]
theorem sF8 : sForm u f (.mk 8 op n name A O [] []) seen w = ⟨(A.length : Int) == 0, some [1]⟩ := rfl
theorem sF9 : sForm u f (.mk 9 op n name A O [] []) seen w = ⟨r8types f.types seen A [1], none⟩ := rfl
theorem sF12 : sForm u f (.mk 12 op n name A O [] []) seen w = ⟨w.If && r8types f.types seen A w.Yield, none⟩ := rfl
theorem sF13 : sForm u f (.mk 13 op n name A O [] []) seen w = ⟨w.Loop && r8types f.types seen A w.Next, none⟩ := rfl
theorem sF14 : sForm u f (.mk 14 op n name A O [] []) seen w = ⟨w.Loop && r8types f.types seen A w.Left, none⟩ := rfl
theorem sF15 : sForm u f (.mk 15 op n name A O [] []) seen w = ⟨r8types f.types seen A [f.ty], none⟩ := rfl
theorem leaf1 (hO : vOuts f.types O [1] = true) : Leaf u f seen w (.mk 1 0 n nName [] O [] []) :=
  ⟨bare_leaf (.inr rfl) (.inl (.inl rfl)) (.inr rfl) (by decide) (by decide), rfl, rfl, by
    rw [sF1]; simpa [SForm.ok, r8types, r8typesGo, Nd.outs] using hO⟩
theorem leaf2 (hn : n = 0 ∨ n = 1) (hO : vOuts f.types O [2] = true) : Leaf u f seen w (.mk 2 0 n nName [] O [] []) :=
  ⟨bare_leaf (.inr rfl) (.inl (.inr rfl)) (.inr rfl) (by decide) (by decide), rfl, rfl, by
    have h1 : (n == 0 || n == 1) = true := by rcases hn with rfl | rfl <;> rfl
    rw [sF2]; simp only [SForm.ok, h1, Nd.outs, hO]; rfl⟩
theorem leaf3 {a b : Int} (h1 : r1IsOne op = true) (h2 : r5Operand op = (a, b)) (hA : r8types f.types seen A [a] = true) (hO : vOuts f.types O [b] = true) : Leaf u f seen w (.mk 3 op 0 nName A O [] []) :=
  ⟨bare_leaf (.inl (.inl rfl)) (.inr rfl) (.inr rfl) (by decide) (by decide), rfl, rfl, by
    rw [sF3]; simp only [SForm.ok, h1, h2, Nd.outs, hA, hO]; rfl⟩
theorem leaf4 {a b : Int} (h1 : r1IsTwo op = true) (h2 : r5Operand op = (a, b)) (hA : r8types f.types seen A [a, a] = true) (ht : f.types.getD (A.getD 0 0).toNat 0 = f.types.getD (A.getD 1 0).toNat 0) (hO : vOuts f.types O [b] = true) : Leaf u f seen w (.mk 4 op 0 nName A O [] []) :=
  ⟨bare_leaf (.inl (.inr rfl)) (.inr rfl) (.inr rfl) (by decide) (by decide), rfl, rfl, by
    rw [sF4]; simp only [SForm.ok, h1, h2, Nd.outs, hA, hO, ht, Bool.true_and, Bool.and_true, beq_self_eq_true]⟩
theorem leaf5 (E : Env u f) (hA : r8types f.types seen A [1] = true) (hO : vOuts f.types O [1] = true) : Leaf u f seen w (.mk 5 0 0 aName A O [] []) :=
  ⟨bare_leaf (.inr rfl) (.inr rfl) (.inl (.inl rfl)) (by decide) (by decide), rfl, rfl, by
    rw [sF5]; simp only [SForm.ok, decide_eq_true E.ar, Nd.outs, hA, hO]; rfl⟩
theorem leaf6 (E : Env u f) (hA : r8types f.types seen A [1, 1] = true) : Leaf u f seen w (.mk 6 0 0 aName A [] [] []) :=
  ⟨bare_leaf (.inr rfl) (.inr rfl) (.inl (.inr (.inl rfl))) (by decide) (by decide), rfl, rfl, by
    rw [sF6]; simp only [SForm.ok, decide_eq_true E.ar, hA]; rfl⟩
theorem leaf7 (E : Env u f) (hA : r8types f.types seen A [1, 2] = true) (hO : vOuts f.types O [1] = true) : Leaf u f seen w (.mk 7 0 0 fName A O [] []) :=
  ⟨bare_leaf (.inr rfl) (.inr rfl) (.inl (.inr (.inr rfl))) (by decide) (by decide), rfl, rfl, by
    obtain ⟨g, h1, h2, h3⟩ := E.flw
    rw [sF7 E.fl h1]; simp only [SForm.ok, h2, h3, Nd.outs, hA, hO]; rfl⟩
theorem leaf8 (hO : vOuts f.types O [1] = true) : Leaf u f seen w (.mk 8 0 0 nName [] O [] []) :=
  ⟨bare_leaf (.inr rfl) (.inr rfl) (.inr rfl) (by decide) (by decide), rfl, rfl, by
    rw [sF8]; simp only [SForm.ok, Nd.outs, hO]; rfl⟩
theorem leaf9 (hA : r8types f.types seen A [1] = true) : Leaf u f seen w (.mk 9 0 0 nName A [] [] []) :=
  ⟨bare_leaf (.inr rfl) (.inr rfl) (.inr rfl) (by decide) (by decide), rfl, rfl, by
    rw [sF9]; simp only [SForm.ok, hA]; rfl⟩
theorem leafE {k : Int} {want : List Int} (hk : (k = 12 ∧ w.If = true ∧ want = w.Yield) ∨ (k = 13 ∧ w.Loop = true ∧ want = w.Next) ∨ (k = 14 ∧ w.Loop = true ∧ want = w.Left) ∨ (k = 15 ∧ want = [f.ty])) (hA : r8types f.types seen A want = true) : Leaf u f seen w (.mk k 0 0 nName A [] [] []) := by
  have hb : r8bare (.mk k 0 0 nName A [] [] []) = true := bare_leaf (.inr rfl) (.inr rfl) (.inr rfl) (by omega) (by omega)
  rcases hk with ⟨rfl, h1, rfl⟩ | ⟨rfl, h1, rfl⟩ | ⟨rfl, h1, rfl⟩ | ⟨rfl, rfl⟩
  ·exact ⟨hb, rfl, rfl, by rw [sF12]; simp only [SForm.ok, h1, hA]; rfl⟩
  ·exact ⟨hb, rfl, rfl, by rw [sF13]; simp only [SForm.ok, h1, hA]; rfl⟩
  ·exact ⟨hb, rfl, rfl, by rw [sF14]; simp only [SForm.ok, h1, hA]; rfl⟩
  exact ⟨hb, rfl, rfl, by rw [sF15]; simp only [SForm.ok, hA]; rfl⟩
end
theorem simple_ok (E : Env u f) {g : Gn} (h : PxT (gSimple l seen g).2 f.types) (hs : Sn f.types g.types.length seen) : Leaf u f seen w (gSimple l seen g).1 ∧ r8Ender (gSimple l seen g).1.kind = false := by
  have key : ∀ (kind op n : Int) (name : ByteArray) (ins outs : List Int) (g' : Gn), g'.types = g.types → PxT (gNode l kind op n name seen ins outs g').2 f.types → Ty12 ins →
      (∀ A O, r8types f.types seen A ins = true → A.map (fun v => f.types.getD v.toNat 0) = ins → vOuts f.types O outs = true → Leaf u f seen w (.mk kind op n name A O [] [])) → r8Ender kind = false →
      Leaf u f seen w (gNode l kind op n name seen ins outs g').1 ∧ r8Ender (gNode l kind op n name seen ins outs g').1.kind = false := by
    intro kind op n name ins outs g' hg hp hi hL hk
    have hp1 : PxT (gEach l seen ins g').2 f.types := PxT.of (px_outs outs _) hp
    have hp0 : PxT g' f.types := PxT.of (px_each l seen ins g') hp1
    obtain ⟨a1, _, a3⟩ := each_ok l (seen := seen) ins hp0 (by rw [hg]; exact hs) hi
    exact ⟨hL _ _ a1 a3 (outs_ok outs _ hp), hk⟩
  have i1 : Ty12 [1] := by intro t ht; simp at ht; omega
  have i2 : Ty12 [2] := by intro t ht; simp at ht; omega
  have i11 : Ty12 [1, 1] := by intro t ht; simp at ht; omega
  have i12 : Ty12 [1, 2] := by intro t ht; simp at ht; omega
  have i0 : Ty12 [] := by intro t ht; simp at ht
  have nilA : ∀ {A : List Int}, A.map (fun v => f.types.getD v.toNat 0) = [] → A = [] := fun h => by simpa using h
  have twoA : ∀ {A : List Int} {t : Int}, A.map (fun v => f.types.getD v.toNat 0) = [t, t] → f.types.getD (A.getD 0 0).toNat 0 = f.types.getD (A.getD 1 0).toNat 0 := by
    intro A t hA
    rcases A with _ | ⟨a, _ | ⟨b, _ | ⟨c, A⟩⟩⟩
    ·simp at hA
    ·simp at hA
    ·simp only [List.map_cons, List.map_nil, List.cons.injEq, and_true] at hA
     show f.types.getD a.toNat 0 = f.types.getD b.toNat 0
     rw [hA.1, hA.2]
    simp at hA
  have two00 : ∀ {A : List Int}, r8types f.types seen A [1, 1] = true → r8types f.types seen A [0, 0] = true := by
    intro A hA
    rcases A with _ | ⟨a, _ | ⟨b, _ | ⟨c, A⟩⟩⟩
    ·simp [r8types] at hA
    ·simp [r8types] at hA
    ·simp only [r8types, r8typesGo, r8use, Bool.and_eq_true, Bool.not_eq_true', Bool.or_eq_false_iff] at hA ⊢
     simp_all
    simp [r8types] at hA
    omega
  unfold gSimple at h ⊢
  simp only at h ⊢
  split
  ·rename_i hk; simp only [hk, if_true] at h
   exact key 1 0 _ nName [] [1] _ rfl h i0 (fun A O _ h2 h3 => by rw [nilA h2]; exact leaf1 h3) rfl
  rename_i n0; rw [if_neg n0] at h
  split
  ·rename_i hk; rw [if_pos hk] at h
   have h2 : (gPick l 2 (gPick l 12 g).2).1 < 2 := gPick_lt (by omega)
   exact key 2 0 _ nName [] [2] _ rfl h i0 (fun A O _ h2 h3 => by rw [nilA h2]; exact leaf2 (by omega) h3) rfl
  rename_i n1; rw [if_neg n1] at h
  split
  ·rename_i hk; rw [if_pos hk] at h
   have h4 : (gPick l 4 (gPick l 12 g).2).1 < 4 := gPick_lt (by omega)
   generalize (gPick l 4 (gPick l 12 g).2).1 = z at *
   have hz : gOnes.getD z 0 = 20 ∨ gOnes.getD z 0 = 21 ∨ gOnes.getD z 0 = 23 ∨ gOnes.getD z 0 = 27 := by
     have h5 : z = 0 ∨ z = 1 ∨ z = 2 ∨ z = 3 := by omega
     rcases h5 with rfl | rfl | rfl | rfl
     ·exact .inl rfl
     ·exact .inr (.inl rfl)
     ·exact .inr (.inr (.inl rfl))
     exact .inr (.inr (.inr rfl))
   exact key 3 _ 0 nName [1] [1] _ rfl h i1 (fun A O h1 _ h3 => leaf3 (by rcases hz with e | e | e | e <;> rw [e] <;> rfl) (by rcases hz with e | e | e | e <;> rw [e] <;> rfl) h1 h3) rfl
  rename_i n2; rw [if_neg n2] at h
  split
  ·rename_i hk; rw [if_pos hk] at h
   exact key 3 22 0 nName [2] [2] _ rfl h i2 (fun A O h1 _ h3 => leaf3 rfl rfl h1 h3) rfl
  rename_i n3; rw [if_neg n3] at h
  split
  ·rename_i hk; rw [if_pos hk] at h
   have h11 : (gPick l 11 (gPick l 12 g).2).1 < 11 := gPick_lt (by omega)
   exact key 4 _ 0 nName [1, 1] [1] _ rfl h i11 (fun A O h1 h2 h3 => leaf4 (a := 1) (b := 1) (by simp [r1IsTwo]; omega) (by
     unfold r5Operand
     rw [if_neg (by simp; omega), if_neg (by simp; omega), if_neg (by simp; omega)]) h1 (twoA h2) h3) rfl
  rename_i n4; rw [if_neg n4] at h
  split
  ·rename_i hk; rw [if_pos hk] at h
   have h6 : (gPick l 6 (gPick l 12 g).2).1 < 6 := gPick_lt (by omega)
   refine key 4 _ 0 nName [1, 1] [2] _ rfl h i11 (fun A O h1 h2 h3 => ?_) rfl
   by_cases hz : (gPick l 6 (gPick l 12 g).2).1 < 4
   ·exact leaf4 (a := 1) (b := 2) (by simp [r1IsTwo]; omega) (by
      unfold r5Operand
      rw [if_neg (by simp; omega), if_neg (by simp; omega), if_pos (by simp; omega)]) h1 (twoA h2) h3
   exact leaf4 (a := 0) (b := 2) (by simp [r1IsTwo]; omega) (by
     unfold r5Operand
     rw [if_neg (by simp; omega), if_pos (by simp; omega)]) (two00 h1) (twoA h2) h3
  rename_i n5; rw [if_neg n5] at h
  split
  ·rename_i hk; rw [if_pos hk] at h
   exact key 5 0 0 aName [1] [1] _ rfl h i1 (fun A O h1 _ h3 => leaf5 E h1 h3) rfl
  rename_i n6; rw [if_neg n6] at h
  split
  ·rename_i hk; rw [if_pos hk] at h
   exact key 6 0 0 aName [1, 1] [] _ rfl h i11 (fun A O h1 _ h3 => by
     cases O with
     | nil => exact leaf6 E h1
     | cons _ _ => simp [vOuts] at h3) rfl
  rename_i n7; rw [if_neg n7] at h
  split
  ·rename_i hk; rw [if_pos hk] at h
   exact key 7 0 0 fName [1, 2] [1] _ rfl h i12 (fun A O h1 _ h3 => leaf7 E h1 h3) rfl
  rename_i n8; rw [if_neg n8] at h
  split
  ·rename_i hk; rw [if_pos hk] at h
   exact key 8 0 0 nName [] [1] _ rfl h i0 (fun A O _ h2 h3 => by rw [nilA h2]; exact leaf8 h3) rfl
  rename_i hk; rw [if_neg hk] at h
  exact key 9 0 0 nName [1] [] _ rfl h i1 (fun A O h1 _ h3 => by
    cases O with
    | nil => exact leaf9 h1
    | cons _ _ => simp [vOuts] at h3) rfl
end
end
section
structure Plc.T12 (p : Plc) : Prop where
  y : Ty12 p.Yield
  n : Ty12 p.Next
  v : Ty12 p.Left
structure Wr (p : Plc) (w : Wh) (L : List Nd) : Prop where
  i : p.If = true → w.If = true
  lp : p.Loop = true → w.Loop = true ∧ w.Next = p.Next
  y : r8last L = 12 → w.Yield = p.Yield
  lv : r8Leaves L = true → w.Left = p.Left
section
variable (l : List UInt8) {u : Un} {f : Fl}
theorem gEnd_ok (E : Env u f) {seen : List Int} {p : Plc} {g : Gn} {w : Wh} (h : PxT (gEnd l seen p g).2 f.types) (hs : Sn f.types g.types.length seen) (hp : p.T12) (W : Wr p w [(gEnd l seen p g).1]) :
    Leaf u f seen w (gEnd l seen p g).1 ∧ r8Ender (gEnd l seen p g).1.kind = true := by
  have key : ∀ (k : Int) (ins : List Int) (g' : Gn), g'.types = g.types → PxT (gNode l k 0 0 nName seen ins [] g').2 f.types → Ty12 ins →
      ((k = 12 ∧ w.If = true ∧ ins = w.Yield) ∨ (k = 13 ∧ w.Loop = true ∧ ins = w.Next) ∨ (k = 14 ∧ w.Loop = true ∧ ins = w.Left) ∨ (k = 15 ∧ ins = [f.ty])) →
      Leaf u f seen w (gNode l k 0 0 nName seen ins [] g').1 ∧ r8Ender (gNode l k 0 0 nName seen ins [] g').1.kind = true := by
    intro k ins g' hg hp' hi hk
    have hp0 : PxT g' f.types := PxT.of (px_each l seen ins g') hp'
    obtain ⟨a1, _, _⟩ := each_ok l (seen := seen) ins hp0 (by rw [hg]; exact hs) hi
    refine ⟨leafE hk a1, ?_⟩
    show (decide (k ≥ 12) && decide (k ≤ 15)) = true
    rw [decide_eq_true (by omega), decide_eq_true (by omega)]; rfl
  unfold gEnd at h W ⊢
  simp only at h W ⊢
  split
  ·rename_i hk; rw [if_pos hk] at h W
   exact key 12 p.Yield _ rfl h hp.y (.inl ⟨rfl, W.i hk.1, (W.y rfl).symm⟩)
  rename_i n1; rw [if_neg n1] at h W
  split
  ·rename_i hk; rw [if_pos hk] at h W
   exact key 13 p.Next _ rfl h hp.n (.inr (.inl ⟨rfl, (W.lp hk.1).1, (W.lp hk.1).2.symm⟩))
  rename_i n2; rw [if_neg n2] at h W
  split
  ·rename_i hk; rw [if_pos hk] at h W
   exact key 14 p.Left _ rfl h hp.v (.inr (.inr (.inl ⟨rfl, (W.lp hk).1, (W.lv rfl).symm⟩)))
  rename_i hk; rw [if_neg hk] at h W
  exact key 15 [1] _ rfl h (by intro t ht; simp at ht; omega) (.inr (.inr (.inr ⟨rfl, by rw [E.ty]⟩)))
def RecOk (u : Un) (f : Fl) (d : Nat) (rec : GRec) : Prop := ∀ (seen : List Int) (p : Plc) (g : Gn) (w : Wh) (deep : Int), PxT (rec seen p g).2 f.types → Sn f.types g.types.length seen → p.T12 → Wr p w (rec seen p g).1 → deep + d ≤ 100 → vList u f deep w seen (rec seen p g).1 = true
theorem if_ok {d : Nat} {rec : GRec} (hr : RecOk u f d rec) (hpx : RecPx rec) {all : List Int} {p : Plc} {g : Gn} {w : Wh} {deep : Int} (h : PxT (gIf l rec all p g).2 f.types) (hs : Sn f.types g.types.length all) (hp : p.T12)
    (hlp : p.Loop = true → w.Loop = true ∧ w.Next = p.Next) (hlv : r8LeavesN (gIf l rec all p g).1 = true → w.Left = p.Left) (hd : deep + 1 + d ≤ 100) : vNode u f deep w all (gIf l rec all p g).1 = true := by
  unfold gIf at h hlv ⊢
  simp only at h hlv ⊢
  have t12 := types_12 l g
  generalize hT : gTypes l g = T at *
  generalize hC : gEach l all [2] T.2 = C at *
  have eT : T.2.types = g.types := by rw [← hT, (gTypes_st l g).1]
  have eC : C.2.types = g.types := by rw [← hC, (gEach_st l all [2] T.2).1]; exact eT
  have hA := fun w' deep' => hr all ⟨true, p.Loop, T.1, p.Next, p.Left⟩ C.2 w' deep'
  have pA := hpx all ⟨true, p.Loop, T.1, p.Next, p.Left⟩ C.2
  generalize rec all ⟨true, p.Loop, T.1, p.Next, p.Left⟩ C.2 = A at *
  have hB := fun w' deep' => hr all ⟨true, p.Loop, T.1, p.Next, p.Left⟩ A.2 w' deep'
  have pB := hpx all ⟨true, p.Loop, T.1, p.Next, p.Left⟩ A.2
  generalize rec all ⟨true, p.Loop, T.1, p.Next, p.Left⟩ A.2 = B at *
  have xB : PxT B.2 f.types := PxT.of (px_shut _ _ _) h
  have xA : PxT A.2 f.types := PxT.of pB xB
  have xC : PxT C.2 f.types := PxT.of pA xA
  have sC : Sn f.types C.2.types.length all := by rw [eC]; exact hs
  have sA : Sn f.types A.2.types.length all := sC.mono pA.len
  have xT : PxT T.2 f.types := by obtain ⟨q, e⟩ := xC; exact ⟨q, by rw [e, eC, eT]⟩
  have hCt : r8types f.types all C.1 [2] = true := by
    have := (each_ok l (seen := all) [2] xT (by rw [eT]; exact hs) (by intro t ht; simp at ht; omega)).1
    rw [hC] at this; exact this
  have p12 : Plc.T12 ⟨true, p.Loop, T.1, p.Next, p.Left⟩ := ⟨t12, hp.n, hp.v⟩
  -- a node with such outs
  have key : ∀ o : List Int, vOuts f.types o (zer o) = true → (r8Closed (.mk 10 0 0 nName C.1 o [] [A.1, B.1]) = true → o = []) → (r8last A.1 = 12 → r8of f.types o = T.1) → (r8last B.1 = 12 → r8of f.types o = T.1) →
      (r8LeavesN (.mk 10 0 0 nName C.1 o [] [A.1, B.1]) = true → w.Left = p.Left) → vNode u f deep w all (.mk 10 0 0 nName C.1 o [] [A.1, B.1]) = true := by
    intro o ho hc hyA hyB hl
    have e0 : nName.toList = [] := ba_toList nName
    have hb : r8bare (.mk 10 0 0 nName C.1 o [] [A.1, B.1]) = true := by
      simp [r8bare, r8op, r8num, r8name, r8kn, Nd.kind, Nd.op, Nd.n, Nd.name, Nd.kids, Nd.params, e0]
    rw [vNode_if u f deep w all hb rfl rfl]
    have hl2 : ∀ q, q ∈ [A.1, B.1] → r8Leaves q = true → w.Left = p.Left := by
      intro q hq hq2
      refine hl ?_
      simp only [r8LeavesN, r8LeavesK, Bool.or_false]
      simp only [List.mem_cons, List.not_mem_nil, or_false] at hq
      rcases hq with rfl | rfl
      ·rw [hq2]; rfl
      rw [hq2]; simp
    have vA := hA (w1 w f (.mk 10 0 0 nName C.1 o [] [A.1, B.1])) (deep + 1) xA sC p12 ⟨fun _ => rfl, hlp, hyA, hl2 _ (.head _)⟩ hd
    have vB := hB (w1 w f (.mk 10 0 0 nName C.1 o [] [A.1, B.1])) (deep + 1) xB sA p12 ⟨fun _ => rfl, hlp, hyB, hl2 _ (.tail _ (.head _))⟩ hd
    have ho2 : outOk (.mk 10 0 0 nName C.1 o [] [A.1, B.1]) = true := by
      unfold outOk
      cases hcl : r8Closed (.mk 10 0 0 nName C.1 o [] [A.1, B.1]) with
      | false => simp
      | true => rw [hc hcl]; rfl
    simp only [Bool.and_eq_true]
    exact ⟨⟨⟨⟨hCt, vA⟩, vB⟩, ho2⟩, ho⟩
  unfold gShut at h hlv ⊢
  split
  ·rename_i hcl
   rw [if_pos hcl] at hlv
   have hcl2 : (r8last A.1 != 12 && r8last B.1 != 12) = true := hcl
   simp only [Bool.and_eq_true, bne_iff_ne] at hcl2
   exact key [] rfl (fun _ => rfl) (fun e => absurd e hcl2.1) (fun e => absurd e hcl2.2) hlv
  rename_i hcl
  rw [if_neg hcl] at h hlv
  have ho := of_outs (T := f.types) h t12
  exact key _ (vOuts_zer (outs_ok _ _ h)) (fun hc => absurd hc hcl) (fun _ => ho) (fun _ => ho) hlv
theorem loop_ok {d : Nat} {rec : GRec} (hr : RecOk u f d rec) (hpx : RecPx rec) {all : List Int} {g : Gn} {w : Wh} {deep : Int} (h : PxT (gLoop l rec all g).2 f.types) (hs : Sn f.types g.types.length all) (hd : deep + 1 + d ≤ 100) : vNode u f deep w all (gLoop l rec all g).1 = true := by
  unfold gLoop at h ⊢
  simp only at h ⊢
  have t12 := types_12 l g
  generalize hT : gTypes l g = T at *
  have o12 := types_12 l T.2
  generalize hO : gTypes l T.2 = O at *
  generalize hA : gEach l all T.1 O.2 = A at *
  have eT : T.2.types = g.types := by rw [← hT, (gTypes_st l g).1]
  have eO : O.2.types = g.types := by rw [← hO, (gTypes_st l T.2).1]; exact eT
  have eA : A.2.types = g.types := by rw [← hA, (gEach_st l all T.1 O.2).1]; exact eO
  generalize hQ : gOuts T.1 A.2 = Q at *
  have hB := fun w' deep' => hr (all ++ Q.1) ⟨false, true, [], T.1, O.1⟩ Q.2 w' deep'
  have pB := hpx (all ++ Q.1) ⟨false, true, [], T.1, O.1⟩ Q.2
  generalize rec (all ++ Q.1) ⟨false, true, [], T.1, O.1⟩ Q.2 = B at *
  have xB : PxT B.2 f.types := PxT.of (px_shut _ _ _) h
  have xQ : PxT Q.2 f.types := PxT.of pB xB
  have pQ : Px A.2 Q.2 := by rw [← hQ]; exact px_outs T.1 A.2
  have xA : PxT A.2 f.types := PxT.of pQ xQ
  have xO : PxT O.2 f.types := by obtain ⟨q, e⟩ := xA; exact ⟨q, by rw [e, eA, eO]⟩
  have hAt : r8types f.types all A.1 T.1 = true := by
    have := (each_ok l (seen := all) T.1 xO (by rw [eO]; exact hs) t12).1
    rw [hA] at this; exact this
  have hQo : vOuts f.types Q.1 T.1 = true := by have := outs_ok (T := f.types) T.1 A.2 (by rw [hQ]; exact xQ); rw [hQ] at this; exact this
  have hQt : r8of f.types Q.1 = T.1 := by have := of_outs (T := f.types) (g := A.2) (ts := T.1) (by rw [hQ]; exact xQ) t12; rw [hQ] at this; exact this
  have sQ : Sn f.types Q.2.types.length (all ++ Q.1) := by
    have hin := InR.outs T.1 A.2
    rw [hQ] at hin
    exact hs.app (by have := pQ.len; rw [eA] at this; exact this) hin
  have key : ∀ o : List Int, vOuts f.types o (zer o) = true → (r8Closed (.mk 11 0 0 nName A.1 o Q.1 [B.1]) = true → o = []) → (r8Leaves B.1 = true → r8of f.types o = O.1) → vNode u f deep w all (.mk 11 0 0 nName A.1 o Q.1 [B.1]) = true := by
    intro o ho hc hl
    have e0 : nName.toList = [] := ba_toList nName
    have hb : r8bare (.mk 11 0 0 nName A.1 o Q.1 [B.1]) = true := by
      simp [r8bare, r8op, r8num, r8name, r8kn, Nd.kind, Nd.op, Nd.n, Nd.name, Nd.kids, Nd.params, e0]
    rw [vNode_loop u f deep w all hb rfl rfl]
    have vB := hB (w2 f (.mk 11 0 0 nName A.1 o Q.1 [B.1])) (deep + 1) xB sQ ⟨fun t ht => (by simp at ht), t12, o12⟩ ⟨fun e => (by cases e), fun _ => ⟨rfl, hQt⟩, fun _ => rfl, hl⟩ hd
    have ho2 : outOk (.mk 11 0 0 nName A.1 o Q.1 [B.1]) = true := by
      unfold outOk
      cases hcl : r8Closed (.mk 11 0 0 nName A.1 o Q.1 [B.1]) with
      | false => simp
      | true => rw [hc hcl]; rfl
    simp only [Bool.and_eq_true]
    refine ⟨⟨⟨⟨?_, vOuts_zer hQo⟩, vB⟩, ho2⟩, ho⟩
    show r8types f.types all A.1 (r8of f.types Q.1) = true
    rw [hQt]; exact hAt
  unfold gShut at h ⊢
  split
  ·rename_i hcl
   have hcl2 : (!r8Leaves B.1) = true := hcl
   exact key [] rfl (fun _ => rfl) (fun e => by rw [e] at hcl2; cases hcl2)
  rename_i hcl
  rw [if_neg hcl] at h
  have ho := of_outs (T := f.types) h o12
  exact key _ (vOuts_zer (outs_ok _ _ h)) (fun hc => absurd hc hcl) (fun _ => ho)
theorem any_ok (E : Env u f) {d : Nat} {rec : Option GRec} (hr : ∀ r, rec = some r → RecOk u f d r ∧ RecPx r) {all : List Int} {p : Plc} {g : Gn} {w : Wh} {deep : Int} (h : PxT (gAny l rec all p g).2 f.types) (hs : Sn f.types g.types.length all) (hp : p.T12)
    (hlp : p.Loop = true → w.Loop = true ∧ w.Next = p.Next) (hlv : r8LeavesN (gAny l rec all p g).1 = true → w.Left = p.Left) (hd : deep + 1 + d ≤ 100) : vNode u f deep w all (gAny l rec all p g).1 = true := by
  have hs' : Sn f.types ({ g with left := g.left - 1 } : Gn).types.length all := hs
  have ps := px_simple l all { g with left := g.left - 1 }
  have sS := hs'.mono ps.len
  unfold gAny at h hlv ⊢
  simp only at h hlv ⊢
  cases rec with
  | none => exact (simple_ok l E (w := w) h hs').1.ok
  | some r =>
    simp only at h hlv ⊢
    split
    ·rename_i hk; rw [if_pos hk] at h hlv
     exact if_ok l (hr r rfl).1 (hr r rfl).2 h sS hp hlp hlv hd
    rename_i n0; rw [if_neg n0] at h hlv
    split
    ·rename_i hk; rw [if_pos hk] at h hlv
     exact loop_ok l (hr r rfl).1 (hr r rfl).2 h sS hd
    rename_i n1; rw [if_neg n1] at h
    exact (simple_ok l E (w := w) h hs').1.ok
theorem last_cons {x : Nd} {q : List Nd} (h : q ≠ []) : r8last (x :: q) = r8last q := by
  cases q with
  | nil => exact absurd rfl h
  | cons y r => unfold r8last; rw [List.getLast?_cons_cons]
theorem tail_ok (E : Env u f) {d : Nat} {rec : Option GRec} (hr : ∀ r, rec = some r → RecOk u f d r ∧ RecPx r) {p : Plc} (hp : p.T12) {w : Wh} {deep : Int} (hd : deep + 1 + d ≤ 100) (hd0 : deep ≤ 100) : ∀ (i : Nat) (all : List Int) (g : Gn), PxT (gTail l rec p i all g).2 f.types → Sn f.types g.types.length all → Wr p w (gTail l rec p i all g).1 →
    vGo u f deep w all (gTail l rec p i all g).1 = true := by
  have e100 : (!decide (deep > 100)) = true := by rw [decide_eq_false (by omega)]; rfl
  have fin : ∀ (all : List Int) (g : Gn), PxT (gEnd l all p g).2 f.types → Sn f.types g.types.length all → Wr p w [(gEnd l all p g).1] → vGo u f deep w all [(gEnd l all p g).1] = true := by
    intro all g h hs W
    obtain ⟨h1, h2⟩ := gEnd_ok l E h hs hp W
    have hc : r8Closed (gEnd l all p g).1 = true := by rw [closed_leaf h1.2.1 h1.2.2.1]; exact h2
    simp only [vGo, e100, h1.ok (deep := deep), hc, List.isEmpty_nil, Bool.and_true]
    rfl
  intro i
  induction i with
  | zero => intro all g h hs W; exact fin all g h hs W
  | succ i ih =>
    intro all g h hs W
    unfold gTail at h W ⊢
    split
    ·rename_i hk; rw [if_pos hk] at h W
     exact fin all g h hs W
    rename_i n0; rw [if_neg n0] at h W
    split
    ·rename_i hc; rw [if_pos hc] at h W
     have hv := any_ok l E hr (deep := deep) h hs hp W.lp (fun e => W.lv (by simp only [r8Leaves, e, Bool.true_or])) hd
     simp only [vGo, e100, hv, hc, List.isEmpty_nil, Bool.and_true]
     rfl
    rename_i hc; rw [if_neg hc] at h W
    have hne := gTail_ne l rec p i (all ++ (gAny l rec all p g).1.outs) (gAny l rec all p g).2
    have px1 : PxT (gAny l rec all p g).2 f.types := PxT.of (px_tail l (fun r e => (hr r e).2) p i _ _) h
    have hv := any_ok l E hr (deep := deep) px1 hs hp W.lp (fun e => W.lv (by simp only [r8Leaves, e, Bool.true_or])) hd
    have hcf : r8Closed (gAny l rec all p g).1 = false := by simpa using hc
    have hem : (gTail l rec p i (all ++ (gAny l rec all p g).1.outs) (gAny l rec all p g).2).1.isEmpty = false := by
      cases hq : (gTail l rec p i (all ++ (gAny l rec all p g).1.outs) (gAny l rec all p g).2).1 with
      | nil => exact absurd hq hne
      | cons _ _ => rfl
    have pg := (px_any l (fun r e => (hr r e).2) all p g).len
    have ho := (any_outs l (rec := rec) all p g).1
    have hgo := ih _ _ h (hs.app pg ho) ⟨W.i, W.lp, fun e => W.y (by rw [last_cons hne]; exact e), fun e => W.lv (by simp only [r8Leaves, e, Bool.or_true])⟩
    simp only [vGo, e100, hv, hcf, hem, hgo, Bool.and_true]
    rfl
theorem list_ok (E : Env u f) (d : Nat) : RecOk u f (d + 1) (gList l d) := by
  induction d with
  | zero =>
    intro seen p g w deep h hs hp W hd
    rw [gList_tail] at h W ⊢
    have := tail_ok l E (d := 0) (rec := gRec l 0) (fun r h => by cases h) hp (w := w) (deep := deep) (by simpa using hd) (by omega) _ _ _ h hs W
    have hne := gTail_ne l (gRec l 0) p (gPick l 6 g).1 seen (gPick l 6 g).2
    simp only [vList, this, Bool.and_true]
    cases hq : (gTail l (gRec l 0) p (gPick l 6 g).1 seen (gPick l 6 g).2).1 with
    | nil => exact absurd hq hne
    | cons _ _ => rfl
  | succ d ih =>
    intro seen p g w deep h hs hp W hd
    rw [gList_tail] at h W ⊢
    have := tail_ok l E (d := d + 1) (rec := gRec l (d + 1)) (fun r h => by cases h; exact ⟨ih, px_list l d⟩) hp (w := w) (deep := deep) (by omega) (by omega) _ _ _ h hs W
    have hne := gTail_ne l (gRec l (d + 1)) p (gPick l 6 g).1 seen (gPick l 6 g).2
    simp only [vList, this, Bool.and_true]
    cases hq : (gTail l (gRec l (d + 1)) p (gPick l 6 g).1 seen (gPick l 6 g).2).1 with
    | nil => exact absurd hq hne
    | cons _ _ => rfl
end
end
section
section
variable (l : List UInt8)
theorem wt_gNode (kind op n : Int) (name : ByteArray) (seen ins outs : List Int) (g : Gn) : wtN (gNode l kind op n name seen ins outs g).1 = ins.length + outs.length + name.size := by
  rw [wtN_eq]
  show (gEach l seen ins g).1.length + (gOuts outs _).1.length + 0 + name.size + 0 = _
  rw [(gEach_st l seen ins g).2, (gOuts_st outs _).2]
  omega
theorem wt_simple (seen : List Int) (g : Gn) : wtN (gSimple l seen g).1 ≤ 4 := by
  unfold gSimple
  simp only
  have hn : nName.size = 0 := rfl
  have ha : aName.size = 1 := rfl
  have hf : fName.size = 1 := rfl
  repeat' split
  all_goals (rw [wt_gNode]; simp only [List.length_cons, List.length_nil, hn, ha, hf]; omega)
theorem wt_end (seen : List Int) (p : Plc) (hp : p.small) (g : Gn) : wtN (gEnd l seen p g).1 ≤ 2 := by
  obtain ⟨h1, h2, h3⟩ := hp
  unfold gEnd
  simp only
  have hn : nName.size = 0 := rfl
  repeat' split
  all_goals (rw [wt_gNode]; simp only [List.length_cons, List.length_nil, hn]; omega)
def RecWt (N : Nat) (rec : GRec) : Prop := ∀ seen p g, p.small → wtL (rec seen p g).1 ≤ N ∧ (rec seen p g).1.length ≤ 6
theorem wt_shut (x : List Int → Nd) (t : List Int) (ht : t.length ≤ 2) (g : Gn) (N : Nat) (hx : ∀ o, wtN (x o) = o.length + N) : wtN (gShut x t g).1 ≤ N + 2 := by
  unfold gShut
  split
  ·rw [hx]; simp
  rw [hx, (gOuts_st t g).2]; omega
theorem wt_if {N : Nat} {rec : GRec} (hr : RecWt N rec) (all : List Int) (p : Plc) (hp : p.small) (g : Gn) : wtN (gIf l rec all p g).1 ≤ 2 * N + 20 := by
  unfold gIf
  simp only
  obtain ⟨_, h2⟩ := bd_types l g
  have hsm : Plc.small ⟨true, p.Loop, (gTypes l g).1, p.Next, p.Left⟩ := ⟨h2, hp.2.1, hp.2.2⟩
  refine Nat.le_trans (wt_shut _ _ h2 _ (1 + (1 + ((rec all ⟨true, p.Loop, (gTypes l g).1, p.Next, p.Left⟩ (gEach l all [2] (gTypes l g).2).2).1.length + wtL (rec all ⟨true, p.Loop, (gTypes l g).1, p.Next, p.Left⟩ (gEach l all [2] (gTypes l g).2).2).1) + (1 + ((rec all ⟨true, p.Loop, (gTypes l g).1, p.Next, p.Left⟩ (rec all ⟨true, p.Loop, (gTypes l g).1, p.Next, p.Left⟩ (gEach l all [2] (gTypes l g).2).2).2).1.length + wtL (rec all ⟨true, p.Loop, (gTypes l g).1, p.Next, p.Left⟩ (rec all ⟨true, p.Loop, (gTypes l g).1, p.Next, p.Left⟩ (gEach l all [2] (gTypes l g).2).2).2).1)))) fun o => ?_) ?_
  ·simp only [wtN, wtK, (gEach_st l all [2] (gTypes l g).2).2, show nName.size = 0 from rfl, List.length_cons, List.length_nil]
   omega
  have h3 := hr all _ (gEach l all [2] (gTypes l g).2).2 hsm
  have h4 := hr all _ (rec all ⟨true, p.Loop, (gTypes l g).1, p.Next, p.Left⟩ (gEach l all [2] (gTypes l g).2).2).2 hsm
  omega
theorem wt_loop {N : Nat} {rec : GRec} (hr : RecWt N rec) (all : List Int) (g : Gn) : wtN (gLoop l rec all g).1 ≤ 2 * N + 20 := by
  unfold gLoop
  simp only
  obtain ⟨_, h2⟩ := bd_types l g
  obtain ⟨_, h4⟩ := bd_types l (gTypes l g).2
  generalize hA : gEach l all (gTypes l g).1 (gTypes l (gTypes l g).2).2 = A
  have hAl : A.1.length ≤ 2 := by rw [← hA, (gEach_st l all _ _).2]; exact h2
  generalize hQ : gOuts (gTypes l g).1 A.2 = Q
  have hQl : Q.1.length ≤ 2 := by rw [← hQ, (gOuts_st _ _).2]; exact h2
  have h5 := hr (all ++ Q.1) ⟨false, true, [], (gTypes l g).1, (gTypes l (gTypes l g).2).1⟩ Q.2 ⟨by simp, h2, h4⟩
  generalize hB : rec (all ++ Q.1) ⟨false, true, [], (gTypes l g).1, (gTypes l (gTypes l g).2).1⟩ Q.2 = B at h5
  refine Nat.le_trans (wt_shut _ _ h4 _ (A.1.length + Q.1.length + (1 + (B.1.length + wtL B.1))) fun o => ?_) ?_
  ·simp only [wtN, wtK, show nName.size = 0 from rfl]
   omega
  omega
theorem wt_any {N : Nat} {rec : Option GRec} (hr : ∀ r, rec = some r → RecWt N r) (all : List Int) (p : Plc) (hp : p.small) (g : Gn) : wtN (gAny l rec all p g).1 ≤ 2 * N + 20 := by
  have hs := wt_simple l all { g with left := g.left - 1 }
  unfold gAny
  simp only
  cases rec with
  | none => exact Nat.le_trans hs (by omega)
  | some r =>
    simp only
    split
    ·exact wt_if l (hr r rfl) all p hp _
    split
    ·exact wt_loop l (hr r rfl) all _
    exact Nat.le_trans hs (by omega)
theorem wt_nodes {N : Nat} {rec : Option GRec} (hr : ∀ r, rec = some r → RecWt N r) (p : Plc) (hp : p.small) : ∀ (i : Nat) (out : List Nd) (all : List Int) (g : Gn), wtL (gNodes l rec p i out all g).1 ≤ wtL out + (i + 1) * (2 * N + 20)
  | 0, out, all, g => by
    have := wt_end l all p hp g
    simp only [gNodes, wtL_app, wtL]
    omega
  | i + 1, out, all, g => by
    have he := wt_end l all p hp g
    have hx := wt_any l hr all p hp g
    have e : (i + 1 + 1) * (2 * N + 20) = (i + 1) * (2 * N + 20) + (2 * N + 20) := Nat.succ_mul _ _
    unfold gNodes
    split
    ·simp only [wtL_app, wtL]; omega
    simp only
    split
    ·simp only [wtL_app, wtL]; omega
    have := wt_nodes hr p hp i (out ++ [(gAny l rec all p g).1]) (all ++ (gAny l rec all p g).1.outs) (gAny l rec all p g).2
    simp only [wtL_app, wtL] at this ⊢
    omega
def wtMax : Nat → Nat
  | 0 => 120
  | d + 1 => 6 * (2 * wtMax d + 20)
theorem wtMax_succ (d : Nat) : wtMax (d + 1) = 6 * (2 * wtMax d + 20) := rfl
theorem wt_gList (d : Nat) : RecWt (wtMax d) (gList l d) := by
  induction d with
  | zero =>
    intro seen p g hp
    refine ⟨?_, gList_len l 0 seen p g⟩
    have h6 : (gPick l 6 g).1 < 6 := gPick_lt (by omega)
    have := wt_nodes l (N := 0) (rec := none) (fun r h => by cases h) p hp (gPick l 6 g).1 [] seen (gPick l 6 g).2
    rw [gList_eq]
    show wtL (gNodes l none p (gPick l 6 g).1 [] seen (gPick l 6 g).2).1 ≤ wtMax 0
    generalize wtL (gNodes l none p (gPick l 6 g).1 [] seen (gPick l 6 g).2).1 = z at this
    generalize (gPick l 6 g).1 = k at *
    have e : wtMax 0 = 120 := rfl
    simp only [wtL, Nat.zero_add, Nat.mul_zero] at this
    rw [e]
    omega
  | succ d ih =>
    intro seen p g hp
    refine ⟨?_, gList_len l (d + 1) seen p g⟩
    have h6 : (gPick l 6 g).1 < 6 := gPick_lt (by omega)
    have := wt_nodes l (N := wtMax d) (rec := some (gList l d)) (fun r h => by cases h; exact ih) p hp (gPick l 6 g).1 [] seen (gPick l 6 g).2
    rw [gList_eq]
    rw [show gRec l (d + 1) = some (gList l d) from rfl, wtMax_succ]
    generalize wtL (gNodes l (some (gList l d)) p (gPick l 6 g).1 [] seen (gPick l 6 g).2).1 = z at this
    generalize (gPick l 6 g).1 = k at *
    generalize wtMax d = m at *
    have h7 : (k + 1) * (2 * m + 20) ≤ 6 * (2 * m + 20) := Nat.mul_le_mul_right _ (by omega)
    simp only [wtL, Nat.zero_add] at this
    exact Nat.le_trans this h7
theorem wt_flow (name : ByteArray) (params : List Int) (hp : params.length ≤ 10) (g : Gn) : (gFlow l name params g).1.types.length ≤ 1000 ∧ r8nodes (gFlow l name params g).1.body ≤ 1000000 := by
  have hs : plc0.small := ⟨by simp [plc0], by simp [plc0], by simp [plc0]⟩
  have hS := (gOuts_st params { g with types := [], left := 30 }).1
  generalize hB : (gFresh 2 (gFresh 1 (gOuts params { g with types := [], left := 30 }).2).2).2 = B
  generalize hE : (gOuts params { g with types := [], left := 30 }).1 ++ [(gFresh 1 (gOuts params { g with types := [], left := 30 }).2).1, (gFresh 2 (gFresh 1 (gOuts params { g with types := [], left := 30 }).2).2).1] = E
  have h1 : B.types.length = params.length + 2 := by rw [← hB, hS]; simp [gFresh]
  have h2 : B.left = 30 := by rw [← hB, hS]; rfl
  have hb := (bd_list l 3 E plc0 B hs).t2
  have hw := wt_gList l 3 E plc0 B hs
  have e : gFlow l name params g = (⟨name, 1, params.length, (gList l 3 E plc0 B).2.types, gBegin (gFresh 1 (gOuts params { g with types := [], left := 30 }).2).1 (gFresh 2 (gFresh 1 (gOuts params { g with types := [], left := 30 }).2).2).1 ++ (gList l 3 E plc0 B).1⟩, (gList l 3 E plc0 B).2) := by
    unfold gFlow
    simp only [hB, hE]
  rw [e]
  refine ⟨by simp only; omega, ?_⟩
  simp only [r8nodes, List.length_append, wtL_app]
  have h3 : wtL (gBegin (gFresh 1 (gOuts params { g with types := [], left := 30 }).2).1 (gFresh 2 (gFresh 1 (gOuts params { g with types := [], left := 30 }).2).2).1) = 2 := rfl
  have h4 : (gBegin (gFresh 1 (gOuts params { g with types := [], left := 30 }).2).1 (gFresh 2 (gFresh 1 (gOuts params { g with types := [], left := 30 }).2).2).1).length = 2 := rfl
  have h5 : wtMax 3 ≤ 500000 := by simp only [wtMax]; omega
  omega
theorem wt_made : r8Weight (made l) ≤ 536870912 := by
  have h1 := wt_flow l mainName [] (by simp) ⟨0, [], 0⟩
  have h2 := wt_flow l fName [1, 2] (by simp) (gFlow l mainName [] ⟨0, [], 0⟩).2
  have e1 : (gFlow l mainName [] ⟨0, [], 0⟩).1.name.size = 4 := rfl
  have e2 : (gFlow l fName [1, 2] (gFlow l mainName [] ⟨0, [], 0⟩).2).1.name.size = 1 := rfl
  have e3 : aName.size = 1 := rfl
  simp only [r8Weight, made, wtA, wtF, List.length_cons, List.length_nil, e1, e2, e3]
  omega
end
end
section
def Tx (g g' : Gn) : Prop := Ty12 g.types → Ty12 g'.types
section
variable (l : List UInt8)
theorem tx_each (seen ts : List Int) (g : Gn) : Tx g (gEach l seen ts g).2 := fun h => by rw [(gEach_st l seen ts g).1]; exact h
theorem tx_types (g : Gn) : Tx g (gTypes l g).2 := fun h => by rw [(gTypes_st l g).1]; exact h
theorem tx_outs {ts : List Int} (ht : Ty12 ts) (g : Gn) : Tx g (gOuts ts g).2 := fun h => by
  rw [(gOuts_st ts g).1]
  intro t hx
  rcases List.mem_append.1 hx with hx | hx
  ·exact h t hx
  exact ht t hx
theorem tx_node (kind op n : Int) (name : ByteArray) (seen ins : List Int) {outs : List Int} (ho : Ty12 outs) (g : Gn) : Tx g (gNode l kind op n name seen ins outs g).2 := fun h => tx_outs ho _ (tx_each l seen ins g h)
theorem t12_1 : Ty12 [1] := by intro t ht; simp at ht; omega
theorem t12_2 : Ty12 [2] := by intro t ht; simp at ht; omega
theorem t12_0 : Ty12 [] := by intro t ht; simp at ht
theorem tx_simple (seen : List Int) (g : Gn) : Tx g (gSimple l seen g).2 := by
  intro h
  unfold gSimple
  simp only
  repeat' split
  all_goals first
  | exact tx_node l _ _ _ _ _ _ t12_1 _ h
  | exact tx_node l _ _ _ _ _ _ t12_2 _ h
  | exact tx_node l _ _ _ _ _ _ t12_0 _ h
theorem tx_end (seen : List Int) (p : Plc) (g : Gn) : Tx g (gEnd l seen p g).2 := by
  intro h
  unfold gEnd
  simp only
  repeat' split
  all_goals exact tx_node l _ _ _ _ _ _ t12_0 _ h
def RecTx (rec : GRec) : Prop := ∀ seen p g, Tx g (rec seen p g).2
theorem tx_shut (x : List Int → Nd) {t : List Int} (ht : Ty12 t) (g : Gn) : Tx g (gShut x t g).2 := by
  intro h
  unfold gShut
  split
  ·exact h
  exact tx_outs ht g h
theorem tx_if {rec : GRec} (hr : RecTx rec) (all : List Int) (p : Plc) (g : Gn) : Tx g (gIf l rec all p g).2 := fun h => by
  unfold gIf
  exact tx_shut _ (types_12 l g) _ (hr _ _ _ (hr _ _ _ (tx_each l _ _ _ (tx_types l g h))))
theorem tx_loop {rec : GRec} (hr : RecTx rec) (all : List Int) (g : Gn) : Tx g (gLoop l rec all g).2 := fun h => by
  unfold gLoop
  exact tx_shut _ (types_12 l _) _ (hr _ _ _ (tx_outs (types_12 l g) _ (tx_each l _ _ _ (tx_types l _ (tx_types l g h)))))
theorem tx_any {rec : Option GRec} (hr : ∀ r, rec = some r → RecTx r) (all : List Int) (p : Plc) (g : Gn) : Tx g (gAny l rec all p g).2 := fun h => by
  have hs : Ty12 (gPick l 6 (gSimple l all { g with left := g.left - 1 }).2).2.types := tx_simple l all { g with left := g.left - 1 } h
  unfold gAny
  simp only
  cases rec with
  | none => exact hs
  | some r =>
    simp only
    split
    ·exact tx_if l (hr r rfl) all p _ hs
    split
    ·exact tx_loop l (hr r rfl) all _ hs
    exact hs
theorem tx_tail {rec : Option GRec} (hr : ∀ r, rec = some r → RecTx r) (p : Plc) : ∀ (i : Nat) (all : List Int) (g : Gn), Tx g (gTail l rec p i all g).2
  | 0, all, g => tx_end l all p g
  | i + 1, all, g => fun h => by
    unfold gTail
    split
    ·exact tx_end l all p g h
    split
    ·exact tx_any l hr all p g h
    exact tx_tail hr p i _ _ (tx_any l hr all p g h)
theorem tx_list (d : Nat) : RecTx (gList l d) := by
  induction d with
  | zero =>
    intro seen p g h
    rw [gList_tail]
    exact tx_tail l (rec := gRec l 0) (fun r h => by cases h) p _ _ _ h
  | succ d ih =>
    intro seen p g h
    rw [gList_tail]
    exact tx_tail l (rec := gRec l (d + 1)) (fun r h => by cases h; exact ih) p _ _ _ h
theorem firsts_false {k n : Nat} {v : Int} (h : (k : Int) ≤ v) : (firsts k n).getD v.toNat false = false := by
  unfold firsts
  rw [List.getD]
  rw [List.getElem?_append_right (by simp; omega)]
  cases hq : (List.replicate (n - k) false)[v.toNat - (List.replicate k true).length]? with
  | none => rfl
  | some b => rw [List.eq_of_mem_replicate (List.mem_of_getElem? hq)]; rfl
theorem flow_parts (name : ByteArray) (params : List Int) (hS : (gOuts params ⟨0, [], 0⟩).1 = iota params.length) (g : Gn) : ∃ (B : Gn) (L : List Nd) (R : Gn), (gFlow l name params g).1 = ⟨name, 1, params.length, R.types, gBegin params.length (params.length + 1) ++ L⟩ ∧ (L, R) = gList l 3 (iota params.length ++ [(params.length : Int), ((params.length + 1 : Nat) : Int)]) plc0 B ∧ B.types = params ++ [1, 2] := by
  have hG : ∀ (ts : List Int) (a b : Gn), a.types = b.types → (gOuts ts a).1 = (gOuts ts b).1 := by
    intro ts
    induction ts with
    | nil => intro a b _; rfl
    | cons t r ih =>
      intro a b e
      simp only [gOuts, gFresh, e]
      rw [ih { a with types := b.types ++ [t] } { b with types := b.types ++ [t] } rfl]
  have h1 : (gOuts params { g with types := [], left := 30 }).1 = iota params.length := (hG params { g with types := [], left := 30 } ⟨0, [], 0⟩ rfl).trans hS
  have h2 : (gOuts params { g with types := [], left := 30 }).2.types = params := by rw [(gOuts_st params _).1]; simp
  refine ⟨(gFresh 2 (gFresh 1 (gOuts params { g with types := [], left := 30 }).2).2).2, _, _, ?_, rfl, ?_⟩
  ·unfold gFlow
   simp only [h1]
   simp only [gFresh, h2, List.length_append, List.length_cons, List.length_nil]
   rfl
  simp only [gFresh, h2]; simp
end
section
variable (l : List UInt8) {u : Un}
theorem flow_ok (name : ByteArray) (params : List Int) (hS : (gOuts params ⟨0, [], 0⟩).1 = iota params.length) (hp : Ty12 params) (hpl : params.length ≤ 8) (g : Gn) (E : Env u (gFlow l name params g).1) : r8Flow u (gFlow l name params g).1 = true := by
  have hw := (wt_flow l name params (by omega) g).1
  obtain ⟨B, L, R, e, eL, eB⟩ := flow_parts l name params hS g
  generalize (gFlow l name params g).1 = F at *
  have hFt : F.types = R.types := by rw [e]
  have hFb : F.body = [.mk 1 0 3 nName [] [(params.length : Int)] [] [], .mk 2 0 1 nName [] [((params.length + 1 : Nat) : Int)] [] []] ++ L := by rw [e]; rfl
  have hFp : F.params = params.length := by rw [e]
  clear e
  have pR : Px B R := by have := px_list l 3 (iota params.length ++ [(params.length : Int), ((params.length + 1 : Nat) : Int)]) plc0 B; rw [← eL] at this; exact this
  have hB2 : Ty12 B.types := by
    rw [eB]
    intro t ht
    rcases List.mem_append.1 ht with ht | ht
    ·exact hp t ht
    simp at ht; omega
  have tR : Ty12 F.types := by have := tx_list l 3 (iota params.length ++ [(params.length : Int), ((params.length + 1 : Nat) : Int)]) plc0 B hB2; rw [← eL] at this; rw [hFt]; exact this
  obtain ⟨q, eR⟩ := pR
  rw [← hFt] at eR
  have hBl : B.types.length = params.length + 2 := by rw [eB]; simp
  have hRl : params.length + 2 ≤ F.types.length := by rw [eR, List.length_append, hBl]; omega
  have hxT : PxT B F.types := ⟨q, eR⟩
  have hi : F.types.getD params.length 0 = 1 := by
    rw [← hxT.getD (by omega), eB]; simp [List.getD]
  have hb : F.types.getD (params.length + 1) 0 = 2 := by
    rw [← hxT.getD (by omega), eB]; simp [List.getD]
  -- the list behind the first two nodes
  have hSn : Sn F.types B.types.length (iota params.length ++ [(params.length : Int), ((params.length + 1 : Nat) : Int)]) := by
    refine ⟨?_, ⟨(params.length : Int), by simp, by simpa using hi⟩, ⟨((params.length + 1 : Nat) : Int), by simp, by rw [Int.toNat_natCast]; exact hb⟩, fun s hs => ?_⟩
    ·by_cases h0 : params.length = 0
     ·simp [h0]
     refine List.mem_append_left _ ?_
     simp only [iota, List.mem_map, List.mem_range]
     exact ⟨0, by omega, rfl⟩
    rw [hBl]
    rcases List.mem_append.1 hs with hs | hs
    ·simp only [iota, List.mem_map, List.mem_range] at hs
     obtain ⟨j, hj, rfl⟩ := hs
     omega
    simp only [List.mem_cons, List.not_mem_nil, or_false] at hs
    omega
  have hL := list_ok l E 3 (iota params.length ++ [(params.length : Int), ((params.length + 1 : Nat) : Int)]) plc0 B r8where0 1 (by rw [← eL]; exact ⟨[], by simp [hFt]⟩) hSn ⟨t12_0, t12_0, t12_0⟩ ⟨fun h => (by cases h), fun h => (by cases h), fun _ => rfl, fun _ => rfl⟩ (by omega)
  have hF := fresh_list l 3 (iota params.length ++ [(params.length : Int), ((params.length + 1 : Nat) : Int)]) plc0 B
  rw [← eL] at hL hF
  simp only [vList, Bool.and_eq_true] at hL
  rw [hBl, ← hFt] at hF
  have hn : (firsts params.length F.types.length).length = F.types.length := firsts_length (by omega)
  unfold r8Flow
  rw [hFp, hFb]
  simp only [Bool.and_eq_true, Bool.not_eq_true', decide_eq_false_iff_not, List.all_eq_true, Int.toNat_natCast]
  refine ⟨⟨⟨⟨⟨by omega, by omega⟩, by omega⟩, by omega⟩, fun t ht => ?_⟩, ?_⟩
  ·rcases tR t ht with rfl | rfl <;> rfl
  rw [r8list_iff u _ _ 1 r8where0 _ _ hn]
  have l1 : Leaf u F (iota params.length) r8where0 (.mk 1 0 3 nName [] [(params.length : Int)] [] []) := leaf1 (by
    simp only [vOuts, shVal, Int.toNat_natCast, hi]
    rw [decide_eq_true (by omega), decide_eq_true (by omega)]; rfl)
  have l2 : Leaf u F (iota params.length ++ [(params.length : Int)]) r8where0 (.mk 2 0 1 nName [] [((params.length + 1 : Nat) : Int)] [] []) := leaf2 (.inr rfl) (by
    simp only [vOuts, shVal, Int.toNat_natCast, hb]
    rw [decide_eq_true (by omega), decide_eq_true (by omega)]; rfl)
  have c1 : r8Closed (.mk 1 0 3 nName [] [(params.length : Int)] [] []) = false := rfl
  have c2 : r8Closed (.mk 2 0 1 nName [] [((params.length + 1 : Nat) : Int)] [] []) = false := rfl
  have hD : Fresh params.length F.types.length (dL ([.mk 1 0 3 nName [] [(params.length : Int)] [] [], .mk 2 0 1 nName [] [((params.length + 1 : Nat) : Int)] [] []] ++ L)) := by
    have e1 : dL ([.mk 1 0 3 nName [] [(params.length : Int)] [] [], .mk 2 0 1 nName [] [((params.length + 1 : Nat) : Int)] [] []] ++ L) = [(params.length : Int)] ++ ([((params.length + 1 : Nat) : Int)] ++ dL L) := by simp [dL, dN, dK]
    rw [e1]
    have f1 : Fresh params.length (params.length + 1) [(params.length : Int)] := ⟨by simp, fun v hv => by rw [List.mem_singleton.1 hv]; omega⟩
    have f2 : Fresh (params.length + 1) (params.length + 2) [((params.length + 1 : Nat) : Int)] := ⟨by simp, fun v hv => by rw [List.mem_singleton.1 hv]; omega⟩
    exact f1.app (f2.app hF (Nat.le_refl _) (by omega) hRl) (Nat.le_refl _) (by omega) (by omega)
  refine ⟨?_, hD.1, fun v hv => firsts_false (hD.2 v hv).1⟩
  have hemp : L.isEmpty = false := by simpa using hL.1
  have hgo : vGo u F 1 r8where0 (iota params.length ++ [(params.length : Int)] ++ [((params.length + 1 : Nat) : Int)]) L = true := by
    rw [List.append_assoc]
    exact hL.2
  have d1 : (!decide ((1 : Int) > 100)) = true := rfl
  show (true && (!decide ((1 : Int) > 100) && vNode u F 1 r8where0 (iota params.length) (.mk 1 0 3 nName [] [(params.length : Int)] [] []) && (r8Closed (.mk 1 0 3 nName [] [(params.length : Int)] [] []) == false) &&
    (!decide ((1 : Int) > 100) && vNode u F 1 r8where0 (iota params.length ++ [(params.length : Int)]) (.mk 2 0 1 nName [] [((params.length + 1 : Nat) : Int)] [] []) && (r8Closed (.mk 2 0 1 nName [] [((params.length + 1 : Nat) : Int)] [] []) == L.isEmpty) && vGo u F 1 r8where0 (iota params.length ++ [(params.length : Int)] ++ [((params.length + 1 : Nat) : Int)]) L))) = true
  rw [l1.ok, l2.ok, c1, c2, hemp, hgo]
  rfl
end
theorem made_ok (l : List UInt8) : (r8Check (made l)).1 = 0 := by
  have S0 : (gOuts [] ⟨0, [], 0⟩).1 = iota ([] : List Int).length := rfl
  have S2 : (gOuts [1, 2] ⟨0, [], 0⟩).1 = iota ([1, 2] : List Int).length := rfl
  generalize hm : gFlow l mainName [] ⟨0, [], 0⟩ = m
  have eM : made l = ⟨[⟨aName, 4⟩], [m.1, (gFlow l fName [1, 2] m.2).1]⟩ := by unfold made; simp only [hm]
  obtain ⟨B1, L1, R1, e1, eL1, eB1⟩ := flow_parts l mainName [] S0 ⟨0, [], 0⟩
  obtain ⟨B2, L2, R2, e2, eL2, eB2⟩ := flow_parts l fName [1, 2] S2 m.2
  rw [hm] at e1
  have n1 : m.1.name = mainName := by rw [e1]
  have n2 : (gFlow l fName [1, 2] m.2).1.name = fName := by rw [e2]
  have q11 : eqS mainName mainName = true := by decide +kernel
  have q12 : eqS mainName fName = false := by decide +kernel
  have q22 : eqS fName fName = true := by decide +kernel
  have q21 : eqS fName mainName = false := by decide +kernel
  have qa1 : eqS mainName aName = false := by decide +kernel
  have qa2 : eqS fName aName = false := by decide +kernel
  have pF : r8Place fName (made l).flows 0 = 1 := by rw [eM]; simp [r8Place, n1, n2, q12, q22]
  have pM : r8Place mainName (made l).flows 0 = 0 := by rw [eM]; simp [r8Place, n1, q11]
  have pA : r8Place aName (made l).flows 0 = -1 := by rw [eM]; simp [r8Place, n1, n2, qa1, qa2]
  have aA : r8Array aName (made l).arrays 0 = 0 := by
    rw [eM]
    show r8Array aName [⟨aName, 4⟩] 0 = 0
    decide +kernel
  have take2 : (gFlow l fName [1, 2] m.2).1.types.take 2 = [1, 2] := by
    rw [e2]
    have pR : Px B2 R2 := by have := px_list l 3 (iota ([1, 2] : List Int).length ++ [(([1, 2] : List Int).length : Int), ((([1, 2] : List Int).length + 1 : Nat) : Int)]) plc0 B2; rw [← eL2] at this; exact this
    obtain ⟨q, eR⟩ := pR
    show R2.types.take 2 = [1, 2]
    rw [eR, eB2]; rfl
  have env : ∀ f : Fl, f.ty = 1 → Env (made l) f := fun f hf => ⟨hf, by rw [aA]; decide, by rw [pF]; decide, ⟨(gFlow l fName [1, 2] m.2).1, by rw [pF, eM]; rfl, by rw [show (gFlow l fName [1, 2] m.2).1.params = 2 by rw [e2]; rfl]; exact take2, by rw [e2]⟩⟩
  rw [check_iff]
  refine ⟨?_, fun f hf => ?_⟩
  ·have z1 : isName mainName = true := by decide +kernel
   have z2 : isName fName = true := by decide +kernel
   have z3 : isName aName = true := by decide +kernel
   have hl2 : 2 ≤ (gFlow l fName [1, 2] m.2).1.types.length := by
     have := congrArg List.length take2
     simp at this; omega
   have ga : r8gA (made l) (made l).arrays 0 = true := by
     have : r8gA (made l) [⟨aName, 4⟩] 0 = true := by
       simp only [r8gA, gArr, z3, aA, pA]; decide
     rw [eM] at this ⊢; exact this
   have gf : r8gF (made l) (made l).flows 0 = true := by
     have : r8gF (made l) [m.1, (gFlow l fName [1, 2] m.2).1] 0 = true := by
       have t1 : m.1.ty = 1 := by rw [e1]
       have t2 : (gFlow l fName [1, 2] m.2).1.ty = 1 := by rw [e2]
       have p1 : m.1.params = 0 := by rw [e1]; rfl
       have p2 : (gFlow l fName [1, 2] m.2).1.params = 2 := by rw [e2]; rfl
       simp only [r8gF, gFlw, n1, n2, z1, z2, pF, pM, t1, t2, p1, p2]
       rw [decide_eq_false (show ¬ (0 : Int) > m.1.types.length by omega), decide_eq_false (show ¬ (2 : Int) > (gFlow l fName [1, 2] m.2).1.types.length by omega)]
       decide
     rw [eM] at this ⊢; exact this
   have gm : r8main (made l) = true := by
     unfold r8main
     rw [pM, eM]
     show (decide ((0 : Int) ≥ 0) && m.1.ty == 1 && m.1.params == 0) = true
     rw [e1]; rfl
   unfold r8globals
   rw [ga, gf, gm]; rfl
  have hf2 : f = m.1 ∨ f = (gFlow l fName [1, 2] m.2).1 := by rw [eM] at hf; simpa using hf
  rcases hf2 with rfl | rfl
  ·rw [← hm]; exact flow_ok l mainName [] S0 t12_0 (by decide) ⟨0, [], 0⟩ (env _ (by rw [hm, e1]))
  exact flow_ok l fName [1, 2] S2 (by intro t ht; simp at ht; omega) (by decide) m.2 (env _ (by rw [e2]))
end
mutual
theorem sameN_refl : ∀ x : Nd, sameN x x = true
  | .mk k o n s a u p ks => by simp only [sameN, beq_self_eq_true, sameK_refl ks, Bool.and_self]
theorem sameL_refl : ∀ l : List Nd, sameL l l = true
  | [] => by simp [sameL]
  | x :: r => by simp only [sameL, sameN_refl x, sameL_refl r, Bool.and_self]
theorem sameK_refl : ∀ ks : List (List Nd), sameK ks ks = true
  | [] => by simp [sameK]
  | l :: r => by simp only [sameK, sameL_refl l, sameK_refl r, Bool.and_self]
end
theorem sameFs_refl : ∀ l : List Fl, sameFs l l = true
  | [] => rfl
  | f :: r => by simp only [sameFs, sameF, beq_self_eq_true, sameL_refl, sameFs_refl r, Bool.and_self]
theorem sameAs_refl : ∀ l : List Ar, sameAs l l = true
  | [] => rfl
  | f :: r => by simp only [sameAs, sameA, beq_self_eq_true, sameAs_refl r, Bool.and_self]
theorem same_refl (u : Un) : r8Same u u = true := by simp only [r8Same, beq_self_eq_true, sameAs_refl, sameFs_refl, Bool.and_self]
theorem sc_HoistSame (l : List UInt8) : SC Tryz.prog 6 [.pv (bts l)] [] (fun _ => False) (iBool true) [] := by
  refine SC.of Tryz.func6 rfl (lb rfl) fun F ρ w => ?_
  have hW := wt_made l
  have hz := made_ok l
  have hH := hoistOf_good hz
  have hg : (hoistOf (hoistOf (made l)).1).2 = 0 := by rw [hH]; show (hoistOf (hUnit (made l))).2 = 0; rw [hoistOf_good (by rw [check_hoist hz])]
  refine tQ <| tG <| sm 1 rfl <| nL <| tQ <| tG <| sm 1 rfl <| cE rfl (ocq (sc_made l) ent10 rfl rfl) <| cE rfl (aLc (k := 103) rfl tZ25 rfl rfl rfl rfl) <| c0 (sBA rfl rfl rfl rfl rfl ((fun h => h)) tS25 (flk rfl) (lb rfl)) <| nL <| tQ ?_
  refine tG <| cV rfl (lBP rfl rfl rfl uT25 rfl tS25 (lb rfl) rfl trivial) <| cE rfl (ocq (sc_Hoist (made l) hW hok_valid) ent11 rfl rfl) <| sm 1 rfl <| cV rfl (ok_extract rfl rfl rfl) <| cV rfl (ok_extract rfl rfl rfl) <| cE rfl (aLc (k := 104) rfl tZ25 rfl rfl rfl rfl) <| c0 (sBA rfl rfl rfl rfl rfl ((fun h => h)) tS25 (flk rfl) (lb rfl)) <| sm 1 rfl <| nL <| tQ <| tG ?_
  refine cV rfl (lBP rfl rfl rfl uT25 rfl tS25 (lb rfl) rfl trivial) <| cE rfl (ocq (sc_Hoist (made l) hW hok_valid) ent11 rfl rfl) <| sm 1 rfl <| cV rfl (ok_extract rfl rfl rfl) <| cV rfl (ok_extract rfl rfl rfl) <| cE rfl (aLc (k := 106) rfl tZ25 rfl rfl rfl rfl) <| c0 (sBA rfl rfl rfl rfl rfl ((fun h => h)) tS25 (flk rfl) (lb rfl)) <| sm 1 rfl <| nL <| tQ <| tG <| cV rfl (lBP rfl rfl rfl uT25 rfl tS25 (lb rfl) rfl trivial) ?_
  refine cE rfl (ocq (sc_Hoist (hoistOf (made l)).1 (Nat.le_trans (hoistOf_weight _) hW) hok_valid) ent11 rfl rfl) <| sm 1 rfl <| cV rfl (ok_extract rfl rfl rfl) <| cV rfl (ok_extract rfl rfl rfl) <| cE rfl (aLc (k := 108) rfl tZ25 rfl rfl rfl rfl) <| c0 (sBA rfl rfl rfl rfl rfl ((fun h => h)) tS25 (flk rfl) (lb rfl)) <| sm 1 rfl <| nL <| tQ <| tG <| cE rfl (ocq (sc_awake) ent7 rfl rfl) <| sm 1 rfl ?_
  refine wS 28 rfl (fun hb28 => ?_) fun hb28 => ?_
  ·refine sm 5 rfl ?_
   refine wS 33 rfl (fun hb33 => ?_) fun hb33 => ?_
   ·refine yV rfl rfl (lBP rfl rfl rfl uT25 rfl tS25 (lb rfl) rfl trivial) <| yV rfl rfl (lBP rfl rfl rfl uT25 rfl tS25 (lb rfl) rfl trivial) <| WL.yes rfl rfl rfl rfl rfl rfl (ok_callq (sc_r8Same (hoistOf (made l)).1 (hoistOf (made l)).1) ent15 rfl rfl (sRf _ _) rfl) <| sm 2 rfl ?_
    refine wS 38 rfl (fun hb38 => ?_) fun hb38 => ?_
    ·refine sm 4 rfl <| nL <| tRt <| rOk rfl ?_ nPo
     rw [hg]
     rfl
    rw [same_refl] at hb38
    cases hb38
   simp at hb33
  exact Bool.noConfusion (show true = false from hb28)
section
open Go Go.ChangeShapes Go.WideShapes Go.ChangeAt Go.RowKit
section
variable {H : Type} {enc : TypeId × Value → H} {P : Program} {w : World} {base : Nat} {spare : Nat → Bool} {held : Bool}
def RepEl (own : Nat → Prop) (w : World) (ps : List PV) (cs : List Value) : Prop := ps.length = cs.length ∧ ∀ (j : Nat) p v, ps[j]? = some p → cs[j]? = some v → RepP own w p v
theorem RepEl.nil {own : Nat → Prop} : RepEl own w [] [] := ⟨rfl, fun j p v h => by simp at h⟩
theorem RepEl.cons {own : Nat → Prop} {p : PV} {v : Value} {ps : List PV} {cs : List Value} (h : RepP own w p v) (hr : RepEl own w ps cs) : RepEl own w (p :: ps) (v :: cs) := by
  refine ⟨by simp [hr.1], fun j q x hq hx => ?_⟩
  cases j with
  | zero => simp at hq hx; subst hq; subst hx; exact h
  | succ j => exact hr.2 j q x (by simpa using hq) (by simpa using hx)
theorem choose_els {α : Type} (f : α → List PV) (wt : α → Nat) {own : Nat → Prop} (R : Nat → DataW H × List MemPlace → List Value → Prop)
    (hR : ∀ i y cs, R i y cs → ∃ z : α, RepEl own w (f z) cs ∧ wt z + 1 ≤ Rows.uptoBulk y.1) :
    ∀ (ys : List (DataW H × List MemPlace)) (s : Nat), (∀ i y, ys[i]? = some y → ∃ cs, R (s + i) y cs) →
      ∃ l : List α, l.length = ys.length ∧ (∀ i z, l[i]? = some z → ∃ y cs, ys[i]? = some y ∧ R (s + i) y cs ∧ RepEl own w (f z) cs) ∧ (l.map wt).sum + l.length ≤ Rows.uptoBulkAll (ys.map (·.1))
  | [], _, _ => ⟨[], rfl, fun i z h => by simp at h, by simp [Rows.uptoBulkAll]⟩
  | y :: ys, s, h => by
    obtain ⟨cs, hcs⟩ := h 0 y rfl
    obtain ⟨z, hz, hw⟩ := hR _ _ _ hcs
    obtain ⟨l, hl, hg, hb⟩ := choose_els f wt R hR ys (s + 1) (fun i y' hy => by
      have := h (i + 1) y' (by simpa using hy)
      rwa [show s + 1 + i = s + (i + 1) by omega])
    refine ⟨z :: l, by simp [hl], fun i z' hz' => ?_, ?_⟩
    ·cases i with
     | zero => simp at hz'; subst hz'; exact ⟨y, cs, rfl, hcs, hz⟩
     | succ i =>
       obtain ⟨y', cs', h1, h2, h3⟩ := hg i z' (by simpa using hz')
       exact ⟨y', cs', by simpa using h1, by rwa [show s + (i + 1) = s + 1 + i by omega], h3⟩
    simp only [List.map_cons, List.sum_cons, List.length_cons, Rows.uptoBulkAll]; omega
theorem trod_list {α : Type} (f : α → List PV) (wt : α → Nat) {own : Nat → Prop} (hown : ∀ b, b < w.heap.size → ¬ own b) {t e : TypeId} {fuel : Nat} {cs : List Value} {x : DataW H × List MemPlace} {N : Nat} (ht : P.underlying t = some (.slice e)) (hC : P.cellsOf e = N) (hN : 0 < N)
    (h : DataW.trod enc P w base spare held fuel t cs = some x)
    (hel : ∀ n cs' y, n < fuel → cs'.length = N → DataW.trod enc P w base spare held n e cs' = some y → ∃ z : α, RepEl own w (f z) cs' ∧ wt z + 1 ≤ Rows.uptoBulk y.1) :
    ∃ (l : List α) (v : Value), cs = [v] ∧ RepP own w (.seq (l.map f)) v ∧ (l.map wt).sum + l.length + 1 ≤ Rows.uptoBulk x.1 := by
  rcases DataW.trod_slice ht h with ⟨rfl, rfl⟩ | ⟨a, len, cap, elems, rest, n, rfl, rfl, rfl, hb, hl, hm, hlen, hg, _, _⟩
  ·refine ⟨[], _, rfl, ?_, by simp [Rows.uptoBulk]⟩
   have := RepP.seq (own := own) (w := w) [] none 0 0 0 (fun _ _ => default) (fun h => absurd rfl h) (fun h => absurd rfl h) (Nat.le_refl _) (Nat.zero_le _) (fun i el h => by simp at h) (fun i el h => by simp at h)
   simpa using this
  obtain ⟨l, hll, hat, hsum⟩ := choose_els (w := w) f wt (own := own) (fun i y cs => w.cells? base (a.add (i * P.cellsOf e)) (P.cellsOf e) = some cs ∧ DataW.trod enc P w base spare held n e cs = some y)
    (fun i y cs' hr => hel n cs' y (Nat.lt_succ_self _) (by rw [(World.cells?_some hr.1).2.1, hC]) hr.2) elems 0 (fun i y hy => by
      have hlt : i < len := by rw [← hlen]; exact (List.getElem?_eq_some_iff.1 hy).1
      have h1 := hg i hlt
      rw [hy, Option.bind_eq_some_iff] at h1
      obtain ⟨cs', h2, h3⟩ := h1
      exact ⟨cs', by rw [Nat.zero_add]; exact h2, h3⟩)
  obtain ⟨ab, ao, asp⟩ := a
  have hlen2 : l.length = len := by rw [hll, hlen]
  -- a cell that can be read
  have hsp : l ≠ [] → asp = none ∧ ab < w.heap.size := by
    intro hne
    obtain ⟨z, r, rfl⟩ := List.exists_cons_of_ne_nil hne
    obtain ⟨y, cs', _, hr, hrep⟩ := hat 0 z rfl
    obtain ⟨_, hcl, hcell⟩ := World.cells?_some hr.1
    have h0 := hcell 0 (by rw [hC]; exact hN)
    have hlt : 0 < cs'.length := by rw [hcl, hC]; exact hN
    rw [List.getElem?_eq_getElem hlt] at h0
    unfold World.cell? at h0
    have e0 : (Addr.add (Addr.add ⟨ab, ao, asp⟩ ((0 + 0) * P.cellsOf e)) 0) = ⟨ab, ao, asp⟩ := by simp [Addr.add]
    rw [e0] at h0
    split at h0
    ·rename_i hh
     refine ⟨?_, (Array.getElem?_eq_some_iff.1 hh).1⟩
     cases asp with
     | none => rfl
     | some _ => simp at h0
    cases h0
  refine ⟨l, _, rfl, ?_, ?_⟩
  ·-- the cells of an element
   have key : ∀ i z, l[i]? = some z → ∃ cs', RepEl own w (f z) cs' ∧ cs'.length = N ∧ ∀ j, j < N → w.cell? ⟨ab, ao + i * N + j, none⟩ = cs'[j]? := by
     intro i z hz
     obtain ⟨y, cs', _, hr, hrep⟩ := hat i z hz
     obtain ⟨_, hcl, hcell⟩ := World.cells?_some hr.1
     refine ⟨cs', hrep, hcl.trans hC, fun j hj => ?_⟩
     have h1 := hcell j (by rw [hC]; exact hj)
     have hne : l ≠ [] := by intro e; subst e; simp at hz
     have hs := (hsp hne).1
     subst hs
     rw [← h1, Addr.add_mid, Addr.add_mid, hC, Nat.zero_add]
   have hrep := RepP.seq (own := own) (w := w) (l.map f) (some ⟨ab, ao, asp⟩) cap ab ao (fun i j => (w.cell? ⟨ab, ao + i * N + j, none⟩).getD default)
     (fun hne => by rw [(hsp (by intro e; subst e; exact hne rfl)).1]) (fun hne => by
       have := (hsp (by intro e; subst e; exact hne rfl)).2
       exact ⟨hown _ this, this⟩) (by simp; omega) hm ?_ ?_
   ·rw [List.length_map, hlen2] at hrep; exact hrep
   ·intro i el hi j c hj
    rw [List.getElem?_map, Option.map_eq_some_iff] at hi
    obtain ⟨z, hz, rfl⟩ := hi
    obtain ⟨cs', hrep, hcl, hcell⟩ := key i z hz
    have hjN : j < N := by have := (List.getElem?_eq_some_iff.1 hj).1; rw [hrep.1, hcl] at this; exact this
    have h1 := hcell j hjN
    have hfl : (f z).length = N := by rw [hrep.1, hcl]
    rw [hfl, h1, List.getElem?_eq_getElem (by omega)]
    rfl
   intro i el hi j c hj
   rw [List.getElem?_map, Option.map_eq_some_iff] at hi
   obtain ⟨z, hz, rfl⟩ := hi
   obtain ⟨cs', hrep, hcl, hcell⟩ := key i z hz
   have hjN : j < N := by have := (List.getElem?_eq_some_iff.1 hj).1; rw [hrep.1, hcl] at this; exact this
   have h1 := hcell j hjN
   rw [List.getElem?_eq_getElem (by omega)] at h1
   rw [h1]
   exact hrep.2 j c _ hj (List.getElem?_eq_getElem (by omega))
  simp only [Rows.uptoBulk]; omega
end
end
section
open Go Go.ChangeShapes Go.WideShapes Go.ChangeAt Go.RowKit Go.Deep
theorem Tryz.own : ownKnob Tryz.prog.godebug = none := by kernel_rfl
theorem Tryz.laidOut : laidOutB Tryz.prog = true := by kernel_rfl
section
variable {H : Type} {enc : TypeId × Value → H} {P : Program}
theorem sameAt_of {W W' : World} {p : MemPlace} (h : W'.heap[p.block]? = W.heap[p.block]?) : W.sameAt W' p := by
  cases p <;> simp_all [World.sameAt, MemPlace.block, World.cell?]
theorem trodAll_stays (hl : laidOutB P = true) {W W' : World} (hb : ∀ b, b < W.heap.size → W'.heap[b]? = W.heap[b]?) : ∀ (ts : List TypeId) (vs : List Value) (ds : List (DataW H)) (ps : List MemPlace),
    (∀ t ∈ ts, P.readableRec t = true ∧ t < P.types.size) → DataW.TrodAll enc P W 0 (fun _ => true) true ts vs ds ps → (∀ x ∈ ps, x.block < W.heap.size) →
    DataW.TrodAll enc P W' 0 (fun b => decide (b < W.heap.size)) true ts vs ds ps
  | [], vs, ds, ps, _, h, _ => by
    obtain ⟨rfl, rfl, rfl⟩ := trodAll_nil h
    exact trodAll_mk0
  | t :: ts, vs, ds, ps, hr, h, hp => by
    obtain ⟨v, vs', d, ds', p, q, rfl, rfl, rfl, h1, h2⟩ := trodAll_cons h
    have ht := hr t (.head _)
    refine ⟨p, q, ?_, trodAll_stays hl hb ts vs' ds' q (fun t' h' => hr t' (.tail _ h')) h2 (fun x hx => hp x (List.mem_append_right _ hx)), rfl⟩
    refine WideElems.Trod_stays hl ht.1 ht.2 h1 (fun x hx => ?_) (fun x hx => by simpa using hp x (List.mem_append_left _ hx))
    exact sameAt_of (hb _ (hp x (List.mem_append_left _ hx)))
theorem keptBut_of {W W' : World} (may : MemPlace → Prop) (hos : W'.os = W.os) (hout : W'.output = W.output) (hb : ∀ b, b < W.heap.size → W'.heap[b]? = W.heap[b]?) : W.keptBut W' may := by
  refine ⟨hos, hout, fun i hi => ?_⟩
  rw [hb i hi]
  rcases h : W.heap[i]? with _ | o
  ·trivial
  cases o with
  | cells c t fr => exact ⟨rfl, rfl, rfl, fun _ _ => rfl⟩
  | map es clock => exact .inr ⟨rfl, rfl⟩
  | _ => rfl
theorem post_true {f : Func} {s : ChangeSpec} {apart fresh handsOn : Bool} {W W' : World} {args : Array Value} {ds gs : List (DataW H)} {before : List MemPlace} {tb : TypeId} (hl : laidOutB P = true) (hv0 : s.vars = [])
    (hW : DataW.Whole enc P f.params.toList s.vars apart W args.toList ds gs before) (hrd : ∀ t ∈ f.params.toList, P.readableRec t = true ∧ t < P.types.size) (hres : f.resultTypes = #[tb]) (htb : P.underlying tb = some .bool)
    (hs : s.fn H (ds ++ gs) = { results := [.lit (.bool true)], args := ds }) (hos : W'.os = W.os) (hout : W'.output = W.output) (hb : ∀ b, b < W.heap.size → W'.heap[b]? = W.heap[b]?) :
    s.post enc P f apart fresh handsOn false W args (.bool true) W' := by
  have hlt := hW.lt
  have hW' := hW
  obtain ⟨p, q, hA, hV, rfl, _, _⟩ := hW
  refine ⟨ds, gs, p ++ q, [], p, [], hW', ?_, ?_, ?_, keptBut_of _ hos hout hb, fun h => by cases h⟩
  ·rw [hs, hres]
   exact trodAll_mk1 ⟨1, by simp [DataW.trod, htb, Value.cells]⟩
  ·rw [hs]
   exact trodAll_stays hl hb _ _ _ _ hrd hA (fun x hx => hlt x (List.mem_append_left _ hx))
  rw [hs, hv0]
  exact rfl
end
theorem relH_none {W : World} : RelH (fun _ => False) (fun _ => none) (look (up [])) W where
  inj _ _ _ _ _ h := by cases h
  apart _ _ _ h := by cases h
  old _ h := h.elim
  obj _ _ _ h := by cases h
  real _ _ h := by cases h
theorem call_true {P : Program} {f : FuncId} {args : List IV} {R : Nat → Prop} (hsc : SC P f args [] R (iBool true) []) {W : World} {vs : List Value} (hr : RepL (fun _ => False) (fun _ => none) (look (up [])) W args vs) :
    Calls P f vs.toArray W fun e W' => e = .returned (.bool true) ∧ W'.os = W.os ∧ W'.output = W.output ∧ ∀ b, b < W.heap.size → W'.heap[b]? = W.heap[b]? := by
  refine (hsc (fun _ => False) (fun _ => none) W vs relH_none hr).mono ?_
  rintro e W' ⟨ρ', v, rfl, hv, _, t⟩
  refine ⟨?_, t.os, t.output, fun b hb => t.blk b hb fun k c h => by cases h⟩
  cases hv with
  | pv _ _ hp => cases hp; rfl
theorem own_none {b : Nat} : ¬ owned (fun _ => False) (fun _ => none) b := by
  rintro (h | ⟨_, _, h⟩)
  ·exact h
  cases h
end
section
open Go Go.ChangeShapes Go.WideShapes Go.ChangeAt Go.RowKit Go.Deep
theorem repL_one {x : IV} {v : Value} {F : Nat → Prop} {ρ : Loc} {σ : Heap'} {w : World} (h : RepI F ρ σ w x v) : RepL F ρ σ w [x] [v] := by
  refine ⟨rfl, fun j y hj => ?_⟩
  cases j with
  | zero => simp at hj; subst hj; exact ⟨v, rfl, h⟩
  | succ j => simp at hj
end
section
open Go Go.ChangeShapes Go.WideShapes Go.ChangeAt Go.RowKit Go.Deep
section
variable {H : Type} {enc : TypeId × Value → H} {P : Program} {w : World} {base : Nat} {spare : Nat → Bool} {held : Bool}
theorem trod_bytes {own : Nat → Prop} (hown : ∀ b, b < w.heap.size → ¬ own b) {t e : TypeId} {fuel : Nat} {cs : List Value} {x : DataW H × List MemPlace} (ht : P.underlying t = some (.slice e)) (he : P.underlying e = some (.int .u8)) (hC : P.cellsOf e = 1)
    (h : DataW.trod enc P w base spare held fuel t cs = some x) : ∃ (l : List UInt8) (v : Value), cs = [v] ∧ RepP own w (bts l) v := by
  obtain ⟨l, v, h1, h2, _⟩ := trod_list eB (fun _ => 0) hown ht hC (by decide) h (fun n cs' y _ _ hy => by
    obtain ⟨k, rfl, rfl, hk⟩ := DataW.trod_int he hy
    have hr : 0 ≤ k ∧ k ≤ 255 := by
      simp [Lit.wf, IntKind.min, IntKind.max, IntKind.bits, IntKind.signed] at hk
      omega
    refine ⟨UInt8.ofNat k.toNat, ?_, by simp [Rows.uptoBulk]⟩
    have e : ((UInt8.ofNat k.toNat).toNat : Int) = k := by
      rw [UInt8.toNat_ofNat_of_lt' (by simp [UInt8.size]; omega)]
      omega
    unfold eB
    rw [e]
    exact RepEl.cons (.val _) .nil)
  exact ⟨l, v, h1, h2⟩
end
set_option maxRecDepth 100000 in
theorem open_bytes {H : Type} {enc : TypeId × Value → H} {W : World} {base b0 : Nat} {spare : Nat → Bool} {held : Bool} {r : Reach} {v : Value} {d : DataW H} {p : List MemPlace} (hv : Value.okWide Tryz.prog W r b0 29 v)
    (h : DataW.Trod enc Tryz.prog W base spare held 29 v d p) : ∃ l : List UInt8, RepI (fun _ => False) (fun _ => none) (look (up [])) W (.pv (bts l)) v := by
  obtain ⟨a, len, cap, rfl⟩ := okWide_slice Tryz.underlying29 hv
  obtain ⟨fuel, hf⟩ := h
  obtain ⟨l, v', h1, h2⟩ := trod_bytes (own := owned (fun _ => False) (fun _ => none)) (fun _ _ => own_none) Tryz.underlying29 Tryz.underlying5 (by kernel_rfl) hf
  have e : (Value.slice a len cap).cells.toList = [Value.slice a len cap] := rfl
  rw [e] at h1
  cases h1
  exact ⟨l, .pv _ _ h2⟩
set_option maxRecDepth 100000 in
theorem hoistSame_lifted (hsc : ∀ l : List UInt8, SC Tryz.prog 6 [.pv (bts l)] [] (fun _ => False) (iBool true) []) (os : Os) (started : os.Started) (H : Type) (enc : TypeId × Value → H) :
    ReturnsInHanded {} Tryz.checked os 6 .any (Rows.hoistSameSpec.pre6 enc Tryz.prog Tryz.f6 Rows.hoistSameRow.domain false) (Rows.hoistSameSpec.post enc Tryz.prog Tryz.f6 false true false false) := by
  refine returnsInHanded_of_change (C := Tryz.checked) Tryz.own started (by kernel_rfl) Tryz.func6
    (ChangeSpec.witness6 (enc := enc) (C := Tryz.checked) false ⟨#[], #[.slice none 0 0], []⟩ 8 (by kernel_rfl) (by kernel_rfl) (by kernel_rfl) (by kernel_rfl)) ?_
  intro W base args ds gs before hval hW _ _
  have hW' := hW
  obtain ⟨p, q, hA0, hV, rfl, hfz, hnd⟩ := hW
  have hA : DataW.TrodAll enc Tryz.prog W 0 (fun _ => true) true Tryz.f6.params.toList args.toList ds p := hA0
  rw [Tryz.params6] at hA hval
  obtain ⟨v0, vs0, d0, ds0, p0, q0, hargs, rfl, rfl, h0, r0⟩ := trodAll_cons hA
  obtain ⟨rfl, rfl, rfl⟩ := trodAll_nil r0
  obtain rfl : args = #[v0] := by cases args; simp_all
  obtain ⟨rfl, rfl⟩ := trodVars_none hV
  obtain ⟨l, hu⟩ := open_bytes (hval 0 29 v0 rfl rfl) h0
  refine (call_true (hsc l) (repL_one hu)).mono ?_
  rintro e W' ⟨rfl, hos, hout, hbl⟩
  exact ⟨_, rfl, post_true Tryz.laidOut rfl hW' (fun t ht => by
    rw [Tryz.params6] at ht
    obtain rfl : t = 29 := by simpa using ht
    exact ⟨by kernel_rfl, of_decide_eq_true (by kernel_rfl)⟩) (by kernel_rfl) Tryz.underlying4 rfl hos hout hbl⟩
set_option maxRecDepth 100000 in
theorem hoistSame_of (hsc : ∀ l : List UInt8, SC Tryz.prog 6 [.pv (bts l)] [] (fun _ => False) (iBool true) []) : Rows.HoistSameSaid :=
  OpenClaim.holds_of_wide 6 Tryz.f6 rfl rfl rfl rfl rfl rfl rfl ⟨rfl, rfl, rfl, rfl, rfl⟩ rfl rfl rfl rfl rfl (by kernel_rfl) Tryz.func6 (by kernel_rfl)
    (of_decide_eq_true (by kernel_rfl)) (by unfold Func.isWrapper; first | (rw [if_pos (by decide +kernel)]; kernel_rfl) | (rw [if_neg (by decide +kernel)]; exact ⟨rfl, rfl⟩))
    (fun os started H enc _ => hoistSame_lifted hsc os started H enc)
end
theorem hoistSame_holds : Rows.HoistSameSaid := hoistSame_of fun l => sc_HoistSame l
end Go.Proofs.YtfaeemilgahcpaaGreat
