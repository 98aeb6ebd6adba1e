/- PART 4 of 5 of a proof: see the last part. -/
import Derived.Test.YtahpinmlgnfklaaGreatDoorSa3
set_option maxRecDepth 8000
set_option maxHeartbeats 2000000
set_option linter.unusedSimpArgs false
set_option linter.unusedVariables false
set_option linter.unusedSectionVars false
namespace Go.Proofs.YtahpinmlgnfklaaGreatDoor
open Go
set_option maxRecDepth 20000
theorem tJoin_snoc (sep x : ByteArray) : ∀ xs : List ByteArray, tJoin (xs ++ [x]) sep = if xs = [] then x else tJoin xs sep ++ sep ++ x
  | [] => by
    show tJoin [x] sep = _
    rw [if_pos rfl]
    unfold tJoin
    simp only [List.map_cons, List.map_nil, Lib.join_one]
  | y :: r => by
    rw [if_neg (by simp)]
    unfold tJoin
    apply ByteArray.ext
    simp only [List.cons_append, List.map_cons, List.map_append, List.map_nil, Lib.join_cons, Lib.joinTail, List.flatten_append, List.flatten_cons, List.flatten_nil, List.append_nil]
    simp
theorem tVals_snoc (l : List Int) (x : Int) : tVals (l ++ [x]) = if l = [] then tVal x else tVals l ++ ⟨#[44, 32]⟩ ++ tVal x := by
  unfold tVals
  rw [List.map_append, List.map_cons, List.map_nil, tJoin_snoc]
  by_cases h : l = []
  · rw [if_pos h, if_pos (by rw [h]; rfl)]
  · rw [if_neg h, if_neg (by simpa using h)]
theorem tVals_le {l : List Int} (hl : ∀ v ∈ l, N64 v) : (tVals l).size ≤ l.length * 24 := by
  have h := join_le [44, 32] 22 ((l.map tVal).map (·.data.toList)) fun x hx => by
    simp only [List.map_map, List.mem_map] at hx
    obtain ⟨v, hv, rfl⟩ := hx
    exact tVal_le (hl v hv)
  have e : (tVals l).size = (Lib.join ((l.map tVal).map (·.data.toList)) [44, 32]).length := rfl
  rw [e]
  simpa using h
theorem svq {a b : ByteArray} (h : a = b) : (some (IV.pv (.val (.string a))) : Option IV) = some (IV.pv (.val (.string b))) := by rw [h]
theorem sc_values (l : List Int) (hl : ∀ v ∈ l, N64 v) (hb : l.length ≤ 1073741824) : SC Tryz.prog 65 [.pv (ints l)] [] (fun k => k ∈ []) (.pv (.val (.string (tVals l)))) [] := by
  refine SC.vc tb {} [] Tryz.func65 rfl rfl ?_
  refine ⟨Nat, fun k => [(4, iInt k), (3, .pv (.val (.string (tVals (l.take k)))))], fun _ => [], fun k => l.length - k, fun k => k ≤ l.length, [], 0, Nat.zero_le _, ⟨rfl, rfl, trivial⟩, trivial, ?_⟩
  intro k hk
  refine bcase (fun hc => ?_) fun hc => ?_
  · have hlt := lt_of (f := eInt) rfl hc
    obtain ⟨x, hx, ht, _, hm⟩ := at_lt hlt
    have hs := tVals_le (l := l.take k) fun v hv => hl v (List.mem_of_mem_take hv)
    have hv := tVal_le (hl x hm)
    have hlen : (l.take k).length = k := by simp; omega
    rw [hlen] at hs
    have hn := tVals_snoc (l.take k) x
    rw [← ht] at hn
    refine bcase (fun h2 => ?_) fun h2 => ?_
    · have h2 : 0 < k := by have := of_decide_eq_true h2; omega
      have hne : l.take k ≠ [] := fun e => by rw [e] at hlen; simp at hlen; omega
      rw [if_neg hne] at hn
      exact ⟨str_add (by show _ + 2 ≤ _; omega), map_get (f := eInt) hx, rfl, [], sc_refValue x (hl x hm), sR, trivial, rfl, str_add (by rw [size_app]; show _ + 2 + _ ≤ _; omega), i64_add rfl (by omega), k + 1, step_lt hlt, hlt, ⟨rfl, svq hn.symm, trivial⟩, trivial, rfl, rfl, rfl, rfl⟩
    · have h2 : k = 0 := by have := of_decide_eq_false h2; omega
      subst h2
      rw [if_pos (by simp)] at hn
      exact ⟨map_get (f := eInt) hx, rfl, [], sc_refValue x (hl x hm), sR, trivial, rfl, str_add (by show 0 + _ ≤ _; omega), i64_add rfl (by omega), 0 + 1, step_lt hlt, hlt, ⟨rfl, svq (by rw [hn]; apply ByteArray.ext; simp [tVals, tJoin, Lib.join_nil]), trivial⟩, trivial, rfl, rfl, rfl, rfl⟩
  · exact ⟨sE (by rw [List.take_of_length_le (ge_of (f := eInt) rfl hc)]), trivial⟩
def tBehind (w : ByteArray) (l : List Int) : ByteArray := if l = [] then w else w ++ ⟨#[32]⟩ ++ tVals l
theorem sc_behind (w : ByteArray) (l : List Int) (hw : w.size ≤ 1000) (hl : ∀ v ∈ l, N64 v) (hb : l.length ≤ 1073741824) : SC Tryz.prog 40 [.pv (.val (.string w)), .pv (ints l)] [] (fun k => k ∈ []) (.pv (.val (.string (tBehind w l)))) [] := by
  refine SC.vc tb {} [] Tryz.func40 rfl rfl ?_
  have hs := tVals_le hl
  refine bcase (fun h => ?_) fun h => ?_
  · have h0 : l = [] := List.eq_nil_of_length_eq_zero (by simpa using h)
    exact ⟨sE (by unfold tBehind; rw [if_pos h0]), trivial⟩
  · have h0 : l ≠ [] := fun e => by rw [e] at h; simp at h
    exact ⟨str_add (by show _ + 1 ≤ _; omega), [], sc_values l hl hb, sR, trivial, rfl, str_add (by rw [size_app]; show _ + 1 + _ ≤ _; omega), sE (by unfold tBehind; rw [if_neg h0]), trivial⟩
set_option maxRecDepth 20000
set_option maxHeartbeats 2000000
abbrev ndv (x : Nd) : PV := .agg [vInt x.kind, vInt x.op, vInt x.n, vStr x.name, ints x.args, ints x.outs, ints x.params, kids x.kids]
theorem sc_r8Ender (x : Nd) : SC Tryz.prog 103 [.pv (ndv x)] [] (fun _ => False) (iBool (r8Ender x.kind)) [] := by
  refine SC.anyR (SC.vc tb {} [] Tryz.func103 rfl rfl ?_)
  refine bcase (fun h => ⟨sE ?_, trivial⟩) fun h => ⟨sE ?_, trivial⟩
  · unfold r8Ender
    rw [show decide (x.kind ≥ 12) = true from h]; rfl
  · unfold r8Ender
    rw [show decide (x.kind ≥ 12) = false from h]; rfl
theorem sc_r8last (l : List Nd) : SC Tryz.prog 101 [.pv (nodes l)] [] (fun _ => False) (iInt (r8last l)) [] := by
  refine SC.anyR (SC.vc tb { gh := [(0, [.len 0])] } [] Tryz.func101 rfl rfl ?_)
  intro hl
  simp only [List.length_map] at hl
  refine bcase (fun h => ?_) fun h => ?_
  · have e : l = [] := by
      cases l with
      | nil => rfl
      | cons a b => simp at h; omega
    subst e
    exact ⟨sE rfl, trivial⟩
  · have hne : l ≠ [] := fun e => by subst e; exact absurd h (by decide)
    have hpos : 0 < l.length := List.length_pos_iff.2 hne
    obtain ⟨x, hx⟩ : ∃ x, l[((l.length : Int) - 1).toNat]? = some x := ⟨_, List.getElem?_eq_getElem (by omega)⟩
    have hT : r8last l = if r8Ender x.kind then x.kind else 0 := by
      unfold r8last
      rw [List.getLast?_eq_getElem?, show l.length - 1 = ((l.length : Int) - 1).toNat by omega, hx]
    have ll : (l.map Nd.enc).length = l.length := List.length_map _
    have hi : (l.map Nd.enc)[(((l.map Nd.enc).length : Int) - 1).toNat]? = some [vInt x.kind, vInt x.op, vInt x.n, vStr x.name, ints x.args, ints x.outs, ints x.params, kids x.kids] := by
      rw [ll]; exact nodes_get hx
    have hE := sc_r8Ender x
    rw [hT]
    generalize r8Ender x.kind = b at hE ⊢
    cases b with
    | true => exact ⟨i64_sub rfl (by rw [ll]; omega), hi, by rw [ll]; omega, [], hE, sR, trivial, rfl, i64_sub rfl (by rw [ll]; omega), hi, by rw [ll]; omega, sI, trivial⟩
    | false => exact ⟨i64_sub rfl (by rw [ll]; omega), hi, by rw [ll]; omega, [], hE, sR, trivial, rfl, sI, trivial⟩
theorem sc_r8Leaves (l : List Nd) : SC Tryz.prog 102 [.pv (nodes l)] [] (fun _ => False) (iBool (r8Leaves l)) [] := by
  suffices H : ∀ N (l : List Nd), SizeOf.sizeOf l < N → SC Tryz.prog 102 [.pv (nodes l)] [] (fun _ => False) (iBool (r8Leaves l)) [] from H _ l (Nat.lt_succ_self _)
  intro N
  induction N with
  | zero => intro l hN; exact absurd hN (Nat.not_lt_zero _)
  | succ N ih =>
    intro l hN
    refine SC.anyR (SC.vc tb { gh := [(0, [.len 0]), (9, [.len 22])] } [] Tryz.func102 rfl rfl ?_)
    intro hl
    simp only [List.length_map] at hl
    refine ⟨Nat, fun k => [(3, iInt k)], fun _ => [], fun k => l.length - k, fun k => k ≤ l.length ∧ r8Leaves l = r8Leaves (l.drop k), [], 0, ⟨Nat.zero_le _, rfl⟩, ⟨rfl, trivial⟩, trivial, ?_⟩
    rintro k ⟨hk, hI⟩
    refine bcase (fun hc => ?_) fun hc => ?_
    · have hlt : k < l.length := by simpa using hc
      obtain ⟨x, hx, hm, hd, _⟩ := at_lt hlt
      rw [hd, show r8Leaves (x :: l.drop (k + 1)) = (r8LeavesN x || r8Leaves (l.drop (k + 1))) from rfl, r8LeavesN_eq] at hI
      refine ⟨nodes_get hx, rfl, bcase (fun h => ⟨sE (by rw [hI, show (x.kind == 14) = true from h]; rfl), trivial⟩) fun h => ?_⟩
      rw [show (x.kind == 14) = false from h, Bool.false_or] at hI
      refine ⟨Nat, fun i => [(4, iInt i), (3, iInt k)], fun _ => [], fun i => x.kids.length - i, fun i => i ≤ x.kids.length ∧ r8Leaves l = ((x.kind == 10 && r8LeavesK (x.kids.drop i)) || r8Leaves (l.drop (k + 1))), [], 0, ⟨Nat.zero_le _, hI⟩, ⟨rfl, rfl, trivial⟩, trivial, ?_⟩
      rintro i ⟨hi, hJ⟩
      refine ⟨nodes_get hx, rfl, bcase (fun h2 => ?_) fun h2 => ?_⟩
      · have hlt2 : i < x.kids.length := by simpa using h2
        obtain ⟨q, hq, hm2, hd2, _⟩ := at_lt hlt2
        have hdec : SizeOf.sizeOf q < N := Nat.lt_of_lt_of_le (kid_lt (List.mem_of_getElem? hx) rfl (List.mem_of_getElem? hq)) (Nat.le_of_lt_succ hN)
        refine ⟨nodes_get hx, rfl, bcase (fun h3 => ?_) fun h3 => ?_⟩
        · intro hl2
          simp only [List.length_map] at hl2
          rw [show (x.kind == 10) = true from h3, Bool.true_and, hd2, show r8LeavesK (q :: x.kids.drop (i + 1)) = (r8Leaves q || r8LeavesK (x.kids.drop (i + 1))) from rfl] at hJ
          have hL := ih q hdec
          generalize r8Leaves q = b at hL hJ
          refine ⟨nodes_get hx, rfl, map_get (f := eKid) hq, rfl, [], hL, sR, trivial, rfl, ?_⟩
          cases b with
          | true => exact ⟨sE (by rw [hJ]; rfl), trivial⟩
          | false => exact ⟨i64_add rfl (by omega), i + 1, step_lt hlt2, ⟨hlt2, by rw [hJ, show (x.kind == 10) = true from h3]; rfl⟩, ⟨rfl, rfl, trivial⟩, trivial, rfl, rfl, rfl, rfl⟩
        · rw [show (x.kind == 10) = false from h3, Bool.false_and, Bool.false_or] at hJ
          exact ⟨i64_add rfl (by omega), k + 1, step_lt hlt, ⟨hlt, hJ⟩, ⟨rfl, trivial⟩, trivial, rfl, rfl, rfl, rfl⟩
      · rw [List.drop_eq_nil_of_le (by simpa using h2), show r8LeavesK [] = false from rfl, Bool.and_false, Bool.false_or] at hJ
        exact ⟨i64_add rfl (by omega), k + 1, step_lt hlt, ⟨hlt, hJ⟩, ⟨rfl, trivial⟩, trivial, rfl, rfl, rfl, rfl⟩
    · rw [List.drop_eq_nil_of_le (by simpa using hc)] at hI
      exact ⟨sE (by rw [hI]; rfl), trivial⟩
set_option maxRecDepth 20000
def signEls : List (List PV) := wSigns.tail.map fun s => [.val (.string s)]
theorem sc_signs : SC Tryz.prog 99 [] [] (fun k => k ∈ []) (.pv (.seq signEls)) [] := by
  refine SC.vc tb {} [] Tryz.func99 rfl rfl ?_
  exact ⟨sI, trivial⟩
theorem wSign_le (op : Int) : (wSign op).size ≤ 3 := by
  unfold wSign
  split
  · decide
  · rename_i h
    simp only [Bool.or_eq_true, decide_eq_true_eq, not_or] at h
    rcases below29 (op := op) (by omega) (by omega) with rfl | rfl | rfl | rfl | rfl | rfl | rfl | rfl | rfl | rfl | rfl | rfl | rfl | rfl | rfl | rfl | rfl | rfl | rfl | rfl | rfl | rfl | rfl | rfl | rfl | rfl | rfl | rfl | rfl <;> decide
theorem sign_get {op : Int} (h0 : 1 ≤ op) (h1 : op ≤ 28) : signEls[(op - 1).toNat]? = some [.val (.string (wSign op))] := by
  rcases below29 (op := op) (by omega) (by omega) with rfl | rfl | rfl | rfl | rfl | rfl | rfl | rfl | rfl | rfl | rfl | rfl | rfl | rfl | rfl | rfl | rfl | rfl | rfl | rfl | rfl | rfl | rfl | rfl | rfl | rfl | rfl | rfl | rfl
  · omega
  all_goals rfl
theorem sc_refSign (op : Int) (h0 : 1 ≤ op) (h1 : op ≤ 28) : SC Tryz.prog 66 [.pv (.val (.int .i64 op))] [] (fun k => k ∈ []) (.pv (.val (.string (wSign op)))) [] := by
  refine SC.vc tb {} [] Tryz.func66 rfl rfl ?_
  refine bcase (fun h => ?_) fun h => ?_
  · have := of_decide_eq_true h; omega
  · refine bcase (fun h2 => ?_) fun h2 => ?_
    · have := of_decide_eq_true h2; omega
    · exact ⟨[], sc_signs, sR, trivial, rfl, i64_sub rfl (by omega), sign_get h0 h1, by omega, sI, trivial⟩
def tSp : ByteArray := ⟨#[32]⟩
def tRight (x : Nd) : ByteArray :=
  if x.kind = 1 then tNum x.n else if x.kind = 2 then tBool (x.n == 1)
  else if x.kind = 3 then wSign x.op ++ tSp ++ tVal (x.args.getD 0 0)
  else if x.kind = 4 then tVal (x.args.getD 0 0) ++ tSp ++ wSign x.op ++ tSp ++ tVal (x.args.getD 1 0)
  else if x.kind = 5 then x.name ++ ⟨#[91]⟩ ++ tVal (x.args.getD 0 0) ++ ⟨#[93]⟩
  else if x.kind = 7 then x.name ++ ⟨#[40]⟩ ++ tVals x.args ++ ⟨#[41]⟩
  else ⟨#[114, 101, 97, 100]⟩
structure NdOk (x : Nd) : Prop where
  n : N64 x.n
  a : ∀ v ∈ x.args, N64 v
  l : x.args.length ≤ 1073741824
  nm : x.name.size ≤ 1073741824
  k3 : x.kind = 3 → ∃ a, x.args = [a]
  k4 : x.kind = 4 → ∃ a b, x.args = [a, b]
  k5 : x.kind = 5 → ∃ a, x.args = [a]
  op : x.kind = 3 ∨ x.kind = 4 → 1 ≤ x.op ∧ x.op ≤ 28
theorem sc_refRight (x : Nd) (h : NdOk x) : SC Tryz.prog 42 [.pv (ndv x)] [] (fun k => k ∈ []) (.pv (.val (.string (tRight x)))) [] := by
  refine SC.vc tb {} [] Tryz.func42 rfl rfl ?_
  obtain ⟨hn, ha, hl, hnm, k3, k4, k5, hop⟩ := h
  obtain ⟨kind, op, n, name, args, outs, params, kids⟩ := x
  simp only [Nd.kind, Nd.op, Nd.n, Nd.name, Nd.args] at hn ha hl hnm k3 k4 k5 hop
  rcases (show kind = 1 ∨ kind = 2 ∨ kind = 3 ∨ kind = 4 ∨ kind = 5 ∨ kind = 7 ∨ (kind ≠ 1 ∧ kind ≠ 2 ∧ kind ≠ 3 ∧ kind ≠ 4 ∧ kind ≠ 5 ∧ kind ≠ 7) by omega) with rfl | rfl | rfl | rfl | rfl | rfl | hk
  · exact ⟨[], sc_digits _ n (Nat.lt_succ_self _) hn, sR, trivial, rfl, sI, trivial⟩
  · refine bcase (fun h => ?_) fun h => ?_
    · have h' : n = 1 := eq_of_beq h
      exact ⟨sE (by simp [tRight, Nd.kind, Nd.n, tBool, h']), trivial⟩
    · have h2 : (n == 1) = false := h
      have h' : ¬ n = 1 := by simpa using h2
      exact ⟨sE (by simp [tRight, Nd.kind, Nd.n, tBool, h']), trivial⟩
  · obtain ⟨a, rfl⟩ := k3 rfl
    obtain ⟨o1, o2⟩ := hop (.inl rfl)
    have hs := wSign_le op
    have hv := tVal_le (ha a (.head _))
    exact ⟨[], sc_refSign op o1 o2, sR, trivial, rfl, str_add (by show _ + 1 ≤ _; omega), at0 (a := eInt a), rfl, [], sc_refValue a (ha a (.head _)), sR, trivial, rfl, str_add (by rw [size_app]; show _ + 1 + _ ≤ _; omega), sI, trivial⟩
  · obtain ⟨a, b, rfl⟩ := k4 rfl
    obtain ⟨o1, o2⟩ := hop (.inr rfl)
    have hs := wSign_le op
    have hv := tVal_le (ha a (.head _))
    have hv2 := tVal_le (ha b (.tail _ (.head _)))
    exact ⟨at0 (a := eInt a), rfl, [], sc_refValue a (ha a (.head _)), sR, trivial, rfl, str_add (by show _ + 1 ≤ _; omega), [], sc_refSign op o1 o2, sR, trivial, rfl, str_add (by rw [size_app]; show _ + 1 + _ ≤ _; omega), str_add (by rw [size_app, size_app]; show _ + 1 + _ + 1 ≤ _; omega), at1 (b := eInt b), rfl, [], sc_refValue b (ha b (.tail _ (.head _))), sR, trivial, rfl, str_add (by rw [size_app, size_app, size_app]; show _ + 1 + _ + 1 + _ ≤ _; omega), sI, trivial⟩
  · obtain ⟨a, rfl⟩ := k5 rfl
    have hv := tVal_le (ha a (.head _))
    exact ⟨str_add (by show name.size + 1 ≤ _; omega), at0 (a := eInt a), rfl, [], sc_refValue a (ha a (.head _)), sR, trivial, rfl, str_add (by rw [size_app]; show name.size + 1 + _ ≤ _; omega), str_add (by rw [size_app, size_app]; show name.size + 1 + _ + 1 ≤ _; omega), sI, trivial⟩
  · have hs := tVals_le ha
    exact ⟨str_add (by show name.size + 1 ≤ _; omega), [], sc_values args ha hl, sR, trivial, rfl, str_add (by rw [size_app]; show name.size + 1 + _ ≤ _; omega), str_add (by rw [size_app, size_app]; show name.size + 1 + _ + 1 ≤ _; omega), sI, trivial⟩
  · obtain ⟨k1, k2, k3', k4', k5', k7⟩ := hk
    have no : ∀ {i : Int}, kind ≠ i → (kind == i) = true → False := fun h e => h (eq_of_beq e)
    have e : tRight (.mk kind op n name args outs params kids) = ⟨#[114, 101, 97, 100]⟩ := by
      simp only [tRight, Nd.kind, k1, k2, k3', k4', k5', k7, if_false]
    exact bcase (fun h => (no k1 h).elim) fun _ => bcase (fun h => (no k2 h).elim) fun _ => bcase (fun h => (no k3' h).elim) fun _ => bcase (fun h => (no k4' h).elim) fun _ => bcase (fun h => (no k5' h).elim) fun _ => bcase (fun h => (no k7 h).elim) fun _ => ⟨sE (by rw [e]), trivial⟩
set_option maxRecDepth 20000
def tEq : ByteArray := ⟨#[32, 61, 32]⟩
def tCm : ByteArray := ⟨#[44]⟩
def tPair (p v : Int) : ByteArray := tSp ++ tVal p ++ tEq ++ tVal v
def tPairL (a b : List Int) : List ByteArray := List.zipWith tPair a b
def tPairs (a b : List Int) : ByteArray := tJoin (tPairL a b) tCm
theorem tPair_le {p v : Int} (hp : N64 p) (hv : N64 v) : (tPair p v).size ≤ 48 := by
  unfold tPair
  rw [size_app, size_app, size_app]
  have h1 := tVal_le hp
  have h2 := tVal_le hv
  show 1 + _ + 3 + _ ≤ _
  omega
theorem tJoin_le {xs : List ByteArray} {m : Nat} (h : ∀ x ∈ xs, x.size ≤ m) (sep : ByteArray) : (tJoin xs sep).size ≤ xs.length * (m + sep.size) := by
  have h2 := join_le sep.data.toList m (xs.map (·.data.toList)) fun x hx => by
    obtain ⟨y, hy, rfl⟩ := List.mem_map.1 hx
    exact h y hy
  have e : (tJoin xs sep).size = (Lib.join (xs.map (·.data.toList)) sep.data.toList).length := rfl
  rw [e]
  have e2 : sep.data.toList.length = sep.size := rfl
  rw [e2] at h2
  simpa using h2
theorem app_assoc (a b c : ByteArray) : a ++ b ++ c = a ++ (b ++ c) := by
  apply ByteArray.ext
  simp [Array.append_assoc]
theorem sc_pairs (a b : List Int) (hab : a.length = b.length) (ha : ∀ v ∈ a, N64 v) (hb : ∀ v ∈ b, N64 v) (hl : a.length ≤ 1073741824) : SC Tryz.prog 41 [.pv (ints a), .pv (ints b)] [] (fun k => k ∈ []) (.pv (.val (.string (tPairs a b)))) [] := by
  refine SC.vc tb {} [] Tryz.func41 rfl rfl ?_
  refine ⟨Nat, fun k => [(6, iInt k), (5, .pv (.val (.string (tJoin ((tPairL a b).take k) tCm))))], fun _ => [], fun k => a.length - k, fun k => k ≤ a.length, [], 0, Nat.zero_le _, ⟨rfl, rfl, trivial⟩, trivial, ?_⟩
  have hLl : (tPairL a b).length = a.length := by simp [tPairL, hab]
  intro k hk
  refine bcase (fun hc => ?_) fun hc => ?_
  · have hlt := lt_of (f := eInt) rfl hc
    obtain ⟨x, hx, _, _, hm⟩ := at_lt hlt
    obtain ⟨y, hy, _, _, hm2⟩ := at_lt (show k < b.length by omega)
    obtain ⟨z, hz, ht, _, _⟩ := at_lt (show k < (tPairL a b).length by omega)
    have hzz : z = tPair x y := by
      have : (tPairL a b)[k]? = some (tPair x y) := by unfold tPairL; rw [List.getElem?_zipWith, hx, hy]
      rw [this] at hz
      exact (Option.some.inj hz).symm
    subst hzz
    have hall : ∀ w ∈ (tPairL a b).take k, w.size ≤ 48 := fun w hw => by
      have hw := List.mem_of_mem_take hw
      unfold tPairL at hw
      obtain ⟨i, hi⟩ := List.mem_iff_getElem?.1 hw
      rw [List.getElem?_zipWith] at hi
      cases h1 : a[i]? with
      | none => rw [h1] at hi; cases h2 : b[i]? <;> rw [h2] at hi <;> cases hi
      | some p =>
        cases h2 : b[i]? with
        | none => rw [h1, h2] at hi; cases hi
        | some q =>
          rw [h1, h2] at hi
          cases hi
          exact tPair_le (ha p (List.mem_of_getElem? h1)) (hb q (List.mem_of_getElem? h2))
    have hs := tJoin_le hall tCm
    have hcm : tCm.size = 1 := rfl
    have hsp : tSp.size = 1 := rfl
    have heq : tEq.size = 3 := rfl
    have hlen : ((tPairL a b).take k).length = k := by simp; omega
    rw [hlen, hcm] at hs
    have hv := tVal_le (ha x hm)
    have hv2 := tVal_le (hb y hm2)
    have hn := tJoin_snoc tCm (tPair x y) ((tPairL a b).take k)
    rw [← ht] at hn
    refine bcase (fun h2 => ?_) fun h2 => ?_
    · have h2 : 0 < k := by have := of_decide_eq_true h2; omega
      have hne : (tPairL a b).take k ≠ [] := fun e => by rw [e] at hlen; simp at hlen; omega
      rw [if_neg hne] at hn
      exact ⟨str_add (by show _ + 1 ≤ _; omega), str_add (by rw [size_app]; show _ + 1 + 1 ≤ _; omega), map_get (f := eInt) hx, rfl, [], sc_refValue x (ha x hm), sR, trivial, rfl, str_add (by rw [size_app, size_app]; show _ + 1 + 1 + _ ≤ _; omega), str_add (by rw [size_app, size_app, size_app]; show _ + 1 + 1 + _ + 3 ≤ _; omega),
        map_get (f := eInt) hy, rfl, [], sc_refValue y (hb y hm2), sR, trivial, rfl, str_add (by rw [size_app, size_app, size_app, size_app]; show _ + 1 + 1 + _ + 3 + _ ≤ _; omega), i64_add rfl (by omega), k + 1, step_lt hlt, hlt, ⟨rfl, svq (by rw [hn]; unfold tPair; simp only [app_assoc]; rfl), trivial⟩, trivial, rfl, rfl, rfl, rfl⟩
    · have h2 : k = 0 := by have := of_decide_eq_false h2; omega
      subst h2
      rw [if_pos (by simp)] at hn
      have h0 : (tJoin ((tPairL a b).take 0) tCm).size = 0 := by simp [tJoin, Lib.join_nil]; rfl
      exact ⟨str_add (by rw [h0]; show 0 + 1 ≤ _; omega), map_get (f := eInt) hx, rfl, [], sc_refValue x (ha x hm), sR, trivial, rfl, str_add (by rw [size_app, h0]; show 0 + 1 + _ ≤ _; omega), str_add (by rw [size_app, size_app, h0]; show 0 + 1 + _ + 3 ≤ _; omega),
        map_get (f := eInt) hy, rfl, [], sc_refValue y (hb y hm2), sR, trivial, rfl, str_add (by rw [size_app, size_app, size_app, h0]; show 0 + 1 + _ + 3 + _ ≤ _; omega), i64_add rfl (by omega), 0 + 1, step_lt hlt, hlt, ⟨rfl, svq (by rw [hn]; unfold tPair; apply ByteArray.ext; simp [tJoin, Lib.join_nil]; rfl), trivial⟩, trivial, rfl, rfl, rfl, rfl⟩
  · exact ⟨sE (by unfold tPairs; rw [List.take_of_length_le (by rw [hLl]; exact ge_of (f := eInt) rfl hc)]), trivial⟩
def tNl : ByteArray := ⟨#[10]⟩
def tTab : ByteArray := ⟨#[9]⟩
def tEnd : ByteArray := ⟨#[101, 110, 100]⟩
mutual
def tNd (tabs : ByteArray) : Nd → ByteArray
  | .mk kind op n name args outs params ks =>
    if kind = 6 then name ++ ⟨#[91]⟩ ++ tVal (args.getD 0 0) ++ ⟨#[93, 32, 61, 32]⟩ ++ tVal (args.getD 1 0)
    else if kind = 9 then ⟨#[112, 114, 105, 110, 116, 32]⟩ ++ tVal (args.getD 0 0)
    else if kind = 15 then ⟨#[114, 101, 116, 117, 114, 110, 32]⟩ ++ tVal (args.getD 0 0)
    else if kind = 12 then tBehind ⟨#[121, 105, 101, 108, 100]⟩ args
    else if kind = 13 then tBehind ⟨#[110, 101, 120, 116]⟩ args
    else if kind = 14 then tBehind ⟨#[108, 101, 97, 118, 101]⟩ args
    else if kind = 10 then ⟨#[105, 102, 32]⟩ ++ tVal (args.getD 0 0) ++ tNl ++ (tKs (tabs ++ tTab) ks).getD 0 ⟨#[]⟩ ++ tabs ++ ⟨#[101, 108, 115, 101, 10]⟩ ++ (tKs (tabs ++ tTab) ks).getD 1 ⟨#[]⟩ ++ tabs ++ tBehind tEnd outs
    else if kind = 11 then ⟨#[108, 111, 111, 112]⟩ ++ tPairs params args ++ tNl ++ (tKs (tabs ++ tTab) ks).getD 0 ⟨#[]⟩ ++ tabs ++ tBehind tEnd outs
    else tVal (outs.getD 0 0) ++ tEq ++ tRight (.mk kind op n name args outs params ks)
def tLs (tabs : ByteArray) : List Nd → ByteArray
  | [] => ⟨#[]⟩
  | x :: r => tabs ++ tNd tabs x ++ tNl ++ tLs tabs r
def tKs (tabs : ByteArray) : List (List Nd) → List ByteArray
  | [] => []
  | l :: r => tLs tabs l :: tKs tabs r
end
theorem tLs_app (tabs : ByteArray) : ∀ a b : List Nd, tLs tabs (a ++ b) = tLs tabs a ++ tLs tabs b
  | [], b => by
    simp only [List.nil_append, tLs]
    first
    | done
    | (apply ByteArray.ext; simp)
  | x :: r, b => by simp only [List.cons_append, tLs, tLs_app tabs r b, app_assoc]
theorem tLs_snoc (tabs : ByteArray) (l : List Nd) (x : Nd) : tLs tabs (l ++ [x]) = tLs tabs l ++ tabs ++ tNd tabs x ++ tNl := by
  rw [tLs_app]
  have e : tLs tabs [x] = tabs ++ tNd tabs x ++ tNl := by
    simp only [tLs]
    apply ByteArray.ext
    simp
  rw [e]
  simp only [app_assoc]
theorem tPairs_le {a b : List Int} (ha : ∀ v ∈ a, N64 v) (hb : ∀ v ∈ b, N64 v) : (tPairs a b).size ≤ a.length * 49 := by
  have hall : ∀ w ∈ tPairL a b, w.size ≤ 48 := fun w hw => by
    unfold tPairL at hw
    obtain ⟨i, hi⟩ := List.mem_iff_getElem?.1 hw
    rw [List.getElem?_zipWith] at hi
    cases h1 : a[i]? with
    | none => rw [h1] at hi; cases h2 : b[i]? <;> rw [h2] at hi <;> cases hi
    | some p =>
      cases h2 : b[i]? with
      | none => rw [h1, h2] at hi; cases hi
      | some q =>
        rw [h1, h2] at hi
        cases hi
        exact tPair_le (ha p (List.mem_of_getElem? h1)) (hb q (List.mem_of_getElem? h2))
  have h := tJoin_le hall tCm
  have hc : tCm.size = 1 := rfl
  rw [hc] at h
  have hl : (tPairL a b).length ≤ a.length := by simp [tPairL]; omega
  unfold tPairs
  omega
theorem tBehind_le {w : ByteArray} {l : List Int} (h : ∀ v ∈ l, N64 v) : (tBehind w l).size ≤ w.size + 1 + l.length * 24 := by
  unfold tBehind
  have h1 := tVals_le h
  split
  · omega
  · rw [size_app, size_app]
    show w.size + 1 + _ ≤ _
    omega
theorem getD_64 {l : List Int} (h : ∀ v ∈ l, N64 v) (i : Nat) : N64 (l.getD i 0) := by
  rw [List.getD_eq_getElem?_getD]
  cases hi : l[i]? with
  | none => exact ⟨by decide, by decide⟩
  | some v => exact h v (List.mem_of_getElem? hi)
theorem tRight_le {x : Nd} (hn : N64 x.n) (ha : ∀ v ∈ x.args, N64 v) : (tRight x).size ≤ x.name.size + 24 * x.args.length + 100 := by
  have h0 := tVal_le (getD_64 ha 0)
  have h1 := tVal_le (getD_64 ha 1)
  have h2 := tVals_le ha
  have h3 := tNum_le hn
  have h4 := wSign_le x.op
  have hb : ∀ b, (tBool b).size ≤ 5 := fun b => by cases b <;> decide
  have h5 := hb (x.n == 1)
  have hs : tSp.size = 1 := rfl
  unfold tRight
  split
  · omega
  split
  · omega
  split
  · rw [size_app, size_app]; omega
  split
  · rw [size_app, size_app, size_app, size_app]; omega
  split
  · rw [size_app, size_app, size_app]; show _ + 1 + _ + 1 ≤ _; omega
  split
  · rw [size_app, size_app, size_app]; show _ + 1 + _ + 1 ≤ _; omega
  · show 4 ≤ _; omega
mutual
def ok64N : Nat → Nd → Prop
  | d, .mk _ _ n _ args outs params ks => 1 ≤ d ∧ N64 n ∧ (∀ v ∈ args, N64 v) ∧ (∀ v ∈ outs, N64 v) ∧ (∀ v ∈ params, N64 v) ∧ ok64K (d - 1) ks
def ok64L : Nat → List Nd → Prop
  | _, [] => True
  | d, x :: r => ok64N d x ∧ ok64L d r
def ok64K : Nat → List (List Nd) → Prop
  | _, [] => True
  | d, l :: r => ok64L d l ∧ ok64K d r
end
theorem tKs_getD (tabs : ByteArray) (ks : List (List Nd)) : ((tKs tabs ks).getD 0 ⟨#[]⟩).size + ((tKs tabs ks).getD 1 ⟨#[]⟩).size ≤ ((tKs tabs ks).map (·.size)).sum := by
  match ks with
  | [] => simp [tKs]; rfl
  | [a] => simp [tKs]; exact Nat.le_refl _
  | a :: b :: r => simp [tKs]
theorem tKs_getD0 (tabs : ByteArray) (ks : List (List Nd)) : ((tKs tabs ks).getD 0 ⟨#[]⟩).size ≤ ((tKs tabs ks).map (·.size)).sum := by
  have := tKs_getD tabs ks
  omega
mutual
theorem tNd_le (tabs : ByteArray) (d : Nat) : ∀ x : Nd, ok64N d x → tabs.size + d ≤ 256 → (tNd tabs x).size + tabs.size + 1 ≤ (1 + wtN x) * 1024
  | .mk kind op n name args outs params ks, h, ht => by
    simp only [ok64N] at h
    obtain ⟨hd, hn, ha, ho, hp, hk⟩ := h
    simp only [wtN]
    have htt : (tabs ++ tTab).size = tabs.size + 1 := by rw [size_app]; rfl
    have hK := tKs_le (tabs ++ tTab) (d - 1) ks hk (by rw [htt]; omega)
    have hK2 := tKs_getD (tabs ++ tTab) ks
    have v0 := tVal_le (getD_64 ha 0)
    have v1 := tVal_le (getD_64 ha 1)
    have o0 := tVal_le (getD_64 ho 0)
    have bb := fun w : ByteArray => tBehind_le (w := w) ha
    have be := tBehind_le (w := tEnd) ho
    have pp := tPairs_le hp ha
    have rr := tRight_le (x := .mk kind op n name args outs params ks) hn ha
    simp only [Nd.name, Nd.args] at rr
    have e1 : tNl.size = 1 := rfl
    have e2 : tEnd.size = 3 := rfl
    have e3 : tEq.size = 3 := rfl
    unfold tNd
    split
    · simp only [size_app]; show _ + 1 + _ + 4 + _ + _ + 1 ≤ _; omega
    split
    · simp only [size_app]; show 6 + _ + _ + 1 ≤ _; omega
    split
    · simp only [size_app]; show 7 + _ + _ + 1 ≤ _; omega
    split
    · have b1 := bb ⟨#[121, 105, 101, 108, 100]⟩
      have e : (⟨#[121, 105, 101, 108, 100]⟩ : ByteArray).size = 5 := rfl
      omega
    split
    · have b1 := bb ⟨#[110, 101, 120, 116]⟩
      have e : (⟨#[110, 101, 120, 116]⟩ : ByteArray).size = 4 := rfl
      omega
    split
    · have b1 := bb ⟨#[108, 101, 97, 118, 101]⟩
      have e : (⟨#[108, 101, 97, 118, 101]⟩ : ByteArray).size = 5 := rfl
      omega
    split
    · simp only [size_app]; show 3 + _ + _ + _ + _ + 5 + _ + _ + _ + _ + 1 ≤ _; omega
    split
    · have hK0 := tKs_getD0 (tabs ++ tTab) ks
      simp only [size_app]; show 4 + _ + _ + _ + _ + _ + _ + 1 ≤ _; omega
    · simp only [size_app]; omega
theorem tLs_le (tabs : ByteArray) (d : Nat) : ∀ l : List Nd, ok64L d l → tabs.size + d ≤ 256 → (tLs tabs l).size ≤ (l.length + wtL l) * 1024
  | [], _, _ => by show 0 ≤ _; omega
  | x :: r, h, ht => by
    simp only [ok64L] at h
    simp only [wtL]
    have h1 := tNd_le tabs d x h.1 (by omega)
    have h2 := tLs_le tabs d r h.2 (by omega)
    have e1 : tNl.size = 1 := rfl
    simp only [tLs, size_app, List.length_cons]
    omega
theorem tKs_le (tabs : ByteArray) (d : Nat) : ∀ ks : List (List Nd), ok64K d ks → tabs.size + d ≤ 256 → ((tKs tabs ks).map (·.size)).sum ≤ wtK ks * 1024
  | [], _, _ => by simp [tKs]
  | l :: r, h, ht => by
    simp only [ok64K] at h
    simp only [wtK]
    have h1 := tLs_le tabs d l h.1 (by omega)
    have h2 := tKs_le tabs d r h.2 (by omega)
    simp only [tKs, List.map_cons, List.sum_cons]
    omega
end
set_option maxRecDepth 20000
set_option maxHeartbeats 2000000
mutual
def pOkN : Nd → Prop
  | .mk kind op _ _ args outs params ks => (kind = 6 ∨ kind = 4 → ∃ a b, args = [a, b]) ∧ (kind = 9 ∨ kind = 15 ∨ kind = 10 ∨ kind = 3 ∨ kind = 5 → ∃ a, args = [a]) ∧ (kind = 10 → ∃ p q, ks = [p, q]) ∧
    (kind = 11 → (∃ p, ks = [p]) ∧ params.length = args.length) ∧ (kind ≤ 5 ∨ kind = 7 ∨ kind = 8 → ∃ o, outs = [o]) ∧ (kind = 3 ∨ kind = 4 → 1 ≤ op ∧ op ≤ 28) ∧ (1 ≤ kind ∧ kind ≤ 15) ∧ pOkK ks
def pOkL : List Nd → Prop
  | [] => True
  | x :: r => pOkN x ∧ pOkL r
def pOkK : List (List Nd) → Prop
  | [] => True
  | l :: r => pOkL l ∧ pOkK r
end
theorem pOk_mem : ∀ {l : List Nd} {x : Nd}, pOkL l → x ∈ l → pOkN x
  | y :: r, x, h, hx => by
    simp only [pOkL] at h
    rcases List.mem_cons.1 hx with rfl | hx
    · exact h.1
    · exact pOk_mem h.2 hx
theorem ok64_mem {d : Nat} : ∀ {l : List Nd} {x : Nd}, ok64L d l → x ∈ l → ok64N d x
  | y :: r, x, h, hx => by
    simp only [ok64L] at h
    rcases List.mem_cons.1 hx with rfl | hx
    · exact h.1
    · exact ok64_mem h.2 hx
theorem ok64_take {d : Nat} : ∀ {l : List Nd} (k : Nat), ok64L d l → ok64L d (l.take k)
  | [], k, _ => by simp [ok64L]
  | x :: r, 0, _ => by simp [ok64L]
  | x :: r, k + 1, h => by
    simp only [ok64L, List.take_succ_cons] at h ⊢
    exact ⟨h.1, ok64_take k h.2⟩
theorem wtL_take : ∀ (l : List Nd) (k : Nat), wtL (l.take k) ≤ wtL l
  | [], k => by simp
  | x :: r, 0 => by simp [wtL]
  | x :: r, k + 1 => by
    have := wtL_take r k
    simp only [wtL, List.take_succ_cons]
    omega
theorem wtL_in : ∀ {l : List Nd} {x : Nd}, x ∈ l → wtN x ≤ wtL l
  | y :: r, x, hx => by
    simp only [wtL]
    rcases List.mem_cons.1 hx with rfl | hx
    · omega
    · have := wtL_in hx; omega
set_option maxRecDepth 20000
set_option maxHeartbeats 4000000
theorem sc_refList : ∀ (N d : Nat) (l : List Nd) (tabs : ByteArray), wtL l < N → pOkL l → ok64L d l → tabs.size + d ≤ 256 → l.length + wtL l ≤ 536870912 →
    SC Tryz.prog 23 [.pv (nodes l), .pv (.val (.string tabs))] [] (fun k => k ∈ []) (.pv (.val (.string (tLs tabs l)))) []
  | 0, _, _, _, h, _, _, _, _ => by omega
  | N + 1, d, l, tabs, hN, hok, h64, hd, hsz => by
    refine SC.vc tb { pb := [107] } [] Tryz.func23 rfl rfl ?_
    refine ⟨Nat, fun k => [(6, iInt k), (5, .pv (.val (.string (tLs tabs (l.take k)))))], fun _ => [], fun k => l.length - k, fun k => k ≤ l.length, [], 0, Nat.zero_le _, ⟨rfl, rfl, trivial⟩, trivial, ?_⟩
    intro k hk
    refine bcase (fun hc => ?_) fun hc => ?_
    · have hlt := lt_of (f := Nd.enc) rfl hc
      obtain ⟨x, hx, ht, _, hm⟩ := at_lt hlt
      have hxo := pOk_mem hok hm
      have hx6 := ok64_mem h64 hm
      have hw := wtL_in hm
      have hT := tLs_le tabs d (l.take k) (ok64_take k h64) hd
      have hTl : (l.take k).length ≤ l.length := by simp; omega
      have hTw := wtL_take l k
      have hT2 : (tLs tabs (l.take k)).size ≤ 549755813888 := by omega
      have hn := tLs_snoc tabs (l.take k) x
      rw [← ht] at hn
      have hget := nodes_get hx
      generalize tLs tabs (l.take k) = T at *
      obtain ⟨kind, op, n, name, args, outs, params, ks⟩ := x
      have hro : NdOk (.mk kind op n name args outs params ks) := by
        simp only [pOkN] at hxo
        simp only [ok64N] at hx6
        simp only [wtN] at hw
        obtain ⟨c1, c2, c3, c4, c5, c6, c7, c8⟩ := hxo
        exact ⟨hx6.2.1, hx6.2.2.1, by show args.length ≤ _; omega, by show name.size ≤ _; omega, fun h => c2 (.inr (.inr (.inr (.inl h)))), fun h => c1 (.inr h), fun h => c2 (.inr (.inr (.inr (.inr h)))), c6⟩
      simp only [pOkN] at hxo
      simp only [ok64N] at hx6
      simp only [wtN] at hw
      simp only [Nd.kind, Nd.op, Nd.n, Nd.name, Nd.args, Nd.outs, Nd.params, Nd.kids] at hget
      obtain ⟨hd1, hn6, ha, ho, hp, hk6⟩ := hx6
      obtain ⟨c1, c2, c3, c4, c5, c6, c7, c8⟩ := hxo
      have eA : tabs.size ≤ 256 := by omega
      have eN : name.size ≤ 536870912 := by omega
      rcases (show kind = 6 ∨ kind = 9 ∨ kind = 15 ∨ kind = 12 ∨ kind = 13 ∨ kind = 14 ∨ kind = 10 ∨ kind = 11 ∨ (kind ≤ 5 ∨ kind = 7 ∨ kind = 8) by omega) with rfl | rfl | rfl | rfl | rfl | rfl | rfl | rfl | hkd
      · obtain ⟨a, b, rfl⟩ := c1 (.inl rfl)
        have va := tVal_le (ha a (.head _))
        have vb := tVal_le (ha b (.tail _ (.head _)))
        have e : tNd tabs (.mk 6 op n name [a, b] outs params ks) = name ++ ⟨#[91]⟩ ++ tVal a ++ ⟨#[93, 32, 61, 32]⟩ ++ tVal b := by simp [tNd]
        rw [e] at hn
        exact ⟨hget, rfl, str_add (by omega), str_add (by rw [size_app]; omega), str_add (by simp only [size_app]; show _ + _ + _ + 1 ≤ _; omega), at0 (a := eInt a), rfl, [], sc_refValue a (ha a (.head _)), sR, trivial, rfl, str_add (by simp only [size_app]; show _ + _ + _ + 1 + _ ≤ _; omega), str_add (by simp only [size_app]; show _ + _ + _ + 1 + _ + 4 ≤ _; omega), at1 (b := eInt b), rfl, [], sc_refValue b (ha b (.tail _ (.head _))), sR, trivial, rfl, str_add (by simp only [size_app]; show _ + _ + _ + 1 + _ + 4 + _ ≤ _; omega), str_add (by simp only [size_app]; show _ + _ + _ + 1 + _ + 4 + _ + 1 ≤ _; omega), i64_add rfl (by omega), k + 1, step_lt hlt, hlt, ⟨rfl, svq (by rw [hn]; simp only [app_assoc]; rfl), trivial⟩, trivial, rfl, rfl, rfl, rfl⟩
      · obtain ⟨a, rfl⟩ := c2 (.inl rfl)
        have va := tVal_le (ha a (.head _))
        have e : tNd tabs (.mk 9 op n name [a] outs params ks) = ⟨#[112, 114, 105, 110, 116, 32]⟩ ++ tVal a := by simp [tNd]
        rw [e] at hn
        exact ⟨hget, rfl, str_add (by omega), str_add (by rw [size_app]; show _ + _ + 6 ≤ _; omega), at0 (a := eInt a), rfl, [], sc_refValue a (ha a (.head _)), sR, trivial, rfl, str_add (by simp only [size_app]; show _ + _ + 6 + _ ≤ _; omega), str_add (by simp only [size_app]; show _ + _ + 6 + _ + 1 ≤ _; omega), i64_add rfl (by omega), k + 1, step_lt hlt, hlt, ⟨rfl, svq (by rw [hn]; simp only [app_assoc]; rfl), trivial⟩, trivial, rfl, rfl, rfl, rfl⟩
      · obtain ⟨a, rfl⟩ := c2 (.inr (.inl rfl))
        have va := tVal_le (ha a (.head _))
        have e : tNd tabs (.mk 15 op n name [a] outs params ks) = ⟨#[114, 101, 116, 117, 114, 110, 32]⟩ ++ tVal a := by simp [tNd]
        rw [e] at hn
        exact ⟨hget, rfl, str_add (by omega), str_add (by rw [size_app]; show _ + _ + 7 ≤ _; omega), at0 (a := eInt a), rfl, [], sc_refValue a (ha a (.head _)), sR, trivial, rfl, str_add (by simp only [size_app]; show _ + _ + 7 + _ ≤ _; omega), str_add (by simp only [size_app]; show _ + _ + 7 + _ + 1 ≤ _; omega), i64_add rfl (by omega), k + 1, step_lt hlt, hlt, ⟨rfl, svq (by rw [hn]; simp only [app_assoc]; rfl), trivial⟩, trivial, rfl, rfl, rfl, rfl⟩
      · have hb := tBehind_le (w := ⟨#[121, 105, 101, 108, 100]⟩) ha
        have hz : (⟨#[121, 105, 101, 108, 100]⟩ : ByteArray).size = 5 := rfl
        have e : tNd tabs (.mk 12 op n name args outs params ks) = tBehind ⟨#[121, 105, 101, 108, 100]⟩ args := by simp [tNd]
        rw [e] at hn
        exact ⟨hget, rfl, str_add (by omega), [], sc_behind _ args (by decide) ha (by omega), sR, trivial, rfl, str_add (by rw [size_app]; omega), str_add (by simp only [size_app]; show _ + _ + _ + 1 ≤ _; omega), i64_add rfl (by omega), k + 1, step_lt hlt, hlt, ⟨rfl, svq (by rw [hn]; rfl), trivial⟩, trivial, rfl, rfl, rfl, rfl⟩
      · have hb := tBehind_le (w := ⟨#[110, 101, 120, 116]⟩) ha
        have hz : (⟨#[110, 101, 120, 116]⟩ : ByteArray).size = 4 := rfl
        have e : tNd tabs (.mk 13 op n name args outs params ks) = tBehind ⟨#[110, 101, 120, 116]⟩ args := by simp [tNd]
        rw [e] at hn
        exact ⟨hget, rfl, str_add (by omega), [], sc_behind _ args (by decide) ha (by omega), sR, trivial, rfl, str_add (by rw [size_app]; omega), str_add (by simp only [size_app]; show _ + _ + _ + 1 ≤ _; omega), i64_add rfl (by omega), k + 1, step_lt hlt, hlt, ⟨rfl, svq (by rw [hn]; rfl), trivial⟩, trivial, rfl, rfl, rfl, rfl⟩
      · have hb := tBehind_le (w := ⟨#[108, 101, 97, 118, 101]⟩) ha
        have hz : (⟨#[108, 101, 97, 118, 101]⟩ : ByteArray).size = 5 := rfl
        have e : tNd tabs (.mk 14 op n name args outs params ks) = tBehind ⟨#[108, 101, 97, 118, 101]⟩ args := by simp [tNd]
        rw [e] at hn
        exact ⟨hget, rfl, str_add (by omega), [], sc_behind _ args (by decide) ha (by omega), sR, trivial, rfl, str_add (by rw [size_app]; omega), str_add (by simp only [size_app]; show _ + _ + _ + 1 ≤ _; omega), i64_add rfl (by omega), k + 1, step_lt hlt, hlt, ⟨rfl, svq (by rw [hn]; rfl), trivial⟩, trivial, rfl, rfl, rfl, rfl⟩
      · obtain ⟨a, rfl⟩ := c2 (.inr (.inr (.inl rfl)))
        obtain ⟨p, q, rfl⟩ := c3 rfl
        have va := tVal_le (ha a (.head _))
        have hb := tBehind_le (w := tEnd) ho
        have hz : tEnd.size = 3 := rfl
        have htt : (tabs ++ tTab).size = tabs.size + 1 := by rw [size_app]; rfl
        simp only [wtK] at hw
        simp only [ok64K] at hk6
        simp only [pOkK] at c8
        have hP := tLs_le (tabs ++ tTab) (d - 1) p hk6.1 (by rw [htt]; omega)
        have hQ := tLs_le (tabs ++ tTab) (d - 1) q hk6.2.1 (by rw [htt]; omega)
        have sp := sc_refList N (d - 1) p (tabs ++ tTab) (by omega) c8.1 hk6.1 (by rw [htt]; omega) (by omega)
        have sq := sc_refList N (d - 1) q (tabs ++ tTab) (by omega) c8.2.1 hk6.2.1 (by rw [htt]; omega) (by omega)
        have e : tNd tabs (.mk 10 op n name [a] outs params [p, q]) = ⟨#[105, 102, 32]⟩ ++ tVal a ++ tNl ++ tLs (tabs ++ tTab) p ++ tabs ++ ⟨#[101, 108, 115, 101, 10]⟩ ++ tLs (tabs ++ tTab) q ++ tabs ++ tBehind tEnd outs := by simp [tNd, tKs]
        rw [e] at hn
        have hP2 : (tLs (tabs ++ tTab) p).size ≤ 549755813888 := by omega
        have hQ2 : (tLs (tabs ++ tTab) q).size ≤ 549755813888 := by omega
        have hB2 : (tBehind tEnd outs).size ≤ 4294967296000 := by omega
        exact ⟨hget, rfl, str_add (by omega), str_add (by rw [size_app]; show _ + _ + 3 ≤ _; omega), at0 (a := eInt a), rfl, [], sc_refValue a (ha a (.head _)), sR, trivial, rfl, str_add (by simp only [size_app]; show _ + _ + 3 + _ ≤ _; omega), str_add (by simp only [size_app]; show _ + _ + 3 + _ + 1 ≤ _; omega),
          at0 (a := eKid p), rfl, str_add (by show _ + 1 ≤ _; omega), [], sp, sR, trivial, rfl, str_add (by simp only [size_app]; show _ + _ + 3 + _ + 1 + (tLs (tabs ++ tTab) p).size ≤ _; omega), str_add (by simp only [size_app]; show _ + _ + 3 + _ + 1 + (tLs (tabs ++ tTab) p).size + _ ≤ _; omega), str_add (by simp only [size_app]; show _ + _ + 3 + _ + 1 + (tLs (tabs ++ tTab) p).size + _ + 5 ≤ _; omega),
          at1 (b := eKid q), rfl, str_add (by show _ + 1 ≤ _; omega), [], sq, sR, trivial, rfl, str_add (by simp only [size_app]; show _ + _ + 3 + _ + 1 + (tLs (tabs ++ tTab) p).size + _ + 5 + (tLs (tabs ++ tTab) q).size ≤ _; omega), str_add (by simp only [size_app]; show _ + _ + 3 + _ + 1 + (tLs (tabs ++ tTab) p).size + _ + 5 + (tLs (tabs ++ tTab) q).size + _ ≤ _; omega),
          [], sc_behind tEnd outs (by decide) ho (by omega), sR, trivial, rfl, str_add (by simp only [size_app]; show _ + _ + 3 + _ + 1 + (tLs (tabs ++ tTab) p).size + _ + 5 + (tLs (tabs ++ tTab) q).size + _ + _ ≤ _; omega), str_add (by simp only [size_app]; show _ + _ + 3 + _ + 1 + (tLs (tabs ++ tTab) p).size + _ + 5 + (tLs (tabs ++ tTab) q).size + _ + _ + 1 ≤ _; omega), i64_add rfl (by omega), k + 1, step_lt hlt, hlt, ⟨rfl, svq (by rw [hn]; simp only [app_assoc]; rfl), trivial⟩, trivial, rfl, rfl, rfl, rfl⟩
      · obtain ⟨⟨p, rfl⟩, hpa⟩ := c4 rfl
        have hb := tBehind_le (w := tEnd) ho
        have hz : tEnd.size = 3 := rfl
        have htt : (tabs ++ tTab).size = tabs.size + 1 := by rw [size_app]; rfl
        have pp := tPairs_le hp ha
        simp only [wtK] at hw
        simp only [ok64K] at hk6
        simp only [pOkK] at c8
        have hP := tLs_le (tabs ++ tTab) (d - 1) p hk6.1 (by rw [htt]; omega)
        have sp := sc_refList N (d - 1) p (tabs ++ tTab) (by omega) c8.1 hk6.1 (by rw [htt]; omega) (by omega)
        have e : tNd tabs (.mk 11 op n name args outs params [p]) = ⟨#[108, 111, 111, 112]⟩ ++ tPairs params args ++ tNl ++ tLs (tabs ++ tTab) p ++ tabs ++ tBehind tEnd outs := by simp [tNd, tKs]
        rw [e] at hn
        have hP2 : (tLs (tabs ++ tTab) p).size ≤ 549755813888 := by omega
        have hB2 : (tBehind tEnd outs).size ≤ 4294967296000 := by omega
        have hp2 : (tPairs params args).size ≤ 4294967296000 := by omega
        exact ⟨hget, rfl, str_add (by omega), str_add (by rw [size_app]; show _ + _ + 4 ≤ _; omega), [], sc_pairs params args hpa hp ha (by omega), sR, trivial, rfl, str_add (by simp only [size_app]; show _ + _ + 4 + _ ≤ _; omega), str_add (by simp only [size_app]; show _ + _ + 4 + _ + 1 ≤ _; omega),
          at0 (a := eKid p), rfl, str_add (by show _ + 1 ≤ _; omega), [], sp, sR, trivial, rfl, str_add (by simp only [size_app]; show _ + _ + 4 + _ + 1 + (tLs (tabs ++ tTab) p).size ≤ _; omega), str_add (by simp only [size_app]; show _ + _ + 4 + _ + 1 + (tLs (tabs ++ tTab) p).size + _ ≤ _; omega),
          [], sc_behind tEnd outs (by decide) ho (by omega), sR, trivial, rfl, str_add (by simp only [size_app]; show _ + _ + 4 + _ + 1 + (tLs (tabs ++ tTab) p).size + _ + _ ≤ _; omega), str_add (by simp only [size_app]; show _ + _ + 4 + _ + 1 + (tLs (tabs ++ tTab) p).size + _ + _ + 1 ≤ _; omega), i64_add rfl (by omega), k + 1, step_lt hlt, hlt, ⟨rfl, svq (by rw [hn]; simp only [app_assoc]; rfl), trivial⟩, trivial, rfl, rfl, rfl, rfl⟩
      · obtain ⟨o, rfl⟩ := c5 hkd
        have vo := tVal_le (ho o (.head _))
        have rr := tRight_le (x := .mk kind op n name args [o] params ks) hn6 ha
        simp only [Nd.name, Nd.args] at rr
        have no : ∀ {i : Int}, kind ≠ i → (kind == i) = true → False := fun h e => h (eq_of_beq e)
        have e : tNd tabs (.mk kind op n name args [o] params ks) = tVal o ++ tEq ++ tRight (.mk kind op n name args [o] params ks) := by
          unfold tNd
          rw [if_neg (by omega), if_neg (by omega), if_neg (by omega), if_neg (by omega), if_neg (by omega), if_neg (by omega), if_neg (by omega), if_neg (by omega)]
          simp
        rw [e] at hn
        have hS := sc_refRight _ hro
        generalize tRight (.mk kind op n name args [o] params ks) = Rt at *
        exact ⟨hget, rfl, str_add (by omega), bcase (fun h => (no (by omega) h).elim) fun _ => bcase (fun h => (no (by omega) h).elim) fun _ => bcase (fun h => (no (by omega) h).elim) fun _ => bcase (fun h => (no (by omega) h).elim) fun _ => bcase (fun h => (no (by omega) h).elim) fun _ => bcase (fun h => (no (by omega) h).elim) fun _ => bcase (fun h => (no (by omega) h).elim) fun _ => bcase (fun h => (no (by omega) h).elim) fun _ => 
          ⟨at0 (a := eInt o), rfl, [], sc_refValue o (ho o (.head _)), sR, trivial, rfl, str_add (by simp only [size_app]; omega), str_add (by simp only [size_app]; show _ + _ + _ + 3 ≤ _; omega), [], hS, sR, trivial, rfl, str_add (by simp only [size_app]; show _ + _ + _ + 3 + _ ≤ _; omega), str_add (by simp only [size_app]; show _ + _ + _ + 3 + _ + 1 ≤ _; omega), i64_add rfl (by omega), k + 1, step_lt hlt, hlt, ⟨rfl, svq (by rw [hn]; simp only [app_assoc]; rfl), trivial⟩, trivial, rfl, rfl, rfl, rfl⟩⟩
    · exact ⟨sE (by rw [List.take_of_length_le (ge_of (f := Nd.enc) rfl hc)]), trivial⟩
termination_by N => N
set_option maxRecDepth 20000
set_option maxHeartbeats 2000000
theorem sc_r8in (l : List Int) (n : Int) : SC Tryz.prog 137 [.pv (ints l), iInt n] [] (fun _ => False) (iBool (l.contains n)) [] := by
  refine SC.anyR (SC.vc tb { gh := [(0, [.len 0])] } [] Tryz.func137 rfl rfl ?_)
  intro hl
  simp only [List.length_map] at hl
  refine ⟨Nat, fun k => [(5, iInt k)], fun _ => [], fun k => l.length - k, fun k => k ≤ l.length ∧ l.contains n = (l.drop k).contains n, [], 0, ⟨Nat.zero_le _, rfl⟩, ⟨rfl, trivial⟩, trivial, ?_⟩
  rintro k ⟨hk, hI⟩
  refine bcase (fun hc => ?_) fun hc => ?_
  · have hlt := lt_of (f := eInt) rfl hc
    obtain ⟨x, hx, _, hd, _⟩ := at_lt hlt
    rw [hd, List.contains_cons] at hI
    refine ⟨map_get (f := eInt) hx, rfl, bcase (fun h => ?_) fun h => ?_⟩
    · have e : (n == x) = true := by
        have : x = n := by simpa using h
        simp [this]
      exact ⟨sE (by rw [hI, e]; rfl), trivial⟩
    · have e : (n == x) = false := by
        have : ¬ x = n := by simpa using h
        simpa using fun h => this h.symm
      exact ⟨i64_add rfl (by omega), k + 1, step_lt hlt, ⟨hlt, by rw [hI, e]; rfl⟩, ⟨rfl, trivial⟩, trivial, rfl, rfl, rfl, rfl⟩
  · rw [List.drop_eq_nil_of_le (ge_of (f := eInt) rfl hc)] at hI
    exact ⟨sE (by rw [hI]; rfl), trivial⟩
theorem sc_r8Place (u : Un) (name : ByteArray) : SC Tryz.prog 63 [.pv u.enc, iStr name] [] (fun _ => False) (iInt (r8Place name u.flows 0)) [] := by
  refine SC.anyR (SC.vc tb { gh := [(4, [.len 8])] } [] Tryz.func63 rfl rfl ?_)
  refine ⟨Nat, fun k => [(5, iInt k)], fun _ => [], fun k => u.flows.length - k, fun k => k ≤ u.flows.length ∧ r8Place name u.flows 0 = r8Place name (u.flows.drop k) k, [], 0, ⟨Nat.zero_le _, rfl⟩, ⟨rfl, trivial⟩, trivial, ?_⟩
  rintro k ⟨hk, hI⟩
  refine bcase (fun hc => ?_) fun hc => ?_
  · have hlt := lt_of (f := Fl.enc) rfl hc
    intro hl
    simp only [List.length_map] at hl
    obtain ⟨x, hx, _, hd, _⟩ := at_lt hlt
    rw [hd, show r8Place name (x :: u.flows.drop (k + 1)) k = if eqS x.name name then (k : Int) else r8Place name (u.flows.drop (k + 1)) (k + 1) from rfl] at hI
    refine ⟨map_get (f := Fl.enc) hx, rfl, bcase (fun h => ⟨sE (by rw [hI, if_pos (show eqS x.name name = true from h)]), trivial⟩) fun h => ?_⟩
    rw [if_neg (show ¬ eqS x.name name = true from fun e => by rw [show eqS x.name name = false from h] at e; cases e)] at hI
    exact ⟨i64_add rfl (by omega), k + 1, step_lt hlt, ⟨hlt, hI⟩, ⟨rfl, trivial⟩, trivial, rfl, rfl, rfl, rfl⟩
  · rw [List.drop_eq_nil_of_le (ge_of (f := Fl.enc) rfl hc)] at hI
    exact ⟨sE (by rw [hI]; rfl), trivial⟩
theorem sc_r8Array (u : Un) (name : ByteArray) : SC Tryz.prog 62 [.pv u.enc, iStr name] [] (fun _ => False) (iInt (r8Array name u.arrays 0)) [] := by
  refine SC.anyR (SC.vc tb { gh := [(4, [.len 8])] } [] Tryz.func62 rfl rfl ?_)
  refine ⟨Nat, fun k => [(5, iInt k)], fun _ => [], fun k => u.arrays.length - k, fun k => k ≤ u.arrays.length ∧ r8Array name u.arrays 0 = r8Array name (u.arrays.drop k) k, [], 0, ⟨Nat.zero_le _, rfl⟩, ⟨rfl, trivial⟩, trivial, ?_⟩
  rintro k ⟨hk, hI⟩
  refine bcase (fun hc => ?_) fun hc => ?_
  · have hlt := lt_of (f := Ar.enc) rfl hc
    intro hl
    simp only [List.length_map] at hl
    obtain ⟨x, hx, _, hd, _⟩ := at_lt hlt
    rw [hd, show r8Array name (x :: u.arrays.drop (k + 1)) k = if eqS x.name name then (k : Int) else r8Array name (u.arrays.drop (k + 1)) (k + 1) from rfl] at hI
    refine ⟨map_get (f := Ar.enc) hx, rfl, bcase (fun h => ⟨sE (by rw [hI, if_pos (show eqS x.name name = true from h)]), trivial⟩) fun h => ?_⟩
    rw [if_neg (show ¬ eqS x.name name = true from fun e => by rw [show eqS x.name name = false from h] at e; cases e)] at hI
    exact ⟨i64_add rfl (by omega), k + 1, step_lt hlt, ⟨hlt, hI⟩, ⟨rfl, trivial⟩, trivial, rfl, rfl, rfl, rfl⟩
  · rw [List.drop_eq_nil_of_le (ge_of (f := Ar.enc) rfl hc)] at hI
    exact ⟨sE (by rw [hI]; rfl), trivial⟩
theorem sc_r8types (u : Un) (f : Fl) (set : List Bool) (l seen want : List Int) : SC Tryz.prog 123 [.ptr 3 0, .pv (ints l), .pv (ints seen), .pv (ints want)] (ckHp u f 4 set) (fun _ => True) (iBool (r8types f.types seen l want)) (ckHp u f 4 set) := by
  refine SC.sameR (SC.vc tb { gh := [(1, [.len 1])] } [3, 4] Tryz.func123 rfl rfl ?_) fun k hk _ => ?_
  · intro hl
    simp only [List.length_map] at hl
    refine bcase (fun h1 => ?_) fun h1 => ?_
    · have e : ((l.length : Int) == want.length) = false := by simpa using h1
      exact ⟨sE (by unfold r8types; rw [e]; rfl), rfl, rfl, trivial⟩
    · have e : ((l.length : Int) == want.length) = true := by simpa using h1
      have hlw : l.length = want.length := by have := eq_of_beq e; omega
      have hT : r8types f.types seen l want = r8typesGo f.types seen l want := by unfold r8types; rw [e]; rfl
      rw [hT]
      refine ⟨Nat, fun k => [(9, iInt k)], fun _ => [], fun k => l.length - k, fun k => k ≤ l.length ∧ r8typesGo f.types seen l want = r8typesGo f.types seen (l.drop k) (want.drop k), [], 0, ⟨Nat.zero_le _, rfl⟩, ⟨rfl, trivial⟩, trivial, ?_⟩
      rintro k ⟨hk, hI⟩
      refine bcase (fun hc => ?_) fun hc => ?_
      · have hlt := lt_of (f := eInt) rfl hc
        obtain ⟨v, hv, _, hd, _⟩ := at_lt hlt
        obtain ⟨w, hw, _, hd2, _⟩ := at_lt (show k < want.length by omega)
        rw [hd, hd2, show r8typesGo f.types seen (v :: l.drop (k + 1)) (w :: want.drop (k + 1)) = (r8use f.types seen v w && r8typesGo f.types seen (l.drop (k + 1)) (want.drop (k + 1))) from rfl] at hI
        have bad : r8use f.types seen v w = false → SubI (iBool false) (iBool (r8typesGo f.types seen l want)) := fun h => sE (by rw [hI, h]; rfl)
        have hin := sc_r8in seen v
        have iv := map_get (f := eInt) hv
        have iw := map_get (f := eInt) hw
        refine ⟨iv, rfl, bcase (fun h2 => ⟨bad (by unfold r8use; rw [show decide (v < 0) = true from h2]; rfl), rfl, rfl, trivial⟩) fun h2 => ⟨iv, rfl, bcase (fun h3 => ⟨bad (by unfold r8use; rw [show decide (v ≥ f.types.length) = true by simpa using h3]; simp), rfl, rfl, trivial⟩) fun h3 => ⟨iv, rfl, [], hin, sR, trivial, rfl, ?_⟩⟩⟩
        have e2 : decide (v < 0) = false := h2
        have e3 : decide (v ≥ f.types.length) = false := by simpa using h3
        have v0 : 0 ≤ v := by simpa using h2
        have v1 : v.toNat < f.types.length := by
          have : ¬ v ≥ f.types.length := by simpa using e3
          omega
        have it : (f.types.map eInt)[v.toNat]? = some (eInt (f.types.getD v.toNat 0)) := map_get (f := eInt) (by rw [List.getD_eq_getElem?_getD, List.getElem?_eq_getElem v1]; rfl)
        cases h4 : seen.contains v with
        | false => exact ⟨bad (by unfold r8use; rw [h4]; simp), rfl, rfl, trivial⟩
        | true =>
          refine ⟨iw, rfl, bcase (fun h5 => ⟨iv, rfl, it, by omega, iw, rfl, bcase (fun h6 => ?_) fun h6 => ?_⟩) fun h5 => ?_⟩
          · have e5 : (w != 0) = true := h5
            have e6 : (f.types.getD v.toNat 0 != w) = true := h6
            exact ⟨bad (by unfold r8use; rw [e5, e6]; simp), rfl, rfl, trivial⟩
          · have e6 : (f.types.getD v.toNat 0 != w) = false := h6
            have good : r8use f.types seen v w = true := by unfold r8use; rw [e2, e3, h4, e6, Bool.and_false]; rfl
            exact ⟨i64_add rfl (by omega), k + 1, step_lt hlt, ⟨hlt, by rw [hI, good]; rfl⟩, ⟨rfl, trivial⟩, trivial, rfl, rfl, rfl, rfl⟩
          · have e5 : (w != 0) = false := h5
            have good : r8use f.types seen v w = true := by unfold r8use; rw [e2, e3, h4, e5, Bool.false_and]; rfl
            exact ⟨i64_add rfl (by omega), k + 1, step_lt hlt, ⟨hlt, by rw [hI, good]; rfl⟩, ⟨rfl, trivial⟩, trivial, rfl, rfl, rfl, rfl⟩
      · rw [List.drop_eq_nil_of_le (ge_of (f := eInt) rfl hc)] at hI
        exact ⟨sE (by rw [hI]; rfl), rfl, rfl, trivial⟩
  · cases hq : look (up (ckHp u f 4 set)) k with
    | none => exact absurd hq hk
    | some o =>
      have := look_ids hq
      simpa [up, ckHp] using this
set_option maxRecDepth 20000
set_option maxHeartbeats 2000000
attribute [local simp] r8bare r8op r8num r8name r8kn Nd.kind Nd.op Nd.n Nd.name Nd.kids Nd.params ba_toList in
theorem sc_r8bare (x : Nd) : SC Tryz.prog 121 [.pv (ndv x)] [] (fun _ => False) (iBool (r8bare x)) [] := by
  refine SC.anyR (SC.vc tb {} [] Tryz.func121 rfl rfl ?_)
  obtain ⟨kind, op, n, name, args, outs, params, kids⟩ := x
  rcases (show kind = 3 ∨ kind = 4 ∨ kind = 1 ∨ kind = 2 ∨ kind = 5 ∨ kind = 6 ∨ kind = 7 ∨ kind = 11 ∨ kind = 10 ∨ (kind ≠ 1 ∧ kind ≠ 2 ∧ kind ≠ 3 ∧ kind ≠ 4 ∧ kind ≠ 5 ∧ kind ≠ 6 ∧ kind ≠ 7 ∧ kind ≠ 11 ∧ kind ≠ 10) by omega) with rfl | rfl | rfl | rfl | rfl | rfl | rfl | rfl | rfl | h
  · exact bcase (fun h3 => bcase (fun h2 => bcase (fun h1 => ⟨sE (congrArg iBool (by simp_all)), trivial⟩) fun h1 => ⟨sE (congrArg iBool (by simp_all)), trivial⟩) fun h2 => ⟨sE (congrArg iBool (by simp_all)), trivial⟩) fun h3 => ⟨sE (congrArg iBool (by simp_all)), trivial⟩
  · exact bcase (fun h3 => bcase (fun h2 => bcase (fun h1 => ⟨sE (congrArg iBool (by simp_all)), trivial⟩) fun h1 => ⟨sE (congrArg iBool (by simp_all)), trivial⟩) fun h2 => ⟨sE (congrArg iBool (by simp_all)), trivial⟩) fun h3 => ⟨sE (congrArg iBool (by simp_all)), trivial⟩
  · exact bcase (fun h3 => bcase (fun h2 => bcase (fun h1 => ⟨sE (congrArg iBool (by simp_all)), trivial⟩) fun h1 => ⟨sE (congrArg iBool (by simp_all)), trivial⟩) fun h2 => ⟨sE (congrArg iBool (by simp_all)), trivial⟩) fun h3 => ⟨sE (congrArg iBool (by simp_all)), trivial⟩
  · exact bcase (fun h3 => bcase (fun h2 => bcase (fun h1 => ⟨sE (congrArg iBool (by simp_all)), trivial⟩) fun h1 => ⟨sE (congrArg iBool (by simp_all)), trivial⟩) fun h2 => ⟨sE (congrArg iBool (by simp_all)), trivial⟩) fun h3 => ⟨sE (congrArg iBool (by simp_all)), trivial⟩
  · exact bcase (fun h3 => bcase (fun h2 => bcase (fun h1 => ⟨sE (congrArg iBool (by simp_all)), trivial⟩) fun h1 => ⟨sE (congrArg iBool (by simp_all)), trivial⟩) fun h2 => ⟨sE (congrArg iBool (by simp_all)), trivial⟩) fun h3 => ⟨sE (congrArg iBool (by simp_all)), trivial⟩
  · exact bcase (fun h3 => bcase (fun h2 => bcase (fun h1 => ⟨sE (congrArg iBool (by simp_all)), trivial⟩) fun h1 => ⟨sE (congrArg iBool (by simp_all)), trivial⟩) fun h2 => ⟨sE (congrArg iBool (by simp_all)), trivial⟩) fun h3 => ⟨sE (congrArg iBool (by simp_all)), trivial⟩
  · exact bcase (fun h3 => bcase (fun h2 => bcase (fun h1 => ⟨sE (congrArg iBool (by simp_all)), trivial⟩) fun h1 => ⟨sE (congrArg iBool (by simp_all)), trivial⟩) fun h2 => ⟨sE (congrArg iBool (by simp_all)), trivial⟩) fun h3 => ⟨sE (congrArg iBool (by simp_all)), trivial⟩
  · exact bcase (fun h4 => bcase (fun h3 => bcase (fun h2 => bcase (fun h1 => ⟨sE (congrArg iBool (by simp_all)), trivial⟩) fun h1 => ⟨sE (congrArg iBool (by simp_all)), trivial⟩) fun h2 => ⟨sE (congrArg iBool (by simp_all)), trivial⟩) fun h3 => ⟨sE (congrArg iBool (by simp_all)), trivial⟩) fun h4 => ⟨sE (congrArg iBool (by simp_all)), trivial⟩
  · exact bcase (fun h4 => bcase (fun h3 => bcase (fun h2 => bcase (fun h1 => ⟨sE (congrArg iBool (by simp_all)), trivial⟩) fun h1 => ⟨sE (congrArg iBool (by simp_all)), trivial⟩) fun h2 => ⟨sE (congrArg iBool (by simp_all)), trivial⟩) fun h3 => ⟨sE (congrArg iBool (by simp_all)), trivial⟩) fun h4 => ⟨sE (congrArg iBool (by simp_all)), trivial⟩
  · obtain ⟨k1, k2, k3, k4, k5, k6, k7, k8, k9⟩ := h
    have no : ∀ {i : Int}, kind ≠ i → (kind == i) = true → False := fun h e => h (eq_of_beq e)
    exact bcase (fun h => (no k3 h).elim) fun _ => bcase (fun h => (no k1 h).elim) fun _ => bcase (fun h => (no k5 h).elim) fun _ => bcase (fun h => (no k6 h).elim) fun _ => bcase (fun h => (no k9 h).elim) fun _ => bcase (fun h => (no k8 h).elim) fun _ => bcase (fun h => (no k4 h).elim) fun _ => bcase (fun a1 => bcase (fun h => (no k2 h).elim) fun _ => bcase (fun a2 => bcase (fun h => (no k7 h).elim) fun _ => bcase (fun a3 => bcase (fun a4 => bcase (fun h => (no k8 h).elim) fun _ => ⟨sE (congrArg iBool (by simp_all)), trivial⟩) fun a4 => ⟨sE (congrArg iBool (by simp_all)), trivial⟩) fun a3 => ⟨sE (congrArg iBool (by simp_all)), trivial⟩) fun a2 => ⟨sE (congrArg iBool (by simp_all)), trivial⟩) fun a1 => ⟨sE (congrArg iBool (by simp_all)), trivial⟩
theorem sc_r8Closed (x : Nd) : SC Tryz.prog 71 [.pv (ndv x)] [] (fun _ => False) (iBool (r8Closed x)) [] := by
  refine SC.anyR (SC.vc tb {} [] Tryz.func71 rfl rfl ?_)
  obtain ⟨kind, op, n, name, args, outs, params, kids⟩ := x
  rcases (show kind = 10 ∨ kind = 11 ∨ (kind ≠ 11 ∧ kind ≠ 10) by omega) with rfl | rfl | ⟨k8, k9⟩
  · match kids with
    | [] => exact ⟨[], sc_r8Ender _, sR, trivial, rfl, sI, trivial⟩
    | [a] => exact ⟨[], sc_r8Ender _, sR, trivial, rfl, sI, trivial⟩
    | [a, b] => exact ⟨at0 (a := [nodes a]), rfl, [], sc_r8last a, sR, trivial, rfl, bcase (fun h => ⟨at1 (b := [nodes b]), rfl, [], sc_r8last b, sR, trivial, rfl, sE (congrArg iBool (show _ = ((r8last a != 12) && (r8last b != 12)) by rw [h]; rfl)), trivial⟩) fun h => ⟨sE (congrArg iBool (show _ = ((r8last a != 12) && (r8last b != 12)) by rw [h]; rfl)), trivial⟩⟩
    | a :: b :: c :: r => exact ⟨[], sc_r8Ender _, sR, trivial, rfl, sI, trivial⟩
  · match kids with
    | [] => exact ⟨[], sc_r8Ender _, sR, trivial, rfl, sI, trivial⟩
    | [a] => exact ⟨at0 (a := [nodes a]), rfl, [], sc_r8Leaves a, sR, trivial, rfl, sI, trivial⟩
    | a :: b :: r => exact ⟨[], sc_r8Ender _, sR, trivial, rfl, sI, trivial⟩
  · have no : ∀ {i : Int}, kind ≠ i → (kind == i) = true → False := fun h e => h (eq_of_beq e)
    exact bcase (fun h => (no k9 h).elim) fun _ => bcase (fun h => (no k8 h).elim) fun _ => ⟨[], sc_r8Ender _, sR, trivial, rfl, sE (by simp [r8Closed, Nd.kind, Nd.kids, k8, k9]), trivial⟩
set_option maxRecDepth 20000
set_option maxHeartbeats 2000000
theorem sc_r8sets (u : Un) (f : Fl) (set : List Bool) (l want : List Int) (hs : set.length = f.types.length) : SC Tryz.prog 124 [.ptr 3 0, .pv (ints l), .pv (ints want)] (ckHp u f 4 set) (fun k => k = 3) (iBool (r8sets f.types set l want).1) (ckHp u f 4 (r8sets f.types set l want).2) := by
  refine SC.sameR (SC.vc tb { gh := [(0, [.len 1])] } [3] Tryz.func124 rfl rfl ?_) fun k _ h => List.mem_singleton.2 h
  intro hl
  simp only [List.length_map] at hl
  refine bcase (fun h1 => ?_) fun h1 => ?_
  · have e : ((l.length : Int) == want.length) = false := by simpa using h1
    rw [show r8sets f.types set l want = (false, set) by unfold r8sets; rw [e]; rfl]
    exact ⟨sI, rfl, rfl, trivial⟩
  · have e : ((l.length : Int) == want.length) = true := by simpa using h1
    have hlw : l.length = want.length := by
      have := eq_of_beq e
      omega
    rw [show r8sets f.types set l want = r8setsGo f.types set l want by unfold r8sets; rw [e]; rfl]
    refine ⟨Nat × List Bool, fun (k, _) => [(7, iInt k)], fun (_, S) => [(4, .row ⟨4, 1⟩ (S.map eBool))], fun (k, _) => l.length - k, fun (k, S) => k ≤ l.length ∧ S.length = set.length ∧ r8setsGo f.types set l want = r8setsGo f.types S (l.drop k) (want.drop k), [], (0, set), ⟨Nat.zero_le _, rfl, rfl⟩, ⟨rfl, trivial⟩, ⟨rfl, trivial⟩, ?_⟩
    rintro ⟨k, S⟩ ⟨hk, hS, hI⟩
    have ln : (S.map eBool).length = (set.map eBool).length := by rw [List.length_map, List.length_map, hS]
    rw [hI]
    have bx : ∀ {n m : Nat}, n = m → some (HO.box (ckBox u f n)) = some (HO.box (ckBox u f m)) := fun h => by rw [h]
    refine bcase (fun hc => ?_) fun hc => ?_
    · have hlt := lt_of (f := eInt) rfl hc
      obtain ⟨v, hv, _, hd, _⟩ := at_lt hlt
      obtain ⟨w, hw, _, hd2, _⟩ := at_lt (show k < want.length by omega)
      have iv := map_get (f := eInt) hv
      have iw := map_get (f := eInt) hw
      rw [hd, hd2, show r8setsGo f.types S (v :: l.drop (k + 1)) (w :: want.drop (k + 1)) = if r8bad f.types S v w then (false, S) else r8setsGo f.types (S.set v.toNat true) (l.drop (k + 1)) (want.drop (k + 1)) from rfl]
      refine ⟨iv, rfl, bcase (fun h2 => ?_) fun h2 => ⟨iv, rfl, bcase (fun h3 => ?_) fun h3 => ?_⟩⟩
      · rw [if_pos (show r8bad f.types S v w = true by unfold r8bad; rw [show decide (v < 0) = true from h2]; rfl)]
        exact ⟨sI, bx ln.symm, rfl, trivial⟩
      · have e3 : decide (v ≥ f.types.length) = true := by simpa using h3
        rw [if_pos (show r8bad f.types S v w = true by unfold r8bad; rw [e3]; simp)]
        exact ⟨sI, bx ln.symm, rfl, trivial⟩
      · have e2 : decide (v < 0) = false := h2
        have e3 : decide (v ≥ f.types.length) = false := by simpa using h3
        have v0 : 0 ≤ v := by simpa using h2
        have v1 : v.toNat < f.types.length := by
          have : ¬ v ≥ f.types.length := by simpa using e3
          omega
        have it : (f.types.map eInt)[v.toNat]? = some (eInt (f.types.getD v.toNat 0)) := map_get (f := eInt) (by rw [List.getD_eq_getElem?_getD, List.getElem?_eq_getElem v1]; rfl)
        have iS : (S.map eBool)[v.toNat]? = some (eBool (S.getD v.toNat false)) := map_get (f := eBool) (by rw [List.getD_eq_getElem?_getD, List.getElem?_eq_getElem (by omega)]; rfl)
        have vlt : v.toNat < (set.map eBool).length := by rw [List.length_map]; omega
        have vv : v = (v.toNat : Int) := by omega
        refine ⟨iv, rfl, ln, vlt, vv, ?_⟩
        cases h4 : S.getD v.toNat false with
        | true =>
          rw [if_pos (show r8bad f.types S v w = true by unfold r8bad; rw [h4]; simp)]
          rw [h4] at iS
          exact VRow.mk (i := v.toNat) (j := 0) ln rfl iS rfl ⟨sI, bx ln.symm, rfl, trivial⟩
        | false =>
          rw [h4] at iS
          refine VRow.mk (i := v.toNat) (j := 0) ln rfl iS rfl ⟨iw, rfl, bcase (fun h5 => ⟨iv, rfl, it, by omega, iw, rfl, bcase (fun h6 => ?_) fun h6 => ?_⟩) fun h5 => ?_⟩
          · have e5 : (w != 0) = true := h5
            have e6 : (f.types.getD v.toNat 0 != w) = true := h6
            rw [if_pos (show r8bad f.types S v w = true by unfold r8bad; rw [e5, e6]; simp)]
            exact ⟨sI, bx ln.symm, rfl, trivial⟩
          · have e6 : (f.types.getD v.toNat 0 != w) = false := h6
            have ok : r8bad f.types S v w = false := by unfold r8bad; rw [e2, e3, h4, e6, Bool.and_false]; rfl
            rw [if_neg (by rw [ok]; exact Bool.false_ne_true)]
            exact ⟨iv, rfl, ln, vlt, vv, ⟨v.toNat, 0, eBool false, ln, rfl, iS, by decide, i64_add rfl (by omega), (k + 1, S.set v.toNat true), step_lt hlt, ⟨hlt, by rw [List.length_set, hS], rfl⟩, ⟨rfl, trivial⟩, ⟨by rw [List.map_set]; rfl, trivial⟩, rfl, rfl, rfl, rfl⟩⟩
          · have e5 : (w != 0) = false := h5
            have ok : r8bad f.types S v w = false := by unfold r8bad; rw [e2, e3, h4, e5, Bool.false_and]; rfl
            rw [if_neg (by rw [ok]; exact Bool.false_ne_true)]
            exact ⟨iv, rfl, ln, vlt, vv, ⟨v.toNat, 0, eBool false, ln, rfl, iS, by decide, i64_add rfl (by omega), (k + 1, S.set v.toNat true), step_lt hlt, ⟨hlt, by rw [List.length_set, hS], rfl⟩, ⟨rfl, trivial⟩, ⟨by rw [List.map_set]; rfl, trivial⟩, rfl, rfl, rfl, rfl⟩⟩
    · rw [List.drop_eq_nil_of_le (ge_of (f := eInt) rfl hc)]
      exact ⟨sI, bx ln.symm, rfl, trivial⟩
theorem sc_r1IsOne (op : Int) : SC Tryz.prog 139 [iInt op] [] (fun _ => False) (iBool (r1IsOne op)) [] := by
  refine SC.of Tryz.func139 rfl (lb rfl) fun F ρ w => ?_
  refine tQ <| tG <| sm 1 rfl <| nL <| tQ <| tG <| sm 3 rfl ?_
  refine wS 5 rfl (fun hb5 => ?_) fun hb5 => ?_
  ·refine sm 4 rfl <| nL <| Tr.ret <| ret_ok rfl ?_ no_post
   first | (simp_all [r1IsOne]; done) | (simp_all [r1IsOne]; omega)
  refine sm 4 rfl <| nL <| Tr.ret <| ret_ok rfl ?_ no_post
  first | (simp_all [r1IsOne]; done) | (simp_all [r1IsOne]; omega)
theorem sc_r1IsTwo (op : Int) : SC Tryz.prog 140 [iInt op] [] (fun _ => False) (iBool (r1IsTwo op)) [] := by
  refine SC.of Tryz.func140 rfl (lb rfl) fun F ρ w => ?_
  refine tQ <| tG <| sm 1 rfl <| nL <| tQ <| tG <| sm 3 rfl ?_
  refine wS 5 rfl (fun hb5 => ?_) fun hb5 => ?_
  ·refine sm 4 rfl <| nL <| Tr.ret <| ret_ok rfl ?_ no_post
   first | (simp_all [r1IsTwo]; done) | (simp_all [r1IsTwo]; omega)
  refine sm 4 rfl <| nL <| Tr.ret <| ret_ok rfl ?_ no_post
  first | (simp_all [r1IsTwo]; done) | (simp_all [r1IsTwo]; omega)
theorem sc_r5Operand (op : Int) : SC Tryz.prog 138 [iInt op] [] (fun _ => False) (.tup [iInt (r5Operand op).1, iInt (r5Operand op).2]) [] := by
  refine SC.of Tryz.func138 rfl (lb rfl) fun F ρ w => ?_
  refine tQ <| tG <| sm 2 rfl <| nL <| tQ <| Tr.block <| tQ <| tG <| sm 3 rfl ?_
  refine wS 7 rfl (fun hb7 => ?_) fun hb7 => ?_
  ·refine sm 8 rfl <| nL <| Tr.condT rfl <| tQ <| tG <| sm 2 rfl <| nL <| Tr.ret <| ret_ok rfl ?_ no_post
   first | (simp_all [r5Operand]; done) | (simp_all [r5Operand]; split <;> first | omega | (simp; done))
  refine sm 4 rfl ?_
  refine wS 11 rfl (fun hb11 => ?_) fun hb11 => ?_
  ·refine sm 4 rfl <| nL <| Tr.condT rfl <| tQ <| tG <| sm 2 rfl <| nL <| Tr.ret <| ret_ok rfl ?_ no_post
   first | (simp_all [r5Operand]; done) | (simp_all [r5Operand]; split <;> first | omega | (simp; done))
  refine sm 4 rfl <| nL ?_
  refine tC rfl (fun hc4 => ?_) fun hc4 => ?_
  ·refine tQ <| tG <| sm 2 rfl <| nL <| Tr.ret <| ret_ok rfl ?_ no_post
   first | (simp_all [r5Operand]; done) | (simp_all [r5Operand]; split <;> first | omega | (simp; done))
  refine tQ <| tG <| sm 3 rfl ?_
  refine wS 18 rfl (fun hb18 => ?_) fun hb18 => ?_
  ·refine sm 4 rfl <| nL <| Tr.condT rfl <| tQ <| tG <| sm 2 rfl <| nL <| Tr.ret <| ret_ok rfl ?_ no_post
   first | (simp_all [r5Operand]; done) | (simp_all [r5Operand]; split <;> first | omega | (simp; done))
  refine sm 4 rfl <| nL ?_
  refine tC rfl (fun hc15 => ?_) fun hc15 => ?_
  ·refine tQ <| tG <| sm 2 rfl <| nL <| Tr.ret <| ret_ok rfl ?_ no_post
   first | (simp_all [r5Operand]; done) | (simp_all [r5Operand]; split <;> first | omega | (simp; done))
  refine tQ <| tG <| sm 3 rfl ?_
  refine wS 25 rfl (fun hb25 => ?_) fun hb25 => ?_
  ·refine sm 4 rfl <| nL ?_
   refine tC rfl (fun hc22 => ?_) fun hc22 => ?_
   ·refine tQ <| tG <| sm 2 rfl <| nL <| Tr.ret <| ret_ok rfl ?_ no_post
    first | (simp_all [r5Operand]; done) | (simp_all [r5Operand]; split <;> first | omega | (simp; done))
   refine Tr.skip <| tQ <| tG <| sm 2 rfl <| nL <| Tr.ret <| ret_ok rfl ?_ no_post
   first | (simp_all [r5Operand]; done) | (simp_all [r5Operand]; split <;> first | omega | (simp; done))
  refine sm 4 rfl <| nL <| Tr.condF rfl <| Tr.skip <| tQ <| tG <| sm 2 rfl <| nL <| Tr.ret <| ret_ok rfl ?_ no_post
  first | (simp_all [r5Operand]; done) | (simp_all [r5Operand]; split <;> first | omega | (simp; done))
theorem sc_r8of (u : Un) (f : Fl) (set : List Bool) (l : List Int) (hb : l.length ≤ 1073741824) : SC Tryz.prog 122 [.ptr 3 0, .pv (ints l)] (ckHp u f 4 set) (fun k => k < 100) (.pv (ints (r8of f.types l))) (ckHp u f 4 set) := by
  refine SC.of Tryz.func122 rfl (lb rfl) fun F ρ w => ?_
  refine Tr.lenOf (t := 1) rfl (fun hl => ?_)
  simp only [List.length_map] at hl
  rw [r8of_eq]
  refine tQ <| tG <| sm 1 rfl <| nL <| tQ <| tG <| sm 1 rfl <| nL <| tQ <| tQ <| tG <| sm 1 rfl ?_
  refine nL <| Tr.block <| Tr.grow (t := 5) (k := 105) ⟨3, 1⟩ rfl rfl rfl rfl rfl <| Tr.sub (Sub.of (fr' := [(6, iInt 0), (5, .sl 105 0), (0, .ptr 3 0), (1, .pv (ints l))]) ⟨rfl, rfl, rfl, rfl, trivial⟩) ?_
  refine Tr.loop (fun fr σ m => ∃ (k : Nat) (st : List Int), (k ≤ l.length) ∧ (st.length = k) ∧ (r8ofGo f.types [] l = r8ofGo f.types st (l.drop k)) ∧ fr = [(6, iInt k), (5, .sl 105 k), (0, .ptr 3 0), (1, .pv (ints l))] ∧ σ = look ((105, some (.row ⟨3, 1⟩ (st.map eInt))) :: up (ckHp u f 4 set)) ∧ m = l.length - k) (n := l.length - 0) ?_ ?_
  ·exact ⟨0, [], Nat.zero_le _, rfl, rfl, rfl, rfl, rfl⟩
  rintro fr σ m ⟨k, st, hI0, hI1, hI2, rfl, rfl, rfl⟩
  refine tQ <| tQ <| tG <| sm 2 rfl <| cV rfl (oSm Tryz.underlying35 rfl) <| sm 1 rfl <| nL ?_
  refine tC rfl (fun hc10 => ?_) fun hc10 => ?_
  ·have hlt : k < l.length := by simpa using hc10
   have hd := List.drop_eq_getElem_cons hlt
   have hm := List.getElem_mem hlt
   have hi := map_get (f := eInt) (List.getElem?_eq_getElem hlt)
   generalize l[k] = x at hd hm hi
   refine Tr.skip <| tQ <| Tr.block <| tQ <| tQ <| Tr.still mixed (by kernel_rfl) rfl <| smS 2 rfl <| sV rfl (ok_index_seq rfl rfl rfl Tryz.underlying35 hi tS3 rfl (by rfl)) <| smS 3 rfl ?_
   refine WS.split (t := 18) rfl (fun hb18 => ?_) (fun hb18 => ?_)
   ·refine smS 12 rfl <| WS.nil <| Tr.condT rfl <| tQ <| tG <| sm 1 rfl <| nL <| Tr.ret ?_
    have hin : r8inr f.types x = false := by simp [r8inr] at *; omega
    rw [hI2, hd]
    simp only [r8ofGo, hin]
    exact ⟨⟨_, rfl, fun _ _ _ _ h => sub_nil h⟩, (po2 rfl rfl)⟩
   refine smS 2 rfl <| syV rfl rfl (ok_index_seq rfl rfl rfl Tryz.underlying35 hi tS3 rfl (by rfl)) <| smS 2 rfl <| syV rfl rfl (ok_nilCheck rfl rfl rfl) <| smS 3 rfl <| syV rfl rfl (oSm Tryz.underlying35 rfl) <| smS 2 rfl <| WS.nil ?_
   refine tC rfl (fun hc30 => ?_) fun hc30 => ?_
   ·refine tQ <| tG <| sm 1 rfl <| nL <| Tr.ret ?_
    have hin : r8inr f.types x = false := by simp [r8inr] at *; omega
    rw [hI2, hd]
    simp only [r8ofGo, hin]
    exact ⟨⟨_, rfl, fun _ _ _ _ h => sub_nil h⟩, (po2 rfl rfl)⟩
   have hv0 : x.toNat < f.types.length := by simp at *; omega
   have hvx : x = ((x.toNat : Nat) : Int) := by simp at *; omega
   have hin : r8inr f.types x = true := by simp [r8inr]; omega
   have hty : (f.types.map eInt)[x.toNat]? = some [vInt (f.types.getD x.toNat 0)] := by rw [List.getElem?_map]; simp [eInt, List.getD, hv0]
   refine Tr.skip <| Tr.drawn mixed (fun k => k < 100) <| wR 3 [0, 1, 2, 3, 4, 5, 6, 7, 8, 9, 10, 11] (by kernel_rfl) (fun _ _ _ h => h) <| smR 2 rfl <| rV rfl rfl (ok_nilCheck rfl rfl rfl) <| smR 2 rfl <| rV rfl rfl (oLb Tryz.underlying35 rfl rfl rfl (by decide)) <| smR 2 rfl <| rV rfl rfl (ok_index_seq rfl rfl rfl Tryz.underlying35 (by assumption) tS3 rfl (by rfl)) <| smR 1 rfl <| rV rfl rfl (ok_index_seq rfl rfl rfl Tryz.underlying35 hty tS3 rfl (by omega)) <| smR 1 rfl ?_
   refine nR <| wO 12 (by kernel_rfl) <| wI rfl rfl (fun k (h : _) => h) nw (fun _ _ => ok_buildSlice rfl rfl Tryz.underlying35 tZ3 tS3 rfl rfl rfl rfl (firmB_ok rfl) rfl) <| wO 13 (by kernel_rfl) ?_
   refine wI rfl rfl (fun k (h : _) => h) (new_old rfl) (fun _ _ => ok_append rfl rfl rfl rfl (by (simp; omega)) (by simp) Tryz.underlying35 tB3 (by decide) (by simp [chunks]) (by (simp [chunks, PV.one]; rfl)) (by simp [maxLen, chunks]; omega) (by simp [chunks]; omega)) ?_
   refine wR 0 [14] (by kernel_rfl) (fun _ _ _ h => h) <| smR 1 rfl <| nR <| WA.done (by kernel_rfl) <| tG <| sm 1 rfl <| cV rfl (oB rfl rfl (i64_add rfl (by omega))) <| sm 1 rfl <| nL ?_
   refine ⟨_, _, ?_, Sub.of (fr' := [(6, iInt (k + 1)), (5, .sl 105 (k + 1)), (0, .ptr 3 0), (1, .pv (ints l))]) ⟨rfl, rfl, rfl, rfl, trivial⟩, (k + 1), (st ++ [f.types.getD x.toNat 0]), ?_, ?_, ?_, rfl, look_row_snoc, rfl⟩
   ·omega
   ·omega
   ·simp [hI1]
   rw [hI2, hd]
   simp [r8ofGo, hin]
  refine Tr.exit <| tQ ?_
  refine Tr.freeze (t := 5) (k := 105) rfl rfl (by simpa using hI1) ?_
  refine tG <| sm 2 rfl <| nL <| Tr.ret <| ret_ok rfl ?_ (po2 rfl rfl)
  have hge : l.length ≤ k := by simpa using hc10
  rw [hI2, List.drop_eq_nil_of_le hge]
  rfl
set_option maxRecDepth 20000
set_option maxHeartbeats 2000000
theorem r8call_some {u : Un} {f : Fl} {set : List Bool} {x : Nd} {seen : List Int} {g : Fl} (h : r8Place x.name u.flows 0 ≥ 0) (hg : u.flows[(r8Place x.name u.flows 0).toNat]? = some g) :
    r8call u f set x seen = andS (r8types f.types seen x.args (g.types.take g.params.toNat)) set (r8sets f.types set x.outs [g.ty]) := by
  unfold r8call
  rw [if_pos (decide_eq_true h), hg]
theorem r8call_none {u : Un} {f : Fl} {set : List Bool} {x : Nd} {seen : List Int} (h : decide (r8Place x.name u.flows 0 ≥ 0) = false) : r8call u f set x seen = (false, set) := by
  unfold r8call
  rw [h]; rfl
theorem sc_r8simple (u : Un) (f : Fl) (set : List Bool) (hs : set.length = f.types.length) (hg : ∀ g ∈ u.flows, 0 ≤ g.params ∧ g.params ≤ g.types.length) (x : Nd) (seen : List Int) (wh : Wh) : SC Tryz.prog 125 [.ptr 3 0, .pv (ndv x), .pv (ints seen), .pv (whv wh)] (ckHp u f 4 set) (fun k => k = 3) (iBool (r8simple u f set x seen wh).1) (ckHp u f 4 (r8simple u f set x seen wh).2) := by
  refine SC.sameR (SC.vc tb {} [3] Tryz.func125 rfl rfl ?_) fun k _ h => List.mem_singleton.2 h
  obtain ⟨kind, op, n, name, args, outs, params, kids⟩ := x
  rcases (show kind = 1 ∨ kind = 2 ∨ kind = 3 ∨ kind = 4 ∨ kind = 5 ∨ kind = 6 ∨ kind = 7 ∨ kind = 9 ∨ kind = 8 ∨ kind = 12 ∨ kind = 13 ∨ kind = 14 ∨ kind = 15 ∨ (kind ≠ 1 ∧ kind ≠ 2 ∧ kind ≠ 3 ∧ kind ≠ 4 ∧ kind ≠ 5 ∧ kind ≠ 6 ∧ kind ≠ 7 ∧ kind ≠ 8 ∧ kind ≠ 9 ∧ kind ≠ 12 ∧ kind ≠ 13 ∧ kind ≠ 14 ∧ kind ≠ 15) by omega) with rfl | rfl | rfl | rfl | rfl | rfl | rfl | rfl | rfl | rfl | rfl | rfl | rfl | hk
  · have hT := sc_r8types u f set args seen []
    have hS := sc_r8sets u f set outs [1] hs
    rw [show r8simple u f set ⟨1, op, n, name, args, outs, params, kids⟩ seen wh = andS (r8types f.types seen args []) set (r8sets f.types set outs [1]) from rfl]
    generalize r8types f.types seen args [] = b at hT ⊢
    cases b with
    | true => exact ⟨[3, 4], hT, SubA.same (SubA.same (SubA.same (SubA.cons sN sR))), ⟨rfl, rfl, trivial, rfl, rfl, trivial⟩, rfl, [], hS, sR, ⟨rfl, rfl, rfl, trivial⟩, rfl, sI, rfl, rfl, trivial⟩
    | false => exact ⟨[3, 4], hT, SubA.same (SubA.same (SubA.same (SubA.cons sN sR))), ⟨rfl, rfl, trivial, rfl, rfl, trivial⟩, rfl, sI, rfl, rfl, trivial⟩
  · have hT := sc_r8types u f set args seen []
    have hS := sc_r8sets u f set outs [2] hs
    rw [show r8simple u f set ⟨2, op, n, name, args, outs, params, kids⟩ seen wh = andS ((n == 0 || n == 1) && r8types f.types seen args []) set (r8sets f.types set outs [2]) from rfl]
    generalize r8types f.types seen args [] = b at hT ⊢
    refine bcase (fun h0 => ?_) fun h0 => ?_
    · rw [show (n == 0) = true from h0]
      cases b with
      | true => exact ⟨[3, 4], hT, SubA.same (SubA.same (SubA.same (SubA.cons sN sR))), ⟨rfl, rfl, trivial, rfl, rfl, trivial⟩, rfl, [], hS, sR, ⟨rfl, rfl, rfl, trivial⟩, rfl, sI, rfl, rfl, trivial⟩
      | false => exact ⟨[3, 4], hT, SubA.same (SubA.same (SubA.same (SubA.cons sN sR))), ⟨rfl, rfl, trivial, rfl, rfl, trivial⟩, rfl, sI, rfl, rfl, trivial⟩
    · rw [show (n == 0) = false from h0]
      refine bcase (fun h1 => ?_) fun h1 => ?_
      · rw [show (n == 1) = true from h1]
        cases b with
        | true => exact ⟨[3, 4], hT, SubA.same (SubA.same (SubA.same (SubA.cons sN sR))), ⟨rfl, rfl, trivial, rfl, rfl, trivial⟩, rfl, [], hS, sR, ⟨rfl, rfl, rfl, trivial⟩, rfl, sI, rfl, rfl, trivial⟩
        | false => exact ⟨[3, 4], hT, SubA.same (SubA.same (SubA.same (SubA.cons sN sR))), ⟨rfl, rfl, trivial, rfl, rfl, trivial⟩, rfl, sI, rfl, rfl, trivial⟩
      · rw [show (n == 1) = false from h1]
        exact ⟨sI, rfl, rfl, trivial⟩
  · have hO := sc_r5Operand op
    have hT := sc_r8types u f set args seen [(r5Operand op).1]
    have hS := sc_r8sets u f set outs [(r5Operand op).2] hs
    have hI := sc_r1IsOne op
    rw [show r8simple u f set ⟨3, op, n, name, args, outs, params, kids⟩ seen wh = andS (r1IsOne op && r8types f.types seen args [(r5Operand op).1]) set (r8sets f.types set outs [(r5Operand op).2]) from rfl]
    generalize r8types f.types seen args [(r5Operand op).1] = b at hT ⊢
    generalize r1IsOne op = q at hI ⊢
    cases q with
    | true =>
      cases b with
      | true => exact ⟨[], hO, sR, trivial, rfl, [], hI, sR, trivial, rfl, [3, 4], hT, sR, ⟨rfl, rfl, trivial, rfl, rfl, trivial⟩, rfl, [], hS, sR, ⟨rfl, rfl, rfl, trivial⟩, rfl, sI, rfl, rfl, trivial⟩
      | false => exact ⟨[], hO, sR, trivial, rfl, [], hI, sR, trivial, rfl, [3, 4], hT, sR, ⟨rfl, rfl, trivial, rfl, rfl, trivial⟩, rfl, sI, rfl, rfl, trivial⟩
    | false => exact ⟨[], hO, sR, trivial, rfl, [], hI, sR, trivial, rfl, sI, rfl, rfl, trivial⟩
  · have hO := sc_r5Operand op
    have hT := sc_r8types u f set args seen [(r5Operand op).1, (r5Operand op).1]
    have hS := sc_r8sets u f set outs [(r5Operand op).2] hs
    have hI := sc_r1IsTwo op
    rw [show r8simple u f set ⟨4, op, n, name, args, outs, params, kids⟩ seen wh = andS (r1IsTwo op && r8types f.types seen args [(r5Operand op).1, (r5Operand op).1] && f.types.getD (args.getD 0 0).toNat 0 == f.types.getD (args.getD 1 0).toNat 0) set (r8sets f.types set outs [(r5Operand op).2]) from rfl]
    cases hb : r8types f.types seen args [(r5Operand op).1, (r5Operand op).1] with
    | false =>
      rw [hb] at hT
      generalize r1IsTwo op = q at hI ⊢
      cases q with
      | true => exact ⟨[], hO, sR, trivial, rfl, [], hI, sR, trivial, rfl, [3, 4], hT, sR, ⟨rfl, rfl, trivial, rfl, rfl, trivial⟩, rfl, sI, rfl, rfl, trivial⟩
      | false => exact ⟨[], hO, sR, trivial, rfl, [], hI, sR, trivial, rfl, sI, rfl, rfl, trivial⟩
    | true =>
      rw [hb] at hT
      obtain ⟨a, b, rfl, a0, a1, b0, b1⟩ := r8types_two hb
      have ga : f.types[a.toNat]? = some (f.types.getD a.toNat 0) := by rw [List.getD_eq_getElem?_getD, List.getElem?_eq_getElem a1]; rfl
      have gb : f.types[b.toNat]? = some (f.types.getD b.toNat 0) := by rw [List.getD_eq_getElem?_getD, List.getElem?_eq_getElem b1]; rfl
      generalize r1IsTwo op = q at hI ⊢
      cases q with
      | false => exact ⟨[], hO, sR, trivial, rfl, [], hI, sR, trivial, rfl, sI, rfl, rfl, trivial⟩
      | true =>
        rw [show ([a, b].getD 0 0 : Int) = a from rfl, show ([a, b].getD 1 0 : Int) = b from rfl]
        refine ⟨[], hO, sR, trivial, rfl, [], hI, sR, trivial, rfl, [3, 4], hT, sR, ⟨rfl, rfl, trivial, rfl, rfl, trivial⟩, rfl, at0 (a := eInt a), rfl, map_get (f := eInt) ga, by omega, at1 (b := eInt b), rfl, map_get (f := eInt) gb, by omega, bcase (fun h => ?_) fun h => ?_⟩
        · rw [show (f.types.getD a.toNat 0 == f.types.getD b.toNat 0) = true from h]
          exact ⟨[], hS, sR, ⟨rfl, rfl, rfl, trivial⟩, rfl, sI, rfl, rfl, trivial⟩
        · rw [show (f.types.getD a.toNat 0 == f.types.getD b.toNat 0) = false from h]
          exact ⟨sI, rfl, rfl, trivial⟩
  · have hA := sc_r8Array u name
    have hT := sc_r8types u f set args seen [1]
    have hS := sc_r8sets u f set outs [1] hs
    rw [show r8simple u f set ⟨5, op, n, name, args, outs, params, kids⟩ seen wh = andS (decide (r8Array name u.arrays 0 ≥ 0) && r8types f.types seen args [1]) set (r8sets f.types set outs [1]) from rfl]
    generalize r8types f.types seen args [1] = b at hT ⊢
    refine ⟨[], hA, sR, trivial, rfl, bcase (fun h => ?_) fun h => ?_⟩
    · rw [show decide (r8Array name u.arrays 0 ≥ 0) = true from h]
      cases b with
      | true => exact ⟨[3, 4], hT, sR, ⟨rfl, rfl, trivial, rfl, rfl, trivial⟩, rfl, [], hS, sR, ⟨rfl, rfl, rfl, trivial⟩, rfl, sI, rfl, rfl, trivial⟩
      | false => exact ⟨[3, 4], hT, sR, ⟨rfl, rfl, trivial, rfl, rfl, trivial⟩, rfl, sI, rfl, rfl, trivial⟩
    · rw [show decide (r8Array name u.arrays 0 ≥ 0) = false from h]
      exact ⟨sI, rfl, rfl, trivial⟩
  · have hA := sc_r8Array u name
    have hT := sc_r8types u f set args seen [1, 1]
    rw [show r8simple u f set ⟨6, op, n, name, args, outs, params, kids⟩ seen wh = (decide (r8Array name u.arrays 0 ≥ 0) && r8types f.types seen args [1, 1] && (outs.length : Int) == 0, set) from rfl]
    generalize r8types f.types seen args [1, 1] = b at hT ⊢
    refine ⟨[], hA, sR, trivial, rfl, bcase (fun h => ?_) fun h => ?_⟩
    · rw [show decide (r8Array name u.arrays 0 ≥ 0) = true from h]
      cases b with
      | true => exact ⟨[3, 4], hT, sR, ⟨rfl, rfl, trivial, rfl, rfl, trivial⟩, rfl, sE (by simp [Nd.outs]), rfl, rfl, trivial⟩
      | false => exact ⟨[3, 4], hT, sR, ⟨rfl, rfl, trivial, rfl, rfl, trivial⟩, rfl, sI, rfl, rfl, trivial⟩
    · rw [show decide (r8Array name u.arrays 0 ≥ 0) = false from h]
      exact ⟨sI, rfl, rfl, trivial⟩
  · have hP := sc_r8Place u name
    rw [show r8simple u f set ⟨7, op, n, name, args, outs, params, kids⟩ seen wh = r8call u f set ⟨7, op, n, name, args, outs, params, kids⟩ seen from rfl]
    cases hp : decide (r8Place name u.flows 0 ≥ 0) with
    | true =>
      have h0 : r8Place name u.flows 0 ≥ 0 := by simpa using hp
      obtain ⟨g, hgk, _⟩ := r8Place_at h0
      rw [show r8call u f set ⟨7, op, n, name, args, outs, params, kids⟩ seen = andS (r8types f.types seen args (g.types.take g.params.toNat)) set (r8sets f.types set outs [g.ty]) from r8call_some h0 hgk]
      obtain ⟨g0, g1⟩ := hg g (List.mem_of_getElem? hgk)
      have hT := sc_r8types u f set args seen (g.types.take g.params.toNat)
      have hS := sc_r8sets u f set outs [g.ty] hs
      have hi := map_get (f := Fl.enc) hgk
      generalize r8types f.types seen args (g.types.take g.params.toNat) = b at hT ⊢
      cases b with
      | true => exact ⟨[], hP, sR, trivial, rfl, bcase (fun _ => ⟨hi, by omega, hi, by omega, g.params.toNat, by omega, by omega, by simp; omega, hw_int, [3, 4], hT, SubA.same (SubA.same (SubA.same (SubA.cons (sE (by simp [ints])) sR))), ⟨rfl, rfl, trivial, rfl, rfl, trivial⟩, rfl, hi, by omega, [], hS, sR, ⟨rfl, rfl, rfl, trivial⟩, rfl, sI, rfl, rfl, trivial⟩) fun h => absurd (hp.symm.trans h) (by decide)⟩
      | false => exact ⟨[], hP, sR, trivial, rfl, bcase (fun _ => ⟨hi, by omega, hi, by omega, g.params.toNat, by omega, by omega, by simp; omega, hw_int, [3, 4], hT, SubA.same (SubA.same (SubA.same (SubA.cons (sE (by simp [ints])) sR))), ⟨rfl, rfl, trivial, rfl, rfl, trivial⟩, rfl, sI, rfl, rfl, trivial⟩) fun h => absurd (hp.symm.trans h) (by decide)⟩
    | false =>
      rw [show r8call u f set ⟨7, op, n, name, args, outs, params, kids⟩ seen = (false, set) from r8call_none hp]
      exact ⟨[], hP, sR, trivial, rfl, bcase (fun h => absurd (hp.symm.trans h) (by decide)) fun _ => ⟨sI, rfl, rfl, trivial⟩⟩
  · have hT := sc_r8types u f set args seen [1]
    rw [show r8simple u f set ⟨9, op, n, name, args, outs, params, kids⟩ seen wh = (r8types f.types seen args [1] && (outs.length : Int) == 0, set) from rfl]
    generalize r8types f.types seen args [1] = b at hT ⊢
    cases b with
    | true => exact ⟨[3, 4], hT, sR, ⟨rfl, rfl, trivial, rfl, rfl, trivial⟩, rfl, sE (by simp [Nd.outs]), rfl, rfl, trivial⟩
    | false => exact ⟨[3, 4], hT, sR, ⟨rfl, rfl, trivial, rfl, rfl, trivial⟩, rfl, sI, rfl, rfl, trivial⟩
  · have hS := sc_r8sets u f set outs [1] hs
    rw [show r8simple u f set ⟨8, op, n, name, args, outs, params, kids⟩ seen wh = andS ((args.length : Int) == 0) set (r8sets f.types set outs [1]) from rfl]
    refine bcase (fun h => ?_) fun h => ?_
    · rw [show ((args.length : Int) == 0) = true by simpa [Nd.args] using h]
      exact ⟨[], hS, sR, ⟨rfl, rfl, rfl, trivial⟩, rfl, sI, rfl, rfl, trivial⟩
    · rw [show ((args.length : Int) == 0) = false by simpa [Nd.args] using h]
      exact ⟨sI, rfl, rfl, trivial⟩
  · obtain ⟨If, Loop, Yield, Next, Left⟩ := wh
    have hT := sc_r8types u f set args seen Yield
    rw [show r8simple u f set ⟨12, op, n, name, args, outs, params, kids⟩ seen ⟨If, Loop, Yield, Next, Left⟩ = (If && r8types f.types seen args Yield && (outs.length : Int) == 0, set) from rfl]
    generalize r8types f.types seen args Yield = b at hT ⊢
    cases If with
    | true =>
      cases b with
      | true => exact ⟨[3, 4], hT, sR, ⟨rfl, rfl, trivial, rfl, rfl, trivial⟩, rfl, sE (by simp [Nd.outs]), rfl, rfl, trivial⟩
      | false => exact ⟨[3, 4], hT, sR, ⟨rfl, rfl, trivial, rfl, rfl, trivial⟩, rfl, sI, rfl, rfl, trivial⟩
    | false => exact ⟨sI, rfl, rfl, trivial⟩
  · obtain ⟨If, Loop, Yield, Next, Left⟩ := wh
    have hT := sc_r8types u f set args seen Next
    rw [show r8simple u f set ⟨13, op, n, name, args, outs, params, kids⟩ seen ⟨If, Loop, Yield, Next, Left⟩ = (Loop && r8types f.types seen args Next && (outs.length : Int) == 0, set) from rfl]
    generalize r8types f.types seen args Next = b at hT ⊢
    cases Loop with
    | true =>
      cases b with
      | true => exact ⟨[3, 4], hT, sR, ⟨rfl, rfl, trivial, rfl, rfl, trivial⟩, rfl, sE (by simp [Nd.outs]), rfl, rfl, trivial⟩
      | false => exact ⟨[3, 4], hT, sR, ⟨rfl, rfl, trivial, rfl, rfl, trivial⟩, rfl, sI, rfl, rfl, trivial⟩
    | false => exact ⟨sI, rfl, rfl, trivial⟩
  · obtain ⟨If, Loop, Yield, Next, Left⟩ := wh
    have hT := sc_r8types u f set args seen Left
    rw [show r8simple u f set ⟨14, op, n, name, args, outs, params, kids⟩ seen ⟨If, Loop, Yield, Next, Left⟩ = (Loop && r8types f.types seen args Left && (outs.length : Int) == 0, set) from rfl]
    generalize r8types f.types seen args Left = b at hT ⊢
    cases Loop with
    | true =>
      cases b with
      | true => exact ⟨[3, 4], hT, sR, ⟨rfl, rfl, trivial, rfl, rfl, trivial⟩, rfl, sE (by simp [Nd.outs]), rfl, rfl, trivial⟩
      | false => exact ⟨[3, 4], hT, sR, ⟨rfl, rfl, trivial, rfl, rfl, trivial⟩, rfl, sI, rfl, rfl, trivial⟩
    | false => exact ⟨sI, rfl, rfl, trivial⟩
  · have hT := sc_r8types u f set args seen [f.ty]
    rw [show r8simple u f set ⟨15, op, n, name, args, outs, params, kids⟩ seen wh = (r8types f.types seen args [f.ty] && (outs.length : Int) == 0, set) from rfl]
    generalize r8types f.types seen args [f.ty] = b at hT ⊢
    cases b with
    | true => exact ⟨[3, 4], hT, sR, ⟨rfl, rfl, trivial, rfl, rfl, trivial⟩, rfl, sE (by simp [Nd.outs]), rfl, rfl, trivial⟩
    | false => exact ⟨[3, 4], hT, sR, ⟨rfl, rfl, trivial, rfl, rfl, trivial⟩, rfl, sI, rfl, rfl, trivial⟩
  · obtain ⟨k1, k2, k3, k4, k5, k6, k7, k8, k9, k12, k13, k14, k15⟩ := hk
    have no : ∀ {i : Int}, kind ≠ i → (kind == i) = true → False := fun h e => h (eq_of_beq e)
    have ne : ∀ {i : Int}, kind ≠ i → (kind == i) = false := fun h => beq_eq_false_iff_ne.2 h
    rw [show r8simple u f set ⟨kind, op, n, name, args, outs, params, kids⟩ seen wh = (false, set) by unfold r8simple; simp only [Nd.kind, ne k1, ne k2, ne k3, ne k4, ne k5, ne k6, ne k7, ne k8, ne k9, ne k12, ne k13, ne k14, ne k15]; rfl]
    exact bcase (fun h => (no k1 h).elim) fun _ => bcase (fun h => (no k2 h).elim) fun _ => bcase (fun h => (no k3 h).elim) fun _ => bcase (fun h => (no k4 h).elim) fun _ => bcase (fun h => (no k5 h).elim) fun _ => bcase (fun h => (no k6 h).elim) fun _ => bcase (fun h => (no k7 h).elim) fun _ => bcase (fun h => (no k8 h).elim) fun _ => bcase (fun h => (no k9 h).elim) fun _ => bcase (fun h => (no k12 h).elim) fun _ => bcase (fun h => (no k13 h).elim) fun _ => bcase (fun h => (no k14 h).elim) fun _ => bcase (fun h => (no k15 h).elim) fun _ => ⟨sI, rfl, rfl, trivial⟩
set_option maxRecDepth 20000
set_option maxHeartbeats 4000000
theorem sc_r8node (u : Un) (f : Fl) (hg : ∀ g ∈ u.flows, 0 ≤ g.params ∧ g.params ≤ g.types.length) (x : Nd) (deep : Int) (hd : 0 ≤ deep ∧ deep ≤ 100) (wh : Wh) (seen : List Int) (set : List Bool) (hs : set.length = f.types.length) (hb : seen.length + ndW x ≤ 1073741824) (ih : ∀ q ∈ x.kids, ∀ (deep : Int) (w : Wh) (all : List Int) (set : List Bool), 0 ≤ deep ∧ deep ≤ 101 → set.length = f.types.length → all.length + lsW q ≤ 1073741824 → SC Tryz.prog 64 [.ptr 3 0, .pv (nodes q), .pv (ints all), .pv (whv w), iInt deep] (ckHp u f 4 set) (fun k => k = 3) (iBool (r8list u f deep w all set q).1) (ckHp u f 4 (r8list u f deep w all set q).2)) : SC Tryz.prog 98 [.ptr 3 0, .pv (ndv x), .pv (ints seen), .pv (whv wh), iInt deep] (ckHp u f 4 set) (fun k => k = 3) (iBool (r8node u f deep wh seen set x).1) (ckHp u f 4 (r8node u f deep wh seen set x).2) := by
  refine SC.sameR (SC.vc tb { pb := [182, 213, 252], gh := [(15, [.fz 14 219])] } [3] Tryz.func98 rfl rfl ?_) fun k _ h => List.mem_singleton.2 h
  have hbW := ndW_eq x
  have hbo : x.outs.length ≤ 1073741824 := by omega
  have hbp : x.params.length ≤ 1073741824 := by omega
  have hml : ((x.outs.map eInt).length : Int) = x.outs.length := by simp
  have hBare := sc_r8bare x
  cases hbr : r8bare x with
  | false =>
    rw [hbr] at hBare
    rw [r8node_bare u f deep wh seen set hbr]
    exact ⟨[], hBare, sR, trivial, rfl, sI, rfl, rfl, trivial⟩
  | true =>
    rw [hbr] at hBare
    by_cases h10 : x.kind = 10
    · obtain ⟨a, b, hk⟩ := r8bare_if hbr h10
      rw [r8node_if u f deep wh seen set hbr h10 hk]
      have k0 : (x.kids.map eKid)[0]? = some [nodes a] := by rw [hk]; rfl
      have k1 : (x.kids.map eKid)[1]? = some [nodes b] := by rw [hk]; rfl
      have hkw : kdW x.kids = 1 + lsW a + (1 + lsW b + 0) := by rw [hk]; rfl
      have hO := sc_r8of u f set x.outs hbo
      have hT := sc_r8types u f set x.args seen [2]
      generalize r8types f.types seen x.args [2] = tb at hT ⊢
      cases tb with
      | false => exact ⟨[], hBare, sR, trivial, rfl, bcase (fun _ => ⟨[3, 4], hO, sR, ⟨rfl, rfl, by decide, rfl, rfl, trivial⟩, rfl, [3, 4], hT, sR, ⟨rfl, rfl, trivial, rfl, rfl, trivial⟩, rfl, sI, rfl, rfl, trivial⟩) fun h => absurd (beq_iff_eq.2 h10) (by rw [h]; decide)⟩
      | true =>
        rw [if_pos rfl]
        have hA := ih a (by rw [hk]; exact .head _) (deep + 1) ⟨true, wh.Loop, r8of f.types x.outs, wh.Next, wh.Left⟩ seen set (by omega) hs (by omega)
        have hl1 := (r8list_length u f (deep + 1) ⟨true, wh.Loop, r8of f.types x.outs, wh.Next, wh.Left⟩ seen set a).trans hs
        generalize r8list u f (deep + 1) ⟨true, wh.Loop, r8of f.types x.outs, wh.Next, wh.Left⟩ seen set a = ra at hA hl1 ⊢
        obtain ⟨ba, s1⟩ := ra
        cases ba with
        | false => exact ⟨[], hBare, sR, trivial, rfl, bcase (fun _ => ⟨[3, 4], hO, sR, ⟨rfl, rfl, by decide, rfl, rfl, trivial⟩, rfl, [3, 4], hT, sR, ⟨rfl, rfl, trivial, rfl, rfl, trivial⟩, rfl, k0, rfl, i64_add rfl (by omega), [], hA, sR, ⟨rfl, rfl, rfl, trivial⟩, rfl, sI, rfl, rfl, trivial⟩) fun h => absurd (beq_iff_eq.2 h10) (by rw [h]; decide)⟩
        | true =>
          unfold andT
          rw [if_pos rfl]
          dsimp only at hl1
          have hB := ih b (by rw [hk]; exact .tail _ (.head _)) (deep + 1) ⟨true, wh.Loop, r8of f.types x.outs, wh.Next, wh.Left⟩ seen s1 (by omega) hl1 (by omega)
          have hl2 := (r8list_length u f (deep + 1) ⟨true, wh.Loop, r8of f.types x.outs, wh.Next, wh.Left⟩ seen s1 b).trans hl1
          dsimp only
          generalize r8list u f (deep + 1) ⟨true, wh.Loop, r8of f.types x.outs, wh.Next, wh.Left⟩ seen s1 b = rb at hB hl2 ⊢
          obtain ⟨bb, s2⟩ := rb
          cases bb with
          | false => exact ⟨[], hBare, sR, trivial, rfl, bcase (fun _ => ⟨[3, 4], hO, sR, ⟨rfl, rfl, by decide, rfl, rfl, trivial⟩, rfl, [3, 4], hT, sR, ⟨rfl, rfl, trivial, rfl, rfl, trivial⟩, rfl, k0, rfl, i64_add rfl (by omega), [], hA, sR, ⟨rfl, rfl, rfl, trivial⟩, rfl, k1, rfl, i64_add rfl (by omega), [], hB, sR, ⟨rfl, rfl, rfl, trivial⟩, rfl, sI, rfl, rfl, trivial⟩) fun h => absurd (beq_iff_eq.2 h10) (by rw [h]; decide)⟩
          | true =>
            rw [if_pos rfl]
            dsimp only at hl2 ⊢
            have hE := sc_r8sets u f s2 x.outs (List.replicate x.outs.length 0) hl2
            have hC := sc_r8Closed x
            unfold r8end
            generalize r8Closed x = cl at hC ⊢
            cases ho : ((x.outs.length : Int) == 0) with
            | true => exact ⟨[], hBare, sR, trivial, rfl, bcase (fun _ => ⟨[3, 4], hO, sR, ⟨rfl, rfl, by decide, rfl, rfl, trivial⟩, rfl, [3, 4], hT, sR, ⟨rfl, rfl, trivial, rfl, rfl, trivial⟩, rfl, k0, rfl, i64_add rfl (by omega), [], hA, sR, ⟨rfl, rfl, rfl, trivial⟩, rfl, k1, rfl, i64_add rfl (by omega), [], hB, sR, ⟨rfl, rfl, rfl, trivial⟩, rfl, bcase (fun _ => ⟨rfl, rfl, by simp; omega, [], hE, SubA.same (SubA.same (SubA.cons (sE (by simp [ints, eInt]; exact .inr rfl)) sR)), ⟨rfl, rfl, rfl, trivial⟩, rfl, sI, rfl, rfl, trivial⟩) fun h => absurd (ho.symm.trans (show ((x.outs.length : Int) == 0) = false by rw [hml] at h; exact h)) (by decide)⟩) fun h => absurd (beq_iff_eq.2 h10) (by rw [h]; decide)⟩
            | false =>
              cases cl with
              | true => exact ⟨[], hBare, sR, trivial, rfl, bcase (fun _ => ⟨[3, 4], hO, sR, ⟨rfl, rfl, by decide, rfl, rfl, trivial⟩, rfl, [3, 4], hT, sR, ⟨rfl, rfl, trivial, rfl, rfl, trivial⟩, rfl, k0, rfl, i64_add rfl (by omega), [], hA, sR, ⟨rfl, rfl, rfl, trivial⟩, rfl, k1, rfl, i64_add rfl (by omega), [], hB, sR, ⟨rfl, rfl, rfl, trivial⟩, rfl, bcase (fun h => absurd (ho.symm.trans (show ((x.outs.length : Int) == 0) = true by rw [hml] at h; exact h)) (by decide)) fun _ => ⟨[], hC, sR, trivial, rfl, sI, rfl, rfl, trivial⟩⟩) fun h => absurd (beq_iff_eq.2 h10) (by rw [h]; decide)⟩
              | false => exact ⟨[], hBare, sR, trivial, rfl, bcase (fun _ => ⟨[3, 4], hO, sR, ⟨rfl, rfl, by decide, rfl, rfl, trivial⟩, rfl, [3, 4], hT, sR, ⟨rfl, rfl, trivial, rfl, rfl, trivial⟩, rfl, k0, rfl, i64_add rfl (by omega), [], hA, sR, ⟨rfl, rfl, rfl, trivial⟩, rfl, k1, rfl, i64_add rfl (by omega), [], hB, sR, ⟨rfl, rfl, rfl, trivial⟩, rfl, bcase (fun h => absurd (ho.symm.trans (show ((x.outs.length : Int) == 0) = true by rw [hml] at h; exact h)) (by decide)) fun _ => ⟨[], hC, sR, trivial, rfl, rfl, rfl, by simp; omega, [], hE, SubA.same (SubA.same (SubA.cons (sE (by simp [ints, eInt]; exact .inr rfl)) sR)), ⟨rfl, rfl, rfl, trivial⟩, rfl, sI, rfl, rfl, trivial⟩⟩) fun h => absurd (beq_iff_eq.2 h10) (by rw [h]; decide)⟩
    by_cases h11 : x.kind = 11
    · obtain ⟨a, hk⟩ := r8bare_loop hbr h11
      rw [r8node_loop u f deep wh seen set hbr h11 hk]
      have k0 : (x.kids.map eKid)[0]? = some [nodes a] := by rw [hk]; rfl
      have hkw : kdW x.kids = 1 + lsW a + 0 := by rw [hk]; rfl
      have hP := sc_r8of u f set x.params hbp
      have hO := sc_r8of u f set x.outs hbo
      have hT := sc_r8types u f set x.args seen (r8of f.types x.params)
      generalize r8types f.types seen x.args (r8of f.types x.params) = tb at hT ⊢
      cases tb with
      | false => exact ⟨[], hBare, sR, trivial, rfl, bcase (fun h => absurd (eq_of_beq h) h10) fun _ => bcase (fun _ => ⟨[3, 4], hP, sR, ⟨rfl, rfl, by decide, rfl, rfl, trivial⟩, rfl, [3, 4], hO, sR, ⟨rfl, rfl, by decide, rfl, rfl, trivial⟩, rfl, [3, 4], hP, sR, ⟨rfl, rfl, by decide, rfl, rfl, trivial⟩, rfl, [3, 4], hT, sR, ⟨rfl, rfl, trivial, rfl, rfl, trivial⟩, rfl, sI, rfl, rfl, trivial⟩) fun h => absurd (beq_iff_eq.2 h11) (by rw [h]; decide)⟩
      | true =>
        rw [if_pos rfl]
        have hS := sc_r8sets u f set x.params (List.replicate x.params.length 0) hs
        have hl1 := (r8sets_length f.types set x.params (List.replicate x.params.length 0)).trans hs
        generalize r8sets f.types set x.params (List.replicate x.params.length 0) = rs at hS hl1 ⊢
        obtain ⟨bs, s1⟩ := rs
        cases bs with
        | false => exact ⟨[], hBare, sR, trivial, rfl, bcase (fun h => absurd (eq_of_beq h) h10) fun _ => bcase (fun _ => ⟨[3, 4], hP, sR, ⟨rfl, rfl, by decide, rfl, rfl, trivial⟩, rfl, [3, 4], hO, sR, ⟨rfl, rfl, by decide, rfl, rfl, trivial⟩, rfl, [3, 4], hP, sR, ⟨rfl, rfl, by decide, rfl, rfl, trivial⟩, rfl, [3, 4], hT, sR, ⟨rfl, rfl, trivial, rfl, rfl, trivial⟩, rfl, rfl, rfl, by simp; omega, [], hS, SubA.same (SubA.same (SubA.cons (sE (by simp [ints, eInt]; exact .inr rfl)) sR)), ⟨rfl, rfl, rfl, trivial⟩, rfl, sI, rfl, rfl, trivial⟩) fun h => absurd (beq_iff_eq.2 h11) (by rw [h]; decide)⟩
        | true =>
          unfold andT
          rw [if_pos rfl]
          dsimp only at hl1
          have hA := ih a (by rw [hk]; exact .head _) (deep + 1) ⟨false, true, [], r8of f.types x.params, r8of f.types x.outs⟩ (seen ++ x.params) s1 (by omega) hl1 (by simp; omega)
          have hl2 := (r8list_length u f (deep + 1) ⟨false, true, [], r8of f.types x.params, r8of f.types x.outs⟩ (seen ++ x.params) s1 a).trans hl1
          dsimp only
          generalize r8list u f (deep + 1) ⟨false, true, [], r8of f.types x.params, r8of f.types x.outs⟩ (seen ++ x.params) s1 a = ra at hA hl2 ⊢
          obtain ⟨ba, s2⟩ := ra
          cases ba with
          | false => exact ⟨[], hBare, sR, trivial, rfl, bcase (fun h => absurd (eq_of_beq h) h10) fun _ => bcase (fun _ => ⟨[3, 4], hP, sR, ⟨rfl, rfl, by decide, rfl, rfl, trivial⟩, rfl, [3, 4], hO, sR, ⟨rfl, rfl, by decide, rfl, rfl, trivial⟩, rfl, [3, 4], hP, sR, ⟨rfl, rfl, by decide, rfl, rfl, trivial⟩, rfl, [3, 4], hT, sR, ⟨rfl, rfl, trivial, rfl, rfl, trivial⟩, rfl, rfl, rfl, by simp; omega, [], hS, SubA.same (SubA.same (SubA.cons (sE (by simp [ints, eInt]; exact .inr rfl)) sR)), ⟨rfl, rfl, rfl, trivial⟩, rfl, rfl, flatM (fun _ _ => ⟨rfl, fun y hy => by simp [eInt] at hy; subst hy; rfl⟩), by simp; omega, rfl, flatM (fun _ _ => ⟨rfl, fun y hy => by simp [eInt] at hy; subst hy; rfl⟩), by simp; omega, by simp, k0, rfl, i64_add rfl (by omega), [], hA, SubA.same (SubA.same (SubA.cons (sE (by simp [ints])) (SubA.cons (sP (PSub.agg (And.intro (PSub.refl _) (And.intro (PSub.refl _) (And.intro PSub.nil (And.intro (PSub.refl _) (And.intro (PSub.refl _) trivial))))))) sR))), ⟨rfl, rfl, rfl, trivial⟩, rfl, sI, rfl, rfl, trivial⟩) fun h => absurd (beq_iff_eq.2 h11) (by rw [h]; decide)⟩
          | true =>
            rw [if_pos rfl]
            dsimp only at hl2 ⊢
            have hE := sc_r8sets u f s2 x.outs (List.replicate x.outs.length 0) hl2
            have hC := sc_r8Closed x
            unfold r8end
            generalize r8Closed x = cl at hC ⊢
            cases ho : ((x.outs.length : Int) == 0) with
            | true => exact ⟨[], hBare, sR, trivial, rfl, bcase (fun h => absurd (eq_of_beq h) h10) fun _ => bcase (fun _ => ⟨[3, 4], hP, sR, ⟨rfl, rfl, by decide, rfl, rfl, trivial⟩, rfl, [3, 4], hO, sR, ⟨rfl, rfl, by decide, rfl, rfl, trivial⟩, rfl, [3, 4], hP, sR, ⟨rfl, rfl, by decide, rfl, rfl, trivial⟩, rfl, [3, 4], hT, sR, ⟨rfl, rfl, trivial, rfl, rfl, trivial⟩, rfl, rfl, rfl, by simp; omega, [], hS, SubA.same (SubA.same (SubA.cons (sE (by simp [ints, eInt]; exact .inr rfl)) sR)), ⟨rfl, rfl, rfl, trivial⟩, rfl, rfl, flatM (fun _ _ => ⟨rfl, fun y hy => by simp [eInt] at hy; subst hy; rfl⟩), by simp; omega, rfl, flatM (fun _ _ => ⟨rfl, fun y hy => by simp [eInt] at hy; subst hy; rfl⟩), by simp; omega, by simp, k0, rfl, i64_add rfl (by omega), [], hA, SubA.same (SubA.same (SubA.cons (sE (by simp [ints])) (SubA.cons (sP (PSub.agg (And.intro (PSub.refl _) (And.intro (PSub.refl _) (And.intro PSub.nil (And.intro (PSub.refl _) (And.intro (PSub.refl _) trivial))))))) sR))), ⟨rfl, rfl, rfl, trivial⟩, rfl, bcase (fun _ => ⟨rfl, rfl, by simp; omega, [], hE, SubA.same (SubA.same (SubA.cons (sE (by simp [ints, eInt]; exact .inr rfl)) sR)), ⟨rfl, rfl, rfl, trivial⟩, rfl, sI, rfl, rfl, trivial⟩) fun h => absurd (ho.symm.trans (show ((x.outs.length : Int) == 0) = false by rw [hml] at h; exact h)) (by decide)⟩) fun h => absurd (beq_iff_eq.2 h11) (by rw [h]; decide)⟩
            | false =>
              cases cl with
              | true => exact ⟨[], hBare, sR, trivial, rfl, bcase (fun h => absurd (eq_of_beq h) h10) fun _ => bcase (fun _ => ⟨[3, 4], hP, sR, ⟨rfl, rfl, by decide, rfl, rfl, trivial⟩, rfl, [3, 4], hO, sR, ⟨rfl, rfl, by decide, rfl, rfl, trivial⟩, rfl, [3, 4], hP, sR, ⟨rfl, rfl, by decide, rfl, rfl, trivial⟩, rfl, [3, 4], hT, sR, ⟨rfl, rfl, trivial, rfl, rfl, trivial⟩, rfl, rfl, rfl, by simp; omega, [], hS, SubA.same (SubA.same (SubA.cons (sE (by simp [ints, eInt]; exact .inr rfl)) sR)), ⟨rfl, rfl, rfl, trivial⟩, rfl, rfl, flatM (fun _ _ => ⟨rfl, fun y hy => by simp [eInt] at hy; subst hy; rfl⟩), by simp; omega, rfl, flatM (fun _ _ => ⟨rfl, fun y hy => by simp [eInt] at hy; subst hy; rfl⟩), by simp; omega, by simp, k0, rfl, i64_add rfl (by omega), [], hA, SubA.same (SubA.same (SubA.cons (sE (by simp [ints])) (SubA.cons (sP (PSub.agg (And.intro (PSub.refl _) (And.intro (PSub.refl _) (And.intro PSub.nil (And.intro (PSub.refl _) (And.intro (PSub.refl _) trivial))))))) sR))), ⟨rfl, rfl, rfl, trivial⟩, rfl, bcase (fun h => absurd (ho.symm.trans (show ((x.outs.length : Int) == 0) = true by rw [hml] at h; exact h)) (by decide)) fun _ => ⟨[], hC, sR, trivial, rfl, sI, rfl, rfl, trivial⟩⟩) fun h => absurd (beq_iff_eq.2 h11) (by rw [h]; decide)⟩
              | false => exact ⟨[], hBare, sR, trivial, rfl, bcase (fun h => absurd (eq_of_beq h) h10) fun _ => bcase (fun _ => ⟨[3, 4], hP, sR, ⟨rfl, rfl, by decide, rfl, rfl, trivial⟩, rfl, [3, 4], hO, sR, ⟨rfl, rfl, by decide, rfl, rfl, trivial⟩, rfl, [3, 4], hP, sR, ⟨rfl, rfl, by decide, rfl, rfl, trivial⟩, rfl, [3, 4], hT, sR, ⟨rfl, rfl, trivial, rfl, rfl, trivial⟩, rfl, rfl, rfl, by simp; omega, [], hS, SubA.same (SubA.same (SubA.cons (sE (by simp [ints, eInt]; exact .inr rfl)) sR)), ⟨rfl, rfl, rfl, trivial⟩, rfl, rfl, flatM (fun _ _ => ⟨rfl, fun y hy => by simp [eInt] at hy; subst hy; rfl⟩), by simp; omega, rfl, flatM (fun _ _ => ⟨rfl, fun y hy => by simp [eInt] at hy; subst hy; rfl⟩), by simp; omega, by simp, k0, rfl, i64_add rfl (by omega), [], hA, SubA.same (SubA.same (SubA.cons (sE (by simp [ints])) (SubA.cons (sP (PSub.agg (And.intro (PSub.refl _) (And.intro (PSub.refl _) (And.intro PSub.nil (And.intro (PSub.refl _) (And.intro (PSub.refl _) trivial))))))) sR))), ⟨rfl, rfl, rfl, trivial⟩, rfl, bcase (fun h => absurd (ho.symm.trans (show ((x.outs.length : Int) == 0) = true by rw [hml] at h; exact h)) (by decide)) fun _ => ⟨[], hC, sR, trivial, rfl, rfl, rfl, by simp; omega, [], hE, SubA.same (SubA.same (SubA.cons (sE (by simp [ints, eInt]; exact .inr rfl)) sR)), ⟨rfl, rfl, rfl, trivial⟩, rfl, sI, rfl, rfl, trivial⟩⟩) fun h => absurd (beq_iff_eq.2 h11) (by rw [h]; decide)⟩
    · have e10 : (x.kind == 10) = false := by simpa using h10
      have e11 : (x.kind == 11) = false := by simpa using h11
      have no : ∀ {i : Int}, x.kind ≠ i → (x.kind == i) = true → False := fun h e => h (eq_of_beq e)
      rw [r8node_simple u f deep wh seen set hbr e10 e11]
      exact ⟨[], hBare, sR, trivial, rfl, bcase (fun h => (no h10 h).elim) fun _ => bcase (fun h => (no h11 h).elim) fun _ => ⟨[], sc_r8simple u f set hs hg x seen wh, sR, ⟨rfl, rfl, rfl, trivial⟩, rfl, sI, rfl, rfl, trivial⟩⟩
theorem sc_r8list_aux (N : Nat) : ∀ (u : Un) (f : Fl) (hg : ∀ g ∈ u.flows, 0 ≤ g.params ∧ g.params ≤ g.types.length) (l : List Nd) (deep : Int) (wh : Wh) (all : List Int) (set : List Bool) (hd : 0 ≤ deep ∧ deep ≤ 101) (hs : set.length = f.types.length) (hb : all.length + lsW l ≤ 1073741824), SizeOf.sizeOf l < N → SC Tryz.prog 64 [.ptr 3 0, .pv (nodes l), .pv (ints all), .pv (whv wh), iInt deep] (ckHp u f 4 set) (fun k => k = 3) (iBool (r8list u f deep wh all set l).1) (ckHp u f 4 (r8list u f deep wh all set l).2) := by
  induction N with
  | zero => intro u f hg l deep wh all set hd hs hb hN; exact absurd hN (Nat.not_lt_zero _)
  | succ N ih =>
    intro u f hg l deep wh all set hd hs hb hN
    refine SC.of Tryz.func64 rfl (lb rfl) fun F ρ w => ?_
    refine Tr.lenOf (t := 1) rfl (fun hl => ?_)
    simp only [List.length_map] at hl
    refine tQ <| tG <| cE rfl (ok_box rfl rfl) <| sm 1 rfl <| nL <| tQ <| tG <| sm 1 rfl <| nL <| tQ <| Tr.grow (t := 11) (k := 111) ⟨3, 1⟩ rfl rfl rfl rfl rfl <| tG ?_
    refine sm 2 rfl ?_
    refine cE rfl (ok_append rfl rfl rfl rfl (by rfl) (by simp) Tryz.underlying35 tB3 (by decide) (hw_int) (hone_int) (by simp [maxLen, chunks]; omega) (by simp [chunks]; omega)) ?_
    refine sm 1 rfl <| nL <| tQ <| tQ <| tG <| sm 1 rfl <| nL <| Tr.block <| Tr.sub (Sub.of (fr' := [(12, iInt 0), (11, .sl 111 all.length), (8, .pv (.ept [vBool wh.If, vBool wh.Loop, ints wh.Yield, ints wh.Next, ints wh.Left] 0)), (0, .ptr 3 0), (1, .pv (nodes l)), (4, iInt deep)]) ⟨rfl, congrArg (fun z => some (IV.sl 111 z)) (by simp), rfl, rfl, rfl, rfl, trivial⟩) <| Tr.heap (σ' := look ((111, some (.row ⟨3, 1⟩ (all.map eInt))) :: up (ckHp u f 4 set))) (fun _ => congrFun look_shadow _) ?_
    refine Tr.loop (fun fr σ m => ∃ (k : Nat) (al : List Int) (st : List Bool), (k ≤ l.length) ∧ (r8go u f deep wh all set l = r8go u f deep wh al st (l.drop k)) ∧ (st.length = f.types.length) ∧ (al.length + lsW (l.drop k) ≤ 1073741824) ∧ fr = [(12, iInt k), (11, .sl 111 al.length), (8, .pv (.ept [vBool wh.If, vBool wh.Loop, ints wh.Yield, ints wh.Next, ints wh.Left] 0)), (0, .ptr 3 0), (1, .pv (nodes l)), (4, iInt deep)] ∧ σ = look ((111, some (.row ⟨3, 1⟩ (al.map eInt))) :: up (ckHp u f 4 st)) ∧ m = l.length - k) (n := l.length - 0) ?_ ?_
    ·exact ⟨0, all, set, Nat.zero_le _, rfl, hs, hb, rfl, rfl, rfl⟩
    rintro fr σ m ⟨k, al, st, hI0, hI1, hI2, hI3, rfl, rfl, rfl⟩
    refine tQ <| tQ <| tG <| sm 2 rfl <| cV rfl (oSm Tryz.underlying39 rfl) <| sm 1 rfl <| nL ?_
    refine tC rfl (fun hc19 => ?_) fun hc19 => ?_
    ·have hlt : k < l.length := by simpa using hc19
     have hd2 := List.drop_eq_getElem_cons hlt
     have hm := List.getElem_mem hlt
     have hi := nodes_get (List.getElem?_eq_getElem hlt)
     generalize l[k] = x at hd2 hm hi
     have hxo : x.outs.length ≤ ndW x := by have := ndW_eq x; omega
     have hbn : al.length + ndW x ≤ 1073741824 := by rw [hd2] at hI3; simp only [lsW] at hI3; omega
     refine Tr.skip <| tQ <| Tr.block <| tQ <| tQ <| Tr.drawn mixed (fun k => k ∈ ([3] : List Nat)) <| wR 16 [0, 1, 2, 3, 4, 5, 6, 7, 8, 9, 10] (by kernel_rfl) (fun _ _ _ h => h) <| smR 3 rfl ?_
     refine WR.split (t := 24) rfl (fun hb24 => ?_) (fun hb24 => ?_)
     ·refine smR 8 rfl <| nR <| wN 11 (by kernel_rfl) (fun _ _ _ h => h) rfl rfl rfl <| wR 3 [12, 13, 14, 15, 16, 17, 18, 20, 21, 22, 23, 24] (by kernel_rfl) (fun _ _ _ h => h) <| smR 12 rfl <| nR <| wN 19 (by kernel_rfl) (fun _ _ _ h => h) rfl rfl rfl <| wR 0 [25, 26] (by kernel_rfl) (fun _ _ _ h => h) <| smR 2 rfl <| nR <| WA.done (by kernel_rfl) <| Tr.condT rfl ?_
      refine tQ <| tG <| sm 1 rfl <| nL <| Tr.ret ?_
      (have h2 : r8list u f deep wh all set l = (false, st) := by
         rw [r8list_ne hlt, hI1, hd2]
         unfold r8go
         rw [if_pos (by simpa using hb24)]
       rw [h2]
       exact ret_ok rfl rfl (po2 rfl rfl))
     refine smR 3 rfl <| ryV rfl rfl rfl (ok_index_seq rfl rfl rfl Tryz.underlying39 hi tS38 rfl (by rfl)) <| ryV rfl rfl rfl (ok_load_ept_agg rfl rfl Tryz.underlying38 rfl tS38 (lb rfl)) <| smR 1 rfl <| ryV rfl rfl rfl (ok_load_ept_agg rfl rfl Tryz.underlying112 rfl tS112 (lb rfl)) <| smR 1 rfl <| nR <| wO 11 (by kernel_rfl) <| wY rfl rfl rfl (fun k (h : _) => by (simp at h ⊢; omega)) (new_app rfl) (fun _ _ => ok_lend (fun k => k = 111) (sc_r8node u f hg x deep ⟨hd.1, by simp at hb24; omega⟩ wh al st hI2 hbn (fun q hq deep w all set hd hs hb => ih u f hg q deep w all set hd hs hb (Nat.lt_of_lt_of_le (kid_lt hm rfl hq) (Nat.le_of_lt_succ hN)))) ent98 rfl rfl (Subs.refl _ _) (And.intro LendOf.same (And.intro LendOf.same (And.intro (LendOf.row rfl rfl (by (simp; done)) (by rfl)) (And.intro LendOf.same (And.intro LendOf.same (trivial)))))) (fun k h => by subst h; rfl) (po2 rfl rfl) rfl (fun k (h : _) => by (simp only [List.mem_cons, List.not_mem_nil, or_false] at h; rcases h with rfl <;> first | exact .inl rfl | exact .inr rfl | exact .inr (by decide))) ⟨_, rfl⟩ (ck_lend (r8node_length ..))) <| wR 3 [12, 13, 14, 15, 16, 17, 18, 20, 21, 22, 23, 24] (by kernel_rfl) (fun _ _ _ h => h) <| smR 3 rfl ?_
     refine WR.split (t := 36) rfl (fun hb36 => ?_) (fun hb36 => ?_)
     ·refine smR 9 rfl <| nR <| wN 19 (by kernel_rfl) (fun _ _ _ h => h) rfl rfl rfl <| wR 0 [25, 26] (by kernel_rfl) (fun _ _ _ h => h) <| smR 2 rfl <| nR <| WA.done (by kernel_rfl) <| Tr.condT rfl <| tQ <| tG <| sm 1 rfl <| nL ?_
      refine Tr.ret ?_
      (have h2 : r8list u f deep wh all set l = (false, (r8node u f deep wh al st x).2) := by
         rw [r8list_ne hlt, hI1, hd2]
         unfold r8go
         rw [if_neg (by simpa using hb24)]
         have hn1 : (r8node u f deep wh al st x).1 = false := by simpa using hb36
         simp [andT, hn1]
       rw [h2]
       exact ret_ok rfl rfl (po2 rfl rfl))
     refine smR 2 rfl <| ryV rfl rfl rfl (ok_index_seq rfl rfl rfl Tryz.underlying39 hi tS38 rfl (by rfl)) <| ryV rfl rfl rfl (ok_load_ept_agg rfl rfl Tryz.underlying38 rfl tS38 (lb rfl)) <| smR 2 rfl <| ryV rfl rfl rfl (oSm Tryz.underlying39 rfl) <| ryV rfl rfl rfl (oB rfl rfl (i64_sub rfl (by omega))) <| smR 1 rfl <| nR <| wO 19 (by kernel_rfl) <| wY rfl rfl rfl (fun k (h : _) => by (simp at h ⊢; omega)) nw (fun _ _ => ocq (sc_r8Closed _) ent71 rfl rfl) <| wR 0 [25, 26] (by kernel_rfl) (fun _ _ _ h => h) <| ryV rfl rfl rfl (ok_neq_bool rfl rfl rfl Tryz.underlying4) ?_
     refine smR 1 rfl <| nR <| WA.done (by kernel_rfl) ?_
     refine tC rfl (fun hc48 => ?_) fun hc48 => ?_
     ·refine tQ <| tG <| sm 1 rfl <| nL <| Tr.ret ?_
      (have h2 : r8list u f deep wh all set l = (false, (r8node u f deep wh al st x).2) := by
         rw [r8list_ne hlt, hI1, hd2]
         unfold r8go
         rw [if_neg (by simpa using hb24)]
         have hn1 : (r8node u f deep wh al st x).1 = true := by simpa using hb36
         have hcl : (r8Closed x != (l.drop (k + 1)).isEmpty) = true := by rw [drop_isEmpty hlt]; simpa using hc48
         simp [andT, hn1, hcl]
       rw [h2]
       exact ret_ok rfl rfl (po2 rfl rfl))
     refine Tr.skip <| tG <| sm 3 rfl <| cV rfl (ok_index_seq rfl rfl rfl Tryz.underlying39 hi tS38 rfl (by rfl)) <| sm 2 rfl ?_
     refine cE rfl (ok_append rfl rfl rfl rfl (by (simp; done)) (by simp) Tryz.underlying35 tB3 (by decide) (hw_int) (hone_int) (by simp [maxLen, chunks]; omega) (by simp [chunks]; omega)) ?_
     refine sm 1 rfl <| nL <| tG <| sm 1 rfl <| cV rfl (oB rfl rfl (i64_add rfl (by omega))) <| sm 1 rfl <| nL ?_
     refine ⟨_, _, ?_, Sub.of (fr' := [(12, iInt (k + 1)), (11, .sl 111 (al ++ x.outs).length), (8, .pv (.ept [vBool wh.If, vBool wh.Loop, ints wh.Yield, ints wh.Next, ints wh.Left] 0)), (0, .ptr 3 0), (1, .pv (nodes l)), (4, iInt deep)]) ⟨rfl, congrArg (fun z => some (IV.sl 111 z)) (by simp), rfl, rfl, rfl, rfl, trivial⟩, (k + 1), (al ++ x.outs), (r8node u f deep wh al st x).2, ?_, ?_, ?_, ?_, rfl, ck_row', rfl⟩
     ·omega
     ·omega
     ·rw [hI1, hd2]
      have hn1 : (r8node u f deep wh al st x).1 = true := by simpa using hb36
      have hcl : (r8Closed x != (l.drop (k + 1)).isEmpty) = false := by rw [drop_isEmpty hlt]; simpa using hc48
      have hdp : ¬ deep > 100 := by simpa using hb24
      conv => lhs; unfold r8go
      simp only [if_neg hdp, andT, hn1, hcl, if_true]
      rfl
     ·exact (r8node_length ..).trans hI2
     rw [hd2] at hI3; have hWx := ndW_eq x; simp only [lsW] at hI3; simp only [List.length_append]; omega
    refine Tr.exit <| tQ <| tG <| sm 1 rfl <| cV rfl (oSm Tryz.underlying39 rfl) <| sm 2 rfl <| nL <| Tr.ret ?_
    have hge : l.length ≤ k := by simpa using hc19
    have hgo : r8go u f deep wh all set l = (true, st) := by rw [hI1, List.drop_eq_nil_of_le hge]; simp [r8go]
    have h2 : (r8list u f deep wh all set l) = (decide ((l.length : Int) > 0), st) := by
      unfold r8list ne
      rw [hgo]
      cases l <;> simp <;> omega
    rw [h2]
    exact ret_ok rfl rfl (po2 rfl rfl)
theorem sc_r8list (u : Un) (f : Fl) (hg : ∀ g ∈ u.flows, 0 ≤ g.params ∧ g.params ≤ g.types.length) (l : List Nd) (deep : Int) (wh : Wh) (all : List Int) (set : List Bool) (hd : 0 ≤ deep ∧ deep ≤ 101) (hs : set.length = f.types.length) (hb : all.length + lsW l ≤ 1073741824) : SC Tryz.prog 64 [.ptr 3 0, .pv (nodes l), .pv (ints all), .pv (whv wh), iInt deep] (ckHp u f 4 set) (fun k => k = 3) (iBool (r8list u f deep wh all set l).1) (ckHp u f 4 (r8list u f deep wh all set l).2) := sc_r8list_aux _ u f hg l deep wh all set hd hs hb (Nat.lt_succ_self _)
set_option maxRecDepth 20000
set_option maxHeartbeats 2000000
theorem sc_r2letter (n : Int) : SC Tryz.prog 95 [.pv (vU8 n)] [] (fun _ => False) (iBool (isLetter n)) [] := by
  refine SC.anyR (SC.vc tb {} [] Tryz.func95 rfl rfl ?_)
  unfold isLetter
  refine bcase (fun h1 => bcase (fun h2 => ⟨sE (by rw [h1, h2]; rfl), trivial⟩) fun h2 => ?_) fun h1 => ?_
  · refine bcase (fun h3 => bcase (fun h4 => ⟨sE (by rw [h1, h2, h3, h4]; rfl), trivial⟩) fun h4 => ⟨sE (by rw [h1, h2, h3, h4]; rfl), trivial⟩) fun h3 => ⟨sE (by rw [h1, h2, h3]; rfl), trivial⟩
  · refine bcase (fun h3 => bcase (fun h4 => ⟨sE (by rw [h1, h3, h4]; rfl), trivial⟩) fun h4 => ⟨sE (by rw [h1, h3, h4]; rfl), trivial⟩) fun h3 => ⟨sE (by rw [h1, h3]; rfl), trivial⟩
theorem sc_r2digit (n : Int) : SC Tryz.prog 97 [.pv (vU8 n)] [] (fun _ => False) (iBool (isDigit n)) [] := by
  refine SC.anyR (SC.vc tb {} [] Tryz.func97 rfl rfl ?_)
  unfold isDigit
  exact bcase (fun h1 => ⟨sE (by rw [h1]; rfl), trivial⟩) fun h1 => ⟨sE (by rw [h1]; rfl), trivial⟩
theorem sc_r2Word (s : ByteArray) : SC Tryz.prog 96 [iStr s] [] (fun _ => False) (iBool (isWord s)) [] := by
  refine SC.anyR (SC.vc tb {} [] Tryz.func96 rfl rfl ?_)
  have N : ∀ {b : Bool} {P : Prop}, b = true → b = false → P := fun h g => by rw [h] at g; cases g
  have T : ∀ {b : Bool}, b = true → SubI (iBool true) (iBool b) := fun h => sE (by rw [h])
  exact bcase (fun h => bcase (fun _ => ⟨T (by unfold isWord; rw [h]; simp only [Bool.or_true, Bool.true_or]), trivial⟩) fun g => N h g) fun h1 => bcase (fun h => bcase (fun _ => ⟨T (by unfold isWord; rw [h]; simp only [Bool.or_true, Bool.true_or]), trivial⟩) fun g => N h g) fun h2 => bcase (fun h => bcase (fun _ => ⟨T (by unfold isWord; rw [h]; simp only [Bool.or_true, Bool.true_or]), trivial⟩) fun g => N h g) fun h3 => bcase (fun h => bcase (fun _ => ⟨T (by unfold isWord; rw [h]; simp only [Bool.or_true, Bool.true_or]), trivial⟩) fun g => N h g) fun h4 => bcase (fun h => bcase (fun _ => ⟨T (by unfold isWord; rw [h]; simp only [Bool.or_true, Bool.true_or]), trivial⟩) fun g => N h g) fun h5 => bcase (fun h => bcase (fun _ => ⟨T (by unfold isWord; rw [h]; simp only [Bool.or_true, Bool.true_or]), trivial⟩) fun g => N h g) fun h6 => bcase (fun h => bcase (fun _ => ⟨T (by unfold isWord; rw [h]; simp only [Bool.or_true, Bool.true_or]), trivial⟩) fun g => N h g) fun h7 => bcase (fun h => bcase (fun _ => ⟨T (by unfold isWord; rw [h]; simp only [Bool.or_true, Bool.true_or]), trivial⟩) fun g => N h g) fun h8 => bcase (fun h => bcase (fun _ => ⟨T (by unfold isWord; rw [h]; simp only [Bool.or_true, Bool.true_or]), trivial⟩) fun g => N h g) fun h9 => bcase (fun h => bcase (fun _ => ⟨T (by unfold isWord; rw [h]; simp only [Bool.or_true, Bool.true_or]), trivial⟩) fun g => N h g) fun h10 => bcase (fun h => bcase (fun _ => ⟨T (by unfold isWord; rw [h]; simp only [Bool.or_true, Bool.true_or]), trivial⟩) fun g => N h g) fun h11 => bcase (fun h => bcase (fun _ => ⟨T (by unfold isWord; rw [h]; simp only [Bool.or_true, Bool.true_or]), trivial⟩) fun g => N h g) fun h12 => bcase (fun h => bcase (fun _ => ⟨T (by unfold isWord; rw [h]; simp only [Bool.or_true, Bool.true_or]), trivial⟩) fun g => N h g) fun h13 => bcase (fun h => bcase (fun _ => ⟨T (by unfold isWord; rw [h]; simp only [Bool.or_true, Bool.true_or]), trivial⟩) fun g => N h g) fun h14 => bcase (fun h => bcase (fun _ => ⟨T (by unfold isWord; rw [h]; simp only [Bool.or_true, Bool.true_or]), trivial⟩) fun g => N h g) fun h15 => bcase (fun h => bcase (fun _ => ⟨T (by unfold isWord; rw [h]; simp only [Bool.or_true, Bool.true_or]), trivial⟩) fun g => N h g) fun h16 => bcase (fun h => bcase (fun _ => ⟨T (by unfold isWord; rw [h]; simp only [Bool.or_true, Bool.true_or]), trivial⟩) fun g => N h g) fun h17 => bcase (fun h => ⟨T (by unfold isWord; rw [h]; simp only [Bool.or_true, Bool.true_or]), trivial⟩) fun h18 => ⟨sE (by unfold isWord; rw [h1, h2, h3, h4, h5, h6, h7, h8, h9, h10, h11, h12, h13, h14, h15, h16, h17, h18]; rfl), trivial⟩
theorem sc_r2Name (s : ByteArray) : SC Tryz.prog 61 [iStr s] [] (fun _ => False) (iBool (isName s)) [] := by
  refine SC.of Tryz.func61 rfl (lb rfl) fun F ρ w => ?_
  have hsz : s.size ≤ 9223372036854775807 ∨ 9223372036854775807 < s.size := by omega
  refine tQ <| tG <| sm 1 rfl <| nL <| tQ <| tQ <| tG <| sm 1 rfl <| cV rfl (ok_bin_str rfl rfl rfl rfl) <| sm 1 rfl ?_
  refine wS 6 rfl (fun hb6 => ?_) fun hb6 => ?_
  ·refine sm 14 rfl <| nL <| Tr.condT rfl <| tQ <| tG <| sm 1 rfl <| nL <| Tr.ret <| ret_ok rfl ?_ no_post
   refine congrArg (fun b => iBool b) ?_
   simp_all [isName]
  have hne : s.toList ≠ [] := by simpa using hb6
  obtain ⟨b0, r0, hs0⟩ := List.exists_cons_of_ne_nil hne
  have hi0 : s[0]? = some b0 := by rw [ba_get (i := 0) (by rw [hs0]; simp)]; simp [hs0]
  refine sm 1 rfl <| yV rfl rfl (ok_len_str rfl rfl Tryz.underlying9) <| sm 3 rfl ?_
  refine wS 11 rfl (fun hb11 => ?_) fun hb11 => ?_
  ·refine sm 9 rfl <| nL <| Tr.condT rfl <| tQ <| tG <| sm 1 rfl <| nL <| Tr.ret <| ret_ok rfl ?_ no_post
   refine congrArg (fun b => iBool b) ?_
   (have h20 : ¬ ((s.size : Int) ≤ 20) := by simp at hb11; omega
    simp [isName, h20]; done)
  refine sm 1 rfl <| yV rfl rfl (ok_index_str rfl rfl rfl Tryz.underlying9 (by assumption) (by rfl)) <| WL.yes rfl rfl rfl rfl rfl rfl (ok_callq (sc_r2letter _) ent95 rfl rfl (Subs.refl _ _) rfl) <| sm 3 rfl ?_
  refine wS 17 rfl (fun hb17 => ?_) fun hb17 => ?_
  ·refine sm 3 rfl <| nL <| Tr.condT rfl <| tQ <| tG <| sm 1 rfl <| nL <| Tr.ret <| ret_ok rfl ?_ no_post
   refine congrArg (fun b => iBool b) ?_
   simp_all [isName]
  refine sm 1 rfl <| WL.yes rfl rfl rfl rfl rfl rfl (ok_callq (sc_r2Word _) ent96 rfl rfl (Subs.refl _ _) rfl) <| sm 1 rfl <| nL ?_
  refine tC rfl (fun hc20 => ?_) fun hc20 => ?_
  ·refine tQ <| tG <| sm 1 rfl <| nL <| Tr.ret <| ret_ok rfl ?_ no_post
   refine congrArg (fun b => iBool b) ?_
   simp_all [isName]
  refine Tr.skip <| tQ <| tQ <| tG <| sm 1 rfl <| nL <| Tr.block <| Tr.sub (Sub.of (fr' := [(3, iInt 0), (0, iStr s)]) ⟨rfl, rfl, trivial⟩) ?_
  refine Tr.loop (fun fr σ m => ∃ (k : Nat), (k ≤ s.toList.length) ∧ (s.toList.all isLD = (s.toList.drop k).all isLD) ∧ fr = [(3, iInt k), (0, iStr s)] ∧ σ = look [] ∧ m = s.toList.length - k) (n := s.toList.length - 0) ?_ ?_
  ·exact ⟨0, Nat.zero_le _, rfl, rfl, rfl, rfl⟩
  rintro fr σ m ⟨k, hI0, hI1, rfl, rfl, rfl⟩
  refine tQ <| tQ <| tG <| sm 2 rfl <| cV rfl (ok_len_str rfl rfl Tryz.underlying9) <| sm 1 rfl <| nL ?_
  refine tC rfl (fun hc24 => ?_) fun hc24 => ?_
  ·have hlt : k < s.toList.length := by rw [ba_len]; simpa using hc24
   have hd := List.drop_eq_getElem_cons hlt
   have hi := ba_get hlt
   generalize s.toList[k] = b at hd hi
   have hl20 : s.toList.length ≤ 20 := by rw [ba_len]; simp at hb11; omega
   refine Tr.skip <| tQ <| Tr.block <| tQ <| tG <| sm 2 rfl <| cV rfl (ok_index_str rfl rfl rfl Tryz.underlying9 (by assumption) (by rfl)) <| cE rfl (ocq (sc_r2letter _) ent95 rfl rfl) <| sm 2 rfl ?_
   refine wS 32 rfl (fun hb32 => ?_) fun hb32 => ?_
   ·refine sm 2 rfl <| yV rfl rfl (ok_index_str rfl rfl rfl Tryz.underlying9 (by assumption) (by rfl)) <| WL.yes rfl rfl rfl rfl rfl rfl (ok_callq (sc_r2digit _) ent97 rfl rfl (Subs.refl _ _) rfl) <| sm 2 rfl <| nL ?_
    refine tC rfl (fun hc38 => ?_) fun hc38 => ?_
    ·refine tQ <| tG <| sm 1 rfl <| nL <| Tr.ret <| ret_ok rfl ?_ no_post
     have hb : isLD b = false := by simp_all [isLD]
     have hall : s.toList.all isLD = false := by rw [hI1, hd]; simp [hb]
     simp [isName, hall]
    refine Tr.skip <| tG <| sm 1 rfl <| cV rfl (oB rfl rfl (i64_add rfl (by omega))) <| sm 1 rfl <| nL ?_
    refine ⟨_, _, ?_, Sub.of (fr' := [(3, iInt (k + 1)), (0, iStr s)]) ⟨rfl, rfl, trivial⟩, (k + 1), ?_, ?_, rfl, rfl, rfl⟩
    ·omega
    ·omega
    have hb : isLD b = true := by simp_all [isLD]
    rw [hI1, hd]; simp [hb]
   refine sm 6 rfl <| nL <| Tr.condF rfl <| Tr.skip <| tG <| sm 1 rfl <| cV rfl (oB rfl rfl (i64_add rfl (by omega))) <| sm 1 rfl <| nL ?_
   refine ⟨_, _, ?_, Sub.of (fr' := [(3, iInt (k + 1)), (0, iStr s)]) ⟨rfl, rfl, trivial⟩, (k + 1), ?_, ?_, rfl, rfl, rfl⟩
   ·omega
   ·omega
   have hb : isLD b = true := by simp_all [isLD]
   rw [hI1, hd]; simp [hb]
  refine Tr.exit <| tQ <| tG <| sm 1 rfl <| nL <| Tr.ret <| ret_ok rfl ?_ no_post
  have hge : s.toList.length ≤ k := by rw [ba_len]; simpa using hc24
  have hall : s.toList.all isLD = true := by rw [hI1, List.drop_eq_nil_of_le hge]; rfl
  refine congrArg (fun b => iBool b) ?_
  simp_all [isName]
theorem sc_r8nodes_aux (N : Nat) : ∀ (l : List Nd) (hb : r8nodes l ≤ 4611686018427387904), SizeOf.sizeOf l < N → SC Tryz.prog 13 [.pv (nodes l)] [] (fun _ => False) (iInt (r8nodes l)) [] := by
  induction N with
  | zero => intro l hb hN; exact absurd hN (Nat.not_lt_zero _)
  | succ N ih =>
    intro l hb hN
    refine SC.of Tryz.func13 rfl (lb rfl) fun F ρ w => ?_
    refine Tr.lenOf (t := 0) rfl (fun hl => ?_)
    simp only [List.length_map] at hl
    refine tQ <| tG <| sm 1 rfl <| nL <| tQ <| tG <| sm 1 rfl <| cV rfl (oSm Tryz.underlying39 rfl) <| sm 1 rfl <| nL <| tQ <| tQ ?_
    refine tG <| sm 1 rfl <| nL <| Tr.block <| Tr.sub (Sub.of (fr' := [(4, iInt 0), (3, iInt l.length), (0, .pv (nodes l))]) ⟨rfl, rfl, rfl, trivial⟩) ?_
    refine Tr.loop (fun fr σ m => ∃ (k : Nat) (n : Nat), (k ≤ l.length) ∧ (n + wtL (l.drop k) = r8nodes l) ∧ fr = [(4, iInt k), (3, iInt n), (0, .pv (nodes l))] ∧ σ = look [] ∧ m = l.length - k) (n := l.length - 0) ?_ ?_
    ·exact ⟨0, l.length, Nat.zero_le _, rfl, rfl, rfl, rfl⟩
    rintro fr σ m ⟨k, n, hI0, hI1, rfl, rfl, rfl⟩
    refine tQ <| tQ <| tG <| sm 2 rfl <| cV rfl (oSm Tryz.underlying39 rfl) <| sm 1 rfl <| nL ?_
    refine tC rfl (fun hc11 => ?_) fun hc11 => ?_
    ·have hlt : k < l.length := by simpa using hc11
     have hd := List.drop_eq_getElem_cons hlt
     have hm := List.getElem_mem hlt
     have hi := nodes_get (List.getElem?_eq_getElem hlt)
     generalize l[k] = x at hd hm hi
     have hstep : wtL (x :: l.drop (k + 1)) = wtN x + wtL (l.drop (k + 1)) := rfl
     have hx := wtN_eq x
     rw [hd, hstep, hx] at hI1
     refine Tr.skip <| tQ <| Tr.block <| tQ <| Tr.still mixed (by kernel_rfl) rfl <| smS 3 rfl <| sV rfl (ok_index_seq rfl rfl rfl Tryz.underlying39 (by assumption) tS38 rfl (by rfl)) <| smS 2 rfl <| sV rfl (oSm Tryz.underlying35 rfl) <| sV rfl (oB rfl rfl (i64_add rfl (by omega))) <| smS 2 rfl <| sV rfl (ok_index_seq rfl rfl rfl Tryz.underlying39 (by assumption) tS38 rfl (by rfl)) ?_
     refine smS 2 rfl <| sV rfl (oSm Tryz.underlying35 rfl) <| sV rfl (oB rfl rfl (i64_add rfl (by omega))) <| smS 2 rfl <| sV rfl (ok_index_seq rfl rfl rfl Tryz.underlying39 (by assumption) tS38 rfl (by rfl)) <| smS 2 rfl <| sV rfl (oSm Tryz.underlying35 rfl) <| sV rfl (oB rfl rfl (i64_add rfl (by omega))) <| smS 2 rfl <| sV rfl (ok_index_seq rfl rfl rfl Tryz.underlying39 (by assumption) tS38 rfl (by rfl)) <| smS 2 rfl <| sV rfl (ok_len_str rfl rfl Tryz.underlying9) ?_
     refine sV rfl (oB rfl rfl (i64_add rfl (by omega))) <| smS 1 rfl <| WS.nil <| tQ <| tG <| sm 1 rfl <| nL <| Tr.block ?_
     have hstart : n + x.args.length + x.outs.length + x.params.length + x.name.size + wtK (x.kids.drop 0) + wtL (l.drop (k + 1)) = r8nodes l := by rw [List.drop_zero]; omega
     refine Tr.sub (Sub.of (fr' := [(5, iInt 0), (4, iInt k), (3, iInt (n + x.args.length + x.outs.length + x.params.length + x.name.size)), (0, .pv (nodes l))]) ⟨rfl, rfl, congrArg (fun z => some (iInt z)) (by rfl), rfl, trivial⟩) ?_
     refine Tr.loop (fun fr σ m => ∃ (i : Nat) (acc : Nat), (i ≤ x.kids.length) ∧ (acc + wtK (x.kids.drop i) + wtL (l.drop (k + 1)) = r8nodes l) ∧ fr = [(5, iInt i), (4, iInt k), (3, iInt acc), (0, .pv (nodes l))] ∧ σ = look [] ∧ m = x.kids.length - i) (n := x.kids.length - 0) ?_ ?_
     ·exact ⟨0, (n + x.args.length + x.outs.length + x.params.length + x.name.size), Nat.zero_le _, hstart, rfl, rfl, rfl⟩
     rintro fr σ m ⟨i, acc, hJ0, hJ1, rfl, rfl, rfl⟩
     refine tQ <| tQ <| tG <| sm 3 rfl <| cV rfl (ok_index_seq rfl rfl rfl Tryz.underlying39 (by assumption) tS38 rfl (by rfl)) <| sm 2 rfl ?_
     refine WL.lenOf (t := 48) rfl (fun hl2 => ?_)
     simp only [List.length_map] at hl2
     refine cV rfl (oSm Tryz.underlying36 rfl) <| sm 1 rfl <| nL ?_
     refine tC rfl (fun hc50 => ?_) fun hc50 => ?_
     ·have hlt2 : i < x.kids.length := by simpa using hc50
      have hd2 := List.drop_eq_getElem_cons hlt2
      have hm2 := List.getElem_mem hlt2
      have hi2 := map_get (f := eKid) (List.getElem?_eq_getElem hlt2)
      generalize x.kids[i] = q at hd2 hm2 hi2
      have hdec : SizeOf.sizeOf q < N := Nat.lt_of_lt_of_le (kid_lt hm rfl hm2) (Nat.le_of_lt_succ hN)
      have hJ1' := hJ1
      rw [hd2, show wtK (q :: x.kids.drop (i + 1)) = 1 + (q.length + wtL q) + wtK (x.kids.drop (i + 1)) from rfl] at hJ1'
      have hqq : r8nodes q = q.length + wtL q := rfl
      have hbq : r8nodes q ≤ 4611686018427387904 := by unfold r8nodes at *; omega
      refine Tr.skip <| tQ <| Tr.block <| tG <| sm 1 rfl <| cV rfl (oB rfl rfl (i64_add rfl (by omega))) <| sm 2 rfl <| cV rfl (ok_index_seq rfl rfl rfl Tryz.underlying39 (by assumption) tS38 rfl (by rfl)) <| sm 3 rfl <| cV rfl (ok_index_seq rfl rfl rfl Tryz.underlying36 (by assumption) tS39 rfl (by rfl)) <| sm 1 rfl <| cE rfl (ocq (ih q hbq hdec) ent13 rfl rfl) ?_
      refine cV rfl (oB rfl rfl (i64_add rfl (by omega))) <| sm 1 rfl <| nL <| tG <| sm 1 rfl <| cV rfl (oB rfl rfl (i64_add rfl (by omega))) <| sm 1 rfl <| nL ?_
      refine ⟨_, _, ?_, Sub.of (fr' := [(5, iInt (i + 1)), (4, iInt k), (3, iInt (acc + 1 + r8nodes q)), (0, .pv (nodes l))]) ⟨rfl, rfl, congrArg (fun z => some (iInt z)) (by rfl), rfl, trivial⟩, (i + 1), (acc + 1 + r8nodes q), ?_, ?_, rfl, rfl, rfl⟩
      ·omega
      ·omega
      have hq : wtK (q :: x.kids.drop (i + 1)) = 1 + (q.length + wtL q) + wtK (x.kids.drop (i + 1)) := rfl
      rw [hd2, hq] at hJ1
      unfold r8nodes at *
      omega
     refine Tr.exit <| tG <| sm 1 rfl <| cV rfl (oB rfl rfl (i64_add rfl (by omega))) <| sm 1 rfl <| nL ?_
     refine ⟨_, _, ?_, Sub.of (fr' := [(4, iInt (k + 1)), (3, iInt acc), (0, .pv (nodes l))]) ⟨rfl, rfl, rfl, trivial⟩, (k + 1), acc, ?_, ?_, rfl, rfl, rfl⟩
     ·omega
     ·omega
     have hz : wtK (x.kids.drop i) = 0 := by rw [List.drop_eq_nil_of_le (by simpa using hc50)]; rfl
     omega
    refine Tr.exit <| tQ <| tG <| sm 2 rfl <| nL <| Tr.ret <| ret_ok rfl ?_ no_post
    have hge : l.length ≤ k := by simpa using hc11
    rw [List.drop_eq_nil_of_le hge] at hI1
    simp only [wtL, Nat.add_zero] at hI1
    rw [← hI1]
theorem sc_r8nodes (l : List Nd) (hb : r8nodes l ≤ 4611686018427387904) : SC Tryz.prog 13 [.pv (nodes l)] [] (fun _ => False) (iInt (r8nodes l)) [] := sc_r8nodes_aux _ l hb (Nat.lt_succ_self _)
theorem sc_r8Weight (u : Un) (hb : r8Weight u ≤ 4611686018427387904) : SC Tryz.prog 7 [.pv u.enc] [] (fun _ => False) (iInt (r8Weight u)) [] := by
  refine SC.of Tryz.func7 rfl (lb rfl) fun F ρ w => ?_
  have hW : r8Weight u = u.arrays.length + u.flows.length + wtA u.arrays + wtF u.flows := rfl
  refine tQ <| tG <| cE rfl (ok_box rfl rfl) <| sm 1 rfl <| nL <| tQ <| tG <| sm 2 rfl ?_
  refine WL.lenOf (t := 7) rfl (fun hl1 => ?_)
  simp only [List.length_map] at hl1
  refine cV rfl (oSm Tryz.underlying22 rfl) <| sm 2 rfl ?_
  refine WL.lenOf (t := 10) rfl (fun hl2 => ?_)
  simp only [List.length_map] at hl2
  refine cV rfl (oSm Tryz.underlying23 rfl) <| cV rfl (oB rfl rfl (i64_add rfl (by omega))) <| sm 1 rfl <| nL <| tQ <| tQ <| tG <| sm 1 rfl <| nL <| Tr.block <| Tr.sub (Sub.of (fr' := [(4, iInt 0), (3, iInt (u.arrays.length + u.flows.length)), (1, .pv (.ept [arrs u.arrays, flws u.flows] 0))]) ⟨rfl, (by rfl), rfl, trivial⟩) ?_
  refine Tr.loop (fun fr σ m => ∃ (k : Nat) (n : Nat), (k ≤ u.arrays.length) ∧ (n + wtA (u.arrays.drop k) + wtF u.flows = r8Weight u) ∧ fr = [(4, iInt k), (3, iInt n), (1, .pv (.ept [arrs u.arrays, flws u.flows] 0))] ∧ σ = look [] ∧ m = u.arrays.length - k) (n := u.arrays.length - 0) ?_ ?_
  ·exact ⟨0, (u.arrays.length + u.flows.length), Nat.zero_le _, rfl, rfl, rfl, rfl⟩
  rintro fr σ m ⟨k, n, hI0, hI1, rfl, rfl, rfl⟩
  refine tQ <| tQ <| tG <| sm 3 rfl <| cV rfl (oSm Tryz.underlying22 rfl) <| sm 1 rfl <| nL ?_
  refine tC rfl (fun hc17 => ?_) fun hc17 => ?_
  ·have hlt : k < u.arrays.length := by simpa using hc17
   have hd := List.drop_eq_getElem_cons hlt
   have hm := List.getElem_mem hlt
   have hi := map_get (f := Ar.enc) (List.getElem?_eq_getElem hlt)
   generalize u.arrays[k] = x at hd hm hi
   rw [hd, show wtA (x :: u.arrays.drop (k + 1)) = x.name.size + wtA (u.arrays.drop (k + 1)) from rfl] at hI1
   refine Tr.skip <| tQ <| Tr.block <| tG <| sm 4 rfl <| cV rfl (ok_index_seq rfl rfl rfl Tryz.underlying22 hi tS46 rfl (by rfl)) <| sm 2 rfl <| cV rfl (ok_len_str rfl rfl Tryz.underlying9) <| cV rfl (oB rfl rfl (i64_add rfl (by omega))) <| sm 1 rfl <| nL <| tG ?_
   refine sm 1 rfl <| cV rfl (oB rfl rfl (i64_add rfl (by omega))) <| sm 1 rfl <| nL ?_
   refine ⟨_, _, ?_, Sub.of (fr' := [(4, iInt (k + 1)), (3, iInt (n + x.name.size)), (1, .pv (.ept [arrs u.arrays, flws u.flows] 0))]) ⟨rfl, congrArg (fun z => some (iInt z)) (by rfl), rfl, trivial⟩, (k + 1), (n + x.name.size), ?_, ?_, rfl, rfl, rfl⟩
   all_goals omega
  refine Tr.exit <| tQ <| tQ <| tG <| sm 1 rfl <| nL <| Tr.block ?_
  have hstart : n + wtF (u.flows.drop 0) = r8Weight u := by
    rw [List.drop_eq_nil_of_le (by simpa using hc17)] at hI1
    simpa [wtA] using hI1
  refine Tr.sub (Sub.of (fr' := [(5, iInt 0), (3, iInt n), (1, .pv (.ept [arrs u.arrays, flws u.flows] 0))]) ⟨rfl, rfl, rfl, trivial⟩) ?_
  refine Tr.loop (fun fr σ m => ∃ (k : Nat) (acc : Nat), (k ≤ u.flows.length) ∧ (acc + wtF (u.flows.drop k) = r8Weight u) ∧ fr = [(5, iInt k), (3, iInt acc), (1, .pv (.ept [arrs u.arrays, flws u.flows] 0))] ∧ σ = look [] ∧ m = u.flows.length - k) (n := u.flows.length - 0) ?_ ?_
  ·exact ⟨0, n, Nat.zero_le _, hstart, rfl, rfl, rfl⟩
  rintro fr σ m ⟨k, acc, hJ0, hJ1, rfl, rfl, rfl⟩
  refine tQ <| tQ <| tG <| sm 3 rfl <| cV rfl (oSm Tryz.underlying23 rfl) <| sm 1 rfl <| nL ?_
  refine tC rfl (fun hc33 => ?_) fun hc33 => ?_
  ·have hlt : k < u.flows.length := by simpa using hc33
   have hd := List.drop_eq_getElem_cons hlt
   have hm := List.getElem_mem hlt
   have hi := map_get (f := Fl.enc) (List.getElem?_eq_getElem hlt)
   generalize u.flows[k] = x at hd hm hi
   rw [hd, show wtF (x :: u.flows.drop (k + 1)) = x.name.size + x.types.length + r8nodes x.body + wtF (u.flows.drop (k + 1)) from rfl] at hJ1
   have hbn : r8nodes x.body ≤ 4611686018427387904 := by omega
   refine Tr.skip <| tQ <| Tr.block <| Tr.drawn mixed (fun k => k ∈ ([] : List Nat)) <| wR 3 [0, 1, 2, 3, 4, 5, 6, 7, 8, 9, 10, 11, 12, 13, 14, 15, 16, 17, 18, 19, 20, 21, 22] (by kernel_rfl) (fun _ _ _ h => h) <| smR 4 rfl <| rV rfl rfl (ok_index_seq rfl rfl rfl Tryz.underlying23 hi tS41 rfl (by rfl)) <| smR 2 rfl <| rV rfl rfl (ok_len_str rfl rfl Tryz.underlying9) <| rV rfl rfl (oB rfl rfl (i64_add rfl (by omega))) <| smR 3 rfl <| rV rfl rfl (ok_index_seq rfl rfl rfl Tryz.underlying23 hi tS41 rfl (by rfl)) ?_
   refine smR 2 rfl <| rV rfl rfl (oSm Tryz.underlying35 rfl) <| rV rfl rfl (oB rfl rfl (i64_add rfl (by omega))) <| smR 3 rfl <| rV rfl rfl (ok_index_seq rfl rfl rfl Tryz.underlying23 hi tS41 rfl (by rfl)) <| smR 2 rfl <| nR <| wO 23 (by kernel_rfl) <| wI rfl rfl nf nw (fun _ _ => ocq (sc_r8nodes _ hbn) ent13 rfl rfl) <| wR 0 [24, 25] (by kernel_rfl) (fun _ _ _ h => h) <| rV rfl rfl (oB rfl rfl (i64_add rfl (by omega))) <| smR 1 rfl ?_
   refine nR <| WA.done (by kernel_rfl) <| tG <| sm 1 rfl <| cV rfl (oB rfl rfl (i64_add rfl (by omega))) <| sm 1 rfl <| nL ?_
   refine ⟨_, _, ?_, Sub.of (fr' := [(5, iInt (k + 1)), (3, iInt (acc + x.name.size + x.types.length + r8nodes x.body)), (1, .pv (.ept [arrs u.arrays, flws u.flows] 0))]) ⟨rfl, congrArg (fun z => some (iInt z)) (by rfl), rfl, trivial⟩, (k + 1), (acc + x.name.size + x.types.length + r8nodes x.body), ?_, ?_, rfl, rfl, rfl⟩
   all_goals omega
  refine Tr.exit <| tQ <| tG <| sm 2 rfl <| nL <| Tr.ret <| ret_ok rfl ?_ no_post
  rw [List.drop_eq_nil_of_le (by simpa using hc33)] at hJ1
  simp only [wtF, Nat.add_zero] at hJ1
  rw [← hJ1]
theorem sc_r8Flow (u : Un) (f : Fl) (hg : ∀ g ∈ u.flows, 0 ≤ g.params ∧ g.params ≤ g.types.length) (hb : lsW f.body ≤ 536870912) : SC Tryz.prog 37 [.pv u.enc, .pv (.agg f.enc)] [] (fun _ => False) (iBool (r8Flow u f)) [] := by
  refine SC.of Tryz.func37 rfl (lb rfl) fun F ρ w => ?_
  refine tQ <| tG <| cE rfl (ok_box rfl rfl) <| cE rfl (ok_box rfl rfl) <| sm 1 rfl <| nL <| tQ <| tQ <| tG <| sm 4 rfl ?_
  refine wS 12 rfl (fun hb12 => ?_) fun hb12 => ?_
  ·refine sm 18 rfl <| nL <| Tr.condT rfl <| tQ <| tG <| sm 1 rfl <| nL <| Tr.ret <| ret_ok rfl ?_ no_post
   refine congrArg (fun b => iBool b) ?_
   have hno : (!decide (f.params < 0) && !decide (f.params > 8) && !decide (f.params > f.types.length) && !decide ((f.types.length : Int) > 20000)) = false := by
     simp_all
   simp only [r8Flow, hno, Bool.false_and]
  refine sm 5 rfl ?_
  refine wS 17 rfl (fun hb17 => ?_) fun hb17 => ?_
  ·refine sm 13 rfl <| nL <| Tr.condT rfl <| tQ <| tG <| sm 1 rfl <| nL <| Tr.ret <| ret_ok rfl ?_ no_post
   refine congrArg (fun b => iBool b) ?_
   have hno : (!decide (f.params < 0) && !decide (f.params > 8) && !decide (f.params > f.types.length) && !decide ((f.types.length : Int) > 20000)) = false := by
     simp_all
   simp only [r8Flow, hno, Bool.false_and]
  refine sm 4 rfl <| yV rfl rfl (oSm Tryz.underlying35 rfl) <| sm 3 rfl ?_
  refine wS 25 rfl (fun hb25 => ?_) fun hb25 => ?_
  ·refine sm 5 rfl <| nL <| Tr.condT rfl <| tQ <| tG <| sm 1 rfl <| nL <| Tr.ret <| ret_ok rfl ?_ no_post
   refine congrArg (fun b => iBool b) ?_
   have hno : (!decide (f.params < 0) && !decide (f.params > 8) && !decide (f.params > f.types.length) && !decide ((f.types.length : Int) > 20000)) = false := by
     simp_all
   simp only [r8Flow, hno, Bool.false_and]
  ·refine sm 2 rfl <| yV rfl rfl (oSm Tryz.underlying35 rfl) <| sm 2 rfl <| nL ?_
   refine tC rfl (fun hc30 => ?_) fun hc30 => ?_
   ·refine tQ <| tG <| sm 1 rfl <| nL <| Tr.ret <| ret_ok rfl ?_ no_post
    refine congrArg (fun b => iBool b) ?_
    have hno : (!decide (f.params < 0) && !decide (f.params > 8) && !decide (f.params > f.types.length) && !decide ((f.types.length : Int) > 20000)) = false := by
      simp_all
    simp only [r8Flow, hno, Bool.false_and]
   ·have hpar : 0 ≤ f.params ∧ f.params ≤ 8 ∧ f.params ≤ f.types.length ∧ f.types.length ≤ 20000 := by
      (simp_all <;> omega)
    refine Tr.skip <| tQ <| tQ <| tG <| sm 1 rfl <| nL <| Tr.block <| Tr.sub (Sub.of (fr' := [(5, iInt 0), (2, .pv (.ept [arrs u.arrays, flws u.flows] 0)), (3, .pv (.ept [vStr f.name, vInt f.ty, vInt f.params, ints f.types, nodes f.body] 0))]) ⟨rfl, rfl, rfl, trivial⟩) ?_
    refine Tr.loop (fun fr σ m => ∃ (k : Nat), (k ≤ f.types.length) ∧ (f.types.all (fun t => t == 1 || t == 2) = (f.types.drop k).all (fun t => t == 1 || t == 2)) ∧ fr = [(5, iInt k), (2, .pv (.ept [arrs u.arrays, flws u.flows] 0)), (3, .pv (.ept [vStr f.name, vInt f.ty, vInt f.params, ints f.types, nodes f.body] 0))] ∧ σ = look [] ∧ m = f.types.length - k) (n := f.types.length - 0) ?_ ?_
    ·exact ⟨0, Nat.zero_le _, rfl, rfl, rfl, rfl⟩
    rintro fr σ m ⟨k, hI0, hI1, rfl, rfl, rfl⟩
    refine tQ <| tQ <| tG <| sm 3 rfl <| cV rfl (oSm Tryz.underlying35 rfl) <| sm 1 rfl <| nL ?_
    refine tC rfl (fun hc35 => ?_) fun hc35 => ?_
    ·have hlt : k < f.types.length := by simpa using hc35
     have hd := List.drop_eq_getElem_cons hlt
     have hm := List.getElem_mem hlt
     have hi := map_get (f := eInt) (List.getElem?_eq_getElem hlt)
     generalize f.types[k] = x at hd hm hi
     refine Tr.skip <| tQ <| Tr.block <| tQ <| tG <| sm 3 rfl <| cV rfl (ok_index_seq rfl rfl rfl Tryz.underlying35 hi tS3 rfl (by rfl)) <| sm 3 rfl ?_
     refine wS 44 rfl (fun hb44 => ?_) fun hb44 => ?_
     ·refine sm 3 rfl <| yV rfl rfl (ok_index_seq rfl rfl rfl Tryz.underlying35 hi tS3 rfl (by rfl)) <| sm 3 rfl <| nL ?_
      refine tC rfl (fun hc51 => ?_) fun hc51 => ?_
      ·refine tQ <| tG <| sm 1 rfl <| nL <| Tr.ret <| ret_ok rfl ?_ no_post
       have hx : (x == 1 || x == 2) = false := by
         clear hd hm hi hI1
         simp_all
       have hty : f.types.all (fun t => t == 1 || t == 2) = false := by rw [hI1, hd]; simp only [List.all_cons, hx, Bool.false_and]
       simp only [r8Flow, hty, Bool.and_false, Bool.false_and]
      refine Tr.skip <| tG <| sm 1 rfl <| cV rfl (oB rfl rfl (i64_add rfl (by omega))) <| sm 1 rfl <| nL ?_
      refine ⟨_, _, ?_, Sub.of (fr' := [(5, iInt (k + 1)), (2, .pv (.ept [arrs u.arrays, flws u.flows] 0)), (3, .pv (.ept [vStr f.name, vInt f.ty, vInt f.params, ints f.types, nodes f.body] 0))]) ⟨rfl, rfl, rfl, trivial⟩, (k + 1), ?_, ?_, rfl, rfl, rfl⟩
      ·omega
      ·omega
      rw [hI1, hd]
      have hx : (x == 1 || x == 2) = true := by
        clear hd hm hi hI1
        simp_all
      simp only [List.all_cons, hx, Bool.true_and]
     refine sm 7 rfl <| nL <| Tr.condF rfl <| Tr.skip <| tG <| sm 1 rfl <| cV rfl (oB rfl rfl (i64_add rfl (by omega))) <| sm 1 rfl <| nL ?_
     refine ⟨_, _, ?_, Sub.of (fr' := [(5, iInt (k + 1)), (2, .pv (.ept [arrs u.arrays, flws u.flows] 0)), (3, .pv (.ept [vStr f.name, vInt f.ty, vInt f.params, ints f.types, nodes f.body] 0))]) ⟨rfl, rfl, rfl, trivial⟩, (k + 1), ?_, ?_, rfl, rfl, rfl⟩
     ·omega
     ·omega
     rw [hI1, hd]
     have hx : (x == 1 || x == 2) = true := by
       clear hd hm hi hI1
       simp_all
     simp only [List.all_cons, hx, Bool.true_and]
    refine Tr.exit <| tQ ?_
    have hty : f.types.all (fun t => t == 1 || t == 2) = true := by
      rw [hI1, List.drop_eq_nil_of_le (by simpa using hc35)]; rfl
    have hpt : f.params.toNat ≤ f.types.length := by omega
    have hpi : f.params = (f.params.toNat : Int) := by omega
    refine Tr.drawn mixed (fun k => k < 3) <| wR 4 [0, 1, 2, 3, 4] (by kernel_rfl) (fun _ _ _ h => h) <| rV rfl rfl (ok_load_ept_agg rfl rfl Tryz.underlying25 rfl tS25 (lb rfl)) <| rV rfl rfl (ok_load_ept_agg rfl rfl Tryz.underlying41 rfl tS41 (lb rfl)) <| smR 2 rfl <| rV rfl rfl (oSm Tryz.underlying35 rfl) <| nR <| wO 5 (by kernel_rfl) <| wI rfl rfl nf (new_one rfl) (fun _ _ => ok_makeSlice (k := 4) (s := ⟨4, 1⟩) rfl rfl rfl Tryz.underlying108 tZ4 tC4 rfl (by decide) (by omega) (by omega) rfl rfl rfl rfl) <| wR 2 [6] (by kernel_rfl) (fun _ _ _ h => h) <| rV rfl rfl (by exact ok_build rfl rfl tZ110 tP110 rfl (firmHp_ok (by (simp [firmHp, firm1, look, PV.one]; exact ⟨_, _, ⟨rfl, rfl⟩, by simp⟩)))) <| nR ?_
    refine wO 7 (by kernel_rfl) <| wI rfl rfl nf (new_one rfl) (fun _ _ => ok_boxOwn (k := 3) rfl rfl rfl rfl rfl rfl rfl) <| wR 0 [8] (by kernel_rfl) (fun _ _ _ h => h) <| smR 1 rfl <| nR <| WA.done (by kernel_rfl) <| tQ <| tG <| sm 1 rfl <| nL <| tQ <| tQ ?_
    refine Tr.grow (t := 7) (k := 107) ⟨3, 1⟩ rfl rfl rfl rfl rfl <| tG <| sm 1 rfl <| nL <| Tr.block <| Tr.sub (Sub.of (fr' := [(8, iInt 0), (7, .sl 107 (iota 0).length), (6, .ptr 3 0), (2, .pv (.ept [arrs u.arrays, flws u.flows] 0)), (3, .pv (.ept [vStr f.name, vInt f.ty, vInt f.params, ints f.types, nodes f.body] 0))]) ⟨rfl, rfl, rfl, rfl, rfl, trivial⟩) ?_
    refine Tr.heap (σ' := look ((107, some (.row ⟨3, 1⟩ ((iota 0).map eInt))) :: up (ckHp u f 4 (firsts 0 f.types.length)))) (fun k => by
  rw [show (firsts 0 f.types.length) = List.replicate f.types.length false by simp [firsts]]
  simp only [ckHp, up, List.map_cons, List.map_nil, look, List.length_map, List.length_replicate, List.map_replicate, iota, List.range_zero]
  by_cases h3 : 3 = k
  · subst h3; rfl
  · by_cases h4 : 4 = k
    · subst h4; rfl
    · simp [beq_ne h3, beq_ne h4]) ?_
    refine Tr.loop (fun fr σ m => ∃ (k : Nat), (k ≤ f.params.toNat) ∧ fr = [(8, iInt k), (7, .sl 107 (iota k).length), (6, .ptr 3 0), (2, .pv (.ept [arrs u.arrays, flws u.flows] 0)), (3, .pv (.ept [vStr f.name, vInt f.ty, vInt f.params, ints f.types, nodes f.body] 0))] ∧ σ = look ((107, some (.row ⟨3, 1⟩ ((iota k).map eInt))) :: up (ckHp u f 4 (firsts k f.types.length))) ∧ m = f.params.toNat - k) (n := f.params.toNat - 0) ?_ ?_
    ·exact ⟨0, Nat.zero_le _, rfl, rfl, rfl⟩
    rintro fr σ m ⟨k, hJ0, rfl, rfl, rfl⟩
    refine tQ <| tQ <| tG <| sm 4 rfl <| nL ?_
    refine tC rfl (fun hc63 => ?_) fun hc63 => ?_
    ·have hkp : k < f.params.toNat := by simp at hc63; omega
     have hkt : k < f.types.length := by omega
     have hil := iota_length k
     have hst : ((firsts k f.types.length).map eBool)[k]? = some [vBool false] := by
       rw [List.getElem?_map]
       simp only [firsts]
       rw [List.getElem?_append_right (by simp)]
       simp [List.getElem?_replicate, eBool]
       omega
     have hstl : k < ((firsts k f.types.length).map eBool).length := by rw [List.length_map, firsts_length (by omega)]; exact hkt
     refine Tr.skip <| tQ <| Tr.block <| tQ <| tG <| sm 1 rfl <| cV rfl (ok_nilCheck rfl rfl rfl) <| sm 3 rfl <| cV rfl (ok_index_row rfl rfl rfl rfl rfl Tryz.underlying108 tS4 (by assumption) (by rfl)) <| c0 (ok_store_row rfl rfl rfl rfl rfl (Nat.add_zero _).symm (by assumption) (by simp) tS4 rfl ((fun h => h))) <| nL <| tG ?_
     refine sm 2 rfl <| cE rfl (ok_buildSlice rfl rfl Tryz.underlying35 tZ3 tS3 rfl rfl rfl rfl (firmB_ok rfl) rfl) ?_
     refine cE rfl (ok_append rfl rfl rfl rfl (by (simp; done)) ((fun h => h)) Tryz.underlying35 tB3 (by decide) (by (simp [chunks]; done)) (by (simp [chunks, PV.one]; rfl)) (by simp [maxLen, chunks]; omega) (by simp [chunks]; omega)) ?_
     refine sm 1 rfl <| nL <| tG <| sm 1 rfl <| cV rfl (oB rfl rfl (i64_add rfl (by omega))) <| sm 1 rfl <| nL ?_
     refine ⟨_, _, ?_, Sub.of (fr' := [(8, iInt (k + 1)), (7, .sl 107 (iota (k + 1)).length), (6, .ptr 3 0), (2, .pv (.ept [arrs u.arrays, flws u.flows] 0)), (3, .pv (.ept [vStr f.name, vInt f.ty, vInt f.params, ints f.types, nodes f.body] 0))]) ⟨rfl, congrArg (fun z => some (IV.sl 107 z)) (by (simp [iota_length, chunks]; done)), rfl, rfl, rfl, trivial⟩, (k + 1), ?_, rfl, (funext fun j => by
  rw [← firsts_set hkt, ← iota_snoc, List.map_append]
  simp only [ckHp, up, List.map_cons, List.map_nil, look, List.length_map, List.length_set]
  by_cases h7 : 107 = j
  · subst h7; rfl
  · by_cases h4 : 4 = j
    · subst h4; simp [List.map_set, eBool, show Nat.beq 3 4 = false from rfl, show Nat.beq 107 4 = false from rfl]
    · by_cases h3 : 3 = j
      · subst h3; simp [show Nat.beq 4 3 = false from rfl, show Nat.beq 107 3 = false from rfl]
      · simp [beq_ne h3, beq_ne h4, beq_ne h7]), rfl⟩
     all_goals omega
    refine Tr.exit <| tQ ?_
    have hkp : k = f.params.toNat := by simp at hc63; omega
    subst hkp
    have hbl : (iota f.params.toNat).length + lsW f.body ≤ 1073741824 := by rw [iota_length]; omega
    refine tG <| sm 4 rfl <| cV rfl (ok_build_pure rfl rfl tZ112 tP112 rfl (firmB_ok rfl) rfl) <| cE rfl (ok_lend (fun k => k = 107) (sc_r8list u f hg f.body 1 r8where0 (iota f.params.toNat) (firsts f.params.toNat f.types.length) ⟨by omega, by omega⟩ (firsts_length hpt) hbl) ent64 rfl rfl (Subs.same rfl (Subs.same rfl (Subs.same rfl (Subs.cons (fun _ _ _ _ h => sub_pv (q := whv r8where0) (PSub.agg (ps := [vBool false, vBool false, .val (.slice none 0 0), .val (.slice none 0 0), .val (.slice none 0 0)]) (And.intro (PSub.refl _) (And.intro (PSub.refl _) (And.intro PSub.nil (And.intro PSub.nil (And.intro PSub.nil trivial)))))) h) (Subs.same rfl Subs.nil))))) (And.intro LendOf.same (And.intro LendOf.same (And.intro (LendOf.row rfl rfl (by (simp; done)) (by rfl)) (And.intro LendOf.same (And.intro LendOf.same (trivial)))))) (fun k h => by subst h; rfl) (po2 rfl rfl) rfl (fun k (h : _) => (show False from h).elim) ⟨_, rfl⟩ (ck_lend (r8list_length ..))) <| sm 1 rfl <| nL <| Tr.ret <| ret_ok rfl ?_ no_post
    have hno : (!decide (f.params < 0) && !decide (f.params > 8) && !decide (f.params > f.types.length) && !decide ((f.types.length : Int) > 20000)) = true := by
      simp
      omega
    simp only [r8Flow, hno, hty, Bool.true_and]
set_option maxRecDepth 20000
set_option maxHeartbeats 2000000
theorem sc_r8globals (u : Un) : SC Tryz.prog 36 [.pv u.enc] [] (fun _ => False) (iBool (r8globals u)) [] := by
  refine SC.anyR (SC.vc tb { gh := [(4, [.len 10]), (10, [.len 51])] } [] Tryz.func36 rfl rfl ?_)
  refine ⟨Nat, fun k => [(3, iInt k)], fun _ => [], fun k => u.arrays.length - k, fun k => k ≤ u.arrays.length ∧ r8gA u u.arrays 0 = r8gA u (u.arrays.drop k) k, [], 0, ⟨Nat.zero_le _, rfl⟩, ⟨rfl, trivial⟩, trivial, ?_⟩
  rintro k ⟨hk, hA⟩
  refine bcase (fun hc => ?_) fun hc => ?_
  · have hlt := lt_of (f := Ar.enc) rfl hc
    intro hl
    simp only [List.length_map] at hl
    obtain ⟨a, ha, _, hd, _⟩ := at_lt hlt
    rw [hd, show r8gA u (a :: u.arrays.drop (k + 1)) k = (gArr u a k && r8gA u (u.arrays.drop (k + 1)) (k + 1)) from rfl] at hA
    have bad : gArr u a k = false → SubI (iBool false) (iBool (r8globals u)) := fun h => sE (by unfold r8globals; rw [hA, h]; rfl)
    have hNm := sc_r2Name a.name
    cases hN : isName a.name with
    | false => rw [hN] at hNm; exact ⟨map_get (f := Ar.enc) ha, rfl, [], hNm, sR, trivial, rfl, bad (by unfold gArr; rw [hN]; rfl), trivial⟩
    | true =>
      rw [hN] at hNm
      refine ⟨map_get (f := Ar.enc) ha, rfl, [], hNm, sR, trivial, rfl, bcase (fun h1 => ⟨bad (by unfold gArr; rw [hN, show decide (a.size < 1) = true from h1]; rfl), trivial⟩) fun h1 => bcase (fun h2 => ⟨bad (by unfold gArr; rw [hN, show decide (a.size < 1) = false from h1, show decide (a.size > 1000) = true from h2]; rfl), trivial⟩) fun h2 => ⟨[], sc_r8Array u a.name, sR, trivial, rfl, bcase (fun h3 => ?_) fun h3 => ⟨[], sc_r8Place u a.name, sR, trivial, rfl, bcase (fun h4 => ?_) fun h4 => ?_⟩⟩⟩
      · have q3 : (r8Array a.name u.arrays 0 == (k : Int)) = false := by simpa using h3
        exact ⟨bad (by unfold gArr; rw [hN, show decide (a.size < 1) = false from h1, show decide (a.size > 1000) = false from h2, q3]; rfl), trivial⟩
      · have q3 : (r8Array a.name u.arrays 0 == (k : Int)) = true := by simpa using h3
        exact ⟨bad (by unfold gArr; rw [hN, show decide (a.size < 1) = false from h1, show decide (a.size > 1000) = false from h2, q3, show decide (r8Place a.name u.flows 0 ≥ 0) = true from h4]; rfl), trivial⟩
      · have q3 : (r8Array a.name u.arrays 0 == (k : Int)) = true := by simpa using h3
        have good : gArr u a k = true := by unfold gArr; rw [hN, show decide (a.size < 1) = false from h1, show decide (a.size > 1000) = false from h2, q3, show decide (r8Place a.name u.flows 0 ≥ 0) = false from h4]; rfl
        exact ⟨i64_add rfl (by omega), k + 1, step_lt hlt, ⟨hlt, by rw [hA, good]; rfl⟩, ⟨rfl, trivial⟩, trivial, rfl, rfl, rfl, rfl⟩
  · rw [List.drop_eq_nil_of_le (ge_of (f := Ar.enc) rfl hc), show r8gA u [] k = true from rfl] at hA
    refine ⟨Nat, fun k => [(5, iInt k)], fun _ => [], fun k => u.flows.length - k, fun k => k ≤ u.flows.length ∧ r8gF u u.flows 0 = r8gF u (u.flows.drop k) k, [], 0, ⟨Nat.zero_le _, rfl⟩, ⟨rfl, trivial⟩, trivial, ?_⟩
    rintro k ⟨hk, hF⟩
    refine bcase (fun hc => ?_) fun hc => ?_
    · have hlt := lt_of (f := Fl.enc) rfl hc
      intro hl
      simp only [List.length_map] at hl
      obtain ⟨f, hf, _, hd, _⟩ := at_lt hlt
      rw [hd, show r8gF u (f :: u.flows.drop (k + 1)) k = (gFlw u f k && r8gF u (u.flows.drop (k + 1)) (k + 1)) from rfl] at hF
      have bad : gFlw u f k = false → SubI (iBool false) (iBool (r8globals u)) := fun h => sE (by unfold r8globals; rw [hA, hF, h]; rfl)
      have hNm := sc_r2Name f.name
      cases hN : isName f.name with
      | false => rw [hN] at hNm; exact ⟨map_get (f := Fl.enc) hf, rfl, [], hNm, sR, trivial, rfl, bad (by unfold gFlw; rw [hN]; rfl), trivial⟩
      | true =>
        rw [hN] at hNm
        have tail : ∀ (q1 : (r8Place f.name u.flows 0 == (k : Int)) = true) (q2 : (f.ty == 1 || f.ty == 2) = true), gFlw u f k = (!decide (f.params < 0) && !decide (f.params > f.types.length)) := fun q1 q2 => by unfold gFlw; rw [hN, q1, q2]; rfl
        refine ⟨map_get (f := Fl.enc) hf, rfl, [], hNm, sR, trivial, rfl, [], sc_r8Place u f.name, sR, trivial, rfl, bcase (fun h1 => ?_) fun h1 => ?_⟩
        · have q1 : (r8Place f.name u.flows 0 == (k : Int)) = false := by simpa using h1
          exact ⟨bad (by unfold gFlw; rw [hN, q1]; rfl), trivial⟩
        · have q1 : (r8Place f.name u.flows 0 == (k : Int)) = true := by simpa using h1
          refine bcase (fun h2 => bcase (fun h3 => ?_) fun h3 => ?_) fun h2 => ?_
          · have e2 : (f.ty == 1) = false := by simpa using h2
            have e3 : (f.ty == 2) = false := by simpa using h3
            exact ⟨bad (by unfold gFlw; rw [hN, q1, e2, e3]; rfl), trivial⟩
          · have e3 : (f.ty == 2) = true := by simpa using h3
            have T := tail q1 (by rw [e3, Bool.or_true])
            refine bcase (fun h4 => ⟨bad (by rw [T, show decide (f.params < 0) = true from h4]; rfl), trivial⟩) fun h4 => bcase (fun h5 => ⟨bad (by rw [T, show decide (f.params < 0) = false from h4, show decide (f.params > f.types.length) = true by simpa using h5]; rfl), trivial⟩) fun h5 => ?_
            have good : gFlw u f k = true := by rw [T, show decide (f.params < 0) = false from h4, show decide (f.params > f.types.length) = false by simpa using h5]; rfl
            exact ⟨i64_add rfl (by omega), k + 1, step_lt hlt, ⟨hlt, by rw [hF, good]; rfl⟩, ⟨rfl, trivial⟩, trivial, rfl, rfl, rfl, rfl⟩
          · have e2 : (f.ty == 1) = true := by simpa using h2
            have T := tail q1 (by rw [e2, Bool.true_or])
            refine bcase (fun h4 => ⟨bad (by rw [T, show decide (f.params < 0) = true from h4]; rfl), trivial⟩) fun h4 => bcase (fun h5 => ⟨bad (by rw [T, show decide (f.params < 0) = false from h4, show decide (f.params > f.types.length) = true by simpa using h5]; rfl), trivial⟩) fun h5 => ?_
            have good : gFlw u f k = true := by rw [T, show decide (f.params < 0) = false from h4, show decide (f.params > f.types.length) = false by simpa using h5]; rfl
            exact ⟨i64_add rfl (by omega), k + 1, step_lt hlt, ⟨hlt, by rw [hF, good]; rfl⟩, ⟨rfl, trivial⟩, trivial, rfl, rfl, rfl, rfl⟩
    · rw [List.drop_eq_nil_of_le (ge_of (f := Fl.enc) rfl hc), show r8gF u [] k = true from rfl] at hF
      have hG : r8globals u = r8main u := by unfold r8globals; rw [hA, hF]; rfl
      rw [hG]
      refine ⟨[], sc_r8Place u mainName, sR, trivial, rfl, ?_⟩
      cases hp : decide (r8Place mainName u.flows 0 ≥ 0) with
      | false => exact bcase (fun h => absurd (hp.symm.trans h) (by decide)) fun _ => ⟨sE (by unfold r8main; rw [hp]; rfl), trivial⟩
      | true =>
        have h0 : r8Place mainName u.flows 0 ≥ 0 := by simpa using hp
        obtain ⟨g, hg, _⟩ := r8Place_at h0
        have hD : u.flows.getD (r8Place mainName u.flows 0).toNat flDef = g := by rw [List.getD_eq_getElem?_getD, hg]; rfl
        have hi := map_get (f := Fl.enc) hg
        refine bcase (fun _ => ⟨hi, by omega, bcase (fun h1 => ⟨hi, by omega, sE ?_, trivial⟩) fun h1 => ⟨sE ?_, trivial⟩⟩) fun h => absurd (hp.symm.trans h) (by decide)
        · unfold r8main; rw [hp, hD, show (g.ty == 1) = true from h1]; rfl
        · unfold r8main; rw [hp, hD, show (g.ty == 1) = false from h1]; rfl
theorem sc_r8Check (u : Un) (hW : r8Weight u ≤ 536870912) : SC Tryz.prog 20 [.pv u.enc] [] (fun _ => False) (.tup [iInt (r8Check u).1, iInt (r8Check u).2]) [] := by
  refine SC.of Tryz.func20 rfl (lb rfl) fun F ρ w => ?_
  refine tQ <| tG <| cE rfl (ok_box rfl rfl) <| sm 2 rfl <| nL <| tQ <| tQ <| tG <| cV rfl (ok_load_ept_agg rfl rfl Tryz.underlying25 rfl tS25 (lb rfl)) <| cE rfl (ocq (sc_r8globals u) ent36 rfl rfl) <| sm 1 rfl <| nL ?_
  refine tC rfl (fun hc7 => ?_) fun hc7 => ?_
  ·refine tQ <| tG <| sm 2 rfl <| nL <| Tr.ret <| ret_ok rfl ?_ no_post
   have hg : r8globals u = false := by simpa using hc7
   simp [r8Check, hg]
  have hg : r8globals u = true := by simpa using hc7
  refine Tr.skip <| tQ <| tQ <| tG <| sm 1 rfl <| nL <| Tr.block <| Tr.sub (Sub.of (fr' := [(4, iInt 0), (1, .pv (.ept [arrs u.arrays, flws u.flows] 0))]) ⟨rfl, rfl, trivial⟩) ?_
  refine Tr.loop (fun fr σ m => ∃ (k : Nat), (k ≤ u.flows.length) ∧ (r8flows u u.flows 0 = r8flows u (u.flows.drop k) k) ∧ fr = [(4, iInt k), (1, .pv (.ept [arrs u.arrays, flws u.flows] 0))] ∧ σ = look [] ∧ m = u.flows.length - k) (n := u.flows.length - 0) ?_ ?_
  ·exact ⟨0, Nat.zero_le _, rfl, rfl, rfl, rfl⟩
  rintro fr σ m ⟨k, hI0, hI1, rfl, rfl, rfl⟩
  refine tQ <| tQ <| tG <| sm 3 rfl ?_
  refine WL.lenOf (t := 10) rfl (fun hl1 => ?_)
  simp only [List.length_map] at hl1
  refine cV rfl (oSm Tryz.underlying23 rfl) <| sm 1 rfl <| nL ?_
  refine tC rfl (fun hc12 => ?_) fun hc12 => ?_
  ·have hlt : k < u.flows.length := by simpa using hc12
   have hd := List.drop_eq_getElem_cons hlt
   have hm := List.getElem_mem hlt
   have hi := map_get (f := Fl.enc) (List.getElem?_eq_getElem hlt)
   generalize u.flows[k] = x at hd hm hi
   refine Tr.skip <| tQ <| Tr.block <| tQ <| Tr.drawn mixed (fun k => k ∈ ([] : List Nat)) <| wR 2 [0, 1, 2, 3, 4, 5] (by kernel_rfl) (fun _ _ _ h => h) <| rV rfl rfl (ok_load_ept_agg rfl rfl Tryz.underlying25 rfl tS25 (lb rfl)) <| smR 3 rfl <| rV rfl rfl (ok_index_seq rfl rfl rfl Tryz.underlying23 hi tS41 rfl (by rfl)) <| rV rfl rfl (ok_load_ept_agg rfl rfl Tryz.underlying41 rfl tS41 (lb rfl)) <| nR <| wO 6 (by kernel_rfl) ?_
   refine wI rfl rfl nf nw (fun _ _ => ocq (sc_r8Flow u x (r8globals_params hg) (flow_le hW hm)) ent37 rfl rfl) <| wR 0 [7] (by kernel_rfl) (fun _ _ _ h => h) <| smR 1 rfl <| nR <| WA.done (by kernel_rfl) ?_
   refine tC rfl (fun hc22 => ?_) fun hc22 => ?_
   ·refine tQ <| tG <| sm 3 rfl <| nL <| Tr.ret <| ret_ok rfl ?_ no_post
    have hx : r8Flow u x = false := by simpa using hc22
    simp only [r8Check, hg, if_true, hI1, hd, r8flows, hx, Bool.false_eq_true, if_false]
   refine Tr.skip <| tG <| sm 1 rfl <| cV rfl (oB rfl rfl (i64_add rfl (by omega))) <| sm 1 rfl <| nL ?_
   refine ⟨_, _, ?_, Sub.of (fr' := [(4, iInt (k + 1)), (1, .pv (.ept [arrs u.arrays, flws u.flows] 0))]) ⟨rfl, rfl, trivial⟩, (k + 1), ?_, ?_, rfl, rfl, rfl⟩
   ·omega
   ·omega
   rw [hI1, hd]
   have hx : r8Flow u x = true := by simpa using hc22
   simp only [r8flows, hx, if_true]
   rfl
  refine Tr.exit <| tQ <| tG <| sm 2 rfl <| nL <| Tr.ret <| ret_ok rfl ?_ no_post
  have hge : u.flows.length ≤ k := by simpa using hc12
  simp only [r8Check, hg, if_true, hI1, List.drop_eq_nil_of_le hge, r8flows]
theorem sc_idx_int (fq : FuncId) (ws : List IV) (pre : List (Nat × HO)) (hon : onlyHp (pre.map (·.1)) pre = true) (hent : enters Tryz.prog fq) (p : Int → Bool) (l : List Int) (h : ∀ x ∈ l, SC Tryz.prog fq ((iInt x) :: ws) pre (fun _ => True) (iBool (p x)) pre) : SC Tryz.prog 78 [.pv (ints l), .fn (.func fq) [] ws] pre (fun _ => True) (iInt (idxP p l 0)) pre := by
  refine SC.of Tryz.func78 rfl (lb rfl) fun F ρ w => ?_
  refine Tr.lenOf (t := 0) rfl (fun hl => ?_)
  simp only [List.length_map] at hl
  refine tQ <| tG <| sm 1 rfl <| nL <| tQ <| tQ <| tG <| sm 1 rfl <| cV rfl (oSm Tryz.underlying35 rfl) <| sm 1 rfl <| nL <| Tr.block ?_
  refine Tr.sub (Sub.of (fr' := [(8, iInt 0), (7, iInt l.length), (0, .pv (ints l)), (1, .fn (.func fq) [] ws)]) ⟨rfl, rfl, rfl, rfl, trivial⟩) ?_
  refine Tr.loop (fun fr σ m => ∃ (k : Nat), (k ≤ l.length) ∧ (idxP p l 0 = idxP p (l.drop k) k) ∧ fr = [(8, iInt k), (7, iInt l.length), (0, .pv (ints l)), (1, .fn (.func fq) [] ws)] ∧ σ = look (up pre) ∧ m = l.length - k) (n := l.length - 0) ?_ ?_
  ·exact ⟨0, Nat.zero_le _, rfl, rfl, rfl, rfl⟩
  rintro fr σ m ⟨k, hI0, hI1, rfl, rfl, rfl⟩
  refine tQ <| tG <| sm 1 rfl <| nL <| tQ ?_
  refine tC rfl (fun hc9 => ?_) fun hc9 => ?_
  ·have hlt : k < l.length := by simpa using hc9
   have hd := List.drop_eq_getElem_cons hlt
   have hm := List.getElem_mem hlt
   have hi := map_get (f := eInt) (List.getElem?_eq_getElem hlt)
   generalize l[k] = x at hd hm hi
   refine Tr.skip <| tQ <| Tr.block <| tQ <| tG <| sm 2 rfl <| nL <| tQ <| tG <| sm 3 rfl <| cV rfl (ok_index_seq rfl rfl rfl Tryz.underlying35 hi tS3 rfl (by rfl)) <| sm 1 rfl ?_
   refine cE rfl (ok_callv (h x hm) hent rfl rfl rfl (Subs.refl _ _) (fun _ _ h => h) (by rfl) (fun k (h : _) => trivial) rfl (by assumption)) <| nL ?_
   refine tC rfl (fun hc16 => ?_) fun hc16 => ?_
   ·refine tQ <| tG <| sm 2 rfl <| nL <| Tr.ret <| ret_ok rfl ?_ (fun k o h => post_same rfl k o h)
    have hx : p x = true := by simpa using hc16
    rw [hI1, hd]
    simp only [idxP, hx, if_true]
   refine Tr.skip <| tG <| cV rfl (oB rfl rfl (i64_add rfl (by omega))) <| sm 1 rfl <| nL ?_
   refine ⟨_, _, ?_, Sub.of (fr' := [(8, iInt (k + 1)), (7, iInt l.length), (0, .pv (ints l)), (1, .fn (.func fq) [] ws)]) ⟨rfl, rfl, rfl, rfl, trivial⟩, (k + 1), ?_, ?_, rfl, (look_app_same rfl), rfl⟩
   ·omega
   ·omega
   rw [hI1, hd]
   have hx : p x = false := by simpa using hc16
   simp only [idxP, hx, Bool.false_eq_true, if_false]
   rfl
  refine Tr.exit <| tQ <| tG <| sm 1 rfl <| nL <| Tr.ret <| ret_ok rfl ?_ (fun _ _ h => h)
  have hge : l.length ≤ k := by simpa using hc9
  rw [hI1, List.drop_eq_nil_of_le hge]
  rfl
theorem sc_has_int (fq : FuncId) (ws : List IV) (pre : List (Nat × HO)) (hon : onlyHp (pre.map (·.1)) pre = true) (hent : enters Tryz.prog fq) (p : Int → Bool) (l : List Int) (h : ∀ x ∈ l, SC Tryz.prog fq ((iInt x) :: ws) pre (fun _ => True) (iBool (p x)) pre) : SC Tryz.prog 49 [.pv (ints l), .fn (.func fq) [] ws] pre (fun _ => True) (iBool (l.any p)) pre := by
  refine SC.of Tryz.func49 rfl (lb rfl) fun F ρ w => ?_
  refine tQ <| tG <| sm 1 rfl <| nL <| tQ <| tG <| sm 2 rfl <| cE rfl (ok_callr (sc_idx_int fq ws pre hon hent p l h) ent78 rfl rfl (Subs.refl _ _) (fun _ _ h => h) (by rfl) (fun k (h : _) => .inr trivial) rfl (by assumption)) <| sm 2 rfl <| nL <| Tr.ret <| ret_ok rfl ?_ (fun k o h => post_same rfl k o h)
  exact congrArg (fun b => iBool b) (idxP_any p l 0 (Int.le_refl 0))
theorem sc_idx_node (fq : FuncId) (ws : List IV) (pre : List (Nat × HO)) (hon : onlyHp (pre.map (·.1)) pre = true) (hent : enters Tryz.prog fq) (p : Nd → Bool) (l : List Nd) (h : ∀ x ∈ l, SC Tryz.prog fq ((.pv (ndv x)) :: ws) pre (fun _ => True) (iBool (p x)) pre) : SC Tryz.prog 149 [.pv (nodes l), .fn (.func fq) [] ws] pre (fun _ => True) (iInt (idxP p l 0)) pre := by
  refine SC.of Tryz.func149 rfl (lb rfl) fun F ρ w => ?_
  refine Tr.lenOf (t := 0) rfl (fun hl => ?_)
  simp only [List.length_map] at hl
  refine tQ <| tG <| sm 1 rfl <| nL <| tQ <| tQ <| tG <| sm 1 rfl <| cV rfl (oSm Tryz.underlying39 rfl) <| sm 1 rfl <| nL <| Tr.block ?_
  refine Tr.sub (Sub.of (fr' := [(8, iInt 0), (7, iInt l.length), (0, .pv (nodes l)), (1, .fn (.func fq) [] ws)]) ⟨rfl, rfl, rfl, rfl, trivial⟩) ?_
  refine Tr.loop (fun fr σ m => ∃ (k : Nat), (k ≤ l.length) ∧ (idxP p l 0 = idxP p (l.drop k) k) ∧ fr = [(8, iInt k), (7, iInt l.length), (0, .pv (nodes l)), (1, .fn (.func fq) [] ws)] ∧ σ = look (up pre) ∧ m = l.length - k) (n := l.length - 0) ?_ ?_
  ·exact ⟨0, Nat.zero_le _, rfl, rfl, rfl, rfl⟩
  rintro fr σ m ⟨k, hI0, hI1, rfl, rfl, rfl⟩
  refine tQ <| tG <| sm 1 rfl <| nL <| tQ ?_
  refine tC rfl (fun hc9 => ?_) fun hc9 => ?_
  ·have hlt : k < l.length := by simpa using hc9
   have hd := List.drop_eq_getElem_cons hlt
   have hm := List.getElem_mem hlt
   have hi := nodes_get (List.getElem?_eq_getElem hlt)
   generalize l[k] = x at hd hm hi
   refine Tr.skip <| tQ <| Tr.block <| tQ <| tG <| sm 2 rfl <| nL <| tQ <| tG <| sm 3 rfl <| cV rfl (ok_index_seq rfl rfl rfl Tryz.underlying39 hi tS38 rfl (by rfl)) <| cV rfl (ok_load_ept_agg rfl rfl Tryz.underlying38 rfl tS38 (lb rfl)) ?_
   refine cE rfl (ok_callv (h x hm) hent rfl rfl rfl (Subs.refl _ _) (fun _ _ h => h) (by rfl) (fun k (h : _) => trivial) rfl (by assumption)) <| nL ?_
   refine tC rfl (fun hc16 => ?_) fun hc16 => ?_
   ·refine tQ <| tG <| sm 2 rfl <| nL <| Tr.ret <| ret_ok rfl ?_ (fun k o h => post_same rfl k o h)
    have hx : p x = true := by simpa using hc16
    rw [hI1, hd]
    simp only [idxP, hx, if_true]
   refine Tr.skip <| tG <| cV rfl (oB rfl rfl (i64_add rfl (by omega))) <| sm 1 rfl <| nL ?_
   refine ⟨_, _, ?_, Sub.of (fr' := [(8, iInt (k + 1)), (7, iInt l.length), (0, .pv (nodes l)), (1, .fn (.func fq) [] ws)]) ⟨rfl, rfl, rfl, rfl, trivial⟩, (k + 1), ?_, ?_, rfl, (look_app_same rfl), rfl⟩
   ·omega
   ·omega
   rw [hI1, hd]
   have hx : p x = false := by simpa using hc16
   simp only [idxP, hx, Bool.false_eq_true, if_false]
   rfl
  refine Tr.exit <| tQ <| tG <| sm 1 rfl <| nL <| Tr.ret <| ret_ok rfl ?_ (fun _ _ h => h)
  have hge : l.length ≤ k := by simpa using hc9
  rw [hI1, List.drop_eq_nil_of_le hge]
  rfl
theorem sc_has_node (fq : FuncId) (ws : List IV) (pre : List (Nat × HO)) (hon : onlyHp (pre.map (·.1)) pre = true) (hent : enters Tryz.prog fq) (p : Nd → Bool) (l : List Nd) (h : ∀ x ∈ l, SC Tryz.prog fq ((.pv (ndv x)) :: ws) pre (fun _ => True) (iBool (p x)) pre) : SC Tryz.prog 132 [.pv (nodes l), .fn (.func fq) [] ws] pre (fun _ => True) (iBool (l.any p)) pre := by
  refine SC.of Tryz.func132 rfl (lb rfl) fun F ρ w => ?_
  refine tQ <| tG <| sm 1 rfl <| nL <| tQ <| tG <| sm 2 rfl <| cE rfl (ok_callr (sc_idx_node fq ws pre hon hent p l h) ent149 rfl rfl (Subs.refl _ _) (fun _ _ h => h) (by rfl) (fun k (h : _) => .inr trivial) rfl (by assumption)) <| sm 2 rfl <| nL <| Tr.ret <| ret_ok rfl ?_ (fun k o h => post_same rfl k o h)
  exact congrArg (fun b => iBool b) (idxP_any p l 0 (Int.le_refl 0))
theorem sc_idx_kid (fq : FuncId) (ws : List IV) (pre : List (Nat × HO)) (hon : onlyHp (pre.map (·.1)) pre = true) (hent : enters Tryz.prog fq) (p : (List Nd) → Bool) (l : List (List Nd)) (h : ∀ x ∈ l, SC Tryz.prog fq ((.pv (nodes x)) :: ws) pre (fun _ => True) (iBool (p x)) pre) : SC Tryz.prog 150 [.pv (kids l), .fn (.func fq) [] ws] pre (fun _ => True) (iInt (idxP p l 0)) pre := by
  refine SC.of Tryz.func150 rfl (lb rfl) fun F ρ w => ?_
  refine Tr.lenOf (t := 0) rfl (fun hl => ?_)
  simp only [List.length_map] at hl
  refine tQ <| tG <| sm 1 rfl <| nL <| tQ <| tQ <| tG <| sm 1 rfl <| cV rfl (oSm Tryz.underlying36 rfl) <| sm 1 rfl <| nL <| Tr.block ?_
  refine Tr.sub (Sub.of (fr' := [(8, iInt 0), (7, iInt l.length), (0, .pv (kids l)), (1, .fn (.func fq) [] ws)]) ⟨rfl, rfl, rfl, rfl, trivial⟩) ?_
  refine Tr.loop (fun fr σ m => ∃ (k : Nat), (k ≤ l.length) ∧ (idxP p l 0 = idxP p (l.drop k) k) ∧ fr = [(8, iInt k), (7, iInt l.length), (0, .pv (kids l)), (1, .fn (.func fq) [] ws)] ∧ σ = look (up pre) ∧ m = l.length - k) (n := l.length - 0) ?_ ?_
  ·exact ⟨0, Nat.zero_le _, rfl, rfl, rfl, rfl⟩
  rintro fr σ m ⟨k, hI0, hI1, rfl, rfl, rfl⟩
  refine tQ <| tG <| sm 1 rfl <| nL <| tQ ?_
  refine tC rfl (fun hc9 => ?_) fun hc9 => ?_
  ·have hlt : k < l.length := by simpa using hc9
   have hd := List.drop_eq_getElem_cons hlt
   have hm := List.getElem_mem hlt
   have hi := map_get (f := eKid) (List.getElem?_eq_getElem hlt)
   generalize l[k] = x at hd hm hi
   refine Tr.skip <| tQ <| Tr.block <| tQ <| tG <| sm 2 rfl <| nL <| tQ <| tG <| sm 3 rfl <| cV rfl (ok_index_seq rfl rfl rfl Tryz.underlying36 hi tS39 rfl (by rfl)) <| sm 1 rfl ?_
   refine cE rfl (ok_callv (h x hm) hent rfl rfl rfl (Subs.refl _ _) (fun _ _ h => h) (by rfl) (fun k (h : _) => trivial) rfl (by assumption)) <| nL ?_
   refine tC rfl (fun hc16 => ?_) fun hc16 => ?_
   ·refine tQ <| tG <| sm 2 rfl <| nL <| Tr.ret <| ret_ok rfl ?_ (fun k o h => post_same rfl k o h)
    have hx : p x = true := by simpa using hc16
    rw [hI1, hd]
    simp only [idxP, hx, if_true]
   refine Tr.skip <| tG <| cV rfl (oB rfl rfl (i64_add rfl (by omega))) <| sm 1 rfl <| nL ?_
   refine ⟨_, _, ?_, Sub.of (fr' := [(8, iInt (k + 1)), (7, iInt l.length), (0, .pv (kids l)), (1, .fn (.func fq) [] ws)]) ⟨rfl, rfl, rfl, rfl, trivial⟩, (k + 1), ?_, ?_, rfl, (look_app_same rfl), rfl⟩
   ·omega
   ·omega
   rw [hI1, hd]
   have hx : p x = false := by simpa using hc16
   simp only [idxP, hx, Bool.false_eq_true, if_false]
   rfl
  refine Tr.exit <| tQ <| tG <| sm 1 rfl <| nL <| Tr.ret <| ret_ok rfl ?_ (fun _ _ h => h)
  have hge : l.length ≤ k := by simpa using hc9
  rw [hI1, List.drop_eq_nil_of_le hge]
  rfl
theorem sc_has_kid (fq : FuncId) (ws : List IV) (pre : List (Nat × HO)) (hon : onlyHp (pre.map (·.1)) pre = true) (hent : enters Tryz.prog fq) (p : (List Nd) → Bool) (l : List (List Nd)) (h : ∀ x ∈ l, SC Tryz.prog fq ((.pv (nodes x)) :: ws) pre (fun _ => True) (iBool (p x)) pre) : SC Tryz.prog 134 [.pv (kids l), .fn (.func fq) [] ws] pre (fun _ => True) (iBool (l.any p)) pre := by
  refine SC.of Tryz.func134 rfl (lb rfl) fun F ρ w => ?_
  refine tQ <| tG <| sm 1 rfl <| nL <| tQ <| tG <| sm 2 rfl <| cE rfl (ok_callr (sc_idx_kid fq ws pre hon hent p l h) ent150 rfl rfl (Subs.refl _ _) (fun _ _ h => h) (by rfl) (fun k (h : _) => .inr trivial) rfl (by assumption)) <| sm 2 rfl <| nL <| Tr.ret <| ret_ok rfl ?_ (fun k o h => post_same rfl k o h)
  exact congrArg (fun b => iBool b) (idxP_any p l 0 (Int.le_refl 0))
theorem sc_idx_arr (fq : FuncId) (ws : List IV) (pre : List (Nat × HO)) (hon : onlyHp (pre.map (·.1)) pre = true) (hent : enters Tryz.prog fq) (p : Ar → Bool) (l : List Ar) (h : ∀ x ∈ l, SC Tryz.prog fq ((.pv (.agg x.enc)) :: ws) pre (fun _ => True) (iBool (p x)) pre) : SC Tryz.prog 151 [.pv (arrs l), .fn (.func fq) [] ws] pre (fun _ => True) (iInt (idxP p l 0)) pre := by
  refine SC.of Tryz.func151 rfl (lb rfl) fun F ρ w => ?_
  refine Tr.lenOf (t := 0) rfl (fun hl => ?_)
  simp only [List.length_map] at hl
  refine tQ <| tG <| sm 1 rfl <| nL <| tQ <| tQ <| tG <| sm 1 rfl <| cV rfl (oSm Tryz.underlying22 rfl) <| sm 1 rfl <| nL <| Tr.block ?_
  refine Tr.sub (Sub.of (fr' := [(8, iInt 0), (7, iInt l.length), (0, .pv (arrs l)), (1, .fn (.func fq) [] ws)]) ⟨rfl, rfl, rfl, rfl, trivial⟩) ?_
  refine Tr.loop (fun fr σ m => ∃ (k : Nat), (k ≤ l.length) ∧ (idxP p l 0 = idxP p (l.drop k) k) ∧ fr = [(8, iInt k), (7, iInt l.length), (0, .pv (arrs l)), (1, .fn (.func fq) [] ws)] ∧ σ = look (up pre) ∧ m = l.length - k) (n := l.length - 0) ?_ ?_
  ·exact ⟨0, Nat.zero_le _, rfl, rfl, rfl, rfl⟩
  rintro fr σ m ⟨k, hI0, hI1, rfl, rfl, rfl⟩
  refine tQ <| tG <| sm 1 rfl <| nL <| tQ ?_
  refine tC rfl (fun hc9 => ?_) fun hc9 => ?_
  ·have hlt : k < l.length := by simpa using hc9
   have hd := List.drop_eq_getElem_cons hlt
   have hm := List.getElem_mem hlt
   have hi := map_get (f := Ar.enc) (List.getElem?_eq_getElem hlt)
   generalize l[k] = x at hd hm hi
   refine Tr.skip <| tQ <| Tr.block <| tQ <| tG <| sm 2 rfl <| nL <| tQ <| tG <| sm 3 rfl <| cV rfl (ok_index_seq rfl rfl rfl Tryz.underlying22 hi tS46 rfl (by rfl)) <| cV rfl (ok_load_ept_agg rfl rfl Tryz.underlying46 rfl tS46 (lb rfl)) ?_
   refine cE rfl (ok_callv (h x hm) hent rfl rfl rfl (Subs.refl _ _) (fun _ _ h => h) (by rfl) (fun k (h : _) => trivial) rfl (by assumption)) <| nL ?_
   refine tC rfl (fun hc16 => ?_) fun hc16 => ?_
   ·refine tQ <| tG <| sm 2 rfl <| nL <| Tr.ret <| ret_ok rfl ?_ (fun k o h => post_same rfl k o h)
    have hx : p x = true := by simpa using hc16
    rw [hI1, hd]
    simp only [idxP, hx, if_true]
   refine Tr.skip <| tG <| cV rfl (oB rfl rfl (i64_add rfl (by omega))) <| sm 1 rfl <| nL ?_
   refine ⟨_, _, ?_, Sub.of (fr' := [(8, iInt (k + 1)), (7, iInt l.length), (0, .pv (arrs l)), (1, .fn (.func fq) [] ws)]) ⟨rfl, rfl, rfl, rfl, trivial⟩, (k + 1), ?_, ?_, rfl, (look_app_same rfl), rfl⟩
   ·omega
   ·omega
   rw [hI1, hd]
   have hx : p x = false := by simpa using hc16
   simp only [idxP, hx, Bool.false_eq_true, if_false]
   rfl
  refine Tr.exit <| tQ <| tG <| sm 1 rfl <| nL <| Tr.ret <| ret_ok rfl ?_ (fun _ _ h => h)
  have hge : l.length ≤ k := by simpa using hc9
  rw [hI1, List.drop_eq_nil_of_le hge]
  rfl
theorem sc_has_arr (fq : FuncId) (ws : List IV) (pre : List (Nat × HO)) (hon : onlyHp (pre.map (·.1)) pre = true) (hent : enters Tryz.prog fq) (p : Ar → Bool) (l : List Ar) (h : ∀ x ∈ l, SC Tryz.prog fq ((.pv (.agg x.enc)) :: ws) pre (fun _ => True) (iBool (p x)) pre) : SC Tryz.prog 147 [.pv (arrs l), .fn (.func fq) [] ws] pre (fun _ => True) (iBool (l.any p)) pre := by
  refine SC.of Tryz.func147 rfl (lb rfl) fun F ρ w => ?_
  refine tQ <| tG <| sm 1 rfl <| nL <| tQ <| tG <| sm 2 rfl <| cE rfl (ok_callr (sc_idx_arr fq ws pre hon hent p l h) ent151 rfl rfl (Subs.refl _ _) (fun _ _ h => h) (by rfl) (fun k (h : _) => .inr trivial) rfl (by assumption)) <| sm 2 rfl <| nL <| Tr.ret <| ret_ok rfl ?_ (fun k o h => post_same rfl k o h)
  exact congrArg (fun b => iBool b) (idxP_any p l 0 (Int.le_refl 0))
theorem sc_idx_flow (fq : FuncId) (ws : List IV) (pre : List (Nat × HO)) (hon : onlyHp (pre.map (·.1)) pre = true) (hent : enters Tryz.prog fq) (p : Fl → Bool) (l : List Fl) (h : ∀ x ∈ l, SC Tryz.prog fq ((.pv (.agg x.enc)) :: ws) pre (fun _ => True) (iBool (p x)) pre) : SC Tryz.prog 76 [.pv (flws l), .fn (.func fq) [] ws] pre (fun _ => True) (iInt (idxP p l 0)) pre := by
  refine SC.of Tryz.func76 rfl (lb rfl) fun F ρ w => ?_
  refine Tr.lenOf (t := 0) rfl (fun hl => ?_)
  simp only [List.length_map] at hl
  refine tQ <| tG <| sm 1 rfl <| nL <| tQ <| tQ <| tG <| sm 1 rfl <| cV rfl (oSm Tryz.underlying23 rfl) <| sm 1 rfl <| nL <| Tr.block ?_
  refine Tr.sub (Sub.of (fr' := [(8, iInt 0), (7, iInt l.length), (0, .pv (flws l)), (1, .fn (.func fq) [] ws)]) ⟨rfl, rfl, rfl, rfl, trivial⟩) ?_
  refine Tr.loop (fun fr σ m => ∃ (k : Nat), (k ≤ l.length) ∧ (idxP p l 0 = idxP p (l.drop k) k) ∧ fr = [(8, iInt k), (7, iInt l.length), (0, .pv (flws l)), (1, .fn (.func fq) [] ws)] ∧ σ = look (up pre) ∧ m = l.length - k) (n := l.length - 0) ?_ ?_
  ·exact ⟨0, Nat.zero_le _, rfl, rfl, rfl, rfl⟩
  rintro fr σ m ⟨k, hI0, hI1, rfl, rfl, rfl⟩
  refine tQ <| tG <| sm 1 rfl <| nL <| tQ ?_
  refine tC rfl (fun hc9 => ?_) fun hc9 => ?_
  ·have hlt : k < l.length := by simpa using hc9
   have hd := List.drop_eq_getElem_cons hlt
   have hm := List.getElem_mem hlt
   have hi := map_get (f := Fl.enc) (List.getElem?_eq_getElem hlt)
   generalize l[k] = x at hd hm hi
   refine Tr.skip <| tQ <| Tr.block <| tQ <| tG <| sm 2 rfl <| nL <| tQ <| tG <| sm 3 rfl <| cV rfl (ok_index_seq rfl rfl rfl Tryz.underlying23 hi tS41 rfl (by rfl)) <| cV rfl (ok_load_ept_agg rfl rfl Tryz.underlying41 rfl tS41 (lb rfl)) ?_
   refine cE rfl (ok_callv (h x hm) hent rfl rfl rfl (Subs.refl _ _) (fun _ _ h => h) (by rfl) (fun k (h : _) => trivial) rfl (by assumption)) <| nL ?_
   refine tC rfl (fun hc16 => ?_) fun hc16 => ?_
   ·refine tQ <| tG <| sm 2 rfl <| nL <| Tr.ret <| ret_ok rfl ?_ (fun k o h => post_same rfl k o h)
    have hx : p x = true := by simpa using hc16
    rw [hI1, hd]
    simp only [idxP, hx, if_true]
   refine Tr.skip <| tG <| cV rfl (oB rfl rfl (i64_add rfl (by omega))) <| sm 1 rfl <| nL ?_
   refine ⟨_, _, ?_, Sub.of (fr' := [(8, iInt (k + 1)), (7, iInt l.length), (0, .pv (flws l)), (1, .fn (.func fq) [] ws)]) ⟨rfl, rfl, rfl, rfl, trivial⟩, (k + 1), ?_, ?_, rfl, (look_app_same rfl), rfl⟩
   ·omega
   ·omega
   rw [hI1, hd]
   have hx : p x = false := by simpa using hc16
   simp only [idxP, hx, Bool.false_eq_true, if_false]
   rfl
  refine Tr.exit <| tQ <| tG <| sm 1 rfl <| nL <| Tr.ret <| ret_ok rfl ?_ (fun _ _ h => h)
  have hge : l.length ≤ k := by simpa using hc9
  rw [hI1, List.drop_eq_nil_of_le hge]
  rfl
theorem sc_eqf (fq : FuncId) (ws : List IV) (S : Type) (H : S → List (Nat × HO)) (ks : List Nat) (hks : ∀ s, (H s).map (·.1) = ks) (hon : ∀ s, onlyHp ((H s).map (·.1)) (H s) = true) (hent : enters Tryz.prog fq) (p : S → Int → Int → Bool × S) (R : Nat → Prop) (G : S → Prop) (hG : ∀ s x y, G s → G (p s x y).2) (h : ∀ s x y, G s → SC Tryz.prog fq (iInt x :: iInt y :: ws) (H s) R (iBool (p s x y).1) (H (p s x y).2)) (s : S) (hs : G s) (a b : List Int) : SC Tryz.prog 142 [.pv (ints a), .pv (ints b), .fn (.func fq) [] ws] (H s) (R) (iBool (eqf p s a b).1) (H (eqf p s a b).2) := by
  refine SC.of Tryz.func142 rfl (lb rfl) fun F ρ w => ?_
  refine Tr.lenOf (t := 0) rfl (fun hl => ?_)
  simp only [List.length_map] at hl
  refine Tr.lenOf (t := 1) rfl (fun hl2 => ?_)
  simp only [List.length_map] at hl2
  refine tQ <| tG <| sm 1 rfl <| nL <| tQ <| tQ <| tG <| sm 1 rfl <| cV rfl (oSm Tryz.underlying35 rfl) <| sm 1 rfl <| cV rfl (oSm Tryz.underlying35 rfl) <| sm 1 rfl ?_
  refine nL ?_
  refine tC rfl (fun hc14 => ?_) fun hc14 => ?_
  ·refine tQ <| tG <| sm 1 rfl <| nL <| Tr.ret ?_
   have hne : ¬ (a.length : Int) = b.length := by simpa using hc14
   have he : eqf p s a b = (false, s) := by simp only [eqf, hne, if_false]
   rw [he]
   exact ret_ok rfl rfl (fun _ _ h => h)
  have hlen : a.length = b.length := by simp at hc14; omega
  have hlz : (a.length : Int) = b.length := by omega
  refine Tr.skip <| tQ <| tQ <| tG <| sm 1 rfl <| cV rfl (oSm Tryz.underlying35 rfl) <| sm 1 rfl <| nL <| Tr.block <| Tr.sub (Sub.of (fr' := [(17, iInt 0), (16, iInt a.length), (15, .pv (ints a)), (0, .pv (ints a)), (1, .pv (ints b)), (2, .fn (.func fq) [] ws)]) ⟨rfl, rfl, rfl, rfl, rfl, rfl, trivial⟩) ?_
  refine Tr.loop (fun fr σ m => ∃ (k : Nat) (st : S), (k ≤ a.length) ∧ (eqGo p s a b = eqGo p st (a.drop k) (b.drop k)) ∧ (G st) ∧ fr = [(17, iInt k), (16, iInt a.length), (15, .pv (ints a)), (0, .pv (ints a)), (1, .pv (ints b)), (2, .fn (.func fq) [] ws)] ∧ σ = look (up (H st)) ∧ m = a.length - k) (n := a.length - 0) ?_ ?_
  ·exact ⟨0, s, Nat.zero_le _, rfl, hs, rfl, rfl, rfl⟩
  rintro fr σ m ⟨k, st, hI0, hI1, hI2, rfl, rfl, rfl⟩
  refine tQ <| tG <| sm 1 rfl <| nL <| tQ ?_
  refine tC rfl (fun hc18 => ?_) fun hc18 => ?_
  ·have hlt : k < a.length := by simpa using hc18
   have hd := List.drop_eq_getElem_cons hlt
   have hm := List.getElem_mem hlt
   have hi := map_get (f := eInt) (List.getElem?_eq_getElem hlt)
   generalize a[k] = x at hd hm hi
   have hltw : k < b.length := by omega
   have hdw := List.drop_eq_getElem_cons hltw
   have hw := map_get (f := eInt) (List.getElem?_eq_getElem hltw)
   generalize b[k] = y at hdw hw
   have hdom := (hks st).trans (hks (p st x y).2).symm
   have hon2 := hon (p st x y).2
   refine Tr.skip <| tQ <| Tr.block <| tQ <| tG <| sm 1 rfl <| cV rfl (ok_index_seq rfl rfl rfl Tryz.underlying35 hi tS3 rfl (by rfl)) <| sm 3 rfl <| nL <| tQ <| tG <| sm 2 rfl ?_
   refine cV rfl (ok_index_seq rfl rfl rfl Tryz.underlying35 hw tS3 rfl (by rfl)) <| sm 2 rfl <| nL <| tQ <| tG <| sm 3 rfl <| cE rfl (ok_callv (h st x y hI2) hent rfl rfl rfl (Subs.refl _ _) (fun _ _ h => h) (by assumption) (fun k (h : _) => h) rfl (by assumption)) <| sm 1 rfl <| nL ?_
   refine tC rfl (fun hc30 => ?_) fun hc30 => ?_
   ·refine tQ <| tG <| sm 1 rfl <| nL <| Tr.ret ?_
    have hx : (p st x y).1 = false := by simpa using hc30
    have he : eqf p s a b = (false, (p st x y).2) := by simp only [eqf, hlz, if_true, hI1, hd, hdw, eqGo, hx, Bool.false_eq_true, if_false]
    rw [he]
    exact ret_ok rfl rfl (fun k o h => post_same ((hks _).trans (hks _).symm) k o h)
   refine Tr.skip <| tG <| cV rfl (oB rfl rfl (i64_add rfl (by omega))) <| sm 1 rfl <| nL ?_
   refine ⟨_, _, ?_, Sub.of (fr' := [(17, iInt (k + 1)), (16, iInt a.length), (15, .pv (ints a)), (0, .pv (ints a)), (1, .pv (ints b)), (2, .fn (.func fq) [] ws)]) ⟨rfl, rfl, rfl, rfl, rfl, rfl, trivial⟩, (k + 1), (p st x y).2, ?_, ?_, ?_, rfl, (look_app_same ((hks _).trans (hks _).symm)), rfl⟩
   ·omega
   ·omega
   ·rw [hI1, hd, hdw]
    have hx : (p st x y).1 = true := by simpa using hc30
    simp only [eqGo, hx, if_true]
   exact hG _ _ _ hI2
  refine Tr.exit <| tQ <| tG <| sm 1 rfl <| nL <| Tr.ret ?_
  have hge : a.length ≤ k := by simpa using hc18
  have he : eqf p s a b = (true, st) := by simp only [eqf, hlz, if_true, hI1, List.drop_eq_nil_of_le hge, eqGo]
  rw [he]
  exact ret_ok rfl rfl (fun _ _ h => h)
theorem sc_isTy (t : Int) : SC Tryz.prog 47 [iInt t] [] (fun _ => False) (iBool (isTy t)) [] := by
  refine SC.of Tryz.func47 rfl (lb rfl) fun F ρ w => ?_
  refine tQ <| tG <| sm 1 rfl <| nL <| tQ <| tG <| sm 3 rfl ?_
  refine wS 5 rfl (fun hb5 => ?_) fun hb5 => ?_
  ·refine sm 4 rfl <| nL <| Tr.ret <| ret_ok rfl ?_ no_post
   simp_all [isTy]
  refine sm 4 rfl <| nL <| Tr.ret <| ret_ok rfl ?_ no_post
  simp_all [isTy]
theorem sc_flow1 (t : Int) : SC Tryz.prog 50 [iInt t] [] (fun _ => False) (iBool (!isTy t)) [] := by
  refine SC.of Tryz.func50 rfl (lb rfl) fun F ρ w => ?_
  refine tQ <| tG <| sm 1 rfl <| nL <| tQ <| tG <| sm 1 rfl <| cE rfl (ocq (sc_isTy _) ent47 rfl rfl) <| sm 2 rfl <| nL <| Tr.ret <| ret_ok rfl ?_ no_post
  rfl
theorem sc_shEnds (x : Nd) : SC Tryz.prog 108 [.pv (ndv x)] [] (fun _ => False) (iBool (r8Ender x.kind)) [] := by
  refine SC.of Tryz.func108 rfl (lb rfl) fun F ρ w => ?_
  refine tQ <| tG <| cE rfl (ok_box rfl rfl) <| sm 1 rfl <| nL <| tQ <| tG <| sm 4 rfl ?_
  refine wS 6 rfl (fun hb6 => ?_) fun hb6 => ?_
  ·refine sm 5 rfl <| nL <| Tr.ret <| ret_ok rfl ?_ no_post
   unfold r8Ender
   simp_all <;> omega
  refine sm 5 rfl <| nL <| Tr.ret <| ret_ok rfl ?_ no_post
  unfold r8Ender
  simp_all <;> omega
theorem sc_shYields (l : List Nd) : SC Tryz.prog 111 [.pv (nodes l)] [] (fun _ => False) (iBool (shYields l)) [] := by
  refine SC.of Tryz.func111 rfl (lb rfl) fun F ρ w => ?_
  refine Tr.lenOf (t := 0) rfl (fun hl => ?_)
  simp only [List.length_map] at hl
  refine tQ <| tG <| sm 1 rfl <| nL <| tQ <| tG <| sm 1 rfl <| cV rfl (oSm Tryz.underlying39 rfl) <| sm 2 rfl ?_
  refine wS 6 rfl (fun hb6 => ?_) fun hb6 => ?_
  ·have hpos : 0 < l.length := by simp at hb6; omega
   have hlt : l.length - 1 < l.length := by omega
   have hi := nodes_get (List.getElem?_eq_getElem hlt)
   have hlast : l.getLast? = some l[l.length - 1] := by rw [List.getLast?_eq_getElem?]; exact List.getElem?_eq_getElem hlt
   generalize l[l.length - 1] = x at hi hlast
   have hsub : (l.length : Int) - 1 = ((l.length - 1 : Nat) : Int) := by omega
   refine sm 2 rfl <| yV rfl rfl (oSm Tryz.underlying39 rfl) <| yV rfl rfl (oB rfl rfl (i64_sub rfl (by omega))) <| WL.sub (Sub.of (fr' := [(10, iInt ((l.length - 1 : Nat) : Int)), (7, .pv (nodes l)), (6, iBool true)]) ⟨by rw [← hsub]; rfl, rfl, rfl, trivial⟩) <| yV rfl rfl (ok_index_seq rfl rfl rfl Tryz.underlying39 (by assumption) tS38 rfl (by rfl)) <| sm 5 rfl <| nL <| Tr.ret <| ret_ok rfl ?_ no_post
   refine congrArg (fun b => iBool b) ?_
   simp [shYields, hlast]
  refine sm 10 rfl <| nL <| Tr.ret <| ret_ok rfl ?_ no_post
  refine congrArg (fun b => iBool b) ?_
  (have h0 : l = [] := by cases l <;> simp_all <;> omega
   subst h0; rfl)
theorem sc_shOperand (op : Int) : SC Tryz.prog 145 [iInt op] [] (fun _ => False) (.tup [iInt (shOperand op).1, iInt (shOperand op).2]) [] := by
  refine SC.of Tryz.func145 rfl (lb rfl) fun F ρ w => ?_
  refine tQ <| tG <| sm 2 rfl <| nL <| tQ <| tQ <| tG <| sm 1 rfl <| nL <| Tr.block <| tQ <| tG ?_
  refine sm 2 rfl <| nL ?_
  refine tC rfl (fun hc5 => ?_) fun hc5 => ?_
  ·refine tQ <| tG <| sm 2 rfl <| nL <| Tr.ret <| ret_ok rfl ?_ no_post
   first | (simp_all [shOperand]; done) | (simp_all [shOperand]; split <;> first | omega | (simp; done))
  refine tQ <| tQ <| tG <| sm 2 rfl <| nL ?_
  refine tC rfl (fun hc7 => ?_) fun hc7 => ?_
  ·refine Tr.skip ?_
   refine tC rfl (fun hc7 => ?_) fun hc7 => ?_
   ·refine tQ <| tG <| sm 2 rfl <| nL <| Tr.ret <| ret_ok rfl ?_ no_post
    first | (simp_all [shOperand]; done) | (simp_all [shOperand]; split <;> first | omega | (simp; done))
   refine tQ <| tQ <| tG <| sm 2 rfl <| nL ?_
   refine tC rfl (fun hc10 => ?_) fun hc10 => ?_
   ·refine Tr.skip ?_
    refine tC rfl (fun hc10 => ?_) fun hc10 => ?_
    ·refine tQ <| tG <| sm 2 rfl <| nL <| Tr.ret <| ret_ok rfl ?_ no_post
     first | (simp_all [shOperand]; done) | (simp_all [shOperand]; split <;> first | omega | (simp; done))
    refine Tr.skip <| tQ <| tG <| sm 2 rfl <| nL <| Tr.ret <| ret_ok rfl ?_ no_post
    first | (simp_all [shOperand]; done) | (simp_all [shOperand]; split <;> first | omega | (simp; done))
   refine tQ <| tG <| sm 2 rfl <| nL ?_
   refine tC rfl (fun hc10 => ?_) fun hc10 => ?_
   ·refine Tr.skip ?_
    refine tC rfl (fun hc10 => ?_) fun hc10 => ?_
    ·refine tQ <| tG <| sm 2 rfl <| nL <| Tr.ret <| ret_ok rfl ?_ no_post
     first | (simp_all [shOperand]; done) | (simp_all [shOperand]; split <;> first | omega | (simp; done))
    refine Tr.skip <| tQ <| tG <| sm 2 rfl <| nL <| Tr.ret <| ret_ok rfl ?_ no_post
    first | (simp_all [shOperand]; done) | (simp_all [shOperand]; split <;> first | omega | (simp; done))
   refine tQ <| tG <| sm 2 rfl <| nL ?_
   refine tC rfl (fun hc10 => ?_) fun hc10 => ?_
   ·refine Tr.skip ?_
    refine tC rfl (fun hc10 => ?_) fun hc10 => ?_
    ·refine tQ <| tG <| sm 2 rfl <| nL <| Tr.ret <| ret_ok rfl ?_ no_post
     first | (simp_all [shOperand]; done) | (simp_all [shOperand]; split <;> first | omega | (simp; done))
    refine Tr.skip <| tQ <| tG <| sm 2 rfl <| nL <| Tr.ret <| ret_ok rfl ?_ no_post
    first | (simp_all [shOperand]; done) | (simp_all [shOperand]; split <;> first | omega | (simp; done))
   refine tG <| sm 2 rfl <| nL ?_
   refine tC rfl (fun hc10 => ?_) fun hc10 => ?_
   ·refine tQ <| tG <| sm 2 rfl <| nL <| Tr.ret <| ret_ok rfl ?_ no_post
    first | (simp_all [shOperand]; done) | (simp_all [shOperand]; split <;> first | omega | (simp; done))
   refine Tr.skip <| tQ <| tG <| sm 2 rfl <| nL <| Tr.ret <| ret_ok rfl ?_ no_post
   first | (simp_all [shOperand]; done) | (simp_all [shOperand]; split <;> first | omega | (simp; done))
  refine tG <| sm 2 rfl <| nL ?_
  refine tC rfl (fun hc7 => ?_) fun hc7 => ?_
  ·refine tQ <| tG <| sm 2 rfl <| nL <| Tr.ret <| ret_ok rfl ?_ no_post
   first | (simp_all [shOperand]; done) | (simp_all [shOperand]; split <;> first | omega | (simp; done))
  refine tQ <| tQ <| tG <| sm 2 rfl <| nL ?_
  refine tC rfl (fun hc10 => ?_) fun hc10 => ?_
  ·refine Tr.skip ?_
   refine tC rfl (fun hc10 => ?_) fun hc10 => ?_
   ·refine tQ <| tG <| sm 2 rfl <| nL <| Tr.ret <| ret_ok rfl ?_ no_post
    first | (simp_all [shOperand]; done) | (simp_all [shOperand]; split <;> first | omega | (simp; done))
   refine Tr.skip <| tQ <| tG <| sm 2 rfl <| nL <| Tr.ret <| ret_ok rfl ?_ no_post
   first | (simp_all [shOperand]; done) | (simp_all [shOperand]; split <;> first | omega | (simp; done))
  refine tQ <| tG <| sm 2 rfl <| nL ?_
  refine tC rfl (fun hc10 => ?_) fun hc10 => ?_
  ·refine Tr.skip ?_
   refine tC rfl (fun hc10 => ?_) fun hc10 => ?_
   ·refine tQ <| tG <| sm 2 rfl <| nL <| Tr.ret <| ret_ok rfl ?_ no_post
    first | (simp_all [shOperand]; done) | (simp_all [shOperand]; split <;> first | omega | (simp; done))
   refine Tr.skip <| tQ <| tG <| sm 2 rfl <| nL <| Tr.ret <| ret_ok rfl ?_ no_post
   first | (simp_all [shOperand]; done) | (simp_all [shOperand]; split <;> first | omega | (simp; done))
  refine tQ <| tG <| sm 2 rfl <| nL ?_
  refine tC rfl (fun hc10 => ?_) fun hc10 => ?_
  ·refine Tr.skip ?_
   refine tC rfl (fun hc10 => ?_) fun hc10 => ?_
   ·refine tQ <| tG <| sm 2 rfl <| nL <| Tr.ret <| ret_ok rfl ?_ no_post
    first | (simp_all [shOperand]; done) | (simp_all [shOperand]; split <;> first | omega | (simp; done))
   refine Tr.skip <| tQ <| tG <| sm 2 rfl <| nL <| Tr.ret <| ret_ok rfl ?_ no_post
   first | (simp_all [shOperand]; done) | (simp_all [shOperand]; split <;> first | omega | (simp; done))
  refine tG <| sm 2 rfl <| nL ?_
  refine tC rfl (fun hc10 => ?_) fun hc10 => ?_
  ·refine tQ <| tG <| sm 2 rfl <| nL <| Tr.ret <| ret_ok rfl ?_ no_post
   first | (simp_all [shOperand]; done) | (simp_all [shOperand]; split <;> first | omega | (simp; done))
  refine Tr.skip <| tQ <| tG <| sm 2 rfl <| nL <| Tr.ret <| ret_ok rfl ?_ no_post
  first | (simp_all [shOperand]; done) | (simp_all [shOperand]; split <;> first | omega | (simp; done))
theorem sc_shLeaves1 (x : Nd) (ih : ∀ q ∈ x.kids, SC Tryz.prog 112 [.pv (nodes q)] [] (fun _ => False) (iBool (r8Leaves q)) []) : SC Tryz.prog 133 [.pv (ndv x)] [] (fun _ => False) (iBool (r8LeavesN x)) [] := by
  refine SC.of Tryz.func133 rfl (lb rfl) fun F ρ w => ?_
  refine tQ <| tG <| cE rfl (ok_box rfl rfl) <| sm 1 rfl <| nL <| tQ <| tG <| sm 4 rfl ?_
  refine wS 6 rfl (fun hb6 => ?_) fun hb6 => ?_
  ·refine sm 4 rfl <| WL.noU rfl rfl rfl rfl rfl rfl <| WL.noU rfl rfl rfl rfl rfl rfl <| WL.noU rfl rfl rfl rfl rfl rfl <| sm 3 rfl <| nL <| Tr.ret <| ret_ok rfl ?_ no_post
   rw [r8LeavesN_eq, r8LeavesK_any]
   simp_all
  refine sm 4 rfl ?_
  refine wS 10 rfl (fun hb10 => ?_) fun hb10 => ?_
  ·refine sm 2 rfl <| WL.yes rfl rfl rfl rfl rfl rfl (ok_callq (sc_has_kid 112 [] [] rfl ent112 r8Leaves x.kids (fun q hq => (ih q hq).anyR)) ent134 rfl rfl (Subs.same rfl (Subs.cons (fun _ _ _ _ h => sub_func h) Subs.nil)) rfl) <| sm 3 rfl <| nL <| Tr.ret <| ret_ok rfl ?_ no_post
   rw [r8LeavesN_eq, r8LeavesK_any]
   simp_all
  refine sm 6 rfl <| nL <| Tr.ret <| ret_ok rfl ?_ no_post
  rw [r8LeavesN_eq, r8LeavesK_any]
  simp_all
theorem sc_shLeaves_aux (N : Nat) : ∀ (l : List Nd), SizeOf.sizeOf l < N → SC Tryz.prog 112 [.pv (nodes l)] [] (fun _ => False) (iBool (r8Leaves l)) [] := by
  induction N with
  | zero => intro l hN; exact absurd hN (Nat.not_lt_zero _)
  | succ N ih =>
    intro l hN
    refine SC.of Tryz.func112 rfl (lb rfl) fun F ρ w => ?_
    refine tQ <| tG <| sm 1 rfl <| nL <| tQ <| tG <| sm 1 rfl <| cE rfl (ok_callq (sc_has_node 133 [] [] rfl ent133 r8LeavesN l (fun x hm => (sc_shLeaves1 x (fun q hq => ih q (Nat.lt_of_lt_of_le (kid_lt hm rfl hq) (Nat.le_of_lt_succ hN)))).anyR)) ent132 rfl rfl (Subs.same rfl (Subs.cons (fun _ _ _ _ h => sub_func h) Subs.nil)) rfl) <| sm 1 rfl <| nL <| Tr.ret <| ret_ok rfl ?_ no_post
    rw [r8Leaves_any]
theorem sc_shLeaves (l : List Nd) : SC Tryz.prog 112 [.pv (nodes l)] [] (fun _ => False) (iBool (r8Leaves l)) [] := sc_shLeaves_aux _ l (Nat.lt_succ_self _)
theorem sc_shClosed (x : Nd) : SC Tryz.prog 80 [.pv (ndv x)] [] (fun _ => False) (iBool (r8Closed x)) [] := by
  refine SC.of Tryz.func80 rfl (lb rfl) fun F ρ w => ?_
  refine tQ <| tG <| cE rfl (ok_box rfl rfl) <| sm 1 rfl <| nL <| tQ <| Tr.block <| tQ <| tG <| sm 4 rfl ?_
  refine wS 7 rfl (fun hb7 => ?_) fun hb7 => ?_
  ·refine sm 2 rfl <| yV rfl rfl (oSm Tryz.underlying36 rfl) <| sm 3 rfl <| nL ?_
   refine tC rfl (fun hc3 => ?_) fun hc3 => ?_
   ·have hl : x.kids.length = 2 := by first | (simp_all; done) | (simp_all; omega)
    have h10 : x.kind = 10 := by simp_all
    have hi0 : (x.kids.map eKid)[0]? = some [nodes (kid0 x.kids)] := by rw [List.getElem?_map]; simp [kid0, eKid, hl]
    have hi1 : (x.kids.map eKid)[1]? = some [nodes (kid1 x.kids)] := by rw [List.getElem?_map]; simp [kid1, eKid, hl]
    refine tQ <| tG <| sm 2 rfl <| cV rfl (ok_index_seq rfl rfl rfl Tryz.underlying36 hi0 tS39 rfl (by rfl)) <| sm 1 rfl <| cE rfl (ocq (sc_shYields _) ent111 rfl rfl) <| sm 2 rfl ?_
    refine wS 19 rfl (fun hb19 => ?_) fun hb19 => ?_
    ·refine sm 2 rfl <| yV rfl rfl (ok_index_seq rfl rfl rfl Tryz.underlying36 hi1 tS39 rfl (by rfl)) <| sm 1 rfl <| WL.yes rfl rfl rfl rfl rfl rfl (ok_callq (sc_shYields _) ent111 rfl rfl (Subs.refl _ _) rfl) <| sm 3 rfl <| nL <| Tr.ret <| ret_ok rfl ?_ no_post
     simp_all [r8Closed, shYields_eq]
    refine sm 8 rfl <| nL <| Tr.ret <| ret_ok rfl ?_ no_post
    simp_all [r8Closed, shYields_eq]
   refine tQ <| tG <| sm 4 rfl ?_
   refine wS 31 rfl (fun hb31 => ?_) fun hb31 => ?_
   ·refine sm 2 rfl <| yV rfl rfl (oSm Tryz.underlying36 rfl) <| sm 3 rfl <| nL ?_
    refine tC rfl (fun hc27 => ?_) fun hc27 => ?_
    ·have hl : x.kids.length = 1 := by first | (simp_all; done) | (simp_all; omega)
     have h11 : x.kind = 11 := by simp_all
     have hi0 : (x.kids.map eKid)[0]? = some [nodes (kid0 x.kids)] := by rw [List.getElem?_map]; simp [kid0, eKid, hl]
     refine tQ <| tG <| sm 2 rfl <| cV rfl (ok_index_seq rfl rfl rfl Tryz.underlying36 hi0 tS39 rfl (by rfl)) <| sm 1 rfl <| cE rfl (ocq (sc_shLeaves _) ent112 rfl rfl) <| sm 2 rfl <| nL <| Tr.ret <| ret_ok rfl ?_ no_post
     simp_all [r8Closed, shYields_eq]
    refine Tr.skip <| tQ <| tG <| cV rfl (ok_load_ept_agg rfl rfl Tryz.underlying38 rfl tS38 (lb rfl)) <| cE rfl (ocq (sc_shEnds x) ent108 rfl rfl) <| sm 1 rfl <| nL <| Tr.ret <| ret_ok rfl ?_ no_post
    simp_all [r8Closed, shYields_eq]
   refine sm 6 rfl <| nL <| Tr.condF rfl <| Tr.skip <| tQ <| tG <| cV rfl (ok_load_ept_agg rfl rfl Tryz.underlying38 rfl tS38 (lb rfl)) <| cE rfl (ocq (sc_shEnds x) ent108 rfl rfl) <| sm 1 rfl <| nL <| Tr.ret <| ret_ok rfl ?_ no_post
   simp_all [r8Closed, shYields_eq]
  refine sm 6 rfl <| nL <| Tr.condF rfl <| tQ <| tG <| sm 4 rfl ?_
  refine wS 31 rfl (fun hb31 => ?_) fun hb31 => ?_
  ·refine sm 2 rfl <| yV rfl rfl (oSm Tryz.underlying36 rfl) <| sm 3 rfl <| nL ?_
   refine tC rfl (fun hc27 => ?_) fun hc27 => ?_
   ·have hl : x.kids.length = 1 := by first | (simp_all; done) | (simp_all; omega)
    have h11 : x.kind = 11 := by simp_all
    have hi0 : (x.kids.map eKid)[0]? = some [nodes (kid0 x.kids)] := by rw [List.getElem?_map]; simp [kid0, eKid, hl]
    refine tQ <| tG <| sm 2 rfl <| cV rfl (ok_index_seq rfl rfl rfl Tryz.underlying36 hi0 tS39 rfl (by rfl)) <| sm 1 rfl <| cE rfl (ocq (sc_shLeaves _) ent112 rfl rfl) <| sm 2 rfl <| nL <| Tr.ret <| ret_ok rfl ?_ no_post
    simp_all [r8Closed, shYields_eq]
   refine Tr.skip <| tQ <| tG <| cV rfl (ok_load_ept_agg rfl rfl Tryz.underlying38 rfl tS38 (lb rfl)) <| cE rfl (ocq (sc_shEnds x) ent108 rfl rfl) <| sm 1 rfl <| nL <| Tr.ret <| ret_ok rfl ?_ no_post
   simp_all [r8Closed, shYields_eq]
  refine sm 6 rfl <| nL <| Tr.condF rfl <| Tr.skip <| tQ <| tG <| cV rfl (ok_load_ept_agg rfl rfl Tryz.underlying38 rfl tS38 (lb rfl)) <| cE rfl (ocq (sc_shEnds x) ent108 rfl rfl) <| sm 1 rfl <| nL <| Tr.ret <| ret_ok rfl ?_ no_post
  simp_all [r8Closed, shYields_eq]
theorem sc_shPlace1 (x : Fl) (s : ByteArray) : SC Tryz.prog 77 [.pv (.agg x.enc), .pv (.ept [vStr s] 0)] [] (fun _ => False) (iBool (x.name.toList == s.toList)) [] := by
  refine SC.of Tryz.func77 rfl (lb rfl) fun F ρ w => ?_
  refine tQ <| tG <| cE rfl (ok_box rfl rfl) <| sm 1 rfl <| nL <| tQ <| tG <| sm 3 rfl <| cV rfl (ok_bin_str rfl rfl rfl rfl) <| sm 1 rfl <| nL <| Tr.ret <| ret_ok rfl ?_ no_post
  rfl
theorem sc_shPlace (u : Un) (s : ByteArray) : SC Tryz.prog 48 [.pv u.enc, iStr s] [] (fun _ => False) (iInt (r8Place s u.flows 0)) [] := by
  refine SC.of Tryz.func48 rfl (lb rfl) fun F ρ w => ?_
  refine tQ <| tG <| cE rfl (ok_box rfl rfl) <| cE rfl (ok_box1 rfl rfl rfl) <| sm 1 rfl <| nL <| tQ <| tG <| sm 2 rfl <| cV rfl (ok_makeFunc rfl rfl rfl) <| cE rfl (ocq (sc_idx_flow 77 [.pv (.ept [vStr s] 0)] [] rfl ent77 (fun f : Fl => f.name.toList == s.toList) u.flows (fun x hm => (sc_shPlace1 x s).anyR)) ent76 rfl rfl) <| sm 1 rfl ?_
  refine nL <| Tr.ret <| ret_ok rfl ?_ no_post
  rw [idxP_place]
theorem sc_shHas1 (x : Ar) (s : ByteArray) : SC Tryz.prog 148 [.pv (.agg x.enc), .pv (.ept [vStr s] 0)] [] (fun _ => False) (iBool (x.name.toList == s.toList)) [] := by
  refine SC.of Tryz.func148 rfl (lb rfl) fun F ρ w => ?_
  refine tQ <| tG <| cE rfl (ok_box rfl rfl) <| sm 1 rfl <| nL <| tQ <| tG <| sm 3 rfl <| cV rfl (ok_bin_str rfl rfl rfl rfl) <| sm 1 rfl <| nL <| Tr.ret <| ret_ok rfl ?_ no_post
  rfl
theorem sc_shHas (u : Un) (s : ByteArray) : SC Tryz.prog 131 [.pv u.enc, iStr s] [] (fun _ => False) (iBool (decide (r8Array s u.arrays 0 ≥ 0))) [] := by
  refine SC.of Tryz.func131 rfl (lb rfl) fun F ρ w => ?_
  refine tQ <| tG <| cE rfl (ok_box rfl rfl) <| cE rfl (ok_box1 rfl rfl rfl) <| sm 1 rfl <| nL <| tQ <| tG <| sm 2 rfl <| cV rfl (ok_makeFunc rfl rfl rfl) <| cE rfl (ocq (sc_has_arr 148 [.pv (.ept [vStr s] 0)] [] rfl ent148 (fun f : Ar => f.name.toList == s.toList) u.arrays (fun x hm => (sc_shHas1 x s).anyR)) ent147 rfl rfl) <| sm 1 rfl ?_
  refine nL <| Tr.ret <| ret_ok rfl ?_ no_post
  rw [r8Array_any _ _ _ (Int.le_refl 0)]
theorem sc_shVal (u : Un) (f : Fl) (st : List Int) (v t : Int) : SC Tryz.prog 141 [.ptr 3 0, iInt v, iInt t] (ckS u f 3 st) (fun _ => True) (iBool (shVal f.types v t)) (ckS u f 3 st) := by
  refine SC.of Tryz.func141 rfl (lb rfl) fun F ρ w => ?_
  refine tQ <| tG <| sm 1 rfl <| nL <| tQ <| tG <| sm 3 rfl ?_
  refine wS 9 rfl (fun hb9 => ?_) fun hb9 => ?_
  ·refine sm 2 rfl <| yV rfl rfl (ok_nilCheck rfl rfl rfl) <| sm 3 rfl <| yV rfl rfl (oSm Tryz.underlying35 rfl) <| sm 3 rfl ?_
   refine wS 19 rfl (fun hb19 => ?_) fun hb19 => ?_
   ·refine sm 3 rfl ?_
    refine wS 22 rfl (fun hb22 => ?_) fun hb22 => ?_
    ·refine sm 13 rfl <| nL <| Tr.ret <| ret_ok rfl ?_ (fun _ _ h => h)
     refine congrArg (fun b => iBool b) ?_
     try clear hvx
     simp_all [shVal]
    have hv0 : v.toNat < f.types.length := by simp at hb9 hb19; omega
    have hvx : v = ((v.toNat : Nat) : Int) := by simp at hb9; omega
    have hty : (f.types.map eInt)[v.toNat]? = some [vInt (f.types.getD v.toNat 0)] := by rw [List.getElem?_map]; simp [eInt, List.getD, hv0]
    refine sm 1 rfl <| yV rfl rfl (ok_nilCheck rfl rfl rfl) <| sm 4 rfl <| yV rfl rfl (ok_index_seq rfl rfl rfl Tryz.underlying35 hty tS3 rfl (by omega)) <| sm 6 rfl <| nL <| Tr.ret <| ret_ok rfl ?_ (fun _ _ h => h)
    refine congrArg (fun b => iBool b) ?_
    try clear hvx
    simp_all [shVal]
   refine sm 3 rfl <| WL.noU rfl rfl rfl rfl rfl rfl <| WL.noU rfl rfl rfl rfl rfl rfl <| WL.noU rfl rfl rfl rfl rfl rfl <| WL.noU rfl rfl rfl rfl rfl rfl <| WL.noU rfl rfl rfl rfl rfl rfl <| WL.noU rfl rfl rfl rfl rfl rfl <| WL.noU rfl rfl rfl rfl rfl rfl <| WL.noU rfl rfl rfl rfl rfl rfl <| WL.noU rfl rfl rfl rfl rfl rfl <| WL.noU rfl rfl rfl rfl rfl rfl <| sm 3 rfl ?_
   refine nL <| Tr.ret <| ret_ok rfl ?_ (fun _ _ h => h)
   refine congrArg (fun b => iBool b) ?_
   try clear hvx
   (simp_all [shVal] <;> omega)
  refine sm 13 rfl <| WL.noU rfl rfl rfl rfl rfl rfl <| WL.noU rfl rfl rfl rfl rfl rfl <| WL.noU rfl rfl rfl rfl rfl rfl <| WL.noU rfl rfl rfl rfl rfl rfl <| WL.noU rfl rfl rfl rfl rfl rfl <| WL.noU rfl rfl rfl rfl rfl rfl <| WL.noU rfl rfl rfl rfl rfl rfl <| WL.noU rfl rfl rfl rfl rfl rfl <| WL.noU rfl rfl rfl rfl rfl rfl <| WL.noU rfl rfl rfl rfl rfl rfl <| sm 3 rfl ?_
  refine nL <| Tr.ret <| ret_ok rfl ?_ (fun _ _ h => h)
  refine congrArg (fun b => iBool b) ?_
  try clear hvx
  (simp_all [shVal] <;> omega)
theorem sc_shUse1 (u : Un) (f : Fl) (st : List Int) (hs : st.length = f.types.length) (v t : Int) : SC Tryz.prog 143 [iInt v, iInt t, .ptr 5 0] (ckSp u f 3 5 st) (fun _ => True) (iBool (shUse f.types st v t).1) (ckSp u f 3 5 st) := by
  refine SC.of Tryz.func143 rfl (lb rfl) fun F ρ w => ?_
  refine tQ <| tG <| sm 1 rfl <| nL <| tQ <| tG <| sm 3 rfl <| cE rfl (ocr (sc_shVal u f st v t) ent141 rfl (po2 rfl rfl) rfl (fun k (h : _) => .inr trivial) rfl rfl) <| sm 1 rfl ?_
  refine wS 10 rfl (fun hb10 => ?_) fun hb10 => ?_
  ·have hrg : 0 ≤ v ∧ v < f.types.length := by
     have hvv : shVal f.types v t = true := by simpa using hb10
     simp only [shVal, Bool.and_eq_true, decide_eq_true_eq] at hvv
     exact ⟨hvv.1.1, hvv.1.2⟩
   have hv0 : v.toNat < f.types.length := by omega
   have hvx : v = ((v.toNat : Nat) : Int) := by omega
   have hst : (st.map eInt)[v.toNat]? = some [vInt (st.getD v.toNat 0)] := by rw [List.getElem?_map]; simp [eInt, List.getD, hs, hv0]
   have hstl : v.toNat < (st.map eInt).length := by simpa [hs] using hv0
   refine sm 1 rfl <| yV rfl rfl (ok_nilCheck rfl rfl rfl) <| sm 3 rfl <| yV rfl rfl (ok_index_row rfl rfl rfl rfl rfl Tryz.underlying35 tS3 (by assumption) (by omega)) <| yV rfl rfl (ok_load_row rfl rfl rfl rfl (Nat.add_zero _).symm (by assumption) rfl Tryz.underlying3 rfl trivial) <| sm 3 rfl <| nL <| Tr.ret <| ret_ok rfl ?_ (post_ok (And.intro rfl (And.intro rfl (And.intro rfl (trivial)))))
   refine congrArg (fun b => iBool b) ?_
   try clear hvx
   simp_all [shUse]
  refine sm 10 rfl <| nL <| Tr.ret <| ret_ok rfl ?_ (post_ok (And.intro rfl (And.intro rfl (And.intro rfl (trivial)))))
  refine congrArg (fun b => iBool b) ?_
  try clear hvx
  simp_all [shUse]
theorem sc_shUses (u : Un) (f : Fl) (st : List Int) (hs : st.length = f.types.length) (l want : List Int) : SC Tryz.prog 127 [.ptr 3 0, .pv (ints l), .pv (ints want)] (ckS u f 3 st) (fun _ => True) (iBool (shUses f.types st l want)) (ckS u f 3 st) := by
  refine SC.of Tryz.func127 rfl (lb rfl) fun F ρ w => ?_
  refine tQ <| tG <| cE rfl (ok_boxOwn1 (k := 5) rfl rfl ⟨_, rfl⟩ rfl rfl rfl rfl rfl) <| sm 1 rfl <| nL <| tQ <| tG <| sm 2 rfl <| cV rfl (ok_makeFunc rfl rfl rfl) <| cE rfl (ocr (sc_eqf 143 [.ptr 5 0] (List Int) (fun s => ckSp u f 3 5 s) [5, 3, 4] (fun _ => rfl) (fun _ => rfl) ent143 (shUse f.types) (fun _ => True) (fun s => s.length = f.types.length) (fun s x y h => h) (fun s x y h => sc_shUse1 u f s h x y) st hs l want) ent142 rfl (po3 rfl rfl rfl) rfl (fun k (h : _) => .inr trivial) rfl rfl) <| sm 1 rfl <| nL ?_
  refine Tr.ret ?_
  have h2 := shUses_snd f.types st l want
  rw [h2]
  exact ret_ok rfl rfl (po2 rfl rfl)
theorem sc_shSet1 (u : Un) (f : Fl) (st : List Int) (hs : st.length = f.types.length) (v t : Int) : SC Tryz.prog 144 [iInt v, iInt t, .ptr 5 0] (ckSp u f 3 5 st) (fun k => k = 3 ∨ k = 5) (iBool (shSet1 f.types st v t).1) (ckSp u f 3 5 (shSet1 f.types st v t).2) := by
  refine SC.of Tryz.func144 rfl (lb rfl) fun F ρ w => ?_
  refine tQ <| tG <| sm 1 rfl <| nL <| tQ <| tQ <| tG <| sm 3 rfl <| cE rfl (ocr (sc_shVal u f st v t) ent141 rfl (po2 rfl rfl) rfl (fun k (h : _) => .inr trivial) rfl rfl) <| sm 2 rfl ?_
  refine wS 11 rfl (fun hb11 => ?_) fun hb11 => ?_
  ·refine sm 9 rfl <| nL <| Tr.condT rfl <| tQ <| tG <| sm 1 rfl <| nL <| Tr.ret ?_
   have h2 : shSet1 f.types st v t = (false, st) := by
     try clear hvx
     simp_all [shSet1]
   rw [h2]
   exact ret_ok rfl rfl (po3 rfl rfl rfl)
  have hrg : 0 ≤ v ∧ v < f.types.length := by
    have hvv : shVal f.types v t = true := by simpa using hb11
    simp only [shVal, Bool.and_eq_true, decide_eq_true_eq] at hvv
    exact ⟨hvv.1.1, hvv.1.2⟩
  have hv0 : v.toNat < f.types.length := by omega
  have hvx : v = ((v.toNat : Nat) : Int) := by omega
  have hst : (st.map eInt)[v.toNat]? = some [vInt (st.getD v.toNat 0)] := by rw [List.getElem?_map]; simp [eInt, List.getD, hs, hv0]
  have hstl : v.toNat < (st.map eInt).length := by simpa [hs] using hv0
  refine sm 1 rfl <| yV rfl rfl (ok_nilCheck rfl rfl rfl) <| sm 3 rfl <| yV rfl rfl (ok_index_row rfl rfl rfl rfl rfl Tryz.underlying35 tS3 (by assumption) (by omega)) <| yV rfl rfl (ok_load_row rfl rfl rfl rfl (Nat.add_zero _).symm (by assumption) rfl Tryz.underlying3 rfl trivial) <| sm 2 rfl <| nL ?_
  refine tC rfl (fun hc20 => ?_) fun hc20 => ?_
  ·refine tQ <| tG <| sm 1 rfl <| nL <| Tr.ret ?_
   have h2 : shSet1 f.types st v t = (false, st) := by
     try clear hvx
     simp_all [shSet1]
   rw [h2]
   exact ret_ok rfl rfl (po3 rfl rfl rfl)
  refine Tr.skip <| tQ <| tG <| sm 1 rfl <| cV rfl (ok_nilCheck rfl rfl rfl) <| sm 3 rfl <| cV rfl (ok_index_row rfl rfl rfl rfl rfl Tryz.underlying35 tS3 (by assumption) (by omega)) <| c0 (ok_store_row rfl rfl rfl rfl rfl (Nat.add_zero _).symm (by assumption) (by simp) tS3 rfl (by simp)) <| nL <| tQ <| tG <| sm 1 rfl ?_
  refine nL <| Tr.ret ?_
  have h2 : shSet1 f.types st v t = (true, st.set v.toNat 1) := by
    try clear hvx
    simp_all [shSet1]
  rw [h2]
  exact ret_ok rfl rfl (post_ok (And.intro rfl (And.intro (set3 rfl) (And.intro (set4 rfl) trivial))))
theorem sc_shSets (u : Un) (f : Fl) (st : List Int) (hs : st.length = f.types.length) (l want : List Int) : SC Tryz.prog 129 [.ptr 3 0, .pv (ints l), .pv (ints want)] (ckS u f 3 st) (fun k => k = 3) (iBool (shSets f.types st l want).1) (ckS u f 3 (shSets f.types st l want).2) := by
  refine SC.of Tryz.func129 rfl (lb rfl) fun F ρ w => ?_
  refine tQ <| tG <| cE rfl (ok_boxOwn1 (k := 5) rfl rfl ⟨_, rfl⟩ rfl rfl rfl rfl rfl) <| sm 1 rfl <| nL <| tQ <| tG <| sm 2 rfl <| cV rfl (ok_makeFunc rfl rfl rfl) <| cE rfl (ocr (sc_eqf 144 [.ptr 5 0] (List Int) (fun s => ckSp u f 3 5 s) [5, 3, 4] (fun _ => rfl) (fun _ => rfl) ent144 (shSet1 f.types) (fun k => k = 3 ∨ k = 5) (fun s => s.length = f.types.length) (fun s x y h => (shSet1_length f.types s x y).trans h) (fun s x y h => sc_shSet1 u f s h x y) st hs l want) ent142 rfl (po3 rfl rfl rfl) rfl (fun k (h : _) => by (subst h; first | exact .inl rfl | exact .inr rfl | exact .inr (by decide))) rfl rfl) <| sm 1 rfl <| nL ?_
  refine Tr.ret <| ret_ok rfl ?_ (post_ok (And.intro rfl (And.intro rfl (trivial))))
  rfl
theorem sc_shAll (u : Un) (f : Fl) (st : List Int) (hs : st.length = f.types.length) (l : List Int) (hb : l.length ≤ 1073741824) : SC Tryz.prog 128 [.ptr 3 0, .pv (ints l)] (ckS u f 3 st) (fun k => k = 3) (iBool (shSets f.types st l (List.replicate l.length 0)).1) (ckS u f 3 (shSets f.types st l (List.replicate l.length 0)).2) := by
  refine SC.of Tryz.func128 rfl (lb rfl) fun F ρ w => ?_
  refine tQ <| tG <| sm 1 rfl <| nL <| tQ <| tG <| sm 3 rfl <| cV rfl (oSm Tryz.underlying35 rfl) <| cE rfl (ok_makeSlice (k := 109) (s := ⟨3, 1⟩) rfl rfl rfl Tryz.underlying35 tZ3 tC3 rfl (by decide) (by omega) (by omega) rfl rfl rfl rfl) <| cE rfl (ok_lend (fun k => k = 109) (sc_shSets u f st hs l (List.replicate l.length 0)) ent129 rfl rfl (Subs.refl _ _) (And.intro LendOf.same (And.intro LendOf.same (And.intro (LendOf.row rfl rfl (by (simp; done)) (by (simp only [List.map_replicate]; rfl))) (trivial)))) (fun k h => by subst h; rfl) (po2 rfl rfl) rfl (fun k (h : _) => .inr h) ⟨_, rfl⟩ (ckS_lend (shSets_length ..))) <| sm 1 rfl <| nL ?_
  refine Tr.ret <| ret_ok rfl ?_ (post_ok (And.intro rfl (And.intro rfl (trivial))))
  rfl
theorem sc_shHide (u : Un) (f : Fl) (st : List Int) (hs : st.length = f.types.length) (l : List Int) (hin : ∀ v ∈ l, 0 ≤ v ∧ v < f.types.length) : SC Tryz.prog 81 [.ptr 3 0, .pv (ints l)] (ckS u f 3 st) (fun k => k = 3) (.tup []) (ckS u f 3 (shHide st l)) := by
  refine SC.of Tryz.func81 rfl (lb rfl) fun F ρ w => ?_
  refine Tr.lenOf (t := 1) rfl (fun hl => ?_)
  simp only [List.length_map] at hl
  refine tQ <| tG <| sm 1 rfl <| cV rfl (oSm Tryz.underlying35 rfl) <| sm 1 rfl <| nL <| Tr.block <| Tr.sub (Sub.of (fr' := [(8, iInt 0), (7, iInt l.length), (6, .pv (ints l)), (0, .ptr 3 0)]) ⟨rfl, rfl, rfl, rfl, trivial⟩) ?_
  refine Tr.loop (fun fr σ m => ∃ (k : Nat) (s : List Int), (k ≤ l.length) ∧ (shHide st l = shHide s (l.drop k)) ∧ (s.length = f.types.length) ∧ fr = [(8, iInt k), (7, iInt l.length), (6, .pv (ints l)), (0, .ptr 3 0)] ∧ σ = look (up (ckS u f 3 s)) ∧ m = l.length - k) (n := l.length - 0) ?_ ?_
  ·exact ⟨0, st, Nat.zero_le _, rfl, hs, rfl, rfl, rfl⟩
  rintro fr σ m ⟨k, s, hI0, hI1, hI2, rfl, rfl, rfl⟩
  refine tQ <| tG <| sm 1 rfl <| nL <| tQ ?_
  refine tC rfl (fun hc9 => ?_) fun hc9 => ?_
  ·have hlt : k < l.length := by simpa using hc9
   have hd := List.drop_eq_getElem_cons hlt
   have hm := List.getElem_mem hlt
   have hi := map_get (f := eInt) (List.getElem?_eq_getElem hlt)
   generalize l[k] = x at hd hm hi
   obtain ⟨hx0, hx1⟩ := hin x hm
   have hv0 : x.toNat < f.types.length := by omega
   have hvx : x = ((x.toNat : Nat) : Int) := by omega
   have hst : (s.map eInt)[x.toNat]? = some [vInt (s.getD x.toNat 0)] := by rw [List.getElem?_map]; simp [eInt, List.getD, hI2, hv0]
   have hstl : x.toNat < (s.map eInt).length := by simpa [hI2] using hv0
   refine Tr.skip <| tQ <| Tr.block <| tQ <| tG <| cV rfl (ok_index_seq rfl rfl rfl Tryz.underlying35 hi tS3 rfl (by rfl)) <| sm 2 rfl <| nL <| tG <| sm 1 rfl <| cV rfl (ok_nilCheck rfl rfl rfl) <| sm 3 rfl ?_
   refine cV rfl (ok_index_row rfl rfl rfl rfl rfl Tryz.underlying35 tS3 (by assumption) (by omega)) <| c0 (ok_store_row rfl rfl rfl rfl rfl (Nat.add_zero _).symm (by assumption) (by simp) tS3 rfl (by simp)) <| nL <| tG <| cV rfl (oB rfl rfl (i64_add rfl (by omega))) <| sm 1 rfl <| nL ?_
   refine ⟨_, _, ?_, Sub.of (fr' := [(8, iInt (k + 1)), (7, iInt l.length), (6, .pv (ints l)), (0, .ptr 3 0)]) ⟨rfl, rfl, rfl, rfl, trivial⟩, (k + 1), (s.set x.toNat 2), ?_, ?_, ?_, rfl, (funext ckS_set), rfl⟩
   ·omega
   ·omega
   ·rw [hI1, hd]; rfl
   simpa using hI2
  refine Tr.exit ?_
  have hge : l.length ≤ k := by simpa using hc9
  have h2 : shHide st l = s := by rw [hI1, List.drop_eq_nil_of_le hge]; rfl
  rw [h2]
  exact end_ok rfl rfl (fun _ _ h => h)
theorem tZ165 : ((Tryz.prog.info? 165).bind (·.zero)) = some (.agg #[.string ⟨#[]⟩, .int .i64 0, .string ⟨#[]⟩, .int .i64 0, .string ⟨#[]⟩, .int .i64 0, .string ⟨#[]⟩, .int .i64 0, .string ⟨#[]⟩, .int .i64 0, .string ⟨#[]⟩, .int .i64 0, .string ⟨#[]⟩, .int .i64 0, .string ⟨#[]⟩, .int .i64 0, .string ⟨#[]⟩, .int .i64 0, .string ⟨#[]⟩, .int .i64 0, .string ⟨#[]⟩, .int .i64 0, .string ⟨#[]⟩, .int .i64 0, .string ⟨#[]⟩, .int .i64 0, .string ⟨#[]⟩, .int .i64 0, .string ⟨#[]⟩, .int .i64 0, .string ⟨#[]⟩, .int .i64 0, .string ⟨#[]⟩, .int .i64 0, .string ⟨#[]⟩, .int .i64 0, .string ⟨#[]⟩, .int .i64 0, .string ⟨#[]⟩, .int .i64 0, .string ⟨#[]⟩, .int .i64 0, .string ⟨#[]⟩, .int .i64 0, .string ⟨#[]⟩, .int .i64 0, .string ⟨#[]⟩, .int .i64 0, .string ⟨#[]⟩, .int .i64 0, .string ⟨#[]⟩, .int .i64 0, .string ⟨#[]⟩, .int .i64 0, .string ⟨#[]⟩, .int .i64 0, .string ⟨#[]⟩, .int .i64 0]) := by kernel_rfl
theorem tS165 : (Tryz.prog.info? 165).map (·.size) = some 58 := by kernel_rfl
theorem sc_rowOf (op : Int) : SC Tryz.prog 120 [iInt op] [] (fun _ => False) (.pv (.agg [vStr (wSign op), vInt (wLevel op)])) [] := by
  refine SC.ofC Tryz.func120 rfl (lb rfl) rfl fun F ρ w => ?_
  refine tQ ?_
  refine tG ?_
  refine cE rfl (ok_alloc (k := 102) rfl tZ154 rfl rfl rfl rfl) ?_
  refine nL ?_
  refine tQ ?_
  refine tG ?_
  refine cV rfl (ok_build_pure rfl rfl tZ154 tP154 rfl (firmB_ok rfl) rfl) ?_
  refine cV rfl (ok_build_pure rfl rfl tZ154 tP154 rfl (firmB_ok rfl) rfl) ?_
  refine cV rfl (ok_build_pure rfl rfl tZ154 tP154 rfl (firmB_ok rfl) rfl) ?_
  refine cV rfl (ok_build_pure rfl rfl tZ154 tP154 rfl (firmB_ok rfl) rfl) ?_
  refine cV rfl (ok_build_pure rfl rfl tZ154 tP154 rfl (firmB_ok rfl) rfl) ?_
  refine cV rfl (ok_build_pure rfl rfl tZ154 tP154 rfl (firmB_ok rfl) rfl) ?_
  refine cV rfl (ok_build_pure rfl rfl tZ154 tP154 rfl (firmB_ok rfl) rfl) ?_
  refine cV rfl (ok_build_pure rfl rfl tZ154 tP154 rfl (firmB_ok rfl) rfl) ?_
  refine cV rfl (ok_build_pure rfl rfl tZ154 tP154 rfl (firmB_ok rfl) rfl) ?_
  refine cV rfl (ok_build_pure rfl rfl tZ154 tP154 rfl (firmB_ok rfl) rfl) ?_
  refine cV rfl (ok_build_pure rfl rfl tZ154 tP154 rfl (firmB_ok rfl) rfl) ?_
  refine cV rfl (ok_build_pure rfl rfl tZ154 tP154 rfl (firmB_ok rfl) rfl) ?_
  refine cV rfl (ok_build_pure rfl rfl tZ154 tP154 rfl (firmB_ok rfl) rfl) ?_
  refine cV rfl (ok_build_pure rfl rfl tZ154 tP154 rfl (firmB_ok rfl) rfl) ?_
  refine cV rfl (ok_build_pure rfl rfl tZ154 tP154 rfl (firmB_ok rfl) rfl) ?_
  refine cV rfl (ok_build_pure rfl rfl tZ154 tP154 rfl (firmB_ok rfl) rfl) ?_
  refine cV rfl (ok_build_pure rfl rfl tZ154 tP154 rfl (firmB_ok rfl) rfl) ?_
  refine cV rfl (ok_build_pure rfl rfl tZ154 tP154 rfl (firmB_ok rfl) rfl) ?_
  refine cV rfl (ok_build_pure rfl rfl tZ154 tP154 rfl (firmB_ok rfl) rfl) ?_
  refine cV rfl (ok_build_pure rfl rfl tZ154 tP154 rfl (firmB_ok rfl) rfl) ?_
  refine cV rfl (ok_build_pure rfl rfl tZ154 tP154 rfl (firmB_ok rfl) rfl) ?_
  refine cV rfl (ok_build_pure rfl rfl tZ154 tP154 rfl (firmB_ok rfl) rfl) ?_
  refine cV rfl (ok_build_pure rfl rfl tZ154 tP154 rfl (firmB_ok rfl) rfl) ?_
  refine cV rfl (ok_build_pure rfl rfl tZ154 tP154 rfl (firmB_ok rfl) rfl) ?_
  refine cV rfl (ok_build_pure rfl rfl tZ154 tP154 rfl (firmB_ok rfl) rfl) ?_
  refine cV rfl (ok_build_pure rfl rfl tZ154 tP154 rfl (firmB_ok rfl) rfl) ?_
  refine cV rfl (ok_build_pure rfl rfl tZ154 tP154 rfl (firmB_ok rfl) rfl) ?_
  refine cV rfl (ok_build_pure rfl rfl tZ154 tP154 rfl (firmB_ok rfl) rfl) ?_
  refine cV rfl (ok_build_arr rfl rfl tZ165 Tryz.underlying165 tS154 rfl (firmB_ok rfl)) ?_
  refine cE rfl (ok_alloc (k := 103) rfl tZ165 rfl rfl rfl rfl) ?_
  refine c0 (ok_store_box_agg rfl rfl rfl rfl rfl ((fun h => h)) tS165 (firmL_ok rfl) (lb rfl)) ?_
  refine nL ?_
  refine tQ ?_
  refine tQ ?_
  refine tG ?_
  refine sm 3 rfl ?_
  refine wS 35 rfl (fun hb35 => ?_) fun hb35 => ?_
  ·refine sm 3 rfl ?_
   refine nL ?_
   refine Tr.condT rfl ?_
   refine tQ ?_
   refine tG ?_
   refine cV rfl (ok_build_pure rfl rfl tZ154 tP154 rfl (firmB_ok rfl) rfl) ?_
   refine c0 (ok_store_box_agg rfl rfl rfl rfl rfl ((fun h => h)) tS154 (firmL_ok rfl) (lb rfl)) ?_
   refine nL ?_
   refine Tr.ret ?_
   have hop : op < 0 ∨ op ≥ 29 := by
     simp_all
   refine retC_ok (.inl rfl) (fun _ _ ho => ok_load_box_pure ho rfl rfl Tryz.underlying154 rfl tS154 (lb rfl) rfl trivial) ?_ no_post
   rcases hop with h | h <;> simp [wSign, wLevel, h] <;> rfl
  refine sm 3 rfl ?_
  refine nL ?_
  refine tC rfl (fun hc38 => ?_) fun hc38 => ?_
  ·refine tQ ?_
   refine tG ?_
   refine cV rfl (ok_build_pure rfl rfl tZ154 tP154 rfl (firmB_ok rfl) rfl) ?_
   refine c0 (ok_store_box_agg rfl rfl rfl rfl rfl ((fun h => h)) tS154 (firmL_ok rfl) (lb rfl)) ?_
   refine nL ?_
   refine Tr.ret ?_
   have hop : op < 0 ∨ op ≥ 29 := by
     simp_all
   refine retC_ok (.inl rfl) (fun _ _ ho => ok_load_box_pure ho rfl rfl Tryz.underlying154 rfl tS154 (lb rfl) rfl trivial) ?_ no_post
   rcases hop with h | h <;> simp [wSign, wLevel, h] <;> rfl
  refine Tr.skip ?_
  refine tQ ?_
  have hop : 0 ≤ op ∧ op < 29 := by
    simp_all
  rcases below29 hop.1 hop.2 with rfl | rfl | rfl | rfl | rfl | rfl | rfl | rfl | rfl | rfl | rfl | rfl | rfl | rfl | rfl | rfl | rfl | rfl | rfl | rfl | rfl | rfl | rfl | rfl | rfl | rfl | rfl | rfl | rfl
  all_goals
    refine tG ?_
    refine sm 1 rfl ?_
    refine cV rfl (ok_index_box rfl rfl rfl rfl Tryz.underlying165 tS154 (by rfl) (by decide)) ?_
    refine cV rfl (ok_load_box_pure rfl rfl rfl Tryz.underlying154 rfl tS154 (lb rfl) rfl trivial) ?_
    refine c0 (ok_store_box_agg rfl rfl rfl rfl rfl ((fun h => h)) tS154 (firmL_ok rfl) (lb rfl)) ?_
    refine nL ?_
    refine Tr.ret <| retC_ok (.inl rfl) (fun _ _ ho => ok_load_box_pure ho rfl rfl Tryz.underlying154 rfl tS154 (lb rfl) rfl trivial) ?_ no_post
    rfl
theorem sc_wLevel (op : Int) : SC Tryz.prog 146 [iInt op] [] (fun _ => False) (iInt (wLevel op)) [] := by
  refine SC.of Tryz.func146 rfl (lb rfl) fun F ρ w => ?_
  refine tQ ?_
  refine tG ?_
  refine sm 1 rfl ?_
  refine nL ?_
  refine tQ ?_
  refine tG ?_
  refine sm 1 rfl ?_
  refine cE rfl (ocq (sc_rowOf op) ent120 rfl rfl) ?_
  refine cV rfl (ok_field_pure rfl rfl Tryz.underlying154 rfl Tryz.underlying3 rfl rfl) ?_
  refine sm 1 rfl ?_
  refine nL ?_
  refine Tr.ret <| ret_ok rfl ?_ no_post
  rfl
set_option maxRecDepth 20000
set_option maxHeartbeats 2000000
theorem bd_app (c0 : IV) (t s : ByteArray) : bdN c0 ((tEls t).length + s.size) (tEls t ++ tEls s) = bd c0 (t ++ s) := by
  unfold bd
  rw [← tEls_app, tEls_len, tEls_len, size_app]
def BdC (c0 : IV) : Prop := c0 = bTn ∨ c0 = bPt
theorem sc_WS {c0 : IV} (hc : BdC c0) {t s t' : ByteArray} (ht : t' = t ++ s) (hb : t'.size ≤ 70368744177664) :
    SC Tryz.prog 29 [.ptr 1001 0, .pv (.val (.string s))] (bd c0 t) (fun k => k ∈ []) (.tup [iInt s.size, .pv (.val .nilIface)]) (bd bPt t') := by
  subst ht
  rw [size_app] at hb
  have hb2 : (tEls t).length + s.size ≤ 140737488355328 := by rw [tEls_len]; omega
  rcases hc with rfl | rfl
  · have := sc_WriteString0 (tEls t).length (tEls t) rfl s hb2
    rw [bd_app] at this
    exact this
  · have := sc_WriteString (tEls t).length (tEls t) rfl s hb2
    rw [bd_app] at this
    exact this
theorem sc_WB {t t' : ByteArray} (ht : t' = t ++ tNl) (hb : t'.size ≤ 70368744177664) :
    SC Tryz.prog 31 [.ptr 1001 0, .pv (.val (.int .u8 10))] (bd bPt t) (fun k => k ∈ []) (.pv (.val .nilIface)) (bd bPt t') := by
  subst ht
  rw [size_app] at hb
  have e1 : tNl.size = 1 := rfl
  have := sc_WriteByte (tEls t).length (tEls t) rfl 10 (by rw [tEls_len]; omega)
  have e2 := bd_app bPt t tNl
  rw [← e2]
  exact this
def tTabs (d : Nat) : ByteArray := ⟨(Lib.repeatL [9] d).toArray⟩
theorem tTabs_succ (d : Nat) : tTabs (d + 1) = tTabs d ++ tTab := by
  unfold tTabs
  rw [Lib.repeatL_add, Lib.repeatL_one]
  apply ByteArray.ext
  simp [tTab]
def tCat : List ByteArray → ByteArray
  | [] => ⟨#[]⟩
  | x :: r => x ++ tCat r
theorem app_nil (t : ByteArray) : t ++ ⟨#[]⟩ = t := by
  apply ByteArray.ext
  simp
theorem nil_app (t : ByteArray) : (⟨#[]⟩ : ByteArray) ++ t = t := by
  apply ByteArray.ext
  simp
theorem tCat_snoc (x : ByteArray) : ∀ l : List ByteArray, tCat (l ++ [x]) = tCat l ++ x
  | [] => by simp only [List.nil_append, tCat, app_nil, nil_app]
  | y :: r => by simp only [List.cons_append, tCat, tCat_snoc x r, app_assoc]
theorem tCat_take (l : List ByteArray) (k : Nat) : (tCat (l.take k)).size ≤ (tCat l).size := by
  induction l generalizing k with
  | nil => simp
  | cons x r ih =>
    cases k with
    | zero => show 0 ≤ _; omega
    | succ k =>
      simp only [List.take_succ_cons, tCat, size_app]
      have := ih k
      omega
def tLine (d : Nat) (parts : List ByteArray) : ByteArray := tTabs d ++ tCat parts ++ tNl
def sEl (s : ByteArray) : List PV := [.val (.string s)]
theorem sc_line {c0 : IV} (hc : BdC c0) (d : Nat) (hd : d ≤ 256) (parts : List ByteArray) (hp : parts.length ≤ 1000) {t t' : ByteArray} (ht : t' = t ++ tLine d parts) (hb : t'.size ≤ 70368744177664) :
    SC Tryz.prog 15 [.ptr 1001 0, .pv (.val (.int .i64 d)), .pv (.seq (parts.map sEl))] (bd c0 t) (fun k => k ∈ []) (.tup []) (bd bPt t') := by
  subst ht
  simp only [tLine, size_app] at hb
  have e1 : tNl.size = 1 := rfl
  have hrep := sc_Repeat ⟨#[9]⟩ d (by omega) (by show 1 * d ≤ _; omega)
  have h0 := sc_WS hc (t := t) (s := tTabs d) rfl (by rw [size_app]; omega)
  refine SC.vc tb {} [] Tryz.func15 rfl rfl ?_
  refine ⟨[], hrep, sR, trivial, rfl, [], h0, sR, ⟨rfl, rfl, trivial⟩, rfl, ?_⟩
  refine ⟨Nat, fun k => [(16, iInt k)], fun k => bd bPt (t ++ tTabs d ++ tCat (parts.take k)), fun k => parts.length - k, fun k => k ≤ parts.length, [], 0, Nat.zero_le _, ⟨rfl, trivial⟩, ?_, ?_⟩
  · have e : t ++ tTabs d ++ tCat (parts.take 0) = t ++ tTabs d := by
      rw [List.take_zero]; exact app_nil _
    rw [e]
    exact ⟨rfl, rfl, trivial⟩
  · intro k hk
    refine bcase (fun h => ?_) fun h => ?_
    · have hlt := lt_of (f := sEl) rfl h
      obtain ⟨x, hx, htk, _, hm⟩ := at_lt hlt
      have hle := tCat_take parts (k + 1)
      have hw := sc_WS (.inr rfl) (t := t ++ tTabs d ++ tCat (parts.take k)) (s := x) (t' := t ++ tTabs d ++ tCat (parts.take (k + 1))) (by rw [htk, tCat_snoc]; simp only [app_assoc]) (by simp only [size_app]; omega)
      exact ⟨map_get (f := sEl) hx, rfl, [], hw, sR, ⟨rfl, rfl, trivial⟩, rfl, i64_add rfl (by omega), k + 1, step_lt hlt, hlt, ⟨rfl, trivial⟩, ⟨rfl, rfl, trivial⟩, rfl, rfl, rfl, rfl⟩
    · have hge := ge_of (f := sEl) rfl h
      rw [List.take_of_length_le hge]
      have hw := sc_WB (t := t ++ tTabs d ++ tCat parts) (t' := t ++ tLine d parts) (by simp only [tLine, app_assoc]) (by simp only [tLine, size_app]; omega)
      exact ⟨[], hw, sR, ⟨rfl, rfl, trivial⟩, rfl, sI, rfl, rfl, trivial⟩
theorem tLine_one (d : Nat) (s : ByteArray) : tLine d [s] = tTabs d ++ s ++ tNl := by
  simp only [tLine, tCat, app_nil]
theorem tBehind_cons (w : ByteArray) (a : Int) (r : List Int) : tBehind w (a :: r) = w ++ tSp ++ tVals (a :: r) := if_neg (List.cons_ne_nil a r)
theorem tVals_nil : tVals [] = ⟨#[]⟩ := rfl
theorem sc_word {c0 : IV} (hc : BdC c0) (d : Nat) (hd : d ≤ 256) (w : ByteArray) (l : List Int) (hw : w.size ≤ 1000) (hl : ∀ v ∈ l, N64 v) (hll : l.length ≤ 1073741824) {t t' : ByteArray} (ht : t' = t ++ tTabs d ++ tBehind w l ++ tNl) (hb : t'.size ≤ 70368744177664) :
    SC Tryz.prog 58 [.ptr 1001 0, .pv (.val (.int .i64 d)), .pv (.val (.string w)), .pv (ints l)] (bd c0 t) (fun k => k ∈ []) (.tup []) (bd bPt t') := by
  refine SC.vc tb {} [] Tryz.func58 rfl rfl ?_
  have hv := sc_showValues l hl hll
  cases l with
  | nil =>
    have h := sc_line hc d hd [w, tVals []] (by simp) (t := t) (t' := t') (by rw [ht]; simp only [tLine, tCat, tBehind, tVals_nil, app_nil, app_assoc]; rfl) hb
    exact ⟨[], hv, sR, trivial, rfl, [], h, sR, ⟨rfl, rfl, trivial⟩, rfl, sI, rfl, rfl, trivial⟩
  | cons a r =>
    have h := sc_line hc d hd [w ++ tSp, tVals (a :: r)] (by simp) (t := t) (t' := t') (by rw [ht, tBehind_cons]; simp only [tLine, tCat, app_nil, app_assoc]) hb
    exact bcase (fun _ => ⟨str_add (by show _ + 1 ≤ _; omega), [], hv, sR, trivial, rfl, [], h, sR, ⟨rfl, rfl, trivial⟩, rfl, sI, rfl, rfl, trivial⟩) fun hx => absurd hx (by simp)
theorem sc_wrapSign (op : Int) : SC Tryz.prog 94 [.pv (.val (.int .i64 op))] [] (fun k => k ∈ []) (.pv (.val (.string (wSign op)))) [] := by
  refine SC.vc tb {} [] Tryz.func94 rfl rfl ?_
  exact ⟨[], sc_rowOf op, sR, trivial, rfl, sI, trivial⟩
set_option maxRecDepth 20000
theorem ky {d : TypeDesc} {es : List (Value × PV)} (h : (es.all fun e => isKeyB d e.1) = true) : ∀ e ∈ es, isKeyB d e.1 = true := List.all_eq_true.1 h
set_option maxHeartbeats 2000000
attribute [local simp] r8bare r8op r8num r8name r8kn Nd.kind Nd.op Nd.n Nd.name Nd.kids Nd.params ba_toList in
theorem sc_shBare (x : Nd) : SC Tryz.prog 105 [.pv (ndv x)] [] (fun _ => False) (iBool (r8bare x)) [] := by
  refine SC.anyR (SC.vc tb {} [] Tryz.func105 rfl rfl ?_)
  obtain ⟨kind, op, n, name, args, outs, params, kids⟩ := x
  rcases (show kind = 3 ∨ kind = 4 ∨ kind = 1 ∨ kind = 2 ∨ kind = 5 ∨ kind = 6 ∨ kind = 7 ∨ kind = 11 ∨ kind = 10 ∨ (kind ≠ 1 ∧ kind ≠ 2 ∧ kind ≠ 3 ∧ kind ≠ 4 ∧ kind ≠ 5 ∧ kind ≠ 6 ∧ kind ≠ 7 ∧ kind ≠ 11 ∧ kind ≠ 10) by omega) with rfl | rfl | rfl | rfl | rfl | rfl | rfl | rfl | rfl | h
  · exact ⟨rfl, ky rfl, rfl, ky rfl, rfl, ky rfl, rfl, bcase (fun h3 => bcase (fun h2 => bcase (fun h1 => ⟨sE (congrArg iBool (by simp_all)), trivial⟩) fun h1 => ⟨sE (congrArg iBool (by simp_all)), trivial⟩) fun h2 => ⟨sE (congrArg iBool (by simp_all)), trivial⟩) fun h3 => ⟨sE (congrArg iBool (by simp_all)), trivial⟩⟩
  · exact ⟨rfl, ky rfl, rfl, ky rfl, rfl, ky rfl, rfl, bcase (fun h3 => bcase (fun h2 => bcase (fun h1 => ⟨sE (congrArg iBool (by simp_all)), trivial⟩) fun h1 => ⟨sE (congrArg iBool (by simp_all)), trivial⟩) fun h2 => ⟨sE (congrArg iBool (by simp_all)), trivial⟩) fun h3 => ⟨sE (congrArg iBool (by simp_all)), trivial⟩⟩
  · exact ⟨rfl, ky rfl, rfl, ky rfl, rfl, ky rfl, rfl, bcase (fun h3 => bcase (fun h2 => bcase (fun h1 => ⟨sE (congrArg iBool (by simp_all)), trivial⟩) fun h1 => ⟨sE (congrArg iBool (by simp_all)), trivial⟩) fun h2 => ⟨sE (congrArg iBool (by simp_all)), trivial⟩) fun h3 => ⟨sE (congrArg iBool (by simp_all)), trivial⟩⟩
  · exact ⟨rfl, ky rfl, rfl, ky rfl, rfl, ky rfl, rfl, bcase (fun h3 => bcase (fun h2 => bcase (fun h1 => ⟨sE (congrArg iBool (by simp_all)), trivial⟩) fun h1 => ⟨sE (congrArg iBool (by simp_all)), trivial⟩) fun h2 => ⟨sE (congrArg iBool (by simp_all)), trivial⟩) fun h3 => ⟨sE (congrArg iBool (by simp_all)), trivial⟩⟩
  · exact ⟨rfl, ky rfl, rfl, ky rfl, rfl, ky rfl, rfl, bcase (fun h4 => bcase (fun h3 => bcase (fun h2 => bcase (fun h1 => ⟨sE (congrArg iBool (by simp_all)), trivial⟩) fun h1 => ⟨sE (congrArg iBool (by simp_all)), trivial⟩) fun h2 => ⟨sE (congrArg iBool (by simp_all)), trivial⟩) fun h3 => ⟨sE (congrArg iBool (by simp_all)), trivial⟩) fun h4 => ⟨sE (congrArg iBool (by simp_all)), trivial⟩⟩
  · exact ⟨rfl, ky rfl, rfl, ky rfl, rfl, ky rfl, rfl, bcase (fun h4 => bcase (fun h3 => bcase (fun h2 => bcase (fun h1 => ⟨sE (congrArg iBool (by simp_all)), trivial⟩) fun h1 => ⟨sE (congrArg iBool (by simp_all)), trivial⟩) fun h2 => ⟨sE (congrArg iBool (by simp_all)), trivial⟩) fun h3 => ⟨sE (congrArg iBool (by simp_all)), trivial⟩) fun h4 => ⟨sE (congrArg iBool (by simp_all)), trivial⟩⟩
  · exact ⟨rfl, ky rfl, rfl, ky rfl, rfl, ky rfl, rfl, bcase (fun h4 => bcase (fun h3 => bcase (fun h2 => bcase (fun h1 => ⟨sE (congrArg iBool (by simp_all)), trivial⟩) fun h1 => ⟨sE (congrArg iBool (by simp_all)), trivial⟩) fun h2 => ⟨sE (congrArg iBool (by simp_all)), trivial⟩) fun h3 => ⟨sE (congrArg iBool (by simp_all)), trivial⟩) fun h4 => ⟨sE (congrArg iBool (by simp_all)), trivial⟩⟩
  · exact ⟨rfl, ky rfl, rfl, ky rfl, rfl, ky rfl, rfl, bcase (fun h3 => bcase (fun h2 => bcase (fun h1 => ⟨sE (congrArg iBool (by simp_all)), trivial⟩) fun h1 => ⟨sE (congrArg iBool (by simp_all)), trivial⟩) fun h2 => ⟨sE (congrArg iBool (by simp_all)), trivial⟩) fun h3 => ⟨sE (congrArg iBool (by simp_all)), trivial⟩⟩
  · exact ⟨rfl, ky rfl, rfl, ky rfl, rfl, ky rfl, rfl, bcase (fun h4 => bcase (fun h3 => bcase (fun h2 => bcase (fun h1 => ⟨sE (congrArg iBool (by simp_all)), trivial⟩) fun h1 => ⟨sE (congrArg iBool (by simp_all)), trivial⟩) fun h2 => ⟨sE (congrArg iBool (by simp_all)), trivial⟩) fun h3 => ⟨sE (congrArg iBool (by simp_all)), trivial⟩) fun h4 => ⟨sE (congrArg iBool (by simp_all)), trivial⟩⟩
  · obtain ⟨k1, k2, k3, k4, k5, k6, k7, k8, k9⟩ := h
    have no : ∀ {i : Int}, kind ≠ i → (kind == i) = true → False := fun h e => h (eq_of_beq e)
    exact ⟨rfl, ky rfl, rfl, ky rfl, VAsk.mk (p := vInt 0) (b := false) rfl (ky rfl) (by simp [Nd.kind, k8, k9, mput, keyB, mfind] <;> rfl) (bcase (fun h => (no k3 h).elim) fun _ => bcase (fun h => (no k4 h).elim) fun _ => bcase (fun h => (no k1 h).elim) fun _ => bcase (fun h => (no k2 h).elim) fun _ => bcase (fun h => (no k5 h).elim) fun _ => bcase (fun h => (no k6 h).elim) fun _ => bcase (fun h => (no k7 h).elim) fun _ => bcase (fun h => (no k8 h).elim) fun _ => bcase (fun h4 => bcase (fun h3 => bcase (fun h2 => bcase (fun h1 => ⟨sE (congrArg iBool (by simp_all)), trivial⟩) fun h1 => ⟨sE (congrArg iBool (by simp_all)), trivial⟩) fun h2 => ⟨sE (congrArg iBool (by simp_all)), trivial⟩) fun h3 => ⟨sE (congrArg iBool (by simp_all)), trivial⟩) fun h4 => ⟨sE (congrArg iBool (by simp_all)), trivial⟩)⟩
set_option maxRecDepth 20000
set_option maxHeartbeats 4000000
theorem sc_showRight (x : Nd) (h : NdOk x) : SC Tryz.prog 60 [.pv (ndv x)] [] (fun k => k ∈ []) (.pv (.val (.string (tRight x)))) [] := by
  refine SC.vc tb { pb := [101] } [] Tryz.func60 rfl rfl ?_
  obtain ⟨hn, ha, hl, hnm, k3, k4, k5, hop⟩ := h
  obtain ⟨kind, op, n, name, args, outs, params, kids⟩ := x
  simp only [Nd.kind, Nd.op, Nd.n, Nd.name, Nd.args] at hn ha hl hnm k3 k4 k5 hop
  have htx := sc_texts args ha hl
  refine ⟨[], htx, sR, trivial, rfl, ?_⟩
  rcases (show kind = 1 ∨ kind = 2 ∨ kind = 3 ∨ kind = 4 ∨ kind = 5 ∨ kind = 7 ∨ (kind ≠ 1 ∧ kind ≠ 2 ∧ kind ≠ 3 ∧ kind ≠ 4 ∧ kind ≠ 5 ∧ kind ≠ 7) by omega) with rfl | rfl | rfl | rfl | rfl | rfl | hk
  · exact ⟨[], sc_Itoa n hn, sR, trivial, rfl, sI, trivial⟩
  · exact ⟨[], sc_FormatBool (n == 1), sR, trivial, rfl, sI, trivial⟩
  · obtain ⟨a, rfl⟩ := k3 rfl
    have hs := wSign_le op
    have hv := tVal_le (ha a (.head _))
    exact ⟨[], sc_wrapSign op, sR, trivial, rfl, str_add (by show _ + 1 ≤ _; omega), at0 (a := tEl a), rfl, str_add (by rw [size_app]; show _ + 1 + _ ≤ _; omega), sI, trivial⟩
  · obtain ⟨a, b, rfl⟩ := k4 rfl
    have hs := wSign_le op
    have hv := tVal_le (ha a (.head _))
    have hv2 := tVal_le (ha b (.tail _ (.head _)))
    exact ⟨at0 (a := tEl a), rfl, str_add (by show _ + 1 ≤ _; omega), [], sc_wrapSign op, sR, trivial, rfl, str_add (by rw [size_app]; show _ + 1 + _ ≤ _; omega), str_add (by rw [size_app, size_app]; show _ + 1 + _ + 1 ≤ _; omega), at1 (b := tEl b), rfl, str_add (by rw [size_app, size_app, size_app]; show _ + 1 + _ + 1 + _ ≤ _; omega), sI, trivial⟩
  · obtain ⟨a, rfl⟩ := k5 rfl
    have hv := tVal_le (ha a (.head _))
    exact ⟨str_add (by show name.size + 1 ≤ _; omega), at0 (a := tEl a), rfl, str_add (by rw [size_app]; show name.size + 1 + _ ≤ _; omega), str_add (by rw [size_app, size_app]; show name.size + 1 + _ + 1 ≤ _; omega), sI, trivial⟩
  · have hv := tVals_le ha
    exact ⟨str_add (by show name.size + 1 ≤ _; omega), [], sc_showValues args ha hl, sR, trivial, rfl, str_add (by rw [size_app]; show name.size + 1 + _ ≤ _; omega), str_add (by rw [size_app, size_app]; show name.size + 1 + _ + 1 ≤ _; omega), sI, trivial⟩
  · obtain ⟨h1, h2, h3, h4, h5, h6⟩ := hk
    have no : ∀ {i : Int}, kind ≠ i → (kind == i) = true → False := fun h e => h (eq_of_beq e)
    exact bcase (fun h => (no h1 h).elim) fun _ => bcase (fun h => (no h2 h).elim) fun _ => bcase (fun h => (no h3 h).elim) fun _ => bcase (fun h => (no h4 h).elim) fun _ => bcase (fun h => (no h5 h).elim) fun _ => bcase (fun h => (no h6 h).elim) fun _ => ⟨sE (by simp [tRight, Nd.kind, h1, h2, h3, h4, h5, h6]), trivial⟩
theorem tVals_one (a : Int) : tVals [a] = tVal a := by
  unfold tVals tJoin
  simp only [List.map_cons, List.map_nil, Lib.join_one]
theorem tBehind_one (w : ByteArray) (a : Int) : tBehind w [a] = w ++ tSp ++ tVal a := by rw [tBehind_cons, tVals_one]
def tLoop : ByteArray := ⟨#[108, 111, 111, 112]⟩
def tElse : ByteArray := ⟨#[101, 108, 115, 101]⟩
def tIf : ByteArray := ⟨#[105, 102]⟩
theorem tElse_nl : (⟨#[101, 108, 115, 101, 10]⟩ : ByteArray) = tElse ++ tNl := rfl
theorem tIf_sp : (⟨#[105, 102, 32]⟩ : ByteArray) = tIf ++ tSp := rfl
theorem tPair_snoc (a b : List Int) (k : Nat) (p v : Int) (hp : a[k]? = some p) (hv : b[k]? = some v) : (tPairL a b).take (k + 1) = (tPairL a b).take k ++ [tPair p v] := by
  have h : (tPairL a b)[k]? = some (tPair p v) := by simp [tPairL, List.getElem?_zipWith, hp, hv]
  rw [List.take_add_one, h]
  rfl
theorem sc_showNode (d dep : Nat) (hd : d + dep ≤ 250) (x : Nd) (hx : NdOk x) (hok : pOkN x) (h64 : ok64N dep x) (hw : wtN x ≤ 536870912) {t t' : ByteArray} (ht : t' = t ++ tTabs d ++ tNd (tTabs d) x ++ tNl) (hb : t'.size ≤ 70368744177664)
    (ih : ∀ l, l ∈ x.kids → ∀ {t t' : ByteArray}, t' = t ++ tLs (tTabs (d + 1)) l → t'.size ≤ 70368744177664 → SC Tryz.prog 18 [.ptr 1001 0, .pv (nodes l), .pv (.val (.int .i64 (d + 1 : Nat)))] (bd bPt t) (fun k => k ∈ []) (.tup []) (bd bPt t')) :
    SC Tryz.prog 35 [.ptr 1001 0, .pv (ndv x), .pv (.val (.int .i64 d))] (bd bPt t) (fun k => k ∈ []) (.tup []) (bd bPt t') := by
  refine SC.vc tb { pb := [104], gh := [(16, [.grow 9 109 9 1]), (21, [.fz 9 109])] } [] Tryz.func35 rfl rfl ?_
  obtain ⟨kind, op, n, name, args, outs, params, ks⟩ := x
  have hro := hx
  simp only [pOkN] at hok
  simp only [ok64N] at h64
  simp only [wtN] at hw
  obtain ⟨hd1, hn6, ha, ho, hp, hk6⟩ := h64
  obtain ⟨c1, c2, c3, c4, c5, c6, c7, c8⟩ := hok
  rcases (show kind = 6 ∨ kind = 9 ∨ kind = 15 ∨ kind = 12 ∨ kind = 13 ∨ kind = 14 ∨ kind = 10 ∨ kind = 11 ∨ (kind ≤ 5 ∨ kind = 7 ∨ kind = 8) by omega) with rfl | rfl | rfl | rfl | rfl | rfl | rfl | rfl | hkd
  · obtain ⟨a, b, rfl⟩ := c1 (.inl rfl)
    have h := sc_line (.inr rfl) d (by omega) [name, ⟨#[91]⟩, tVal a, ⟨#[93, 32, 61, 32]⟩, tVal b] (by simp) (t := t) (t' := t') (by rw [ht]; simp [tNd, tLine, tCat, app_assoc, app_nil]) hb
    exact ⟨rfl, ky rfl, rfl, ky rfl, rfl, ky rfl, rfl, ky rfl, rfl, ky rfl, rfl, ky rfl, rfl, at0 (a := eInt a), rfl, [], sc_showValue a (ha a (.head _)), sR, trivial, rfl, at1 (b := eInt b), rfl, [], sc_showValue b (ha b (.tail _ (.head _))), sR, trivial, rfl, [], h, sR, ⟨rfl, rfl, trivial⟩, rfl, sI, rfl, rfl, trivial⟩
  · obtain ⟨a, rfl⟩ := c2 (.inl rfl)
    have h := sc_word (.inr rfl) d (by omega) ⟨#[112, 114, 105, 110, 116]⟩ [a] (by decide) ha (by simp) (t := t) (t' := t') (by rw [ht, tBehind_one]; simp [tNd]; rfl) hb
    exact ⟨rfl, ky rfl, rfl, ky rfl, rfl, ky rfl, rfl, ky rfl, rfl, ky rfl, rfl, ky rfl, rfl, [], h, sR, ⟨rfl, rfl, trivial⟩, rfl, sI, rfl, rfl, trivial⟩
  · obtain ⟨a, rfl⟩ := c2 (.inr (.inl rfl))
    have h := sc_word (.inr rfl) d (by omega) ⟨#[114, 101, 116, 117, 114, 110]⟩ [a] (by decide) ha (by simp) (t := t) (t' := t') (by rw [ht, tBehind_one]; simp [tNd]; rfl) hb
    exact ⟨rfl, ky rfl, rfl, ky rfl, rfl, ky rfl, rfl, ky rfl, rfl, ky rfl, rfl, ky rfl, rfl, [], h, sR, ⟨rfl, rfl, trivial⟩, rfl, sI, rfl, rfl, trivial⟩
  · have h := sc_word (.inr rfl) d (by omega) ⟨#[121, 105, 101, 108, 100]⟩ args (by decide) ha (by omega) (t := t) (t' := t') (by rw [ht]; simp [tNd]) hb
    exact ⟨rfl, ky rfl, rfl, ky rfl, rfl, ky rfl, rfl, ky rfl, rfl, ky rfl, rfl, ky rfl, rfl, [], h, sR, ⟨rfl, rfl, trivial⟩, rfl, sI, rfl, rfl, trivial⟩
  · have h := sc_word (.inr rfl) d (by omega) ⟨#[110, 101, 120, 116]⟩ args (by decide) ha (by omega) (t := t) (t' := t') (by rw [ht]; simp [tNd]) hb
    exact ⟨rfl, ky rfl, rfl, ky rfl, rfl, ky rfl, rfl, ky rfl, rfl, ky rfl, rfl, ky rfl, rfl, [], h, sR, ⟨rfl, rfl, trivial⟩, rfl, sI, rfl, rfl, trivial⟩
  · have h := sc_word (.inr rfl) d (by omega) ⟨#[108, 101, 97, 118, 101]⟩ args (by decide) ha (by omega) (t := t) (t' := t') (by rw [ht]; simp [tNd]) hb
    exact ⟨rfl, ky rfl, rfl, ky rfl, rfl, ky rfl, rfl, ky rfl, rfl, ky rfl, rfl, ky rfl, rfl, [], h, sR, ⟨rfl, rfl, trivial⟩, rfl, sI, rfl, rfl, trivial⟩
  · obtain ⟨a, rfl⟩ := c2 (.inr (.inr (.inl rfl)))
    obtain ⟨p, q, rfl⟩ := c3 rfl
    have e : t' = t ++ tTabs d ++ tBehind tIf [a] ++ tNl ++ tLs (tTabs (d + 1)) p ++ tLine d [tElse] ++ tLs (tTabs (d + 1)) q ++ tTabs d ++ tBehind tEnd outs ++ tNl := by
      rw [ht, tBehind_one, tLine_one]
      simp [tNd, tKs, tElse_nl, tIf_sp, app_assoc, tTabs_succ]
    have hb2 := hb
    rw [e] at hb2
    simp only [size_app] at hb2
    have h1 := sc_word (.inr rfl) d (by omega) tIf [a] (by decide) ha (by simp) (t := t) rfl (by simp only [size_app]; omega)
    have h2 := ih p (.head _) (t := t ++ tTabs d ++ tBehind tIf [a] ++ tNl) rfl (by simp only [size_app]; omega)
    have h3 := sc_line (.inr rfl) d (by omega) [tElse] (by simp) (t := t ++ tTabs d ++ tBehind tIf [a] ++ tNl ++ tLs (tTabs (d + 1)) p) rfl (by simp only [size_app]; omega)
    have h4 := ih q (.tail _ (.head _)) (t := t ++ tTabs d ++ tBehind tIf [a] ++ tNl ++ tLs (tTabs (d + 1)) p ++ tLine d [tElse]) rfl (by simp only [size_app]; omega)
    have h5 := sc_word (.inr rfl) d (by omega) tEnd outs (by decide) ho (by omega) (t := t ++ tTabs d ++ tBehind tIf [a] ++ tNl ++ tLs (tTabs (d + 1)) p ++ tLine d [tElse] ++ tLs (tTabs (d + 1)) q) e hb
    exact ⟨rfl, ky rfl, rfl, ky rfl, rfl, ky rfl, rfl, ky rfl, rfl, ky rfl, rfl, ky rfl, rfl, [], h1, sR, ⟨rfl, rfl, trivial⟩, rfl, at0 (a := eKid p), rfl, i64_add rfl (by omega), [], h2, sR, ⟨rfl, rfl, trivial⟩, rfl, [], h3, sR, ⟨rfl, rfl, trivial⟩, rfl,
      at1 (b := eKid q), rfl, i64_add rfl (by omega), [], h4, sR, ⟨rfl, rfl, trivial⟩, rfl, [], h5, sR, ⟨rfl, rfl, trivial⟩, rfl, sI, rfl, rfl, trivial⟩
  · obtain ⟨⟨p, rfl⟩, hpa⟩ := c4 rfl
    have e : t' = t ++ tLine d [tLoop, tPairs params args] ++ tLs (tTabs (d + 1)) p ++ tTabs d ++ tBehind tEnd outs ++ tNl := by
      rw [ht]
      simp [tNd, tKs, tLine, tCat, app_assoc, app_nil, tTabs_succ, tLoop]
    have hb2 := hb
    rw [e] at hb2
    simp only [size_app] at hb2
    have h1 := sc_line (.inr rfl) d (by omega) [tLoop, tPairs params args] (by simp) (t := t) rfl (by simp only [size_app]; omega)
    have h2 := ih p (.head _) (t := t ++ tLine d [tLoop, tPairs params args]) rfl (by simp only [size_app]; omega)
    have h5 := sc_word (.inr rfl) d (by omega) tEnd outs (by decide) ho (by omega) (t := t ++ tLine d [tLoop, tPairs params args] ++ tLs (tTabs (d + 1)) p) e hb
    have hL : (tPairL params args).length = params.length := by simp [tPairL, hpa]
    have hle : ∀ w ∈ tPairL params args, w.size ≤ 48 := fun w hw => by
      obtain ⟨i, hi⟩ := List.mem_iff_getElem?.1 hw
      unfold tPairL at hi
      rw [List.getElem?_zipWith] at hi
      cases h1 : params[i]? with
      | none => rw [h1] at hi; cases h2 : args[i]? <;> rw [h2] at hi <;> cases hi
      | some p =>
        cases h2 : args[i]? with
        | none => rw [h1, h2] at hi; cases hi
        | some q =>
          rw [h1, h2] at hi
          cases hi
          exact tPair_le (hp p (List.mem_of_getElem? h1)) (ha q (List.mem_of_getElem? h2))
    have hj := sc_Join (tPairL params args) tCm (by omega) (by
      have := tJoin_le hle tCm
      have e1 : tCm.size = 1 := rfl
      have e2 : (tJoin (tPairL params args) tCm).size = (Lib.join ((tPairL params args).map (·.data.toList)) tCm.data.toList).length := by unfold tJoin; exact List.size_toArray
      rw [e1] at this
      omega)
    refine ⟨rfl, ky rfl, rfl, ky rfl, rfl, ky rfl, rfl, ky rfl, rfl, ky rfl, rfl, ky rfl, rfl, ?_⟩
    refine ⟨Nat, fun k => [(101, iInt k), (9, .sl 109 (((tPairL params args).take k).map sEl).length)], fun k => [(109, .row ⟨9, 1⟩ (((tPairL params args).take k).map sEl))], fun k => params.length - k, fun k => k ≤ params.length, [], 0, Nat.zero_le _, ⟨rfl, rfl, trivial⟩, ⟨rfl, trivial⟩, ?_⟩
    intro k hk
    refine bcase (fun h => ?_) fun h => ?_
    · have hlt : k < params.length := lt_of (f := eInt) rfl h
      obtain ⟨x, hx, _, _, hm⟩ := at_lt hlt
      have hka : k < args.length := hpa ▸ hlt
      have hv : args[k]? = some (args[k]'hka) := List.getElem?_eq_getElem hka
      have hvm := List.mem_of_getElem? hv
      generalize args[k]'hka = v at hv hvm
      have hs := tPair_snoc params args k x v hx hv
      have vx := tVal_le (hp x hm)
      have vv := tVal_le (ha v hvm)
      exact ⟨map_get (f := eInt) hx, rfl, [], sc_showValue x (hp x hm), sR, trivial, rfl, str_add (by show 1 + _ ≤ _; omega), str_add (by rw [size_app]; show 1 + _ + 3 ≤ _; omega), map_get (f := eInt) hv, rfl, [], sc_showValue v (ha v hvm), sR, trivial, rfl, str_add (by rw [size_app, size_app]; show 1 + _ + 3 + _ ≤ _; omega), rfl, flat1 rfl, by simp; omega, i64_add rfl (by omega), k + 1, step_lt hlt, hlt, ⟨rfl, slq (by rw [hs]; simp), trivial⟩, ⟨rwq (by rw [hs, List.map_append]; rfl), trivial⟩, rfl, rfl, rfl, rfl⟩
    · have hge : params.length ≤ k := ge_of (f := eInt) rfl h
      rw [List.take_of_length_le (by omega)]
      exact ⟨rfl, [], hj, sR, trivial, rfl, [], h1, sR, ⟨rfl, rfl, trivial⟩, rfl, at0 (a := eKid p), rfl, i64_add rfl (by omega), [], h2, sR, ⟨rfl, rfl, trivial⟩, rfl, [], h5, sR, ⟨rfl, rfl, trivial⟩, rfl, sI, rfl, rfl, trivial⟩
  · obtain ⟨o, rfl⟩ := c5 hkd
    have no : ∀ {i : Int}, kind ≠ i → (kind == i) = true → False := fun h e => h (eq_of_beq e)
    have hS := sc_showRight _ hro
    have e : tNd (tTabs d) (.mk kind op n name args [o] params ks) = tVal o ++ tEq ++ tRight (.mk kind op n name args [o] params ks) := by
      unfold tNd
      rw [if_neg (by omega), if_neg (by omega), if_neg (by omega), if_neg (by omega), if_neg (by omega), if_neg (by omega), if_neg (by omega), if_neg (by omega)]
      simp
    rw [e] at ht
    generalize tRight (.mk kind op n name args [o] params ks) = Rt at *
    have h := sc_line (.inr rfl) d (by omega) [tVal o, tEq, Rt] (by simp) (t := t) (t' := t') (by rw [ht]; simp [tLine, tCat, app_assoc, app_nil]) hb
    have hm : mfind (.int .i64 kind) [(.int .i64 9, .val (.string ⟨#[112, 114, 105, 110, 116]⟩)), (.int .i64 15, .val (.string ⟨#[114, 101, 116, 117, 114, 110]⟩)), (.int .i64 12, .val (.string ⟨#[121, 105, 101, 108, 100]⟩)), (.int .i64 13, .val (.string ⟨#[110, 101, 120, 116]⟩)), (.int .i64 14, .val (.string ⟨#[108, 101, 97, 118, 101]⟩))] = none := by
      simp only [mfind, keyB, beq_false_of_ne (show kind ≠ 9 by omega), beq_false_of_ne (show kind ≠ 15 by omega), beq_false_of_ne (show kind ≠ 12 by omega), beq_false_of_ne (show kind ≠ 13 by omega), beq_false_of_ne (show kind ≠ 14 by omega)]
      rfl
    refine ⟨rfl, ky rfl, rfl, ky rfl, rfl, ky rfl, rfl, ky rfl, rfl, ky rfl, VAsk.mk (p := .val (.string ⟨#[]⟩)) (b := false) rfl (ky rfl) (congrArg (fun m : Option PV => (m.getD (PV.val (.string ⟨#[]⟩)), m.isSome)) hm) ?_⟩
    exact bcase (fun h => (no (by omega) h).elim) fun _ => bcase (fun h => (no (by omega) h).elim) fun _ => bcase (fun h => (no (by omega) h).elim) fun _ =>
      ⟨at0 (a := eInt o), rfl, [], sc_showValue o (ho o (.head _)), sR, trivial, rfl, [], hS, sR, trivial, rfl, [], h, sR, ⟨rfl, rfl, trivial⟩, rfl, sI, rfl, rfl, trivial⟩
theorem ndOk_of {dep : Nat} {x : Nd} (hxo : pOkN x) (hx6 : ok64N dep x) (hw : wtN x ≤ 536870912) : NdOk x := by
  obtain ⟨kind, op, n, name, args, outs, params, ks⟩ := x
  simp only [pOkN] at hxo
  simp only [ok64N] at hx6
  simp only [wtN] at hw
  obtain ⟨c1, c2, c3, c4, c5, c6, c7, c8⟩ := hxo
  exact ⟨hx6.2.1, hx6.2.2.1, by show args.length ≤ _; omega, by show name.size ≤ _; omega, fun h => c2 (.inr (.inr (.inr (.inl h)))), fun h => c1 (.inr h), fun h => c2 (.inr (.inr (.inr (.inr h)))), c6⟩
theorem pOkK_mem : ∀ {ks : List (List Nd)} {l : List Nd}, pOkK ks → l ∈ ks → pOkL l
  | a :: r, l, h, hl => by
    simp only [pOkK] at h
    rcases List.mem_cons.1 hl with rfl | hl
    · exact h.1
    · exact pOkK_mem h.2 hl
theorem ok64K_mem {d : Nat} : ∀ {ks : List (List Nd)} {l : List Nd}, ok64K d ks → l ∈ ks → ok64L d l
  | a :: r, l, h, hl => by
    simp only [ok64K] at h
    rcases List.mem_cons.1 hl with rfl | hl
    · exact h.1
    · exact ok64K_mem h.2 hl
theorem wtK_mem : ∀ {ks : List (List Nd)} {l : List Nd}, l ∈ ks → l.length + wtL l ≤ wtK ks
  | a :: r, l, hl => by
    simp only [wtK]
    rcases List.mem_cons.1 hl with rfl | hl
    · omega
    · have := wtK_mem hl; omega
theorem tLs_take (tabs : ByteArray) (l : List Nd) (k : Nat) : (tLs tabs (l.take k)).size ≤ (tLs tabs l).size := by
  have h : tLs tabs l = tLs tabs (l.take k) ++ tLs tabs (l.drop k) := by rw [← tLs_app, List.take_append_drop]
  rw [h, size_app]
  omega
theorem sc_showList : ∀ (N d dep : Nat) (l : List Nd), l.length + wtL l < N → d + dep ≤ 250 → pOkL l → ok64L dep l → l.length + wtL l ≤ 536870912 → ∀ {t t' : ByteArray}, t' = t ++ tLs (tTabs d) l → t'.size ≤ 70368744177664 →
    SC Tryz.prog 18 [.ptr 1001 0, .pv (nodes l), .pv (.val (.int .i64 d))] (bd bPt t) (fun k => k ∈ []) (.tup []) (bd bPt t')
  | 0, _, _, _, h, _, _, _, _, _, _, _, _ => by omega
  | N + 1, d, dep, l, hN, hd, hok, h64, hsz, t, t', ht, hb => by
    subst ht
    refine SC.vc tb {} [] Tryz.func18 rfl rfl ?_
    refine ⟨Nat, fun k => [(10, iInt k)], fun k => bd bPt (t ++ tLs (tTabs d) (l.take k)), fun k => l.length - k, fun k => k ≤ l.length, [], 0, Nat.zero_le _, ⟨rfl, trivial⟩, ?_, ?_⟩
    · have e : t ++ tLs (tTabs d) (l.take 0) = t := app_nil t
      rw [e]
      exact ⟨rfl, rfl, trivial⟩
    intro k hk
    refine bcase (fun hc => ?_) fun hc => ?_
    · have hlt : k < l.length := lt_of (f := Nd.enc) rfl hc
      obtain ⟨x, hx, hk1, _, hm⟩ := at_lt hlt
      have hxo := pOk_mem hok hm
      have hx6 := ok64_mem h64 hm
      have hw := wtL_in hm
      have hle := tLs_take (tTabs d) l (k + 1)
      rw [size_app] at hb
      have hn := sc_showNode d dep hd x (ndOk_of hxo hx6 (by omega)) hxo hx6 (by omega) (t := t ++ tLs (tTabs d) (l.take k)) (t' := t ++ tLs (tTabs d) (l.take (k + 1))) (by rw [hk1, tLs_snoc]; simp only [app_assoc]) (by rw [size_app]; omega) (fun q hq t t' e1 e2 => by
        obtain ⟨kind, op, n, name, args, outs, params, ks⟩ := x
        simp only [Nd.kids] at hq
        simp only [pOkN] at hxo
        simp only [ok64N] at hx6
        simp only [wtN] at hw
        have h5 := wtK_mem hq
        exact sc_showList N (d + 1) (dep - 1) q (by omega) (by omega) (pOkK_mem hxo.2.2.2.2.2.2.2 hq) (ok64K_mem hx6.2.2.2.2.2 hq) (by omega) e1 e2)
      exact ⟨nodes_get hx, rfl, [], hn, sR, ⟨rfl, rfl, trivial⟩, rfl, i64_add rfl (by omega), k + 1, step_lt hlt, hlt, ⟨rfl, trivial⟩, ⟨rfl, rfl, trivial⟩, rfl, rfl, rfl, rfl⟩
    · have hge : l.length ≤ k := ge_of (f := Nd.enc) rfl hc
      rw [List.take_of_length_le hge]
      exact ⟨sI, rfl, rfl, trivial⟩
termination_by N => N
def Oks (B : Int) (s : Rs) : Prop := 0 ≤ s.fuel ∧ 0 ≤ s.cost ∧ s.cost + s.fuel ≤ B
structure Ext (B : Int) (s t : Rs) : Prop where
  ok : Oks B t
  out : s.out <+: t.out
  ar : t.ar.length = s.ar.length
  fuel : t.fuel ≤ s.fuel
theorem use_in {tys seen : List Int} : ∀ {l want : List Int}, l.length = want.length → r8typesGo tys seen l want = true → inR tys.length l
  | [], _, _, _ => fun v hv => by simp at hv
  | _ :: _, [], h, _ => by simp at h
  | x :: r, w :: ws, h, hg => by
    simp only [r8typesGo, Bool.and_eq_true] at hg
    intro v hv
    rcases List.mem_cons.1 hv with rfl | hv
    ·obtain ⟨h1, h2⟩ := r8use_range hg.1
     exact ⟨h1, by omega⟩
    exact use_in (by simpa using h) hg.2 v hv
theorem types_ok {tys seen l want : List Int} (h : r8types tys seen l want = true) : l.length = want.length ∧ inR tys.length l := by
  simp only [r8types, Bool.and_eq_true, beq_iff_eq] at h
  have : l.length = want.length := by omega
  exact ⟨this, use_in this h.2⟩
theorem r8of_len {tys l : List Int} (h : inR tys.length l) : (r8of tys l).length = l.length := by
  unfold r8of
  have : l.all (r8inr tys) = true := List.all_eq_true.2 fun v hv => by
    have := h v hv
    simp only [r8inr, Bool.and_eq_true, decide_eq_true_eq]; omega
  rw [if_pos this, List.length_map]
structure Inv (n : Nat) (B M : Int) (s : Rs) : Prop where
  ok : Oks B s
  out : (s.out.length : Int) + s.fuel ≤ M
  ar : s.ar.length = n
structure InvS (n : Nat) (B M : Int) (s : Rs) : Prop where
  ok : Oks B s
  ok1 : s.cost + s.fuel + 1 ≤ B
  out : (s.out.length : Int) + s.fuel + 1 ≤ M
  ar : s.ar.length = n
def VF (u : Un) (g : Fl) : Prop := vList u g 1 r8where0 (iota g.params.toNat) g.body = true ∧ g.types.length ≤ 20000 ∧ 0 ≤ g.params ∧ g.params ≤ g.types.length
theorem vf_of {u : Un} (h : (r8Check u).1 = 0) : ∀ g ∈ u.flows, VF u g := by
  intro g hg
  obtain ⟨h1, h2⟩ := (check_iff u).1 h
  have hf := h2 g hg
  have hp := r8globals_params h1 g hg
  unfold r8Flow at hf
  simp only [Bool.and_eq_true] at hf
  obtain ⟨⟨⟨⟨⟨f1, f2⟩, f3⟩, f4⟩, f5⟩, f6⟩ := hf
  simp only [Bool.not_eq_true', decide_eq_false_iff_not] at f1 f2 f3 f4
  rw [r8list_iff u g g.body 1 r8where0 _ _ (firsts_length (by omega))] at f6
  exact ⟨f6.1, by omega, hp.1, hp.2⟩
def SumOk (u : Un) (x : Nd) (k : Nat) : Prop :=
  (x.kind = 3 → 1 ≤ k) ∧ (x.kind = 4 → 2 ≤ k) ∧ (x.kind = 5 → 1 ≤ k ∧ 0 ≤ r8Array x.name u.arrays 0) ∧ (x.kind = 6 → 2 ≤ k ∧ 0 ≤ r8Array x.name u.arrays 0) ∧
  (x.kind = 7 → 0 ≤ r8Place x.name u.flows 0 ∧ ∀ g, u.flows[(r8Place x.name u.flows 0).toNat]? = some g → (k : Int) = g.params) ∧ (x.kind = 9 → 1 ≤ k)
theorem smp_ok {u : Un} {f : Fl} {x : Nd} {seen : List Int} {w : Wh} (hgp : ∀ g ∈ u.flows, VF u g) (h : (sForm u f x seen w).ok f.types x.outs = true) :
    inR f.types.length x.outs ∧ inR f.types.length x.args ∧ SumOk u x x.args.length ∧ ((x.kind = 1 ∨ x.kind = 2) → x.outs ≠ []) ∧
    (x.kind = 12 → w.If = true ∧ x.args.length = w.Yield.length) ∧ (x.kind = 13 → x.args.length = w.Next.length) ∧ (x.kind = 14 → x.args.length = w.Left.length) ∧ (x.kind = 15 → x.args.length = 1) := by
  refine ⟨ok_in h, ?_⟩
  have V : ∀ {b : Bool} {want : Option (List Int)}, SForm.ok ⟨b, want⟩ f.types x.outs = true → b = true := fun {b want} h => by
    cases want <;> simp only [SForm.ok, Bool.and_eq_true] at h <;> exact h.1
  have V1 : ∀ {b : Bool} {t : Int}, SForm.ok ⟨b, some [t]⟩ f.types x.outs = true → x.outs ≠ [] := fun {b t} h e => by
    simp only [SForm.ok, Bool.and_eq_true] at h
    have := vOuts_len h.2
    rw [e] at this; simp at this
  have T : ∀ {want : List Int}, r8types f.types seen x.args want = true → inR f.types.length x.args ∧ x.args.length = want.length := fun h => ⟨(types_ok h).2, (types_ok h).1⟩
  have tr : ∀ {k : Int} {P : Prop} {j : Int}, x.kind = k → k ≠ j → x.kind = j → P := fun h1 h2 h3 => absurd (h1.symm.trans h3) h2
  unfold sForm at h
  by_cases k1 : x.kind = 1
  ·rw [if_pos (beq_iff_eq.2 k1)] at h
   obtain ⟨t1, t2⟩ := T (V h)
   refine ⟨t1, ⟨tr k1 (by decide), tr k1 (by decide), tr k1 (by decide), tr k1 (by decide), tr k1 (by decide), tr k1 (by decide)⟩, fun _ => V1 h, tr k1 (by decide), tr k1 (by decide), tr k1 (by decide), tr k1 (by decide)⟩
  rw [if_neg (by simpa using k1)] at h
  by_cases k2 : x.kind = 2
  ·rw [if_pos (beq_iff_eq.2 k2)] at h
   have hb := V h
   simp only [Bool.and_eq_true] at hb
   obtain ⟨t1, t2⟩ := T hb.2
   refine ⟨t1, ⟨tr k2 (by decide), tr k2 (by decide), tr k2 (by decide), tr k2 (by decide), tr k2 (by decide), tr k2 (by decide)⟩, fun _ => V1 h, tr k2 (by decide), tr k2 (by decide), tr k2 (by decide), tr k2 (by decide)⟩
  rw [if_neg (by simpa using k2)] at h
  have n12 : ¬ (x.kind = 1 ∨ x.kind = 2) := by rintro (h | h) <;> contradiction
  by_cases k3 : x.kind = 3
  ·rw [if_pos (beq_iff_eq.2 k3)] at h
   have hb := V h
   simp only [Bool.and_eq_true] at hb
   obtain ⟨t1, t2⟩ := T hb.2
   refine ⟨t1, ⟨fun _ => by rw [t2]; exact Nat.le_refl _, tr k3 (by decide), tr k3 (by decide), tr k3 (by decide), tr k3 (by decide), tr k3 (by decide)⟩, fun h => absurd h n12, tr k3 (by decide), tr k3 (by decide), tr k3 (by decide), tr k3 (by decide)⟩
  rw [if_neg (by simpa using k3)] at h
  by_cases k4 : x.kind = 4
  ·rw [if_pos (beq_iff_eq.2 k4)] at h
   have hb := V h
   simp only [Bool.and_eq_true] at hb
   obtain ⟨t1, t2⟩ := T hb.1.2
   refine ⟨t1, ⟨tr k4 (by decide), fun _ => by rw [t2]; exact Nat.le_refl _, tr k4 (by decide), tr k4 (by decide), tr k4 (by decide), tr k4 (by decide)⟩, fun h => absurd h n12, tr k4 (by decide), tr k4 (by decide), tr k4 (by decide), tr k4 (by decide)⟩
  rw [if_neg (by simpa using k4)] at h
  by_cases k5 : x.kind = 5
  ·rw [if_pos (beq_iff_eq.2 k5)] at h
   have hb := V h
   simp only [Bool.and_eq_true, decide_eq_true_eq] at hb
   obtain ⟨t1, t2⟩ := T hb.2
   refine ⟨t1, ⟨tr k5 (by decide), tr k5 (by decide), fun _ => ⟨by rw [t2]; exact Nat.le_refl _, hb.1⟩, tr k5 (by decide), tr k5 (by decide), tr k5 (by decide)⟩, fun h => absurd h n12, tr k5 (by decide), tr k5 (by decide), tr k5 (by decide), tr k5 (by decide)⟩
  rw [if_neg (by simpa using k5)] at h
  by_cases k6 : x.kind = 6
  ·rw [if_pos (beq_iff_eq.2 k6)] at h
   have hb := V h
   simp only [Bool.and_eq_true, decide_eq_true_eq] at hb
   obtain ⟨t1, t2⟩ := T hb.2
   refine ⟨t1, ⟨tr k6 (by decide), tr k6 (by decide), tr k6 (by decide), fun _ => ⟨by rw [t2]; exact Nat.le_refl _, hb.1⟩, tr k6 (by decide), tr k6 (by decide)⟩, fun h => absurd h n12, tr k6 (by decide), tr k6 (by decide), tr k6 (by decide), tr k6 (by decide)⟩
  rw [if_neg (by simpa using k6)] at h
  by_cases k7 : x.kind = 7
  ·rw [if_pos (beq_iff_eq.2 k7)] at h
   by_cases hp : decide (r8Place x.name u.flows 0 ≥ 0) = true
   ·rw [if_pos hp] at h
    have hp' : 0 ≤ r8Place x.name u.flows 0 := by simpa using hp
    cases hg : u.flows[(r8Place x.name u.flows 0).toNat]? with
    | none => rw [hg] at h; exact absurd (V h) (by decide)
    | some g =>
      rw [hg] at h
      obtain ⟨t1, t2⟩ := T (V h)
      obtain ⟨_, _, g1, g2⟩ := hgp g (List.mem_of_getElem? hg)
      refine ⟨t1, ⟨tr k7 (by decide), tr k7 (by decide), tr k7 (by decide), tr k7 (by decide), fun _ => ⟨hp', fun g' hg' => ?_⟩, tr k7 (by decide)⟩, fun h => absurd h n12, tr k7 (by decide), tr k7 (by decide), tr k7 (by decide), tr k7 (by decide)⟩
      rw [hg] at hg'
      cases hg'
      rw [t2, List.length_take]; omega
   rw [if_neg hp] at h; exact absurd (V h) (by decide)
  rw [if_neg (by simpa using k7)] at h
  by_cases k8 : x.kind = 8
  ·rw [if_pos (beq_iff_eq.2 k8)] at h
   have hb := V h
   have : x.args = [] := List.eq_nil_of_length_eq_zero (by simp at hb; simp [hb])
   refine ⟨by rw [this]; exact fun v hv => by simp at hv, ⟨tr k8 (by decide), tr k8 (by decide), tr k8 (by decide), tr k8 (by decide), tr k8 (by decide), tr k8 (by decide)⟩, fun h => absurd h n12, tr k8 (by decide), tr k8 (by decide), tr k8 (by decide), tr k8 (by decide)⟩
  rw [if_neg (by simpa using k8)] at h
  by_cases k9 : x.kind = 9
  ·rw [if_pos (beq_iff_eq.2 k9)] at h
   obtain ⟨t1, t2⟩ := T (V h)
   refine ⟨t1, ⟨tr k9 (by decide), tr k9 (by decide), tr k9 (by decide), tr k9 (by decide), tr k9 (by decide), fun _ => by rw [t2]; exact Nat.le_refl _⟩, fun h => absurd h n12, tr k9 (by decide), tr k9 (by decide), tr k9 (by decide), tr k9 (by decide)⟩
  rw [if_neg (by simpa using k9)] at h
  have S : SumOk u x x.args.length := ⟨fun h => absurd h k3, fun h => absurd h k4, fun h => absurd h k5, fun h => absurd h k6, fun h => absurd h k7, fun h => absurd h k9⟩
  by_cases k12 : x.kind = 12
  ·rw [if_pos (beq_iff_eq.2 k12)] at h
   have hb := V h
   simp only [Bool.and_eq_true] at hb
   obtain ⟨t1, t2⟩ := T hb.2
   exact ⟨t1, S, fun h => absurd h n12, fun _ => ⟨hb.1, t2⟩, tr k12 (by decide), tr k12 (by decide), tr k12 (by decide)⟩
  rw [if_neg (by simpa using k12)] at h
  by_cases k13 : x.kind = 13
  ·rw [if_pos (beq_iff_eq.2 k13)] at h
   have hb := V h
   simp only [Bool.and_eq_true] at hb
   obtain ⟨t1, t2⟩ := T hb.2
   exact ⟨t1, S, fun h => absurd h n12, tr k13 (by decide), fun _ => t2, tr k13 (by decide), tr k13 (by decide)⟩
  rw [if_neg (by simpa using k13)] at h
  by_cases k14 : x.kind = 14
  ·rw [if_pos (beq_iff_eq.2 k14)] at h
   have hb := V h
   simp only [Bool.and_eq_true] at hb
   obtain ⟨t1, t2⟩ := T hb.2
   exact ⟨t1, S, fun h => absurd h n12, tr k14 (by decide), tr k14 (by decide), fun _ => t2, tr k14 (by decide)⟩
  rw [if_neg (by simpa using k14)] at h
  by_cases k15 : x.kind = 15
  ·rw [if_pos (beq_iff_eq.2 k15)] at h
   obtain ⟨t1, t2⟩ := T (V h)
   exact ⟨t1, S, fun h => absurd h n12, tr k15 (by decide), tr k15 (by decide), tr k15 (by decide), fun _ => t2⟩
  rw [if_neg (by simpa using k15)] at h
  exact absurd (V h) (by decide)
mutual
def n64N : Nd → Prop
  | .mk _ _ n _ _ _ _ ks => N64 n ∧ n64K ks
def n64L : List Nd → Prop
  | [] => True
  | x :: r => n64N x ∧ n64L r
def n64K : List (List Nd) → Prop
  | [] => True
  | l :: r => n64L l ∧ n64K r
end
theorem len_one {l : List Int} (h : l.length = 1) : ∃ a, l = [a] := by
  match l, h with
  | [a], _ => exact ⟨a, rfl⟩
theorem len_two {l : List Int} (h : l.length = 2) : ∃ a b, l = [a, b] := by
  match l, h with
  | [a, b], _ => exact ⟨a, b, rfl⟩
theorem inR_64 {n : Nat} (hn : n ≤ 20000) {l : List Int} (h : inR n l) : ∀ v ∈ l, N64 v := fun v hv => by
  have := h v hv
  exact ⟨by omega, by omega⟩
theorem smp_form {u : Un} {f : Fl} {x : Nd} {seen : List Int} {w : Wh} (h : (sForm u f x seen w).ok f.types x.outs = true) :
    (x.kind = 6 ∨ x.kind = 4 → ∃ a b, x.args = [a, b]) ∧ (x.kind = 9 ∨ x.kind = 15 ∨ x.kind = 10 ∨ x.kind = 3 ∨ x.kind = 5 → ∃ a, x.args = [a]) ∧ (x.kind = 10 ∨ x.kind = 11 → False) ∧ (x.kind ≤ 5 ∨ x.kind = 7 ∨ x.kind = 8 → ∃ o, x.outs = [o]) ∧
    (x.kind = 3 ∨ x.kind = 4 → 1 ≤ x.op ∧ x.op ≤ 28) ∧ (1 ≤ x.kind ∧ x.kind ≤ 15) := by
  have V : ∀ {b : Bool} {want : Option (List Int)}, SForm.ok ⟨b, want⟩ f.types x.outs = true → b = true := fun {b want} h => by
    cases want <;> simp only [SForm.ok, Bool.and_eq_true] at h <;> exact h.1
  have V1 : ∀ {b : Bool} {t : Int}, SForm.ok ⟨b, some [t]⟩ f.types x.outs = true → ∃ o, x.outs = [o] := fun {b t} h => by
    simp only [SForm.ok, Bool.and_eq_true] at h
    exact len_one (vOuts_len h.2)
  have T1 : ∀ {t : Int}, r8types f.types seen x.args [t] = true → ∃ a, x.args = [a] := fun h => len_one (types_ok h).1
  have T2 : ∀ {t s : Int}, r8types f.types seen x.args [t, s] = true → ∃ a b, x.args = [a, b] := fun h => len_two (types_ok h).1
  have key : ∀ {k : Int}, x.kind = k → ∀ {A B C D : Prop}, (k = 6 ∨ k = 4 → A) → (k = 9 ∨ k = 15 ∨ k = 10 ∨ k = 3 ∨ k = 5 → B) → (k = 10 ∨ k = 11 → False) → (k ≤ 5 ∨ k = 7 ∨ k = 8 → C) → (k = 3 ∨ k = 4 → D) → (1 ≤ k ∧ k ≤ 15) →
      (x.kind = 6 ∨ x.kind = 4 → A) ∧ (x.kind = 9 ∨ x.kind = 15 ∨ x.kind = 10 ∨ x.kind = 3 ∨ x.kind = 5 → B) ∧ (x.kind = 10 ∨ x.kind = 11 → False) ∧ (x.kind ≤ 5 ∨ x.kind = 7 ∨ x.kind = 8 → C) ∧ (x.kind = 3 ∨ x.kind = 4 → D) ∧ (1 ≤ x.kind ∧ x.kind ≤ 15) := by
    intro k e A B C D a b c d g i
    subst e; exact ⟨a, b, c, d, g, i⟩
  unfold sForm at h
  by_cases k1 : x.kind = 1
  ·rw [if_pos (beq_iff_eq.2 k1)] at h
   exact key k1 (fun e => by omega) (fun e => by omega) (fun e => by omega) (fun _ => V1 h) (fun e => by omega) (by omega)
  rw [if_neg (by simpa using k1)] at h
  by_cases k2 : x.kind = 2
  ·rw [if_pos (beq_iff_eq.2 k2)] at h
   exact key k2 (fun e => by omega) (fun e => by omega) (fun e => by omega) (fun _ => V1 h) (fun e => by omega) (by omega)
  rw [if_neg (by simpa using k2)] at h
  by_cases k3 : x.kind = 3
  ·rw [if_pos (beq_iff_eq.2 k3)] at h
   have hb := V h
   simp only [Bool.and_eq_true, r1IsOne, decide_eq_true_eq] at hb
   exact key k3 (fun e => by omega) (fun _ => T1 hb.2) (fun e => by omega) (fun _ => V1 h) (fun _ => by omega) (by omega)
  rw [if_neg (by simpa using k3)] at h
  by_cases k4 : x.kind = 4
  ·rw [if_pos (beq_iff_eq.2 k4)] at h
   have hb := V h
   simp only [Bool.and_eq_true, r1IsTwo, decide_eq_true_eq] at hb
   exact key k4 (fun _ => T2 hb.1.2) (fun e => by omega) (fun e => by omega) (fun _ => V1 h) (fun _ => by omega) (by omega)
  rw [if_neg (by simpa using k4)] at h
  by_cases k5 : x.kind = 5
  ·rw [if_pos (beq_iff_eq.2 k5)] at h
   have hb := V h
   simp only [Bool.and_eq_true] at hb
   exact key k5 (fun e => by omega) (fun _ => T1 hb.2) (fun e => by omega) (fun _ => V1 h) (fun e => by omega) (by omega)
  rw [if_neg (by simpa using k5)] at h
  by_cases k6 : x.kind = 6
  ·rw [if_pos (beq_iff_eq.2 k6)] at h
   have hb := V h
   simp only [Bool.and_eq_true] at hb
   exact key k6 (fun _ => T2 hb.2) (fun e => by omega) (fun e => by omega) (fun e => by omega) (fun e => by omega) (by omega)
  rw [if_neg (by simpa using k6)] at h
  by_cases k7 : x.kind = 7
  ·rw [if_pos (beq_iff_eq.2 k7)] at h
   have ho : ∃ o, x.outs = [o] := by
     split at h
     ·split at h
      ·exact V1 h
      exact absurd (V h) (by decide)
     exact absurd (V h) (by decide)
   exact key k7 (fun e => by omega) (fun e => by omega) (fun e => by omega) (fun _ => ho) (fun e => by omega) (by omega)
  rw [if_neg (by simpa using k7)] at h
  by_cases k8 : x.kind = 8
  ·rw [if_pos (beq_iff_eq.2 k8)] at h
   exact key k8 (fun e => by omega) (fun e => by omega) (fun e => by omega) (fun _ => V1 h) (fun e => by omega) (by omega)
  rw [if_neg (by simpa using k8)] at h
  by_cases k9 : x.kind = 9
  ·rw [if_pos (beq_iff_eq.2 k9)] at h
   exact key k9 (fun e => by omega) (fun _ => T1 (V h)) (fun e => by omega) (fun e => by omega) (fun e => by omega) (by omega)
  rw [if_neg (by simpa using k9)] at h
  by_cases k12 : x.kind = 12
  ·exact key k12 (fun e => by omega) (fun e => by omega) (fun e => by omega) (fun e => by omega) (fun e => by omega) (by omega)
  rw [if_neg (by simpa using k12)] at h
  by_cases k13 : x.kind = 13
  ·exact key k13 (fun e => by omega) (fun e => by omega) (fun e => by omega) (fun e => by omega) (fun e => by omega) (by omega)
  rw [if_neg (by simpa using k13)] at h
  by_cases k14 : x.kind = 14
  ·exact key k14 (fun e => by omega) (fun e => by omega) (fun e => by omega) (fun e => by omega) (fun e => by omega) (by omega)
  rw [if_neg (by simpa using k14)] at h
  by_cases k15 : x.kind = 15
  ·rw [if_pos (beq_iff_eq.2 k15)] at h
   exact key k15 (fun e => by omega) (fun _ => T1 (V h)) (fun e => by omega) (fun e => by omega) (fun e => by omega) (by omega)
  rw [if_neg (by simpa using k15)] at h
  exact absurd (V h) (by decide)
theorem bare_none {x : Nd} (h : r8bare x = true) (h10 : x.kind ≠ 10) (h11 : x.kind ≠ 11) : x.kids = [] ∧ x.params = [] := by
  simp only [r8bare, Bool.and_eq_true, Bool.or_eq_true, beq_iff_eq, r8kn, h10, h11, if_false] at h
  refine ⟨List.eq_nil_of_length_eq_zero (by simpa [h10, h11] using h.1.2), List.eq_nil_of_length_eq_zero ?_⟩
  have := h.2
  simp at this
  simp [this]
theorem vOuts_zer {tys l : List Int} (h : vOuts tys l (zer l) = true) : inR tys.length l := vOuts_in h
theorem v_ok {u : Un} (hgp : ∀ g ∈ u.flows, VF u g) {f : Fl} (hn : f.types.length ≤ 20000) : ∀ (N : Nat),
    (∀ (x : Nd) (deep : Int) (d : Nat) (w : Wh) (seen : List Int), wtN x < N → deep + d = 101 → 1 ≤ d → vNode u f deep w seen x = true → n64N x → pOkN x ∧ ok64N d x) ∧
    (∀ (l : List Nd) (deep : Int) (d : Nat) (w : Wh) (seen : List Int), l.length + wtL l < N → deep + d = 101 → vGo u f deep w seen l = true → n64L l → pOkL l ∧ ok64L d l)
  | 0 => ⟨fun _ _ _ _ _ h => by omega, fun _ _ _ _ _ h => by omega⟩
  | N + 1 => by
    have ih := v_ok hgp hn N
    refine ⟨fun x deep d w seen hw hd hd1 h h64 => ?_, fun l deep d w seen hw hd h h64 => ?_⟩
    ·have hb := vNode_bare u f deep w seen h
     by_cases k10 : x.kind = 10
     ·obtain ⟨a, b, hk⟩ := r8bare_if hb k10
      rw [vNode_if u f deep w seen hb k10 hk] at h
      simp only [Bool.and_eq_true, vList] at h
      obtain ⟨⟨⟨⟨t1, t2⟩, t3⟩, _⟩, t5⟩ := h
      obtain ⟨kind, op, n, name, args, outs, params, ks⟩ := x
      simp only [Nd.kind, Nd.kids, Nd.args, Nd.outs] at k10 hk t1 t5
      subst k10 hk
      simp only [n64N, n64K] at h64
      simp only [wtN, wtK] at hw
      obtain ⟨p1, p2⟩ := ih.2 a (deep + 1) (d - 1) _ _ (by omega) (by omega) t2.2 h64.2.1
      obtain ⟨q1, q2⟩ := ih.2 b (deep + 1) (d - 1) _ _ (by omega) (by omega) t3.2 h64.2.2.1
      obtain ⟨e1, e2⟩ := types_ok t1
      have hp : params = [] := by
        simp only [r8bare, Bool.and_eq_true, Bool.or_eq_true, beq_iff_eq, Nd.params, Nd.kind] at hb
        exact List.eq_nil_of_length_eq_zero (by have := hb.2; omega)
      subst hp
      refine ⟨?_, ?_⟩
      ·simp only [pOkN, pOkK]
       exact ⟨fun e => by omega, fun _ => len_one e1, fun _ => ⟨a, b, rfl⟩, fun e => by omega, fun e => by omega, fun e => by omega, by omega, p1, q1, trivial⟩
      simp only [ok64N, ok64K]
      exact ⟨hd1, h64.1, inR_64 hn e2, inR_64 hn (vOuts_zer t5), fun v hv => by simp at hv, p2, q2, trivial⟩
     by_cases k11 : x.kind = 11
     ·obtain ⟨a, hk⟩ := r8bare_loop hb k11
      rw [vNode_loop u f deep w seen hb k11 hk] at h
      simp only [Bool.and_eq_true, vList] at h
      obtain ⟨⟨⟨⟨t1, t2⟩, t3⟩, _⟩, t5⟩ := h
      obtain ⟨kind, op, n, name, args, outs, params, ks⟩ := x
      simp only [Nd.kind, Nd.kids, Nd.args, Nd.outs, Nd.params] at k11 hk t1 t2 t5
      subst k11 hk
      simp only [n64N, n64K] at h64
      simp only [wtN, wtK] at hw
      obtain ⟨p1, p2⟩ := ih.2 a (deep + 1) (d - 1) _ _ (by omega) (by omega) t3.2 h64.2.1
      obtain ⟨e1, e2⟩ := types_ok t1
      have hpar := vOuts_zer t2
      rw [r8of_len hpar] at e1
      refine ⟨?_, ?_⟩
      ·simp only [pOkN, pOkK]
       exact ⟨fun e => by omega, fun e => by omega, fun e => by omega, fun _ => ⟨⟨a, rfl⟩, e1.symm⟩, fun e => by omega, fun e => by omega, by omega, p1, trivial⟩
      simp only [ok64N, ok64K]
      exact ⟨hd1, h64.1, inR_64 hn e2, inR_64 hn (vOuts_zer t5), inR_64 hn hpar, p2, trivial⟩
     rw [vNode_simple u f deep w seen hb (beq_false_of_ne k10) (beq_false_of_ne k11)] at h
     obtain ⟨c1, c2, c3, c4, c5, c6⟩ := smp_form h
     obtain ⟨s1, s2, _⟩ := smp_ok hgp h
     obtain ⟨g1, g2⟩ := bare_none hb k10 k11
     obtain ⟨kind, op, n, name, args, outs, params, ks⟩ := x
     simp only [Nd.kind, Nd.kids, Nd.args, Nd.outs, Nd.params, Nd.op] at *
     subst g1 g2
     simp only [n64N] at h64
     refine ⟨?_, ?_⟩
     ·simp only [pOkN, pOkK]
      exact ⟨c1, c2, fun e => absurd e k10, fun e => absurd e k11, c4, c5, c6, trivial⟩
     simp only [ok64N, ok64K]
     exact ⟨hd1, h64.1, inR_64 hn s2, inR_64 hn s1, fun v hv => by simp at hv, trivial⟩
    cases l with
    | nil => exact ⟨by simp [pOkL], by simp [ok64L]⟩
    | cons x r =>
      simp only [vGo, Bool.and_eq_true, Bool.not_eq_true', decide_eq_false_iff_not] at h
      simp only [n64L] at h64
      simp only [wtL, List.length_cons] at hw
      obtain ⟨⟨⟨h1, h2⟩, _⟩, h3⟩ := h
      obtain ⟨p1, p2⟩ := ih.1 x deep d w seen (by omega) hd (by omega) h2 h64.1
      obtain ⟨q1, q2⟩ := ih.2 r deep d w _ (by omega) hd h3 h64.2
      exact ⟨by simp only [pOkL]; exact ⟨p1, q1⟩, by simp only [ok64L]; exact ⟨p2, q2⟩⟩
theorem body_ok {u : Un} (h : (r8Check u).1 = 0) {f : Fl} (hf : f ∈ u.flows) (h64 : n64L f.body) : pOkL f.body ∧ ok64L 100 f.body := by
  have hv := vf_of h
  obtain ⟨h1, h2, _, _⟩ := hv f hf
  simp only [vList, Bool.and_eq_true] at h1
  exact (v_ok hv h2 _).2 f.body 1 100 _ _ (Nat.lt_succ_self _) (by omega) h1.2 h64
end Go.Proofs.YtahpinmlgnfklaaGreatDoor
