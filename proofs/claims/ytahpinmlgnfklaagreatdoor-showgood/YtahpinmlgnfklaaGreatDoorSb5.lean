/- Units by numbers: the text that show prints is the document's. Its card: the three tables of Go's library that the row lists are tied to the program's text. -/
import Derived.Test.YtahpinmlgnfklaaGreatDoorSb4
set_option maxRecDepth 8000
set_option maxHeartbeats 2000000
set_option linter.unusedSimpArgs false
set_option linter.unusedVariables false
set_option linter.unusedSectionVars false
namespace Go.Proofs.YtahpinmlgnfklaaGreatDoor
open Go
mutual
def n64N : Nd → Prop
  | .mk _ _ n _ _ _ _ ks => N64 n ∧ n64K ks
def n64L : List Nd → Prop
  | [] => True
  | x :: r => n64N x ∧ n64L r
def n64K : List (List Nd) → Prop
  | [] => True
  | l :: r => n64L l ∧ n64K r
end
theorem len_one {l : List Int} (h : l.length = 1) : ∃ a, l = [a] := by
  match l, h with
  | [a], _ => exact ⟨a, rfl⟩
theorem len_two {l : List Int} (h : l.length = 2) : ∃ a b, l = [a, b] := by
  match l, h with
  | [a, b], _ => exact ⟨a, b, rfl⟩
theorem inR_64 {n : Nat} (hn : n ≤ 20000) {l : List Int} (h : inR n l) : ∀ v ∈ l, N64 v := fun v hv => by
  have := h v hv
  exact ⟨by omega, by omega⟩
theorem smp_form {u : Un} {f : Fl} {x : Nd} {seen : List Int} {w : Wh} (h : (sForm u f x seen w).ok f.types x.outs = true) :
    (x.kind = 6 ∨ x.kind = 4 → ∃ a b, x.args = [a, b]) ∧ (x.kind = 9 ∨ x.kind = 15 ∨ x.kind = 10 ∨ x.kind = 3 ∨ x.kind = 5 → ∃ a, x.args = [a]) ∧ (x.kind = 10 ∨ x.kind = 11 → False) ∧ (x.kind ≤ 5 ∨ x.kind = 7 ∨ x.kind = 8 → ∃ o, x.outs = [o]) ∧
    (x.kind = 3 ∨ x.kind = 4 → 1 ≤ x.op ∧ x.op ≤ 28) ∧ (1 ≤ x.kind ∧ x.kind ≤ 15) := by
  have V : ∀ {b : Bool} {want : Option (List Int)}, SForm.ok ⟨b, want⟩ f.types x.outs = true → b = true := fun {b want} h => by
    cases want <;> simp only [SForm.ok, Bool.and_eq_true] at h <;> exact h.1
  have V1 : ∀ {b : Bool} {t : Int}, SForm.ok ⟨b, some [t]⟩ f.types x.outs = true → ∃ o, x.outs = [o] := fun {b t} h => by
    simp only [SForm.ok, Bool.and_eq_true] at h
    exact len_one (vOuts_len h.2)
  have T1 : ∀ {t : Int}, r8types f.types seen x.args [t] = true → ∃ a, x.args = [a] := fun h => len_one (types_ok h).1
  have T2 : ∀ {t s : Int}, r8types f.types seen x.args [t, s] = true → ∃ a b, x.args = [a, b] := fun h => len_two (types_ok h).1
  have key : ∀ {k : Int}, x.kind = k → ∀ {A B C D : Prop}, (k = 6 ∨ k = 4 → A) → (k = 9 ∨ k = 15 ∨ k = 10 ∨ k = 3 ∨ k = 5 → B) → (k = 10 ∨ k = 11 → False) → (k ≤ 5 ∨ k = 7 ∨ k = 8 → C) → (k = 3 ∨ k = 4 → D) → (1 ≤ k ∧ k ≤ 15) →
      (x.kind = 6 ∨ x.kind = 4 → A) ∧ (x.kind = 9 ∨ x.kind = 15 ∨ x.kind = 10 ∨ x.kind = 3 ∨ x.kind = 5 → B) ∧ (x.kind = 10 ∨ x.kind = 11 → False) ∧ (x.kind ≤ 5 ∨ x.kind = 7 ∨ x.kind = 8 → C) ∧ (x.kind = 3 ∨ x.kind = 4 → D) ∧ (1 ≤ x.kind ∧ x.kind ≤ 15) := by
    intro k e A B C D a b c d g i
    subst e; exact ⟨a, b, c, d, g, i⟩
  unfold sForm at h
  by_cases k1 : x.kind = 1
  ·rw [if_pos (beq_iff_eq.2 k1)] at h
   exact key k1 (fun e => by omega) (fun e => by omega) (fun e => by omega) (fun _ => V1 h) (fun e => by omega) (by omega)
  rw [if_neg (by simpa using k1)] at h
  by_cases k2 : x.kind = 2
  ·rw [if_pos (beq_iff_eq.2 k2)] at h
   exact key k2 (fun e => by omega) (fun e => by omega) (fun e => by omega) (fun _ => V1 h) (fun e => by omega) (by omega)
  rw [if_neg (by simpa using k2)] at h
  by_cases k3 : x.kind = 3
  ·rw [if_pos (beq_iff_eq.2 k3)] at h
   have hb := V h
   simp only [Bool.and_eq_true, r1IsOne, decide_eq_true_eq] at hb
   exact key k3 (fun e => by omega) (fun _ => T1 hb.2) (fun e => by omega) (fun _ => V1 h) (fun _ => by omega) (by omega)
  rw [if_neg (by simpa using k3)] at h
  by_cases k4 : x.kind = 4
  ·rw [if_pos (beq_iff_eq.2 k4)] at h
   have hb := V h
   simp only [Bool.and_eq_true, r1IsTwo, decide_eq_true_eq] at hb
   exact key k4 (fun _ => T2 hb.1.2) (fun e => by omega) (fun e => by omega) (fun _ => V1 h) (fun _ => by omega) (by omega)
  rw [if_neg (by simpa using k4)] at h
  by_cases k5 : x.kind = 5
  ·rw [if_pos (beq_iff_eq.2 k5)] at h
   have hb := V h
   simp only [Bool.and_eq_true] at hb
   exact key k5 (fun e => by omega) (fun _ => T1 hb.2) (fun e => by omega) (fun _ => V1 h) (fun e => by omega) (by omega)
  rw [if_neg (by simpa using k5)] at h
  by_cases k6 : x.kind = 6
  ·rw [if_pos (beq_iff_eq.2 k6)] at h
   have hb := V h
   simp only [Bool.and_eq_true] at hb
   exact key k6 (fun _ => T2 hb.2) (fun e => by omega) (fun e => by omega) (fun e => by omega) (fun e => by omega) (by omega)
  rw [if_neg (by simpa using k6)] at h
  by_cases k7 : x.kind = 7
  ·rw [if_pos (beq_iff_eq.2 k7)] at h
   have ho : ∃ o, x.outs = [o] := by
     split at h
     ·split at h
      ·exact V1 h
      exact absurd (V h) (by decide)
     exact absurd (V h) (by decide)
   exact key k7 (fun e => by omega) (fun e => by omega) (fun e => by omega) (fun _ => ho) (fun e => by omega) (by omega)
  rw [if_neg (by simpa using k7)] at h
  by_cases k8 : x.kind = 8
  ·rw [if_pos (beq_iff_eq.2 k8)] at h
   exact key k8 (fun e => by omega) (fun e => by omega) (fun e => by omega) (fun _ => V1 h) (fun e => by omega) (by omega)
  rw [if_neg (by simpa using k8)] at h
  by_cases k9 : x.kind = 9
  ·rw [if_pos (beq_iff_eq.2 k9)] at h
   exact key k9 (fun e => by omega) (fun _ => T1 (V h)) (fun e => by omega) (fun e => by omega) (fun e => by omega) (by omega)
  rw [if_neg (by simpa using k9)] at h
  by_cases k12 : x.kind = 12
  ·exact key k12 (fun e => by omega) (fun e => by omega) (fun e => by omega) (fun e => by omega) (fun e => by omega) (by omega)
  rw [if_neg (by simpa using k12)] at h
  by_cases k13 : x.kind = 13
  ·exact key k13 (fun e => by omega) (fun e => by omega) (fun e => by omega) (fun e => by omega) (fun e => by omega) (by omega)
  rw [if_neg (by simpa using k13)] at h
  by_cases k14 : x.kind = 14
  ·exact key k14 (fun e => by omega) (fun e => by omega) (fun e => by omega) (fun e => by omega) (fun e => by omega) (by omega)
  rw [if_neg (by simpa using k14)] at h
  by_cases k15 : x.kind = 15
  ·rw [if_pos (beq_iff_eq.2 k15)] at h
   exact key k15 (fun e => by omega) (fun _ => T1 (V h)) (fun e => by omega) (fun e => by omega) (fun e => by omega) (by omega)
  rw [if_neg (by simpa using k15)] at h
  exact absurd (V h) (by decide)
theorem bare_none {x : Nd} (h : r8bare x = true) (h10 : x.kind ≠ 10) (h11 : x.kind ≠ 11) : x.kids = [] ∧ x.params = [] := by
  simp only [r8bare, Bool.and_eq_true, Bool.or_eq_true, beq_iff_eq, r8kn, h10, h11, if_false] at h
  refine ⟨List.eq_nil_of_length_eq_zero (by simpa [h10, h11] using h.1.2), List.eq_nil_of_length_eq_zero ?_⟩
  have := h.2
  simp at this
  simp [this]
theorem vOuts_zer {tys l : List Int} (h : vOuts tys l (zer l) = true) : inR tys.length l := vOuts_in h
theorem v_ok {u : Un} (hgp : ∀ g ∈ u.flows, VF u g) {f : Fl} (hn : f.types.length ≤ 20000) : ∀ (N : Nat),
    (∀ (x : Nd) (deep : Int) (d : Nat) (w : Wh) (seen : List Int), wtN x < N → deep + d = 101 → 1 ≤ d → vNode u f deep w seen x = true → n64N x → pOkN x ∧ ok64N d x) ∧
    (∀ (l : List Nd) (deep : Int) (d : Nat) (w : Wh) (seen : List Int), l.length + wtL l < N → deep + d = 101 → vGo u f deep w seen l = true → n64L l → pOkL l ∧ ok64L d l)
  | 0 => ⟨fun _ _ _ _ _ h => by omega, fun _ _ _ _ _ h => by omega⟩
  | N + 1 => by
    have ih := v_ok hgp hn N
    refine ⟨fun x deep d w seen hw hd hd1 h h64 => ?_, fun l deep d w seen hw hd h h64 => ?_⟩
    ·have hb := vNode_bare u f deep w seen h
     by_cases k10 : x.kind = 10
     ·obtain ⟨a, b, hk⟩ := r8bare_if hb k10
      rw [vNode_if u f deep w seen hb k10 hk] at h
      simp only [Bool.and_eq_true, vList] at h
      obtain ⟨⟨⟨⟨t1, t2⟩, t3⟩, _⟩, t5⟩ := h
      obtain ⟨kind, op, n, name, args, outs, params, ks⟩ := x
      simp only [Nd.kind, Nd.kids, Nd.args, Nd.outs] at k10 hk t1 t5
      subst k10 hk
      simp only [n64N, n64K] at h64
      simp only [wtN, wtK] at hw
      obtain ⟨p1, p2⟩ := ih.2 a (deep + 1) (d - 1) _ _ (by omega) (by omega) t2.2 h64.2.1
      obtain ⟨q1, q2⟩ := ih.2 b (deep + 1) (d - 1) _ _ (by omega) (by omega) t3.2 h64.2.2.1
      obtain ⟨e1, e2⟩ := types_ok t1
      have hp : params = [] := by
        simp only [r8bare, Bool.and_eq_true, Bool.or_eq_true, beq_iff_eq, Nd.params, Nd.kind] at hb
        exact List.eq_nil_of_length_eq_zero (by have := hb.2; omega)
      subst hp
      refine ⟨?_, ?_⟩
      ·simp only [pOkN, pOkK]
       exact ⟨fun e => by omega, fun _ => len_one e1, fun _ => ⟨a, b, rfl⟩, fun e => by omega, fun e => by omega, fun e => by omega, by omega, p1, q1, trivial⟩
      simp only [ok64N, ok64K]
      exact ⟨hd1, h64.1, inR_64 hn e2, inR_64 hn (vOuts_zer t5), fun v hv => by simp at hv, p2, q2, trivial⟩
     by_cases k11 : x.kind = 11
     ·obtain ⟨a, hk⟩ := r8bare_loop hb k11
      rw [vNode_loop u f deep w seen hb k11 hk] at h
      simp only [Bool.and_eq_true, vList] at h
      obtain ⟨⟨⟨⟨t1, t2⟩, t3⟩, _⟩, t5⟩ := h
      obtain ⟨kind, op, n, name, args, outs, params, ks⟩ := x
      simp only [Nd.kind, Nd.kids, Nd.args, Nd.outs, Nd.params] at k11 hk t1 t2 t5
      subst k11 hk
      simp only [n64N, n64K] at h64
      simp only [wtN, wtK] at hw
      obtain ⟨p1, p2⟩ := ih.2 a (deep + 1) (d - 1) _ _ (by omega) (by omega) t3.2 h64.2.1
      obtain ⟨e1, e2⟩ := types_ok t1
      have hpar := vOuts_zer t2
      rw [r8of_len hpar] at e1
      refine ⟨?_, ?_⟩
      ·simp only [pOkN, pOkK]
       exact ⟨fun e => by omega, fun e => by omega, fun e => by omega, fun _ => ⟨⟨a, rfl⟩, e1.symm⟩, fun e => by omega, fun e => by omega, by omega, p1, trivial⟩
      simp only [ok64N, ok64K]
      exact ⟨hd1, h64.1, inR_64 hn e2, inR_64 hn (vOuts_zer t5), inR_64 hn hpar, p2, trivial⟩
     rw [vNode_simple u f deep w seen hb (beq_false_of_ne k10) (beq_false_of_ne k11)] at h
     obtain ⟨c1, c2, c3, c4, c5, c6⟩ := smp_form h
     obtain ⟨s1, s2, _⟩ := smp_ok hgp h
     obtain ⟨g1, g2⟩ := bare_none hb k10 k11
     obtain ⟨kind, op, n, name, args, outs, params, ks⟩ := x
     simp only [Nd.kind, Nd.kids, Nd.args, Nd.outs, Nd.params, Nd.op] at *
     subst g1 g2
     simp only [n64N] at h64
     refine ⟨?_, ?_⟩
     ·simp only [pOkN, pOkK]
      exact ⟨c1, c2, fun e => absurd e k10, fun e => absurd e k11, c4, c5, c6, trivial⟩
     simp only [ok64N, ok64K]
     exact ⟨hd1, h64.1, inR_64 hn s2, inR_64 hn s1, fun v hv => by simp at hv, trivial⟩
    cases l with
    | nil => exact ⟨by simp [pOkL], by simp [ok64L]⟩
    | cons x r =>
      simp only [vGo, Bool.and_eq_true, Bool.not_eq_true', decide_eq_false_iff_not] at h
      simp only [n64L] at h64
      simp only [wtL, List.length_cons] at hw
      obtain ⟨⟨⟨h1, h2⟩, _⟩, h3⟩ := h
      obtain ⟨p1, p2⟩ := ih.1 x deep d w seen (by omega) hd (by omega) h2 h64.1
      obtain ⟨q1, q2⟩ := ih.2 r deep d w _ (by omega) hd h3 h64.2
      exact ⟨by simp only [pOkL]; exact ⟨p1, q1⟩, by simp only [ok64L]; exact ⟨p2, q2⟩⟩
theorem body_ok {u : Un} (h : (r8Check u).1 = 0) {f : Fl} (hf : f ∈ u.flows) (h64 : n64L f.body) : pOkL f.body ∧ ok64L 100 f.body := by
  have hv := vf_of h
  obtain ⟨h1, h2, _, _⟩ := hv f hf
  simp only [vList, Bool.and_eq_true] at h1
  exact (v_ok hv h2 _).2 f.body 1 100 _ _ (Nat.lt_succ_self _) (by omega) h1.2 h64
set_option maxRecDepth 20000
set_option maxHeartbeats 4000000
def tSemi : ByteArray := ⟨#[59]⟩
def hPut (p : List ByteArray) : List ByteArray := p.set (p.length - 1) (p.getD (p.length - 1) ⟨#[]⟩ ++ tSemi)
def hParts (f : Fl) : Nat → List ByteArray
  | 0 => [tKind f.ty, f.name]
  | k + 1 => (if (k : Int) = f.params then hPut (hParts f k) else hParts f k) ++ [tKind (f.types.getD k 0)]
def tHd (f : Fl) : Nat → ByteArray
  | 0 => tKind f.ty ++ tSp ++ f.name
  | k + 1 => (if (k : Int) = f.params then tHd f k ++ tSemi else tHd f k) ++ tSp ++ tKind (f.types.getD k 0)
theorem hParts_ne (f : Fl) : ∀ k, hParts f k ≠ []
  | 0 => by simp [hParts]
  | k + 1 => by simp [hParts]
theorem hPut_snoc (q : List ByteArray) (x : ByteArray) : hPut (q ++ [x]) = q ++ [x ++ tSemi] := by
  simp [hPut]
theorem tJoin_put {p : List ByteArray} (h : p ≠ []) (sep : ByteArray) : tJoin (hPut p) sep = tJoin p sep ++ tSemi := by
  obtain ⟨q, x, rfl⟩ : ∃ q x, p = q ++ [x] := ⟨p.dropLast, p.getLast h, (List.dropLast_concat_getLast h).symm⟩
  rw [hPut_snoc, tJoin_snoc, tJoin_snoc]
  split
  · rfl
  · simp only [app_assoc]
theorem hParts_join (f : Fl) : ∀ k, tJoin (hParts f k) tSp = tHd f k
  | 0 => by
    have := tJoin_snoc tSp f.name [tKind f.ty]
    simp only [List.cons_append, List.nil_append] at this
    show tJoin [tKind f.ty, f.name] tSp = _
    rw [this, if_neg (by simp)]
    have h1 := tJoin_snoc tSp (tKind f.ty) []
    simp only [List.nil_append, if_true] at h1
    rw [h1]
    rfl
  | k + 1 => by
    have ih := hParts_join f k
    have hne := hParts_ne f k
    simp only [hParts, tHd]
    by_cases hp : (k : Int) = f.params
    · rw [if_pos hp, if_pos hp, tJoin_snoc, if_neg (by rw [hPut]; simpa using hne), tJoin_put hne, ih]
    · rw [if_neg hp, if_neg hp, tJoin_snoc, if_neg hne, ih]
theorem hPut_len (p : List ByteArray) : (hPut p).length = p.length := by simp [hPut]
theorem hParts_len (f : Fl) : ∀ k, (hParts f k).length = k + 2
  | 0 => rfl
  | k + 1 => by
    simp only [hParts]
    rw [List.length_append]
    split
    · rw [hPut_len, hParts_len f k]; rfl
    · rw [hParts_len f k]; rfl
theorem tKind_le (t : Int) : (tKind t).size ≤ 4 := by
  unfold tKind
  split <;> decide
theorem tHd_le (f : Fl) : ∀ k, (tHd f k).size ≤ f.name.size + 5 + 6 * k
  | 0 => by
    simp only [tHd, size_app]
    have := tKind_le f.ty
    show _ + 1 + _ ≤ _
    omega
  | k + 1 => by
    have ih := tHd_le f k
    have hk := tKind_le (f.types.getD k 0)
    have e1 : tSemi.size = 1 := rfl
    have e2 : tSp.size = 1 := rfl
    simp only [tHd]
    split <;> simp only [size_app] <;> omega
theorem hParts_all (f : Fl) : ∀ k, ∀ w ∈ hParts f k, w.size ≤ f.name.size + 5 + 6 * k := fun k w hw => by
  have h := hParts_join f k
  have h2 := tHd_le f k
  rw [← h] at h2
  refine Nat.le_trans ?_ h2
  have key : ∀ (l : List (List UInt8)) (x : List UInt8), x ∈ l → x.length ≤ (Lib.join l tSp.data.toList).length := by
    intro l
    induction l with
    | nil => intro x hx; simp at hx
    | cons a r ih =>
      intro x hx
      cases r with
      | nil =>
        simp only [List.mem_singleton] at hx
        subst hx
        rw [Lib.join_one]
        exact Nat.le_refl _
      | cons b r =>
        have e : Lib.join (a :: b :: r) tSp.data.toList = a ++ tSp.data.toList ++ Lib.join (b :: r) tSp.data.toList := by simp [Lib.join]
        rw [e]
        simp only [List.length_append]
        rcases List.mem_cons.1 hx with rfl | hx
        · omega
        · have := ih x hx
          omega
  have h3 := key ((hParts f k).map (·.data.toList)) w.data.toList (List.mem_map_of_mem hw)
  have e1 : w.data.toList.length = w.size := by simp
  have e2 : (tJoin (hParts f k) tSp).size = (Lib.join ((hParts f k).map (·.data.toList)) tSp.data.toList).length := by unfold tJoin; exact List.size_toArray
  omega
theorem set_map {p : List ByteArray} : (p.map sEl).set (p.length - 1) (sEl (p.getD (p.length - 1) ⟨#[]⟩ ++ tSemi)) = (hPut p).map sEl := by
  rw [hPut, List.map_set]
theorem sc_head (f : Fl) (hn : f.name.size ≤ 1073741824) (ht : f.types.length ≤ 1073741824) : SC Tryz.prog 17 [.pv (.agg f.enc)] [] (fun k => k ∈ []) (.pv (.val (.string (tHd f f.types.length)))) [] := by
  refine SC.vc tb { pb := [101], ob := [111], gh := [(9, [.fz 3 111])] } [] Tryz.func17 rfl rfl ?_
  have hj := sc_Join (hParts f f.types.length) tSp (by rw [hParts_len]; omega) (by
    have e2 : (tJoin (hParts f f.types.length) tSp).size = (Lib.join ((hParts f f.types.length).map (·.data.toList)) tSp.data.toList).length := by unfold tJoin; exact List.size_toArray
    have h2 := tHd_le f f.types.length
    rw [← hParts_join] at h2
    omega)
  have e0 : (⟨(Lib.join ((hParts f f.types.length).map (·.data.toList)) tSp.data.toList).toArray⟩ : ByteArray) = tHd f f.types.length := hParts_join f f.types.length
  rw [e0] at hj
  refine ⟨[], sc_kind f.ty, sR, trivial, rfl, ?_⟩
  refine ⟨Nat, fun k => [(15, iInt k), (3, .sl 111 ((hParts f k).map sEl).length)], fun k => [(111, .row ⟨9, 1⟩ ((hParts f k).map sEl))], fun k => f.types.length - k, fun k => k ≤ f.types.length, [], 0, Nat.zero_le _, ⟨rfl, rfl, trivial⟩, ⟨rfl, trivial⟩, ?_⟩
  intro k hk
  refine bcase (fun h => ?_) fun h => ?_
  · have hlt : k < f.types.length := lt_of (f := eInt) rfl h
    obtain ⟨t, hx, _, _, _⟩ := at_lt hlt
    have hg : f.types.getD k 0 = t := by rw [List.getD_eq_getElem?_getD, hx]; rfl
    have hl := hParts_len f k
    have hne := hParts_ne f k
    have hall := hParts_all f k
    have hnext : hParts f (k + 1) = (if (k : Int) = f.params then hPut (hParts f k) else hParts f k) ++ [tKind t] := by rw [← hg]; rfl
    refine ⟨map_get (f := eInt) hx, rfl, bcase (fun hb => ?_) fun hb => ?_⟩
    · have hb' : (k : Int) = f.params := eq_of_beq hb
      rw [if_pos hb'] at hnext
      generalize hP : hParts f k = p at *
      have hi : p.length - 1 < p.length := by omega
      have hgi : p[p.length - 1]? = some (p.getD (p.length - 1) ⟨#[]⟩) := by
        rw [List.getD_eq_getElem?_getD, List.getElem?_eq_getElem hi]; rfl
      have hsz := hall _ (List.mem_of_getElem? hgi)
      have hmi := map_get (f := sEl) hgi
      have hm := set_map (p := p)
      generalize p.getD (p.length - 1) ⟨#[]⟩ = w at *
      have hln : (p.map sEl).length = p.length := List.length_map _
      have e1 : ((p.map sEl).length : Int) - 1 = (p.length - 1 : Nat) := by omega
      exact ⟨rfl, i64_sub rfl (by omega), rfl, by omega, e1, VRow.mk (i := p.length - 1) (j := 0) (el := sEl w) (z := .val (.string w)) rfl rfl hmi rfl ⟨str_add (by show _ + 1 ≤ _; omega), rfl, by omega, e1, p.length - 1, 0, sEl w, rfl, rfl, hmi, Nat.one_pos, [], sc_kind t, sR, trivial, rfl, by simp, flat1 rfl, by simp; omega, i64_add rfl (by omega), k + 1, step_lt hlt, hlt, ⟨rfl, slq (by rw [hnext]; simp [hPut_len]), trivial⟩, ⟨rwq (by rw [hnext, List.map_append, ← hm]; rfl), trivial⟩, rfl, rfl, rfl, rfl⟩⟩
    · have hb' : ¬ (k : Int) = f.params := by simpa using hb
      rw [if_neg hb'] at hnext
      exact ⟨[], sc_kind t, sR, trivial, rfl, rfl, flat1 rfl, by simp; omega, i64_add rfl (by omega), k + 1, step_lt hlt, hlt, ⟨rfl, slq (by rw [hnext]; simp), trivial⟩, ⟨rwq (by rw [hnext, List.map_append]; rfl), trivial⟩, rfl, rfl, rfl, rfl⟩
  · have hge : f.types.length ≤ k := ge_of (f := eInt) rfl h
    have hk' : k = f.types.length := by omega
    subst hk'
    exact ⟨rfl, [], hj, sR, trivial, rfl, sI, trivial⟩
def tArr (a : Ar) : ByteArray := ⟨#[97, 114, 114, 97, 121, 32]⟩ ++ a.name ++ tSp ++ tNum a.size ++ tNl
def tFlw (f : Fl) : ByteArray := tHd f f.types.length ++ tNl ++ tLs tTab f.body
def tUnit (u : Un) : ByteArray := tCat (u.arrays.map tArr) ++ tCat (u.flows.map tFlw)
def printOf (u : Un) : ByteArray × Int := if (r8Check u).1 = 0 then (tUnit u, 0) else (⟨#[]⟩, 1)
structure PrOk (u : Un) : Prop where
  w : r8Weight u ≤ 536870912
  n : ∀ f ∈ u.flows, n64L f.body
theorem gA_ok {u : Un} : ∀ {l : List Ar} {i : Int}, r8gA u l i = true → ∀ a ∈ l, 1 ≤ a.size ∧ a.size ≤ 1000
  | b :: r, i, h, a, ha => by
    simp only [r8gA, Bool.and_eq_true, gArr, Bool.not_eq_true', decide_eq_false_iff_not] at h
    rcases List.mem_cons.1 ha with rfl | ha
    · omega
    · exact gA_ok h.2 a ha
theorem gF_ok {u : Un} : ∀ {l : List Fl} {i : Int}, r8gF u l i = true → ∀ f ∈ l, f.ty = 1 ∨ f.ty = 2
  | b :: r, i, h, a, ha => by
    simp only [r8gF, Bool.and_eq_true, gFlw, Bool.or_eq_true, beq_iff_eq] at h
    rcases List.mem_cons.1 ha with rfl | ha
    · exact h.1.1.1.2
    · exact gF_ok h.2 a ha
theorem arrs_ok {u : Un} (h : (r8Check u).1 = 0) : ∀ a ∈ u.arrays, 1 ≤ a.size ∧ a.size ≤ 1000 := by
  obtain ⟨h1, _⟩ := (check_iff u).1 h
  simp only [r8globals, Bool.and_eq_true] at h1
  exact gA_ok h1.1.1
theorem flws_ty {u : Un} (h : (r8Check u).1 = 0) : ∀ f ∈ u.flows, f.ty = 1 ∨ f.ty = 2 := by
  obtain ⟨h1, _⟩ := (check_iff u).1 h
  simp only [r8globals, Bool.and_eq_true] at h1
  exact gF_ok h1.1.2
theorem flws_tys {u : Un} (h : (r8Check u).1 = 0) : ∀ f ∈ u.flows, ∀ t ∈ f.types, t = 1 ∨ t = 2 := by
  obtain ⟨_, h1⟩ := (check_iff u).1 h
  intro f hf t ht
  have h2 := h1 f hf
  simp only [r8Flow, Bool.and_eq_true] at h2
  have h3 := List.all_eq_true.1 h2.1.2 t ht
  simpa using h3
theorem flws_ne {u : Un} (h : (r8Check u).1 = 0) : u.flows ≠ [] := by
  obtain ⟨h1, _⟩ := (check_iff u).1 h
  simp only [r8globals, r8main, Bool.and_eq_true, decide_eq_true_eq] at h1
  intro e
  rw [e] at h1
  simp [r8Place] at h1
theorem tArr_le {a : Ar} (h : 1 ≤ a.size ∧ a.size ≤ 1000) : (tArr a).size ≤ a.name.size + 29 := by
  have := tNum_le (n := a.size) ⟨by omega, by omega⟩
  simp only [tArr, size_app]
  show 6 + _ + 1 + _ + 1 ≤ _
  omega
theorem tArrs_le : ∀ {l : List Ar}, (∀ a ∈ l, 1 ≤ a.size ∧ a.size ≤ 1000) → (tCat (l.map tArr)).size ≤ wtA l + 29 * l.length
  | [], _ => by show 0 ≤ _; omega
  | a :: r, h => by
    have h1 := tArr_le (h a (.head _))
    have h2 := tArrs_le fun b hb => h b (.tail _ hb)
    simp only [List.map_cons, tCat, size_app, wtA, List.length_cons]
    omega
theorem tFlw_le {f : Fl} (h : ok64L 100 f.body) : (tFlw f).size ≤ (f.name.size + f.types.length + r8nodes f.body + 1) * 1024 := by
  have h1 := tHd_le f f.types.length
  have h2 := tLs_le tTab 100 f.body h (by decide)
  simp only [tFlw, size_app, r8nodes]
  have e1 : tNl.size = 1 := rfl
  omega
theorem tFlws_le : ∀ {l : List Fl}, (∀ f ∈ l, ok64L 100 f.body) → (tCat (l.map tFlw)).size ≤ (wtF l + l.length) * 1024
  | [], _ => by show 0 ≤ _; omega
  | f :: r, h => by
    have h1 := tFlw_le (h f (.head _))
    have h2 := tFlws_le fun g hg => h g (.tail _ hg)
    simp only [List.map_cons, tCat, size_app, wtF, List.length_cons]
    omega
theorem tUnit_le {u : Un} (h : (r8Check u).1 = 0) (ho : PrOk u) : (tUnit u).size ≤ 549755813888 := by
  have h1 := tArrs_le (arrs_ok h)
  have h2 := tFlws_le fun f hf => (body_ok h hf (ho.n f hf)).2
  have h3 := ho.w
  simp only [r8Weight] at h3
  simp only [tUnit, size_app]
  omega
set_option maxRecDepth 20000
set_option maxHeartbeats 4000000
theorem tCat_app : ∀ a b : List ByteArray, tCat (a ++ b) = tCat a ++ tCat b
  | [], b => by simp only [List.nil_append, tCat, nil_app]
  | x :: r, b => by simp only [List.cons_append, tCat, tCat_app r b, app_assoc]
theorem tCat_part {α : Type} (g : α → ByteArray) (l : List α) (k : Nat) : (tCat ((l.take k).map g)).size ≤ (tCat (l.map g)).size := by
  have h : tCat (l.map g) = tCat ((l.take k).map g) ++ tCat ((l.drop k).map g) := by rw [← tCat_app, ← List.map_append, List.take_append_drop]
  rw [h, size_app]
  omega
theorem tCat_next {α : Type} (g : α → ByteArray) {l : List α} {k : Nat} {x : α} (h : l.take (k + 1) = l.take k ++ [x]) : tCat ((l.take (k + 1)).map g) = tCat ((l.take k).map g) ++ g x := by
  rw [h, List.map_append, tCat_app]
  simp only [List.map_cons, List.map_nil, tCat, app_nil]
theorem wtF_at : ∀ {l : List Fl} {f : Fl}, f ∈ l → f.name.size + f.types.length + r8nodes f.body ≤ wtF l
  | g :: r, f, h => by
    simp only [wtF]
    rcases List.mem_cons.1 h with rfl | h
    · omega
    · have := wtF_at h; omega
theorem sc_refPrint (u : Un) (ho : PrOk u) : SC Tryz.prog 10 [.pv u.enc] [] (fun k => k ∈ []) (.tup [.pv (.val (.string (printOf u).1)), iInt (printOf u).2]) [] := by
  refine SC.vc tb { pb := [101] } [] Tryz.func10 rfl rfl ?_
  refine ⟨[], sc_r8Check u ho.w, sR, trivial, rfl, bcase (fun hb => ?_) fun hb => ?_⟩
  · have h : ¬ (r8Check u).1 = 0 := by simpa using hb
    exact ⟨sE (by rw [printOf, if_neg h]), trivial⟩
  · have h : (r8Check u).1 = 0 := by simpa using hb
    have hU := tUnit_le h ho
    have hAr := arrs_ok h
    have e1 : tNl.size = 1 := rfl
    have e2 : tSp.size = 1 := rfl
    have hU2 := hU
    simp only [tUnit, size_app] at hU2
    have hw := ho.w
    simp only [r8Weight] at hw
    refine ⟨Nat, fun k => [(7, iInt k), (6, .pv (.val (.string (tCat ((u.arrays.take k).map tArr)))))], fun _ => [], fun k => u.arrays.length - k, fun k => k ≤ u.arrays.length, [], 0, Nat.zero_le _, ⟨rfl, rfl, trivial⟩, trivial, ?_⟩
    intro k hk
    refine bcase (fun hc => ?_) fun hc => ?_
    · have hlt : k < u.arrays.length := lt_of (f := Ar.enc) rfl hc
      obtain ⟨a, hx, hk1, _, hm⟩ := at_lt hlt
      have hA := hAr a hm
      have hpart := tCat_part tArr u.arrays k
      have hpn := tCat_part tArr u.arrays (k + 1)
      have hn := tCat_next tArr hk1
      rw [hn, size_app] at hpn
      have hsz := tArr_le hA
      have hn2 : (tArr a).size = 6 + a.name.size + 1 + (tNum a.size).size + 1 := by simp only [tArr, size_app]; rfl
      generalize tCat ((u.arrays.take k).map tArr) = T at *
      have g := map_get (f := Ar.enc) hx
      exact ⟨str_add (by show _ + 6 ≤ _; omega), g, rfl, str_add (by rw [size_app]; show _ + 6 + _ ≤ _; omega), str_add (by simp only [size_app]; show _ + 6 + _ + 1 ≤ _; omega), g, rfl, [], sc_digits _ a.size (Nat.lt_succ_self _) ⟨by omega, by omega⟩, sR, trivial, rfl, str_add (by simp only [size_app]; show _ + 6 + _ + 1 + _ ≤ _; omega), str_add (by simp only [size_app]; show _ + 6 + _ + 1 + _ + 1 ≤ _; omega), i64_add rfl (by omega), k + 1, step_lt hlt, hlt, ⟨rfl, svq (by rw [hn]; simp only [tArr, app_assoc]; rfl), trivial⟩, trivial, rfl, rfl, rfl, rfl⟩
    · have hge : u.arrays.length ≤ k := ge_of (f := Ar.enc) rfl hc
      rw [List.take_of_length_le hge]
      generalize hT : tCat (u.arrays.map tArr) = T at *
      refine ⟨Nat, fun k => [(8, iInt k), (6, .pv (.val (.string (T ++ tCat ((u.flows.take k).map tFlw)))))], fun _ => [], fun k => u.flows.length - k, fun k => k ≤ u.flows.length, [], 0, Nat.zero_le _, ⟨rfl, svq (app_nil T).symm, trivial⟩, trivial, ?_⟩
      intro k hk
      refine bcase (fun hc => ?_) fun hc => ?_
      · have hlt : k < u.flows.length := lt_of (f := Fl.enc) rfl hc
        obtain ⟨f, hx, hk1, _, hm⟩ := at_lt hlt
        have hty := flws_ty h f hm
        have htys := flws_tys h f hm
        have hpn := tCat_part tFlw u.flows (k + 1)
        have hn := tCat_next tFlw hk1
        rw [hn, size_app] at hpn
        have hb := body_ok h hm (ho.n f hm)
        have hwf := wtF_at hm
        simp only [r8nodes] at hwf
        have hlist := sc_refList _ 100 f.body tTab (Nat.lt_succ_self _) hb.1 hb.2 (by decide) (by omega)
        have hn2 : (tFlw f).size = (tHd f f.types.length).size + 1 + (tLs tTab f.body).size := by simp only [tFlw, size_app]; rfl
        generalize tCat ((u.flows.take k).map tFlw) = S at *
        have g := map_get (f := Fl.enc) hx
        have hd0 := tHd_le f 0
        have k0 := tKind_le f.ty
        have hTS : (T ++ S).size = T.size + S.size := size_app T S
        refine ⟨g, rfl, [], sc_types f.ty hty, sR, trivial, rfl, str_add (by omega), str_add (by rw [size_app]; show _ + _ + 1 ≤ _; omega), str_add (by simp only [size_app]; show _ + _ + 1 + _ ≤ _; omega), ?_⟩
        refine ⟨Nat, fun j => [(10, iInt j), (6, .pv (.val (.string (T ++ S ++ tHd f j))))], fun _ => [], fun j => f.types.length - j, fun j => j ≤ f.types.length, [], 0, Nat.zero_le _, ⟨rfl, svq (by simp only [tHd, app_assoc]; rfl), trivial⟩, trivial, ?_⟩
        intro j hj
        refine bcase (fun hc2 => ?_) fun hc2 => ?_
        · have hlt2 : j < f.types.length := lt_of (f := eInt) rfl hc2
          obtain ⟨t, hx2, _, _, hm2⟩ := at_lt hlt2
          have hg : f.types.getD j 0 = t := by rw [List.getD_eq_getElem?_getD, hx2]; rfl
          have hjn : tHd f (j + 1) = (if (j : Int) = f.params then tHd f j ++ tSemi else tHd f j) ++ tSp ++ tKind t := by rw [← hg]; rfl
          have hjl := tHd_le f j
          have kt := tKind_le t
          have htt := htys t hm2
          refine bcase (fun hp => ?_) fun hp => ?_
          · have hp' : (j : Int) = f.params := eq_of_beq hp
            rw [if_pos hp'] at hjn
            exact ⟨str_add (by rw [size_app]; show _ + _ + 1 ≤ _; omega), str_add (by simp only [size_app]; show _ + _ + _ + 1 + 1 ≤ _; omega), map_get (f := eInt) hx2, rfl, [], sc_types t htt, sR, trivial, rfl, str_add (by simp only [size_app]; show _ + _ + _ + 1 + 1 + _ ≤ _; omega), i64_add rfl (by omega), j + 1, step_lt hlt2, hlt2, ⟨rfl, svq (by rw [hjn]; simp only [app_assoc]; rfl), trivial⟩, trivial, rfl, rfl, rfl, rfl⟩
          · have hp' : ¬ (j : Int) = f.params := by simpa using hp
            rw [if_neg hp'] at hjn
            exact ⟨str_add (by simp only [size_app]; show _ + _ + _ + 1 ≤ _; omega), map_get (f := eInt) hx2, rfl, [], sc_types t htt, sR, trivial, rfl, str_add (by simp only [size_app]; show _ + _ + _ + 1 + _ ≤ _; omega), i64_add rfl (by omega), j + 1, step_lt hlt2, hlt2, ⟨rfl, svq (by rw [hjn]; simp only [app_assoc]; rfl), trivial⟩, trivial, rfl, rfl, rfl, rfl⟩
        · have hge2 : f.types.length ≤ j := ge_of (f := eInt) rfl hc2
          have hj' : j = f.types.length := by omega
          subst hj'
          exact ⟨str_add (by rw [size_app]; show _ + _ + 1 ≤ _; omega), [], hlist, sR, trivial, rfl, str_add (by simp only [size_app]; show _ + _ + _ + 1 + (tLs tTab f.body).size ≤ _; omega), i64_add rfl (by omega), k + 1, step_lt hlt, hlt, ⟨rfl, svq (by rw [hn]; simp only [tFlw, app_assoc]; rfl), trivial⟩, trivial, rfl, rfl, rfl, rfl⟩
      · have hge : u.flows.length ≤ k := ge_of (f := Fl.enc) rfl hc
        rw [List.take_of_length_le hge]
        exact ⟨sE (by rw [printOf, if_pos h, tUnit, hT]), trivial⟩
theorem sc_shTypes (u : Un) (f : Fl) (st : List Int) (hs : st.length = f.types.length) (l : List Int) (hb : l.length ≤ 1073741824) : SC Tryz.prog 126 [.ptr 3 0, .pv (ints l)] (ckS u f 3 st) (fun k => k < 100) (.pv (ints (r8of f.types l))) (ckS u f 3 st) := by
  refine SC.of Tryz.func126 rfl (lb rfl) fun F ρ w => ?_
  refine Tr.lenOf (t := 1) rfl (fun hl => ?_)
  simp only [List.length_map] at hl
  rw [r8of_eq]
  refine tQ <| tG <| sm 1 rfl <| nL <| tQ <| tQ <| Tr.grow (t := 4) (k := 104) ⟨3, 1⟩ rfl rfl rfl rfl rfl <| tG <| sm 1 rfl <| cV rfl (oSm Tryz.underlying35 rfl) <| sm 1 rfl <| nL ?_
  refine Tr.block <| Tr.sub (Sub.of (fr' := [(9, iInt 0), (8, iInt l.length), (7, .pv (ints l)), (4, .sl 104 0), (0, .ptr 3 0)]) ⟨rfl, rfl, rfl, rfl, rfl, trivial⟩) ?_
  refine Tr.loop (fun fr σ m => ∃ (k : Nat) (acc : List Int), (k ≤ l.length) ∧ (acc.length = k) ∧ (r8ofGo f.types [] l = r8ofGo f.types acc (l.drop k)) ∧ fr = [(9, iInt k), (8, iInt l.length), (7, .pv (ints l)), (4, .sl 104 k), (0, .ptr 3 0)] ∧ σ = look ((104, some (.row ⟨3, 1⟩ (acc.map eInt))) :: up (ckS u f 3 st)) ∧ m = l.length - k) (n := l.length - 0) ?_ ?_
  ·exact ⟨0, [], Nat.zero_le _, rfl, rfl, rfl, rfl, rfl⟩
  rintro fr σ m ⟨k, acc, hI0, hI1, hI2, rfl, rfl, rfl⟩
  refine tQ <| tG <| sm 1 rfl <| nL <| tQ ?_
  refine tC rfl (fun hc10 => ?_) fun hc10 => ?_
  ·have hlt : k < l.length := by simpa using hc10
   have hd := List.drop_eq_getElem_cons hlt
   have hm := List.getElem_mem hlt
   have hi := map_get (f := eInt) (List.getElem?_eq_getElem hlt)
   generalize l[k] = x at hd hm hi
   refine Tr.skip <| tQ <| Tr.block <| tQ <| tG <| cV rfl (ok_index_seq rfl rfl rfl Tryz.underlying35 hi tS3 rfl (by rfl)) <| sm 2 rfl <| nL <| tQ <| tQ <| tG <| sm 2 rfl ?_
   refine cE rfl (ocr (sc_shVal u f st x 0) ent141 rfl (po2 rfl rfl) rfl (fun k (h : _) => .inr trivial) rfl rfl) <| sm 1 rfl <| nL ?_
   refine tC rfl (fun hc16 => ?_) fun hc16 => ?_
   ·refine tQ <| tG <| sm 1 rfl <| nL <| Tr.ret ?_
    have hin : r8inr f.types x = false := by
      cases hr : r8inr f.types x with
      | false => rfl
      | true => simp [r8inr] at hr; simp [shVal] at hc16; omega
    rw [hI2, hd]
    simp only [r8ofGo, hin]
    exact ⟨⟨_, rfl, fun _ _ _ _ h => sub_nil h⟩, (po2 rfl rfl)⟩
   have hin : r8inr f.types x = true := by simp [shVal] at hc16; simp [r8inr]; omega
   have hv0 : x.toNat < f.types.length := by simp [r8inr] at hin; omega
   have hvx : x = ((x.toNat : Nat) : Int) := by simp [r8inr] at hin; omega
   have hty : (f.types.map eInt)[x.toNat]? = some [vInt (f.types.getD x.toNat 0)] := by rw [List.getElem?_map]; simp [eInt, List.getD, hv0]
   refine Tr.skip <| tG <| sm 2 rfl <| cV rfl (ok_nilCheck rfl rfl rfl) <| sm 4 rfl <| cV rfl (ok_index_seq rfl rfl rfl Tryz.underlying35 hty tS3 rfl (by omega)) <| sm 1 rfl <| cE rfl (ok_buildSlice rfl rfl Tryz.underlying35 tZ3 tS3 rfl rfl rfl rfl (firmB_ok rfl) rfl) ?_
   refine cE rfl (ok_append rfl rfl rfl rfl (by (simp; omega)) (by simp) Tryz.underlying35 tB3 (by decide) (by (simp [chunks]; done)) (by (simp [chunks, PV.one]; rfl)) (by simp [maxLen, chunks]; omega) (by simp [chunks]; omega)) ?_
   refine sm 1 rfl <| nL <| tG <| cV rfl (oB rfl rfl (i64_add rfl (by omega))) <| sm 1 rfl <| nL ?_
   refine ⟨_, _, ?_, Sub.of (fr' := [(9, iInt (k + 1)), (8, iInt l.length), (7, .pv (ints l)), (4, .sl 104 (k + 1)), (0, .ptr 3 0)]) ⟨rfl, rfl, rfl, rfl, rfl, trivial⟩, (k + 1), (acc ++ [f.types.getD x.toNat 0]), ?_, ?_, ?_, rfl, look_row_snoc2, rfl⟩
   ·omega
   ·omega
   ·simp [hI1]
   rw [hI2, hd]
   simp [r8ofGo, hin]
  refine Tr.exit <| tQ ?_
  refine Tr.freeze (t := 4) (k := 104) rfl rfl (by simpa using hI1) ?_
  refine tG <| sm 2 rfl <| nL <| Tr.ret <| ret_ok rfl ?_ (po2 rfl rfl)
  have hge : l.length ≤ k := by simpa using hc10
  rw [hI2, List.drop_eq_nil_of_le hge]
  rfl
theorem sc_shSum (u : Un) (f : Fl) (st : List Int) (hs : st.length = f.types.length) (x : Nd) : SC Tryz.prog 130 [.ptr 3 0, .pv (ndv x)] (ckS u f 3 st) (fun k => k = 3) (iBool (shSum f st x).1) (ckS u f 3 (shSum f st x).2) := by
  refine SC.of Tryz.func130 rfl (lb rfl) fun F ρ w => ?_
  refine tQ <| tG <| cE rfl (ok_box rfl rfl) <| sm 1 rfl <| nL <| tQ <| tG <| sm 2 rfl <| cE rfl (ocq (sc_shOperand _) ent145 rfl rfl) <| sm 1 rfl <| cV rfl (ok_extract rfl rfl rfl) <| cV rfl (ok_extract rfl rfl rfl) ?_
  refine sm 2 rfl <| nL <| tQ <| tQ <| tG <| sm 3 rfl <| nL ?_
  refine tC rfl (fun hc16 => ?_) fun hc16 => ?_
  ·refine tQ <| tG <| sm 4 rfl ?_
   refine wS 20 rfl (fun hb20 => ?_) fun hb20 => ?_
   ·refine sm 5 rfl ?_
    refine wS 25 rfl (fun hb25 => ?_) fun hb25 => ?_
    ·refine sm 4 rfl <| WL.yes rfl rfl rfl rfl rfl rfl (ok_buildSlice rfl rfl Tryz.underlying35 tZ3 tS3 rfl rfl rfl rfl (firmB_ok rfl) rfl) <| WL.yes rfl rfl rfl rfl rfl rfl (ok_callr (sc_shUses u f st hs x.args [(shOperand x.op).1]) ent127 rfl rfl (Subs.refl _ _) (po2 rfl rfl) (by rfl) (fun k (h : _) => .inr trivial) rfl (by rfl)) <| sm 2 rfl ?_
     refine wS 33 rfl (fun hb33 => ?_) fun hb33 => ?_
     ·refine sm 4 rfl <| WL.yes rfl rfl rfl rfl rfl rfl (ok_buildSlice rfl rfl Tryz.underlying35 tZ3 tS3 rfl rfl rfl rfl (firmB_ok rfl) rfl) <| WL.yes rfl rfl rfl rfl rfl rfl (ok_callr (sc_shSets u f st hs x.outs [(shOperand x.op).2]) ent129 rfl rfl (Subs.refl _ _) (po2 rfl rfl) (by rfl) (fun k (h : _) => .inr h) rfl (by rfl)) <| sm 2 rfl <| nL <| Tr.ret ?_
      (have h2 : (shSum f st x).2 = (shSets f.types st x.outs [(shOperand x.op).2]).2 := (by simp_all [shSum, r1IsOne, andP]; done)
       rw [h2]
       refine ret_ok rfl ?_ (po2 rfl rfl)
       clear h2
       skip
       simp_all [shSum, r1IsOne, andP]
       done)
     refine sm 8 rfl <| nL <| Tr.ret ?_
     (have h2 : (shSum f st x).2 = st := (by simp_all [shSum, r1IsOne, andP]; done)
      rw [h2]
      refine ret_ok rfl ?_ (po2 rfl rfl)
      clear h2
      skip
      simp_all [shSum, r1IsOne, andP]
      done)
    refine sm 16 rfl <| nL <| Tr.ret ?_
    (have h2 : shSum f st x = (false, st) := (by (first | (simp_all [shSum, r1IsOne, andP]; done) | (simp_all [shSum, r1IsOne, andP] <;> omega)))
     rw [h2]
     exact ret_ok rfl rfl (po2 rfl rfl))
   refine sm 21 rfl <| nL <| Tr.ret ?_
   (have h2 : shSum f st x = (false, st) := (by (first | (simp_all [shSum, r1IsOne, andP]; done) | (simp_all [shSum, r1IsOne, andP] <;> omega)))
    rw [h2]
    exact ret_ok rfl rfl (po2 rfl rfl))
  refine Tr.skip <| tQ <| tG <| sm 2 rfl <| cE rfl (ocq (sc_wLevel _) ent146 rfl rfl) <| sm 2 rfl ?_
  refine wS 45 rfl (fun hb45 => ?_) fun hb45 => ?_
  ·refine sm 5 rfl ?_
   refine wS 50 rfl (fun hb50 => ?_) fun hb50 => ?_
   ·refine sm 5 rfl <| WL.yes rfl rfl rfl rfl rfl rfl (ok_buildSlice rfl rfl Tryz.underlying35 tZ3 tS3 rfl rfl rfl rfl (firmB_ok rfl) rfl) <| WL.yes rfl rfl rfl rfl rfl rfl (ok_callr (sc_shUses u f st hs x.args [(shOperand x.op).1, (shOperand x.op).1]) ent127 rfl rfl (Subs.refl _ _) (po2 rfl rfl) (by rfl) (fun k (h : _) => .inr trivial) rfl (by rfl)) <| sm 2 rfl <| nL <| tQ <| Tr.drawn mixed (fun k => k ∈ ([3] : List Nat)) <| wR 4 [0, 1, 2, 3, 4, 5, 6, 7, 8, 9, 10, 11, 12, 13, 14, 15, 16, 17, 18, 19, 20, 21, 22, 23, 24, 25, 26, 27, 28, 29, 30] (by kernel_rfl) (fun _ _ _ h => h) <| smR 2 rfl ?_
    refine WR.split (t := 60) rfl (fun hb60 => ?_) (fun hb60 => ?_)
    ·obtain ⟨a, b, hab, ha0, hal, hb0, hbl⟩ := shUses_two (by simpa using hb60)
     have hi0 : (x.args.map eInt)[0]? = some [vInt a] := by rw [hab]; rfl
     have hi1 : (x.args.map eInt)[1]? = some [vInt b] := by rw [hab]; rfl
     have hta : (f.types.map eInt)[a.toNat]? = some [vInt (f.types.getD a.toNat 0)] := by rw [List.getElem?_map]; simp [eInt, List.getD, hal]
     have htb : (f.types.map eInt)[b.toNat]? = some [vInt (f.types.getD b.toNat 0)] := by rw [List.getElem?_map]; simp [eInt, List.getD, hbl]
     refine smR 1 rfl <| ryV rfl rfl rfl (ok_nilCheck rfl rfl rfl) <| smR 2 rfl <| ryV rfl rfl rfl (oLb Tryz.underlying35 rfl rfl rfl (by decide)) <| smR 2 rfl <| ryV rfl rfl rfl (ok_index_seq rfl rfl rfl Tryz.underlying35 hi0 tS3 rfl (by rfl)) <| smR 1 rfl <| ryV rfl rfl rfl (ok_index_seq rfl rfl rfl Tryz.underlying35 hta tS3 rfl (by omega)) <| smR 2 rfl <| ryV rfl rfl rfl (ok_nilCheck rfl rfl rfl) <| smR 2 rfl <| ryV rfl rfl rfl (oLb Tryz.underlying35 rfl rfl rfl (by decide)) ?_
     refine smR 2 rfl <| ryV rfl rfl rfl (ok_index_seq rfl rfl rfl Tryz.underlying35 hi1 tS3 rfl (by rfl)) <| smR 1 rfl <| ryV rfl rfl rfl (ok_index_seq rfl rfl rfl Tryz.underlying35 htb tS3 rfl (by omega)) <| smR 4 rfl ?_
     refine WR.split (t := 85) rfl (fun hb85 => ?_) (fun hb85 => ?_)
     ·refine smR 4 rfl <| nR <| wO 31 (by kernel_rfl) <| wY rfl rfl rfl (fun k (h : _) => by (simp at h ⊢; omega)) nw (fun _ _ => ok_buildSlice rfl rfl Tryz.underlying35 tZ3 tS3 rfl rfl rfl rfl (firmB_ok rfl) rfl) <| wO 32 (by kernel_rfl) <| wY rfl rfl rfl (fun k (h : _) => by (simp at h ⊢; omega)) (new_app rfl) (fun _ _ => ocr (sc_shSets u f st hs x.outs [(shOperand x.op).2]) ent129 rfl (po2 rfl rfl) rfl (fun k (h : _) => by (simp only [List.mem_cons, List.not_mem_nil, or_false] at h; rcases h with rfl <;> first | exact .inl rfl | exact .inr rfl | exact .inr (by decide))) rfl rfl) <| wR 0 [33, 34] (by kernel_rfl) (fun _ _ _ h => h) <| smR 2 rfl <| nR <| WA.done (by kernel_rfl) <| Tr.ret ?_
      (have h2 : (shSum f st x).2 = (shSets f.types st x.outs [(shOperand x.op).2]).2 := (by (try (clear ha0 hb0)); simp_all [shSum, andP]; done)
       rw [h2]
       refine ret_ok rfl ?_ (po2 rfl rfl)
       clear h2
       try (clear ha0 hb0)
       simp_all [shSum, andP]
       done)
     refine smR 4 rfl <| nR <| wN 31 (by kernel_rfl) (fun _ _ _ h => h) rfl rfl rfl <| wN 32 (by kernel_rfl) (fun _ _ _ h => h) rfl rfl rfl <| wR 0 [33, 34] (by kernel_rfl) (fun _ _ _ h => h) <| smR 2 rfl <| nR <| WA.done (by kernel_rfl) <| Tr.ret ?_
     (have h2 : (shSum f st x).2 = st := (by (try (clear ha0 hb0)); simp_all [shSum, andP]; done)
      rw [h2]
      refine ret_ok rfl ?_ (po2 rfl rfl)
      clear h2
      try (clear ha0 hb0)
      simp_all [shSum, andP]
      done)
    refine smR 29 rfl <| nR <| wN 31 (by kernel_rfl) (fun _ _ _ h => h) rfl rfl rfl <| wN 32 (by kernel_rfl) (fun _ _ _ h => h) rfl rfl rfl <| wR 0 [33, 34] (by kernel_rfl) (fun _ _ _ h => h) <| smR 2 rfl <| nR <| WA.done (by kernel_rfl) <| Tr.ret ?_
    (have h2 : (shSum f st x).2 = st := (by (try (clear ha0 hb0)); simp_all [shSum, andP]; done)
     rw [h2]
     refine ret_ok rfl ?_ (po2 rfl rfl)
     clear h2
     try (clear ha0 hb0)
     simp_all [shSum, andP]
     done)
   refine sm 9 rfl <| nL <| tQ <| Tr.drawn mixed (fun k => k ∈ ([3] : List Nat)) <| wR 4 [0, 1, 2, 3, 4, 5, 6, 7, 8, 9, 10, 11, 12, 13, 14, 15, 16, 17, 18, 19, 20, 21, 22, 23, 24, 25, 26, 27, 28, 29, 30] (by kernel_rfl) (fun _ _ _ h => h) <| smR 31 rfl <| nR <| wN 31 (by kernel_rfl) (fun _ _ _ h => h) rfl rfl rfl <| wN 32 (by kernel_rfl) (fun _ _ _ h => h) rfl rfl rfl <| wR 0 [33, 34] (by kernel_rfl) (fun _ _ _ h => h) <| smR 2 rfl <| nR ?_
   refine WA.done (by kernel_rfl) <| Tr.ret ?_
   (have h2 : shSum f st x = (false, st) := (by (try (clear ha0 hb0)); (first | (simp_all [shSum, andP]; done) | (simp_all [shSum, andP] <;> omega)))
    rw [h2]
    exact ret_ok rfl rfl (po2 rfl rfl))
  refine sm 14 rfl <| nL <| tQ <| Tr.drawn mixed (fun k => k ∈ ([3] : List Nat)) <| wR 4 [0, 1, 2, 3, 4, 5, 6, 7, 8, 9, 10, 11, 12, 13, 14, 15, 16, 17, 18, 19, 20, 21, 22, 23, 24, 25, 26, 27, 28, 29, 30] (by kernel_rfl) (fun _ _ _ h => h) <| smR 31 rfl <| nR <| wN 31 (by kernel_rfl) (fun _ _ _ h => h) rfl rfl rfl <| wN 32 (by kernel_rfl) (fun _ _ _ h => h) rfl rfl rfl <| wR 0 [33, 34] (by kernel_rfl) (fun _ _ _ h => h) <| smR 2 rfl <| nR ?_
  refine WA.done (by kernel_rfl) <| Tr.ret ?_
  (have h2 : shSum f st x = (false, st) := (by (try (clear ha0 hb0)); (first | (simp_all [shSum, andP]; done) | (simp_all [shSum, andP] <;> omega)))
   rw [h2]
   exact ret_ok rfl rfl (po2 rfl rfl))
theorem sc_shEnd (u : Un) (f : Fl) (st : List Int) (hs : st.length = f.types.length) (x : Nd) (wh : Wh) : SC Tryz.prog 109 [.ptr 3 0, .pv (ndv x), .pv (whv wh)] (ckS u f 3 st) (fun k => k = 3) (iBool (shEnd f st x wh)) (ckS u f 3 st) := by
  refine SC.of Tryz.func109 rfl (lb rfl) fun F ρ w => ?_
  refine tQ <| tG <| cE rfl (ok_box rfl rfl) <| cE rfl (ok_box rfl rfl) <| sm 1 rfl <| nL <| tQ <| tG <| sm 2 rfl <| cV rfl (oSm Tryz.underlying35 rfl) <| sm 2 rfl <| nL ?_
  refine tQ <| tQ <| tG <| sm 2 rfl <| nL <| Tr.block <| tQ <| tG <| sm 2 rfl <| nL ?_
  refine tC rfl (fun hc14 => ?_) fun hc14 => ?_
  ·refine tQ <| tG <| sm 2 rfl ?_
   refine wS 17 rfl (fun hb17 => ?_) fun hb17 => ?_
   ·refine sm 4 rfl ?_
    refine wS 21 rfl (fun hb21 => ?_) fun hb21 => ?_
    ·refine sm 5 rfl <| WL.yes rfl rfl rfl rfl rfl rfl (ok_callr (sc_shUses u f st hs x.args wh.Yield) ent127 rfl rfl (Subs.refl _ _) (po2 rfl rfl) (by rfl) (fun k (h : _) => .inr trivial) rfl (by rfl)) <| sm 2 rfl <| nL <| Tr.ret <| ret_ok rfl ?_ (post_ok (And.intro rfl (And.intro rfl (trivial))))
     refine congrArg (fun b => iBool b) ?_
     simp_all [shEnd]
    refine sm 8 rfl <| nL <| Tr.ret <| ret_ok rfl ?_ (post_ok (And.intro rfl (And.intro rfl (trivial))))
    refine congrArg (fun b => iBool b) ?_
    simp_all [shEnd]
   refine sm 12 rfl <| nL <| Tr.ret <| ret_ok rfl ?_ (post_ok (And.intro rfl (And.intro rfl (trivial))))
   refine congrArg (fun b => iBool b) ?_
   simp_all [shEnd]
  refine tQ <| tG <| sm 2 rfl <| nL ?_
  refine tC rfl (fun hc29 => ?_) fun hc29 => ?_
  ·refine tQ <| tG <| sm 2 rfl ?_
   refine wS 32 rfl (fun hb32 => ?_) fun hb32 => ?_
   ·refine sm 4 rfl ?_
    refine wS 36 rfl (fun hb36 => ?_) fun hb36 => ?_
    ·refine sm 5 rfl <| WL.yes rfl rfl rfl rfl rfl rfl (ok_callr (sc_shUses u f st hs x.args wh.Next) ent127 rfl rfl (Subs.refl _ _) (po2 rfl rfl) (by rfl) (fun k (h : _) => .inr trivial) rfl (by rfl)) <| sm 2 rfl <| nL <| Tr.ret <| ret_ok rfl ?_ (post_ok (And.intro rfl (And.intro rfl (trivial))))
     refine congrArg (fun b => iBool b) ?_
     simp_all [shEnd]
    refine sm 8 rfl <| nL <| Tr.ret <| ret_ok rfl ?_ (post_ok (And.intro rfl (And.intro rfl (trivial))))
    refine congrArg (fun b => iBool b) ?_
    simp_all [shEnd]
   refine sm 12 rfl <| nL <| Tr.ret <| ret_ok rfl ?_ (post_ok (And.intro rfl (And.intro rfl (trivial))))
   refine congrArg (fun b => iBool b) ?_
   simp_all [shEnd]
  refine tQ <| tG <| sm 2 rfl <| nL ?_
  refine tC rfl (fun hc44 => ?_) fun hc44 => ?_
  ·refine tQ <| tG <| sm 2 rfl ?_
   refine wS 47 rfl (fun hb47 => ?_) fun hb47 => ?_
   ·refine sm 4 rfl ?_
    refine wS 51 rfl (fun hb51 => ?_) fun hb51 => ?_
    ·refine sm 5 rfl <| WL.yes rfl rfl rfl rfl rfl rfl (ok_callr (sc_shUses u f st hs x.args wh.Left) ent127 rfl rfl (Subs.refl _ _) (po2 rfl rfl) (by rfl) (fun k (h : _) => .inr trivial) rfl (by rfl)) <| sm 2 rfl <| nL <| Tr.ret <| ret_ok rfl ?_ (post_ok (And.intro rfl (And.intro rfl (trivial))))
     refine congrArg (fun b => iBool b) ?_
     simp_all [shEnd]
    refine sm 8 rfl <| nL <| Tr.ret <| ret_ok rfl ?_ (post_ok (And.intro rfl (And.intro rfl (trivial))))
    refine congrArg (fun b => iBool b) ?_
    simp_all [shEnd]
   refine sm 12 rfl <| nL <| Tr.ret <| ret_ok rfl ?_ (post_ok (And.intro rfl (And.intro rfl (trivial))))
   refine congrArg (fun b => iBool b) ?_
   simp_all [shEnd]
  refine Tr.skip <| tQ <| Tr.drawn mixed (fun k => k ∈ ([3, 4] : List Nat)) <| wR 4 [0, 1, 2, 3, 4, 5, 6, 7, 8, 9] (by kernel_rfl) (fun _ _ _ h => h) <| smR 2 rfl ?_
  refine WR.split (t := 60) rfl (fun hb60 => ?_) (fun hb60 => ?_)
  ·refine smR 4 rfl <| ryV rfl rfl rfl (ok_nilCheck rfl rfl rfl) <| smR 2 rfl <| ryV rfl rfl rfl (oLb Tryz.underlying3 rfl rfl rfl (by decide)) <| nR <| wO 10 (by kernel_rfl) <| wY rfl rfl rfl (fun k (h : _) => by (simp at h ⊢; omega)) nw (fun _ _ => ok_buildSlice rfl rfl Tryz.underlying35 tZ3 tS3 rfl rfl rfl rfl (firmB_ok rfl) rfl) <| wO 11 (by kernel_rfl) <| wY rfl rfl rfl (fun k (h : _) => by (simp at h ⊢; omega)) (new_app rfl) (fun _ _ => ocr (sc_shUses u f st hs x.args [f.ty]) ent127 rfl (po2 rfl rfl) rfl (fun k (h : _) => .inr trivial) rfl rfl) <| wR 0 [12, 13] (by kernel_rfl) (fun _ _ _ h => h) <| smR 2 rfl <| nR ?_
   refine WA.done (by kernel_rfl) <| Tr.ret <| ret_ok rfl ?_ (post_ok (And.intro rfl (And.intro rfl (trivial))))
   refine congrArg (fun b => iBool b) ?_
   simp_all [shEnd]
  refine smR 8 rfl <| nR <| wN 10 (by kernel_rfl) (fun _ _ _ h => h) rfl rfl rfl <| wN 11 (by kernel_rfl) (fun _ _ _ h => h) rfl rfl rfl <| wR 0 [12, 13] (by kernel_rfl) (fun _ _ _ h => h) <| smR 2 rfl <| nR <| WA.done (by kernel_rfl) <| Tr.ret <| ret_ok rfl ?_ (post_ok (And.intro rfl (And.intro rfl (trivial))))
  refine congrArg (fun b => iBool b) ?_
  simp_all [shEnd]
set_option maxRecDepth 20000
theorem sc_shSimple (u : Un) (f : Fl) (st : List Int) (hs : st.length = f.types.length) (hg : ∀ g ∈ u.flows, 0 ≤ g.params ∧ g.params ≤ g.types.length) (x : Nd) : SC Tryz.prog 110 [.ptr 3 0, .pv (ndv x)] (ckS u f 3 st) (fun k => k = 3) (iBool (shSimple u f st x).1) (ckS u f 3 (shSimple u f st x).2) := by
  refine SC.sameR (SC.vc tb {} [3] Tryz.func110 rfl rfl ?_) fun k _ h => List.mem_singleton.2 h
  obtain ⟨kind, op, n, name, args, outs, params, kids⟩ := x
  rcases (show kind = 1 ∨ kind = 2 ∨ kind = 3 ∨ kind = 4 ∨ kind = 5 ∨ kind = 6 ∨ kind = 8 ∨ kind = 9 ∨ kind = 7 ∨ (kind ≠ 1 ∧ kind ≠ 2 ∧ kind ≠ 3 ∧ kind ≠ 4 ∧ kind ≠ 5 ∧ kind ≠ 6 ∧ kind ≠ 8 ∧ kind ≠ 9 ∧ kind ≠ 7) by omega) with rfl | rfl | rfl | rfl | rfl | rfl | rfl | rfl | rfl | h
  · have e : shSimple u f st (.mk 1 op n name args outs params kids) = andP (shUses f.types st args []) st (shSets f.types st outs [1]) := rfl
    rw [e]
    have h1 := sc_shUses u f st hs args []
    generalize shUses f.types st args [] = b at h1 ⊢
    cases b
    · exact ⟨[], h1, SubA.same (SubA.same (SubA.cons sN SubA.nil)), ⟨rfl, trivial, rfl, trivial⟩, rfl, sI, rfl, rfl, trivial⟩
    · exact ⟨[], h1, SubA.same (SubA.same (SubA.cons sN SubA.nil)), ⟨rfl, trivial, rfl, trivial⟩, rfl, [], sc_shSets u f st hs outs [1], sR, ⟨rfl, rfl, rfl, trivial⟩, rfl, sI, rfl, rfl, trivial⟩
  · have e : shSimple u f st (.mk 2 op n name args outs params kids) = andP ((n == 0 || n == 1) && shUses f.types st args []) st (shSets f.types st outs [2]) := rfl
    rw [e]
    have h1 := sc_shUses u f st hs args []
    generalize shUses f.types st args [] = b at h1 ⊢
    rcases (show n = 0 ∨ n = 1 ∨ ((n == 0) = false ∧ (n == 1) = false) by simp; omega) with rfl | rfl | ⟨h2, h3⟩
    · cases b
      · exact ⟨[], h1, SubA.same (SubA.same (SubA.cons sN SubA.nil)), ⟨rfl, trivial, rfl, trivial⟩, rfl, sI, rfl, rfl, trivial⟩
      · exact ⟨[], h1, SubA.same (SubA.same (SubA.cons sN SubA.nil)), ⟨rfl, trivial, rfl, trivial⟩, rfl, [], sc_shSets u f st hs outs [2], sR, ⟨rfl, rfl, rfl, trivial⟩, rfl, sI, rfl, rfl, trivial⟩
    · cases b
      · exact ⟨[], h1, SubA.same (SubA.same (SubA.cons sN SubA.nil)), ⟨rfl, trivial, rfl, trivial⟩, rfl, sI, rfl, rfl, trivial⟩
      · exact ⟨[], h1, SubA.same (SubA.same (SubA.cons sN SubA.nil)), ⟨rfl, trivial, rfl, trivial⟩, rfl, [], sc_shSets u f st hs outs [2], sR, ⟨rfl, rfl, rfl, trivial⟩, rfl, sI, rfl, rfl, trivial⟩
    · rw [show ((n == 0 || n == 1) && b) = false by rw [h2, h3]; rfl]
      refine bcase (fun h => absurd (h.symm.trans h2) (by decide)) fun _ => bcase (fun h => absurd (h.symm.trans h3) (by decide)) fun _ => ?_
      exact ⟨sI, rfl, rfl, trivial⟩
  · exact ⟨[], sc_shSum u f st hs (.mk 3 op n name args outs params kids), sR, ⟨rfl, rfl, rfl, trivial⟩, rfl, sI, rfl, rfl, trivial⟩
  · exact ⟨[], sc_shSum u f st hs (.mk 4 op n name args outs params kids), sR, ⟨rfl, rfl, rfl, trivial⟩, rfl, sI, rfl, rfl, trivial⟩
  · have e : shSimple u f st (.mk 5 op n name args outs params kids) = andP (decide (r8Array name u.arrays 0 ≥ 0) && shUses f.types st args [1]) st (shSets f.types st outs [1]) := rfl
    rw [e]
    have h0 := sc_shHas u name
    have h1 := sc_shUses u f st hs args [1]
    generalize shUses f.types st args [1] = b at h1 ⊢
    generalize decide (r8Array name u.arrays 0 ≥ 0) = c at h0 ⊢
    cases c
    · exact ⟨[], h0, sR, trivial, rfl, sI, rfl, rfl, trivial⟩
    · cases b
      · exact ⟨[], h0, sR, trivial, rfl, [], h1, sR, ⟨rfl, trivial, rfl, trivial⟩, rfl, sI, rfl, rfl, trivial⟩
      · exact ⟨[], h0, sR, trivial, rfl, [], h1, sR, ⟨rfl, trivial, rfl, trivial⟩, rfl, [], sc_shSets u f st hs outs [1], sR, ⟨rfl, rfl, rfl, trivial⟩, rfl, sI, rfl, rfl, trivial⟩
  · have e : shSimple u f st (.mk 6 op n name args outs params kids) = andP (decide (r8Array name u.arrays 0 ≥ 0) && shUses f.types st args [1, 1]) st (shSets f.types st outs []) := rfl
    rw [e]
    have h0 := sc_shHas u name
    have h1 := sc_shUses u f st hs args [1, 1]
    generalize shUses f.types st args [1, 1] = b at h1 ⊢
    generalize decide (r8Array name u.arrays 0 ≥ 0) = c at h0 ⊢
    cases c
    · exact ⟨[], h0, sR, trivial, rfl, sI, rfl, rfl, trivial⟩
    · cases b
      · exact ⟨[], h0, sR, trivial, rfl, [], h1, sR, ⟨rfl, trivial, rfl, trivial⟩, rfl, sI, rfl, rfl, trivial⟩
      · exact ⟨[], h0, sR, trivial, rfl, [], h1, sR, ⟨rfl, trivial, rfl, trivial⟩, rfl, [], sc_shSets u f st hs outs [], SubA.same (SubA.same (SubA.cons sN SubA.nil)), ⟨rfl, rfl, rfl, trivial⟩, rfl, sI, rfl, rfl, trivial⟩
  · have e : shSimple u f st (.mk 8 op n name args outs params kids) = andP (shUses f.types st args []) st (shSets f.types st outs [1]) := rfl
    rw [e]
    have h1 := sc_shUses u f st hs args []
    generalize shUses f.types st args [] = b at h1 ⊢
    cases b
    · exact ⟨[], h1, SubA.same (SubA.same (SubA.cons sN SubA.nil)), ⟨rfl, trivial, rfl, trivial⟩, rfl, sI, rfl, rfl, trivial⟩
    · exact ⟨[], h1, SubA.same (SubA.same (SubA.cons sN SubA.nil)), ⟨rfl, trivial, rfl, trivial⟩, rfl, [], sc_shSets u f st hs outs [1], sR, ⟨rfl, rfl, rfl, trivial⟩, rfl, sI, rfl, rfl, trivial⟩
  · have e : shSimple u f st (.mk 9 op n name args outs params kids) = andP (shUses f.types st args [1]) st (shSets f.types st outs []) := rfl
    rw [e]
    have h1 := sc_shUses u f st hs args [1]
    generalize shUses f.types st args [1] = b at h1 ⊢
    cases b
    · exact ⟨[], h1, sR, ⟨rfl, trivial, rfl, trivial⟩, rfl, sI, rfl, rfl, trivial⟩
    · exact ⟨[], h1, sR, ⟨rfl, trivial, rfl, trivial⟩, rfl, [], sc_shSets u f st hs outs [], SubA.same (SubA.same (SubA.cons sN SubA.nil)), ⟨rfl, rfl, rfl, trivial⟩, rfl, sI, rfl, rfl, trivial⟩
  · have e : shSimple u f st (.mk 7 op n name args outs params kids) = shCall u f st (.mk 7 op n name args outs params kids) := rfl
    rw [e]
    refine ⟨[], sc_shPlace u name, sR, trivial, rfl, bcase (fun hc => ?_) fun hc => ?_⟩
    · rw [show shCall u f st (.mk 7 op n name args outs params kids) = (false, st) from if_pos (of_decide_eq_true hc)]
      exact ⟨sI, rfl, rfl, trivial⟩
    · have hl : ¬ r8Place name u.flows 0 < 0 := of_decide_eq_false hc
      have hk0 : r8Place name u.flows 0 ≥ 0 := by omega
      obtain ⟨g, hgk, _⟩ := r8Place_at hk0
      obtain ⟨hgp0, hgpl⟩ := hg g (List.mem_of_getElem? hgk)
      have e2 : shCall u f st (.mk 7 op n name args outs params kids) = andP (shUses f.types st args (g.types.take g.params.toNat)) st (shSets f.types st outs [g.ty]) := by
        show (if r8Place name u.flows 0 < 0 then _ else match u.flows[(r8Place name u.flows 0).toNat]? with | some g => _ | none => _) = _
        rw [if_neg hl, hgk]
        rfl
      rw [e2]
      have h1 := sc_shUses u f st hs args (g.types.take g.params.toNat)
      generalize shUses f.types st args (g.types.take g.params.toNat) = b at h1 ⊢
      have hi := map_get (f := Fl.enc) hgk
      have hkn : (((r8Place name u.flows 0).toNat : Nat) : Int) = r8Place name u.flows 0 := by omega
      have hpn : ((g.params.toNat : Nat) : Int) = g.params := by omega
      have hle : 0 ≤ g.params.toNat := Nat.zero_le _
      have hge : g.params.toNat ≤ (g.types.map eInt).length := by simp; omega
      cases b
      · exact ⟨hi, hkn.symm, _, hpn.symm, hle, hge, hw_int, [], h1, SubA.same (SubA.same (SubA.cons (sP (by simp only [ints, List.map_take]; exact PSub.refl _)) SubA.nil)), ⟨rfl, trivial, rfl, trivial⟩, rfl, sI, rfl, rfl, trivial⟩
      · exact ⟨hi, hkn.symm, _, hpn.symm, hle, hge, hw_int, [], h1, SubA.same (SubA.same (SubA.cons (sP (by simp only [ints, List.map_take]; exact PSub.refl _)) SubA.nil)), ⟨rfl, trivial, rfl, trivial⟩, rfl, [], sc_shSets u f st hs outs [g.ty], sR, ⟨rfl, rfl, rfl, trivial⟩, rfl, sI, rfl, rfl, trivial⟩
  · obtain ⟨h1, h2, h3, h4, h5, h6, h8, h9, h7⟩ := h
    rw [show shSimple u f st (.mk kind op n name args outs params kids) = (false, st) by unfold shSimple; simp [Nd.kind, h1, h2, h3, h4, h5, h6, h7, h8, h9]]
    have no : ∀ {i : Int}, kind ≠ i → (kind == i) = true → False := fun h e => h (eq_of_beq e)
    exact bcase (fun h => (no h1 h).elim) fun _ => bcase (fun h => (no h2 h).elim) fun _ => bcase (fun h => (no h3 h).elim) fun _ => bcase (fun h => (no h4 h).elim) fun _ => bcase (fun h => (no h5 h).elim) fun _ => bcase (fun h => (no h6 h).elim) fun _ => bcase (fun h => (no h8 h).elim) fun _ => bcase (fun h => (no h9 h).elim) fun _ => bcase (fun h => (no h7 h).elim) fun _ => ⟨sI, rfl, rfl, trivial⟩
set_option maxRecDepth 20000
set_option maxHeartbeats 2000000
theorem shTail_c (f : Fl) {x : Nd} (st : List Int) {c : Bool} (h : ((x.outs.length : Int) == 0 || !r8Closed x) = c) : shTail f x st = andP c st (shSets f.types st x.outs (List.replicate x.outs.length 0)) := by rw [shTail, h]
theorem sc_shChoice (u : Un) (f : Fl) (st : List Int) (hs : st.length = f.types.length) (x : Nd) (ka kb : List Nd) (hkids : x.kids = [ka, kb]) (wh : Wh) (deep : Int) (hbo : x.outs.length ≤ 1073741824) (ih : ∀ q ∈ x.kids, ∀ (w : Wh) (st : List Int), st.length = f.types.length → SC Tryz.prog 51 [.ptr 3 0, .pv (nodes q), .pv (whv w), iInt deep] (ckS u f 3 st) (fun k => k = 3) (iBool (shList u f deep w st q).1) (ckS u f 3 (shList u f deep w st q).2)) : SC Tryz.prog 106 [.ptr 3 0, .pv (ndv x), .pv (whv wh), iInt deep] (ckS u f 3 st) (fun k => k = 3) (iBool (if shUses f.types st x.args [2] then andQ (shList u f deep ⟨true, wh.Loop, r8of f.types x.outs, wh.Next, wh.Left⟩ st ka) (fun s1 => andQ (shList u f deep ⟨true, wh.Loop, r8of f.types x.outs, wh.Next, wh.Left⟩ s1 kb) fun s2 => shTail f x s2) else (false, st)).1) (ckS u f 3 (if shUses f.types st x.args [2] then andQ (shList u f deep ⟨true, wh.Loop, r8of f.types x.outs, wh.Next, wh.Left⟩ st ka) (fun s1 => andQ (shList u f deep ⟨true, wh.Loop, r8of f.types x.outs, wh.Next, wh.Left⟩ s1 kb) fun s2 => shTail f x s2) else (false, st)).2) := by
  refine SC.sameR (SC.vc tb {} [3] Tryz.func106 rfl rfl ?_) fun k _ h => List.mem_singleton.2 h
  have hi0 : (x.kids.map eKid)[0]? = some [nodes ka] := by rw [hkids]; rfl
  have hi1 : (x.kids.map eKid)[1]? = some [nodes kb] := by rw [hkids]; rfl
  have hm0 : ka ∈ x.kids := by rw [hkids]; exact .head _
  have hm1 : kb ∈ x.kids := by rw [hkids]; exact .tail _ (.head _)
  have hT := sc_shTypes u f st hs x.outs hbo
  have h1 := sc_shUses u f st hs x.args [2]
  have h2 := ih ka hm0 ⟨true, wh.Loop, r8of f.types x.outs, wh.Next, wh.Left⟩ st hs
  have l2 := (shList_length u f deep ⟨true, wh.Loop, r8of f.types x.outs, wh.Next, wh.Left⟩ st ka).trans hs
  have hC := sc_shClosed x
  generalize shUses f.types st x.args [2] = b1 at h1 ⊢
  generalize shList u f deep ⟨true, wh.Loop, r8of f.types x.outs, wh.Next, wh.Left⟩ st ka = R2 at h2 l2 ⊢
  obtain ⟨b2, st2⟩ := R2
  have h3 := ih kb hm1 ⟨true, wh.Loop, r8of f.types x.outs, wh.Next, wh.Left⟩ st2 l2
  have l3 := (shList_length u f deep ⟨true, wh.Loop, r8of f.types x.outs, wh.Next, wh.Left⟩ st2 kb).trans l2
  cases b1
  · exact ⟨[], hT, sR, ⟨rfl, by decide, rfl, trivial⟩, rfl, [], h1, sR, ⟨rfl, trivial, rfl, trivial⟩, rfl, sI, rfl, rfl, trivial⟩
  cases b2
  · exact ⟨[], hT, sR, ⟨rfl, by decide, rfl, trivial⟩, rfl, [], h1, sR, ⟨rfl, trivial, rfl, trivial⟩, rfl, hi0, rfl, [], h2, sR, ⟨rfl, rfl, rfl, trivial⟩, rfl, sI, rfl, rfl, trivial⟩
  rw [show andQ (true, st2) (fun s1 => andQ (shList u f deep ⟨true, wh.Loop, r8of f.types x.outs, wh.Next, wh.Left⟩ s1 kb) fun s2 => shTail f x s2) = andQ (shList u f deep ⟨true, wh.Loop, r8of f.types x.outs, wh.Next, wh.Left⟩ st2 kb) (fun s2 => shTail f x s2) from rfl]
  generalize shList u f deep ⟨true, wh.Loop, r8of f.types x.outs, wh.Next, wh.Left⟩ st2 kb = R3 at h3 l3 ⊢
  obtain ⟨b3, st3⟩ := R3
  cases b3
  · exact ⟨[], hT, sR, ⟨rfl, by decide, rfl, trivial⟩, rfl, [], h1, sR, ⟨rfl, trivial, rfl, trivial⟩, rfl, hi0, rfl, [], h2, sR, ⟨rfl, rfl, rfl, trivial⟩, rfl, hi1, rfl, [], h3, sR, ⟨rfl, rfl, rfl, trivial⟩, rfl, sI, rfl, rfl, trivial⟩
  rw [show andQ (true, st3) (fun s2 => shTail f x s2) = shTail f x st3 from rfl]
  have hA := sc_shAll u f st3 l3 x.outs hbo
  refine ⟨[], hT, sR, ⟨rfl, by decide, rfl, trivial⟩, rfl, [], h1, sR, ⟨rfl, trivial, rfl, trivial⟩, rfl, hi0, rfl, [], h2, sR, ⟨rfl, rfl, rfl, trivial⟩, rfl, hi1, rfl, [], h3, sR, ⟨rfl, rfl, rfl, trivial⟩, rfl, bcase (fun h => ?_) fun h => ?_⟩
  · rw [shTail_c f st3 (c := true) (by rw [List.length_map] at h; rw [h, Bool.true_or])]
    exact ⟨[], hA, sR, ⟨rfl, rfl, rfl, trivial⟩, rfl, sI, rfl, rfl, trivial⟩
  · rw [List.length_map] at h
    have hq : ((x.outs.length : Int) == 0 || !r8Closed x) = !r8Closed x := by rw [h, Bool.false_or]
    rw [shTail_c f st3 hq]
    generalize r8Closed x = c at hC ⊢
    cases c
    · exact ⟨[], hC, sR, trivial, rfl, [], hA, sR, ⟨rfl, rfl, rfl, trivial⟩, rfl, sI, rfl, rfl, trivial⟩
    · exact ⟨[], hC, sR, trivial, rfl, sI, rfl, rfl, trivial⟩
theorem sc_shLoop (u : Un) (f : Fl) (st : List Int) (hs : st.length = f.types.length) (x : Nd) (ka : List Nd) (hkids : x.kids = [ka]) (deep : Int) (hbo : x.outs.length ≤ 1073741824) (hbp : x.params.length ≤ 1073741824) (ih : ∀ q ∈ x.kids, ∀ (w : Wh) (st : List Int), st.length = f.types.length → SC Tryz.prog 51 [.ptr 3 0, .pv (nodes q), .pv (whv w), iInt deep] (ckS u f 3 st) (fun k => k = 3) (iBool (shList u f deep w st q).1) (ckS u f 3 (shList u f deep w st q).2)) : SC Tryz.prog 107 [.ptr 3 0, .pv (ndv x), iInt deep] (ckS u f 3 st) (fun k => k = 3) (iBool (if shUses f.types st x.args (r8of f.types x.params) then andQ (shSets f.types st x.params (List.replicate x.params.length 0)) (fun s1 => andQ (shList u f deep ⟨false, true, [], r8of f.types x.params, r8of f.types x.outs⟩ s1 ka) fun s2 => shTail f x (shHide s2 x.params)) else (false, st)).1) (ckS u f 3 (if shUses f.types st x.args (r8of f.types x.params) then andQ (shSets f.types st x.params (List.replicate x.params.length 0)) (fun s1 => andQ (shList u f deep ⟨false, true, [], r8of f.types x.params, r8of f.types x.outs⟩ s1 ka) fun s2 => shTail f x (shHide s2 x.params)) else (false, st)).2) := by
  refine SC.sameR (SC.vc tb {} [3] Tryz.func107 rfl rfl ?_) fun k _ h => List.mem_singleton.2 h
  have hi0 : (x.kids.map eKid)[0]? = some [nodes ka] := by rw [hkids]; rfl
  have hm0 : ka ∈ x.kids := by rw [hkids]; exact .head _
  have hT := sc_shTypes u f st hs x.params hbp
  have hT2 := sc_shTypes u f st hs x.outs hbo
  have h1 := sc_shUses u f st hs x.args (r8of f.types x.params)
  have hA1 := sc_shAll u f st hs x.params hbp
  have l1 := (shSets_length f.types st x.params (List.replicate x.params.length 0)).trans hs
  have hC := sc_shClosed x
  generalize shUses f.types st x.args (r8of f.types x.params) = b1 at h1 ⊢
  cases b1
  · exact ⟨[], hT, sR, ⟨rfl, by decide, rfl, trivial⟩, rfl, [], hT2, sR, ⟨rfl, by decide, rfl, trivial⟩, rfl, [], h1, sR, ⟨rfl, trivial, rfl, trivial⟩, rfl, sI, rfl, rfl, trivial⟩
  have hpin : (shSets f.types st x.params (List.replicate x.params.length 0)).1 = true → ∀ v ∈ x.params, 0 ≤ v ∧ v < f.types.length := fun h => shSets_in h
  generalize shSets f.types st x.params (List.replicate x.params.length 0) = R2 at hA1 l1 hpin ⊢
  obtain ⟨b2, st1⟩ := R2
  cases b2
  · exact ⟨[], hT, sR, ⟨rfl, by decide, rfl, trivial⟩, rfl, [], hT2, sR, ⟨rfl, by decide, rfl, trivial⟩, rfl, [], h1, sR, ⟨rfl, trivial, rfl, trivial⟩, rfl, [], hA1, sR, ⟨rfl, rfl, rfl, trivial⟩, rfl, sI, rfl, rfl, trivial⟩
  have hpin := hpin rfl
  have h2 := ih ka hm0 ⟨false, true, [], r8of f.types x.params, r8of f.types x.outs⟩ st1 l1
  have l2 := (shList_length u f deep ⟨false, true, [], r8of f.types x.params, r8of f.types x.outs⟩ st1 ka).trans l1
  rw [show andQ (true, st1) (fun s1 => andQ (shList u f deep ⟨false, true, [], r8of f.types x.params, r8of f.types x.outs⟩ s1 ka) fun s2 => shTail f x (shHide s2 x.params)) = andQ (shList u f deep ⟨false, true, [], r8of f.types x.params, r8of f.types x.outs⟩ st1 ka) (fun s2 => shTail f x (shHide s2 x.params)) from rfl]
  generalize shList u f deep ⟨false, true, [], r8of f.types x.params, r8of f.types x.outs⟩ st1 ka = R3 at h2 l2 ⊢
  obtain ⟨b3, st2⟩ := R3
  cases b3
  · exact ⟨[], hT, sR, ⟨rfl, by decide, rfl, trivial⟩, rfl, [], hT2, sR, ⟨rfl, by decide, rfl, trivial⟩, rfl, [], h1, sR, ⟨rfl, trivial, rfl, trivial⟩, rfl, [], hA1, sR, ⟨rfl, rfl, rfl, trivial⟩, rfl, hi0, rfl, [], h2, SubA.same (SubA.same (SubA.cons (sP (nilP_agg _)) sR)), ⟨rfl, rfl, rfl, trivial⟩, rfl, sI, rfl, rfl, trivial⟩
  have hH := sc_shHide u f st2 l2 x.params hpin
  have l3 := (shHide_length x.params st2).trans l2
  rw [show andQ (true, st2) (fun s2 => shTail f x (shHide s2 x.params)) = shTail f x (shHide st2 x.params) from rfl]
  generalize shHide st2 x.params = st3 at hH l3 ⊢
  have hA := sc_shAll u f st3 l3 x.outs hbo
  refine ⟨[], hT, sR, ⟨rfl, by decide, rfl, trivial⟩, rfl, [], hT2, sR, ⟨rfl, by decide, rfl, trivial⟩, rfl, [], h1, sR, ⟨rfl, trivial, rfl, trivial⟩, rfl, [], hA1, sR, ⟨rfl, rfl, rfl, trivial⟩, rfl, hi0, rfl, [], h2, SubA.same (SubA.same (SubA.cons (sP (nilP_agg _)) sR)), ⟨rfl, rfl, rfl, trivial⟩, rfl, [], hH, sR, ⟨rfl, rfl, rfl, trivial⟩, rfl, bcase (fun h => ?_) fun h => ?_⟩
  · rw [shTail_c f st3 (c := true) (by rw [List.length_map] at h; rw [h, Bool.true_or])]
    exact ⟨[], hA, sR, ⟨rfl, rfl, rfl, trivial⟩, rfl, sI, rfl, rfl, trivial⟩
  · rw [List.length_map] at h
    have hq : ((x.outs.length : Int) == 0 || !r8Closed x) = !r8Closed x := by rw [h, Bool.false_or]
    rw [shTail_c f st3 hq]
    generalize r8Closed x = c at hC ⊢
    cases c
    · exact ⟨[], hC, sR, trivial, rfl, [], hA, sR, ⟨rfl, rfl, rfl, trivial⟩, rfl, sI, rfl, rfl, trivial⟩
    · exact ⟨[], hC, sR, trivial, rfl, sI, rfl, rfl, trivial⟩
theorem sc_shNode (u : Un) (f : Fl) (hg : ∀ g ∈ u.flows, 0 ≤ g.params ∧ g.params ≤ g.types.length) (x : Nd) (deep : Int) (hd : 0 ≤ deep ∧ deep ≤ 100) (wh : Wh) (st : List Int) (hs : st.length = f.types.length) (hbo : x.outs.length ≤ 1073741824) (hbp : x.params.length ≤ 1073741824) (ih : ∀ q ∈ x.kids, ∀ (w : Wh) (st : List Int), st.length = f.types.length → SC Tryz.prog 51 [.ptr 3 0, .pv (nodes q), .pv (whv w), iInt (deep + 1)] (ckS u f 3 st) (fun k => k = 3) (iBool (shList u f (deep + 1) w st q).1) (ckS u f 3 (shList u f (deep + 1) w st q).2)) : SC Tryz.prog 79 [.ptr 3 0, .pv (ndv x), .pv (whv wh), iInt deep] (ckS u f 3 st) (fun k => k = 3) (iBool (shNode u f deep wh st x).1) (ckS u f 3 (shNode u f deep wh st x).2) := by
  refine SC.of Tryz.func79 rfl (lb rfl) fun F ρ w => ?_
  refine tQ <| tG <| cE rfl (ok_box rfl rfl) <| cE rfl (ok_box rfl rfl) <| sm 1 rfl <| nL <| tQ <| Tr.block <| tQ <| tG <| cV rfl (ok_load_ept_agg rfl rfl Tryz.underlying38 rfl tS38 (lb rfl)) <| cE rfl (ocq (sc_shBare _) ent105 rfl rfl) ?_
  refine sm 2 rfl <| nL ?_
  refine tC rfl (fun hc9 => ?_) fun hc9 => ?_
  ·refine tQ <| tG <| sm 1 rfl <| nL <| Tr.ret ?_
   have hbare : r8bare x = false := by simpa using hc9
   rw [shNode_bare _ _ _ _ _ hbare]
   exact ret_ok rfl rfl (po2 rfl rfl)
  have hbare : r8bare x = true := by simpa using hc9
  refine tQ <| tG <| sm 4 rfl <| nL ?_
  refine tC rfl (fun hc13 => ?_) fun hc13 => ?_
  ·have hk10 : x.kind = 10 := by simpa using hc13
   obtain ⟨ka, kb, hkids⟩ := r8bare_if hbare hk10
   refine tQ <| tG <| sm 1 rfl <| cV rfl (ok_load_ept_agg rfl rfl Tryz.underlying38 rfl tS38 (lb rfl)) <| cV rfl (ok_load_ept_agg rfl rfl Tryz.underlying96 rfl tS96 (lb rfl)) <| sm 1 rfl <| cV rfl (oB rfl rfl (i64_add rfl (by omega))) <| cE rfl (ocr (sc_shChoice u f st hs x ka kb hkids wh (deep + 1) hbo ih) ent106 rfl (po2 rfl rfl) rfl (fun k (h : _) => .inr h) rfl rfl) <| sm 1 rfl <| nL <| Tr.ret ?_
   rw [shNode_if _ _ _ _ _ hbare hk10 hkids]
   exact ret_ok rfl rfl (po2 rfl rfl)
  refine tQ <| tG <| sm 4 rfl <| nL ?_
  refine tC rfl (fun hc23 => ?_) fun hc23 => ?_
  ·have hk11 : x.kind = 11 := by simpa using hc23
   obtain ⟨ka, hkids⟩ := r8bare_loop hbare hk11
   refine tQ <| tG <| sm 1 rfl <| cV rfl (ok_load_ept_agg rfl rfl Tryz.underlying38 rfl tS38 (lb rfl)) <| sm 1 rfl <| cV rfl (oB rfl rfl (i64_add rfl (by omega))) <| cE rfl (ocr (sc_shLoop u f st hs x ka hkids (deep + 1) hbo hbp ih) ent107 rfl (po2 rfl rfl) rfl (fun k (h : _) => .inr h) rfl rfl) <| sm 1 rfl <| nL <| Tr.ret ?_
   rw [shNode_loop _ _ _ _ _ hbare hk11 hkids]
   exact ret_ok rfl rfl (po2 rfl rfl)
  refine tQ <| tG <| cV rfl (ok_load_ept_agg rfl rfl Tryz.underlying38 rfl tS38 (lb rfl)) <| cE rfl (ocq (sc_shEnds _) ent108 rfl rfl) <| sm 1 rfl <| nL ?_
  refine tC rfl (fun hc32 => ?_) fun hc32 => ?_
  ·refine tQ <| tG <| sm 1 rfl <| cV rfl (ok_load_ept_agg rfl rfl Tryz.underlying38 rfl tS38 (lb rfl)) <| cV rfl (ok_load_ept_agg rfl rfl Tryz.underlying96 rfl tS96 (lb rfl)) <| cE rfl (ocr (sc_shEnd u f st hs x wh) ent109 rfl (po2 rfl rfl) rfl (fun k (h : _) => .inr h) rfl rfl) <| sm 1 rfl <| nL <| Tr.ret ?_
   rw [shNode_end _ _ _ _ _ hbare hc13 hc23 hc32]
   exact ret_ok rfl rfl (po2 rfl rfl)
  refine Tr.skip <| tQ <| tG <| sm 1 rfl <| cV rfl (ok_load_ept_agg rfl rfl Tryz.underlying38 rfl tS38 (lb rfl)) <| cE rfl (ocr (sc_shSimple u f st hs hg x) ent110 rfl (po2 rfl rfl) rfl (fun k (h : _) => .inr h) rfl rfl) <| sm 1 rfl <| nL <| Tr.ret ?_
  rw [shNode_simple _ _ _ _ _ hbare hc13 hc23 hc32]
  exact ret_ok rfl rfl (po2 rfl rfl)
theorem sc_shList_aux (N : Nat) : ∀ (u : Un) (f : Fl) (hg : ∀ g ∈ u.flows, 0 ≤ g.params ∧ g.params ≤ g.types.length) (l : List Nd) (deep : Int) (hd : 0 ≤ deep ∧ deep ≤ 101) (wh : Wh) (st : List Int) (hs : st.length = f.types.length) (hb : lsW l ≤ 1073741824), SizeOf.sizeOf l < N → SC Tryz.prog 51 [.ptr 3 0, .pv (nodes l), .pv (whv wh), iInt deep] (ckS u f 3 st) (fun k => k = 3) (iBool (shList u f deep wh st l).1) (ckS u f 3 (shList u f deep wh st l).2) := by
  induction N with
  | zero => intro u f hg l deep hd wh st hs hb hN; exact absurd hN (Nat.not_lt_zero _)
  | succ N ih =>
    intro u f hg l deep hd wh st hs hb hN
    refine SC.of Tryz.func51 rfl (lb rfl) fun F ρ w => ?_
    refine Tr.lenOf (t := 1) rfl (fun hl => ?_)
    simp only [List.length_map] at hl
    refine tQ <| tG <| cE rfl (ok_box rfl rfl) <| sm 1 rfl <| nL <| tQ <| tQ <| tG <| sm 1 rfl <| cV rfl (oSm Tryz.underlying39 rfl) <| sm 1 rfl <| nL ?_
    refine Tr.block <| Tr.sub (Sub.of (fr' := [(15, iInt 0), (14, iInt l.length), (13, .pv (nodes l)), (6, .pv (.ept [vBool wh.If, vBool wh.Loop, ints wh.Yield, ints wh.Next, ints wh.Left] 0)), (0, .ptr 3 0), (1, .pv (nodes l)), (3, iInt deep)]) ⟨rfl, rfl, rfl, rfl, rfl, rfl, rfl, trivial⟩) ?_
    refine Tr.loop (fun fr σ m => ∃ (k : Nat) (s : List Int), (k ≤ l.length) ∧ (shGo u f deep wh st l = shGo u f deep wh s (l.drop k)) ∧ (s.length = f.types.length) ∧ fr = [(15, iInt k), (14, iInt l.length), (13, .pv (nodes l)), (6, .pv (.ept [vBool wh.If, vBool wh.Loop, ints wh.Yield, ints wh.Next, ints wh.Left] 0)), (0, .ptr 3 0), (1, .pv (nodes l)), (3, iInt deep)] ∧ σ = look (up (ckS u f 3 s)) ∧ m = l.length - k) (n := l.length - 0) ?_ ?_
    ·exact ⟨0, st, Nat.zero_le _, rfl, hs, rfl, rfl, rfl⟩
    rintro fr σ m ⟨k, s, hI0, hI1, hI2, rfl, rfl, rfl⟩
    refine tQ <| tG <| sm 1 rfl <| nL <| tQ ?_
    refine tC rfl (fun hc16 => ?_) fun hc16 => ?_
    ·have hlt : k < l.length := by simpa using hc16
     have hd2 := List.drop_eq_getElem_cons hlt
     have hm := List.getElem_mem hlt
     have hi := nodes_get (List.getElem?_eq_getElem hlt)
     generalize l[k] = x at hd2 hm hi
     have hWx := ndW_eq x
     have hWl := ndW_mem hm
     have hxo : x.outs.length ≤ 1073741824 := by omega
     have hxp : x.params.length ≤ 1073741824 := by omega
     refine Tr.skip <| tQ <| Tr.block <| tQ <| tG <| sm 1 rfl <| cV rfl (ok_index_seq rfl rfl rfl Tryz.underlying39 hi tS38 rfl (by rfl)) <| cV rfl (ok_load_ept_agg rfl rfl Tryz.underlying38 rfl tS38 (lb rfl)) <| cE rfl (ok_alloc (k := 110) rfl tZ38 rfl rfl rfl rfl) <| sm 1 rfl <| c0 (ok_store_box_agg rfl rfl rfl rfl rfl (by simp) tS38 (firmL_ok rfl) (lb rfl)) <| nL ?_
     refine tQ <| Tr.freezeBox (t := 10) (k := 110) rfl rfl rfl ?_
     refine Tr.heap (σ' := look (up (ckS u f 3 s))) (fun k => by
       simp only [look]
       by_cases h : 110 = k
       · subst h; rfl
       · simp [beq_ne h]) ?_
     refine tG <| sm 3 rfl ?_
     refine wS 22 rfl (fun hb22 => ?_) fun hb22 => ?_
     ·refine sm 17 rfl <| nL <| Tr.condT rfl <| tQ <| tG <| sm 1 rfl <| nL <| Tr.ret ?_
      (have h2 : shList u f deep wh st l = (false, s) := by
         unfold shList
         rw [hI1, hd2]
         unfold shGo
         rw [if_pos (by simpa using hb22)]
         simp [andQ]
       rw [h2]
       exact ret_ok rfl rfl (po2 rfl rfl))
     refine sm 1 rfl <| yV rfl rfl (ok_load_ept_agg rfl rfl Tryz.underlying38 rfl tS38 (lb rfl)) <| yV rfl rfl (ok_load_ept_agg rfl rfl Tryz.underlying96 rfl tS96 (lb rfl)) <| sm 1 rfl <| WL.yes rfl rfl rfl rfl rfl rfl (ok_callr (sc_shNode u f hg x deep ⟨hd.1, by simp at hb22; omega⟩ wh s hI2 hxo hxp (fun q hq w st hst => ih u f hg q (deep + 1) ⟨by omega, by simp at hb22; omega⟩ w st hst (by have := kdW_mem hq; omega) (Nat.lt_of_lt_of_le (kid_lt hm rfl hq) (Nat.le_of_lt_succ hN)))) ent79 rfl rfl (Subs.refl _ _) (po2 rfl rfl) (by rfl) (fun k (h : _) => .inr h) rfl (by rfl)) <| sm 3 rfl ?_
     refine wS 30 rfl (fun hb30 => ?_) fun hb30 => ?_
     ·refine sm 9 rfl <| nL <| Tr.condT rfl <| tQ <| tG <| sm 1 rfl <| nL <| Tr.ret ?_
      (have h2 : shList u f deep wh st l = (false, (shNode u f deep wh s x).2) := by
         unfold shList
         rw [hI1, hd2]
         unfold shGo
         rw [if_neg (by simpa using hb22)]
         have hn1 : (shNode u f deep wh s x).1 = false := by simpa using hb30
         simp [andQ, hn1]
       rw [h2]
       exact ret_ok rfl rfl (po2 rfl rfl))
     refine yV rfl rfl (ok_load_ept_agg rfl rfl Tryz.underlying38 rfl tS38 (lb rfl)) <| WL.yes rfl rfl rfl rfl rfl rfl (ok_callq (sc_shClosed x) ent80 rfl rfl (Subs.refl _ _) rfl) <| sm 2 rfl <| yV rfl rfl (oSm Tryz.underlying39 rfl) <| yV rfl rfl (oB rfl rfl (i64_sub rfl (by omega))) <| sm 1 rfl <| yV rfl rfl (ok_neq_bool rfl rfl rfl Tryz.underlying4) <| sm 1 rfl <| nL ?_
     refine tC rfl (fun hc39 => ?_) fun hc39 => ?_
     ·refine tQ <| tG <| sm 1 rfl <| nL <| Tr.ret ?_
      (have h2 : shList u f deep wh st l = (false, (shNode u f deep wh s x).2) := by
         unfold shList
         rw [hI1, hd2]
         unfold shGo
         rw [if_neg (by simpa using hb22)]
         have hn1 : (shNode u f deep wh s x).1 = true := by simpa using hb30
         have hcl : (r8Closed x != (l.drop (k + 1)).isEmpty) = true := by rw [drop_isEmpty hlt]; simpa using hc39
         simp [andQ, hn1, hcl]
       rw [h2]
       exact ret_ok rfl rfl (po2 rfl rfl))
     refine Tr.skip <| tG <| cV rfl (oB rfl rfl (i64_add rfl (by omega))) <| sm 1 rfl <| nL ?_
     refine ⟨_, _, ?_, Sub.of (fr' := [(15, iInt (k + 1)), (14, iInt l.length), (13, .pv (nodes l)), (6, .pv (.ept [vBool wh.If, vBool wh.Loop, ints wh.Yield, ints wh.Next, ints wh.Left] 0)), (0, .ptr 3 0), (1, .pv (nodes l)), (3, iInt deep)]) ⟨rfl, rfl, rfl, rfl, rfl, rfl, rfl, trivial⟩, (k + 1), (shNode u f deep wh s x).2, ?_, ?_, ?_, rfl, (look_app_same rfl), rfl⟩
     ·omega
     ·omega
     ·rw [hI1, hd2]
      have hn1 : (shNode u f deep wh s x).1 = true := by simpa using hb30
      have hcl : (r8Closed x != (l.drop (k + 1)).isEmpty) = false := by rw [drop_isEmpty hlt]; simpa using hc39
      have hdp : ¬ deep > 100 := by simpa using hb22
      conv => lhs; unfold shGo
      simp only [if_neg hdp, andQ, hn1, hcl, if_true]
      rfl
     exact (shNode_length ..).trans hI2
    refine Tr.exit <| tQ <| tQ ?_
    have hgo2 : shGo u f deep wh st l = (true, s) := by rw [hI1, List.drop_eq_nil_of_le (by simpa using hc16)]; simp [shGo]
    have hgo : (shGo u f deep wh st l).1 = true := by rw [hgo2]
    have hs0 := hI2
    generalize s = s0 at hgo2 hs0 ⊢
    refine tG <| sm 1 rfl <| cV rfl (oSm Tryz.underlying39 rfl) <| sm 1 rfl <| nL <| Tr.block <| Tr.sub (Sub.of (fr' := [(43, iInt 0), (42, iInt l.length), (41, .pv (nodes l)), (0, .ptr 3 0), (1, .pv (nodes l))]) ⟨rfl, rfl, rfl, rfl, rfl, trivial⟩) ?_
    refine Tr.loop (fun fr σ m => ∃ (k : Nat) (s : List Int), (k ≤ l.length) ∧ (shHideAll s0 l = shHideAll s (l.drop k)) ∧ (s.length = f.types.length) ∧ fr = [(43, iInt k), (42, iInt l.length), (41, .pv (nodes l)), (0, .ptr 3 0), (1, .pv (nodes l))] ∧ σ = look (up (ckS u f 3 s)) ∧ m = l.length - k) (n := l.length - 0) ?_ ?_
    ·exact ⟨0, s0, Nat.zero_le _, rfl, hs0, rfl, rfl, rfl⟩
    rintro fr σ m ⟨k, s, hJ0, hJ1, hJ2, rfl, rfl, rfl⟩
    refine tQ <| tG <| sm 1 rfl <| nL <| tQ ?_
    refine tC rfl (fun hc44 => ?_) fun hc44 => ?_
    ·have hlt : k < l.length := by simpa using hc44
     have hd2 := List.drop_eq_getElem_cons hlt
     have hm := List.getElem_mem hlt
     have hi := nodes_get (List.getElem?_eq_getElem hlt)
     generalize l[k] = x at hd2 hm hi
     refine Tr.skip <| tQ <| Tr.block <| tQ <| tG <| cV rfl (ok_index_seq rfl rfl rfl Tryz.underlying39 hi tS38 rfl (by rfl)) <| cV rfl (ok_load_ept_agg rfl rfl Tryz.underlying38 rfl tS38 (lb rfl)) <| cE rfl (ok_alloc (k := 112) rfl tZ38 rfl rfl rfl rfl) <| c0 (ok_store_box_agg rfl rfl rfl rfl rfl (by simp) tS38 (firmL_ok rfl) (lb rfl)) <| nL <| Tr.freezeBox (t := 12) (k := 112) rfl rfl rfl ?_
     refine Tr.heap (σ' := look (up (ckS u f 3 s))) (fun k => by
       simp only [look]
       by_cases h : 112 = k
       · subst h; rfl
       · simp [beq_ne h]) ?_
     refine tG <| sm 3 rfl <| cE rfl (ocr (sc_shHide u f s hJ2 x.outs (shGo_outs hgo x hm)) ent81 rfl (po2 rfl rfl) rfl (fun k (h : _) => .inr h) rfl rfl) <| nL <| tG <| cV rfl (oB rfl rfl (i64_add rfl (by omega))) <| sm 1 rfl <| nL ?_
     refine ⟨_, _, ?_, Sub.of (fr' := [(43, iInt (k + 1)), (42, iInt l.length), (41, .pv (nodes l)), (0, .ptr 3 0), (1, .pv (nodes l))]) ⟨rfl, rfl, rfl, rfl, rfl, trivial⟩, (k + 1), (shHide s x.outs), ?_, ?_, ?_, rfl, (look_app_same rfl), rfl⟩
     ·omega
     ·omega
     ·rw [hJ1, hd2]; rfl
     exact (shHide_length ..).trans hJ2
    refine Tr.exit <| tQ <| tG <| sm 1 rfl <| cV rfl (oSm Tryz.underlying39 rfl) <| sm 2 rfl <| nL <| Tr.ret ?_
    have hge : l.length ≤ k := by simpa using hc44
    have h2 : shList u f deep wh st l = (decide ((l.length : Int) > 0), s) := by
      unfold shList
      rw [hgo2]
      simp only [andQ, if_true, shFin, hJ1, List.drop_eq_nil_of_le hge]
      rfl
    rw [h2]
    exact ret_ok rfl rfl (po2 rfl rfl)
theorem sc_shList (u : Un) (f : Fl) (hg : ∀ g ∈ u.flows, 0 ≤ g.params ∧ g.params ≤ g.types.length) (l : List Nd) (deep : Int) (hd : 0 ≤ deep ∧ deep ≤ 101) (wh : Wh) (st : List Int) (hs : st.length = f.types.length) (hb : lsW l ≤ 1073741824) : SC Tryz.prog 51 [.ptr 3 0, .pv (nodes l), .pv (whv wh), iInt deep] (ckS u f 3 st) (fun k => k = 3) (iBool (shList u f deep wh st l).1) (ckS u f 3 (shList u f deep wh st l).2) := sc_shList_aux _ u f hg l deep hd wh st hs hb (Nat.lt_succ_self _)
theorem sc_shFlow (u : Un) (f : Fl) (hg : ∀ g ∈ u.flows, 0 ≤ g.params ∧ g.params ≤ g.types.length) (hp : 0 ≤ f.params ∧ f.params ≤ f.types.length) (hb : lsW f.body ≤ 536870912) : SC Tryz.prog 28 [.pv u.enc, .pv (.agg f.enc)] [] (fun _ => False) (iBool (shFlow u f)) [] := by
  refine SC.of Tryz.func28 rfl (lb rfl) fun F ρ w => ?_
  refine tQ <| tG <| cE rfl (ok_box rfl rfl) <| cE rfl (ok_box rfl rfl) <| sm 1 rfl <| nL <| tQ <| tQ <| tG <| sm 4 rfl ?_
  refine wS 10 rfl (fun hb10 => ?_) fun hb10 => ?_
  ·refine sm 10 rfl <| nL <| Tr.condT rfl <| tQ <| tG <| sm 1 rfl <| nL <| Tr.ret <| ret_ok rfl ?_ no_post
   have hno : (decide (f.params > 8) || decide ((f.types.length : Int) > 20000) || f.types.any (fun t => !isTy t)) = true := by
     simp_all
   simp only [shFlow, hno, Bool.not_true, Bool.false_and]
  refine sm 2 rfl <| yV rfl rfl (oSm Tryz.underlying35 rfl) <| sm 3 rfl ?_
  refine wS 16 rfl (fun hb16 => ?_) fun hb16 => ?_
  ·refine sm 4 rfl <| nL <| Tr.condT rfl <| tQ <| tG <| sm 1 rfl <| nL <| Tr.ret <| ret_ok rfl ?_ no_post
   have hno : (decide (f.params > 8) || decide ((f.types.length : Int) > 20000) || f.types.any (fun t => !isTy t)) = true := by
     simp_all
   simp only [shFlow, hno, Bool.not_true, Bool.false_and]
  refine sm 2 rfl <| WL.yes rfl rfl rfl rfl rfl rfl (ok_callq (sc_has_int 50 [] [] rfl ent50 (fun t => !isTy t) f.types (fun x hm => (sc_flow1 x).anyR)) ent49 rfl rfl (Subs.same rfl (Subs.cons (fun _ _ _ _ h => sub_func h) Subs.nil)) rfl) <| sm 1 rfl <| nL ?_
  refine tC rfl (fun hc20 => ?_) fun hc20 => ?_
  ·refine tQ <| tG <| sm 1 rfl <| nL <| Tr.ret <| ret_ok rfl ?_ no_post
   have hno : (decide (f.params > 8) || decide ((f.types.length : Int) > 20000) || f.types.any (fun t => !isTy t)) = true := by
     simp_all
   simp only [shFlow, hno, Bool.not_true, Bool.false_and]
  ·have hpar : f.params ≤ 8 ∧ f.types.length ≤ 20000 := by
     (simp_all <;> omega)
   have hpt : f.params.toNat ≤ f.types.length := by omega
   have hpi : f.params = (f.params.toNat : Int) := by omega
   have hno : (decide (f.params > 8) || decide ((f.types.length : Int) > 20000) || f.types.any (fun t => !isTy t)) = false := by
     clear hpi
     simp_all
   refine Tr.skip <| tQ <| Tr.drawn mixed (fun k => k < 3) <| wR 4 [0, 1, 2, 3, 4] (by kernel_rfl) (fun _ _ _ h => h) <| rV rfl rfl (ok_load_ept_agg rfl rfl Tryz.underlying25 rfl tS25 (lb rfl)) <| rV rfl rfl (ok_load_ept_agg rfl rfl Tryz.underlying41 rfl tS41 (lb rfl)) <| smR 2 rfl <| rV rfl rfl (oSm Tryz.underlying35 rfl) <| nR <| wO 5 (by kernel_rfl) <| wI rfl rfl nf (new_one rfl) (fun _ _ => ok_makeSlice (k := 4) (s := ⟨3, 1⟩) rfl rfl rfl Tryz.underlying35 tZ3 tC3 rfl (by decide) (by omega) (by omega) rfl rfl rfl rfl) <| wR 2 [6] (by kernel_rfl) (fun _ _ _ h => h) ?_
   refine rV rfl rfl (by exact ok_build rfl rfl tZ93 tP93 rfl (firmHp_ok (by (simp [firmHp, firm1, look, PV.one]; exact ⟨_, _, ⟨rfl, rfl⟩, by simp⟩)))) <| nR <| wO 7 (by kernel_rfl) <| wI rfl rfl nf (new_one rfl) (fun _ _ => ok_boxOwn (k := 3) rfl rfl rfl rfl rfl rfl rfl) <| wR 0 [8] (by kernel_rfl) (fun _ _ _ h => h) <| smR 1 rfl <| nR <| WA.done (by kernel_rfl) <| tQ <| tQ <| tG <| sm 3 rfl ?_
   refine nL <| Tr.block <| Tr.sub (Sub.of (fr' := [(31, iInt 0), (30, iInt f.params), (5, .ptr 3 0), (2, .pv (.ept [arrs u.arrays, flws u.flows] 0)), (3, .pv (.ept [vStr f.name, vInt f.ty, vInt f.params, ints f.types, nodes f.body] 0))]) ⟨rfl, rfl, rfl, rfl, rfl, trivial⟩) ?_
   refine Tr.heap (σ' := look (up (ckS u f 3 (seens 0 f.types.length)))) (fun k => by
  rw [show (seens 0 f.types.length) = List.replicate f.types.length 0 by simp [seens]]
  simp only [ckS, up, List.map_cons, List.map_nil, look, List.length_map, List.length_replicate, List.map_replicate]
  by_cases h3 : 3 = k
  · subst h3; rfl
  · by_cases h4 : 4 = k
    · subst h4; rfl
    · simp [beq_ne h3, beq_ne h4]) ?_
   refine Tr.loop (fun fr σ m => ∃ (k : Nat), (k ≤ f.params.toNat) ∧ fr = [(31, iInt k), (30, iInt f.params), (5, .ptr 3 0), (2, .pv (.ept [arrs u.arrays, flws u.flows] 0)), (3, .pv (.ept [vStr f.name, vInt f.ty, vInt f.params, ints f.types, nodes f.body] 0))] ∧ σ = look (up (ckS u f 3 (seens k f.types.length))) ∧ m = f.params.toNat - k) (n := f.params.toNat - 0) ?_ ?_
   ·exact ⟨0, Nat.zero_le _, rfl, rfl, rfl⟩
   rintro fr σ m ⟨k, hI0, rfl, rfl, rfl⟩
   refine tQ <| tG <| sm 1 rfl <| nL <| tQ ?_
   refine tC rfl (fun hc32 => ?_) fun hc32 => ?_
   ·have hkp : k < f.params.toNat := by simp at hc32; omega
    have hkt : k < f.types.length := by omega
    have hst : ((seens k f.types.length).map eInt)[k]? = some [vInt 0] := by
      rw [List.getElem?_map]
      simp only [seens]
      rw [List.getElem?_append_right (by simp)]
      simp [List.getElem?_replicate, eInt]
      omega
    have hstl : k < ((seens k f.types.length).map eInt).length := by rw [List.length_map, seens_length (by omega)]; exact hkt
    refine Tr.skip <| tQ <| Tr.block <| tQ <| tG <| sm 2 rfl <| nL <| tG <| sm 1 rfl <| cV rfl (ok_nilCheck rfl rfl rfl) <| sm 3 rfl <| cV rfl (ok_index_row rfl rfl rfl rfl rfl Tryz.underlying35 tS3 (by assumption) (by rfl)) ?_
    refine c0 (ok_store_row rfl rfl rfl rfl rfl (Nat.add_zero _).symm (by assumption) (by simp) tS3 rfl ((fun h => h))) <| nL <| tG <| cV rfl (oB rfl rfl (i64_add rfl (by omega))) <| sm 1 rfl <| nL ?_
    refine ⟨_, _, ?_, Sub.of (fr' := [(31, iInt (k + 1)), (30, iInt f.params), (5, .ptr 3 0), (2, .pv (.ept [arrs u.arrays, flws u.flows] 0)), (3, .pv (.ept [vStr f.name, vInt f.ty, vInt f.params, ints f.types, nodes f.body] 0))]) ⟨rfl, rfl, rfl, rfl, rfl, trivial⟩, (k + 1), ?_, rfl, (by rw [← seens_set hkt]; exact funext ckS_set), rfl⟩
    all_goals omega
   refine Tr.exit <| tQ ?_
   have hkp : k = f.params.toNat := by simp at hc32; omega
   subst hkp
   refine tG <| sm 3 rfl <| cV rfl (ok_build_pure rfl rfl tZ96 tP96 rfl (firmB_ok rfl) rfl) <| cE rfl (ok_callr (sc_shList u f hg f.body 1 ⟨by omega, by omega⟩ r8where0 (seens f.params.toNat f.types.length) (seens_length hpt) (by omega)) ent51 rfl rfl (Subs.same rfl (Subs.same rfl (Subs.cons (fun _ _ _ _ h => sub_pv (q := whv r8where0) (PSub.agg (ps := [vBool false, vBool false, .val (.slice none 0 0), .val (.slice none 0 0), .val (.slice none 0 0)]) (And.intro (PSub.refl _) (And.intro (PSub.refl _) (And.intro PSub.nil (And.intro PSub.nil (And.intro PSub.nil trivial)))))) h) (Subs.same rfl Subs.nil)))) (po2 rfl rfl) (by rfl) (fun k (h : _) => (show False from h).elim) rfl (by rfl)) <| sm 1 rfl <| nL <| Tr.ret <| ret_ok rfl ?_ no_post
   simp only [shFlow, hno, Bool.not_false, Bool.true_and]
set_option maxRecDepth 20000
set_option maxHeartbeats 2000000
theorem sc_tkLetter (n : Int) : SC Tryz.prog 73 [.pv (.val (.int .i32 n))] [] (fun _ => False) (iBool (isLetter n)) [] := by
  refine SC.anyR (SC.vc tb {} [] Tryz.func73 rfl rfl ?_)
  unfold isLetter
  refine bcase (fun h1 => bcase (fun h2 => ⟨sE (by rw [h1, h2]; rfl), trivial⟩) fun h2 => ?_) fun h1 => ?_
  · refine bcase (fun h3 => bcase (fun h4 => ⟨sE (by rw [h1, h2, h3, h4]; rfl), trivial⟩) fun h4 => ⟨sE (by rw [h1, h2, h3, h4]; rfl), trivial⟩) fun h3 => ⟨sE (by rw [h1, h2, h3]; rfl), trivial⟩
  · refine bcase (fun h3 => bcase (fun h4 => ⟨sE (by rw [h1, h3, h4]; rfl), trivial⟩) fun h4 => ⟨sE (by rw [h1, h3, h4]; rfl), trivial⟩) fun h3 => ⟨sE (by rw [h1, h3]; rfl), trivial⟩
theorem sc_tkDigit (n : Int) : SC Tryz.prog 104 [.pv (.val (.int .i32 n))] [] (fun _ => False) (iBool (isDigit n)) [] := by
  refine SC.anyR (SC.vc tb {} [] Tryz.func104 rfl rfl ?_)
  unfold isDigit
  exact bcase (fun h1 => ⟨sE (by rw [h1]; rfl), trivial⟩) fun h1 => ⟨sE (by rw [h1]; rfl), trivial⟩
theorem sc_tkWord (s : ByteArray) : SC Tryz.prog 75 [iStr s] [] (fun _ => False) (iBool (isWord s)) [] := by
  refine SC.anyR (SC.vc tb {} [] Tryz.func75 rfl rfl ?_)
  have N : ∀ {b : Bool} {P : Prop}, b = true → b = false → P := fun h g => by rw [h] at g; cases g
  have T : ∀ {b : Bool}, b = true → SubI (iBool true) (iBool b) := fun h => sE (by rw [h])
  exact bcase (fun h => bcase (fun _ => ⟨T (by unfold isWord; rw [h]; simp only [Bool.or_true, Bool.true_or]), trivial⟩) fun g => N h g) fun h1 => bcase (fun h => bcase (fun _ => ⟨T (by unfold isWord; rw [h]; simp only [Bool.or_true, Bool.true_or]), trivial⟩) fun g => N h g) fun h2 => bcase (fun h => bcase (fun _ => ⟨T (by unfold isWord; rw [h]; simp only [Bool.or_true, Bool.true_or]), trivial⟩) fun g => N h g) fun h3 => bcase (fun h => bcase (fun _ => ⟨T (by unfold isWord; rw [h]; simp only [Bool.or_true, Bool.true_or]), trivial⟩) fun g => N h g) fun h4 => bcase (fun h => bcase (fun _ => ⟨T (by unfold isWord; rw [h]; simp only [Bool.or_true, Bool.true_or]), trivial⟩) fun g => N h g) fun h5 => bcase (fun h => bcase (fun _ => ⟨T (by unfold isWord; rw [h]; simp only [Bool.or_true, Bool.true_or]), trivial⟩) fun g => N h g) fun h6 => bcase (fun h => bcase (fun _ => ⟨T (by unfold isWord; rw [h]; simp only [Bool.or_true, Bool.true_or]), trivial⟩) fun g => N h g) fun h7 => bcase (fun h => bcase (fun _ => ⟨T (by unfold isWord; rw [h]; simp only [Bool.or_true, Bool.true_or]), trivial⟩) fun g => N h g) fun h8 => bcase (fun h => bcase (fun _ => ⟨T (by unfold isWord; rw [h]; simp only [Bool.or_true, Bool.true_or]), trivial⟩) fun g => N h g) fun h9 => bcase (fun h => bcase (fun _ => ⟨T (by unfold isWord; rw [h]; simp only [Bool.or_true, Bool.true_or]), trivial⟩) fun g => N h g) fun h10 => bcase (fun h => bcase (fun _ => ⟨T (by unfold isWord; rw [h]; simp only [Bool.or_true, Bool.true_or]), trivial⟩) fun g => N h g) fun h11 => bcase (fun h => bcase (fun _ => ⟨T (by unfold isWord; rw [h]; simp only [Bool.or_true, Bool.true_or]), trivial⟩) fun g => N h g) fun h12 => bcase (fun h => bcase (fun _ => ⟨T (by unfold isWord; rw [h]; simp only [Bool.or_true, Bool.true_or]), trivial⟩) fun g => N h g) fun h13 => bcase (fun h => bcase (fun _ => ⟨T (by unfold isWord; rw [h]; simp only [Bool.or_true, Bool.true_or]), trivial⟩) fun g => N h g) fun h14 => bcase (fun h => bcase (fun _ => ⟨T (by unfold isWord; rw [h]; simp only [Bool.or_true, Bool.true_or]), trivial⟩) fun g => N h g) fun h15 => bcase (fun h => bcase (fun _ => ⟨T (by unfold isWord; rw [h]; simp only [Bool.or_true, Bool.true_or]), trivial⟩) fun g => N h g) fun h16 => bcase (fun h => bcase (fun _ => ⟨T (by unfold isWord; rw [h]; simp only [Bool.or_true, Bool.true_or]), trivial⟩) fun g => N h g) fun h17 => bcase (fun h => ⟨T (by unfold isWord; rw [h]; simp only [Bool.or_true, Bool.true_or]), trivial⟩) fun h18 => ⟨sE (by unfold isWord; rw [h1, h2, h3, h4, h5, h6, h7, h8, h9, h10, h11, h12, h13, h14, h15, h16, h17, h18]; rfl), trivial⟩
theorem sc_tkRun (s : ByteArray) : SC Tryz.prog 74 [iStr s] [] (fun _ => False) (iStr (runOf s)) [] := by
  refine SC.of Tryz.func74 rfl (lb rfl) fun F ρ w => ?_
  refine tQ <| tG <| sm 1 rfl <| nL <| tQ ?_
  refine Tr.strRange rfl rfl rfl rfl rfl rfl rfl rfl Tryz.underlying9 rfl rfl rfl rfl rfl rfl rfl rfl rfl rfl rfl (fun _ h => h) (fun k fr => (k ≤ s.toList.length ∧ (s.toList.take k).all isLD = true) ∧ fr = [(0, iStr s)]) ⟨[(0, iStr s)], Sub.of ⟨rfl, trivial⟩, ⟨Nat.zero_le _, rfl⟩, rfl⟩ ?_ ?_
  ·rintro b0 k _ hk ⟨hI, rfl⟩
   refine tQ <| tG <| sm 2 rfl <| nL <| Tr.ret <| ret_ok rfl ?_ no_post
   have hall : s.toList.all isLD = true := by
     have := hI.2
     rwa [List.take_of_length_le (by rw [ba_len]; exact hk)] at this
   simp [runOf, hall]
  rintro ρ2 w2 b0 k _ hk ⟨hI, rfl⟩
  have hlt : k < s.toList.length := by rw [ba_len]; exact hk
  refine Tr.block <| tQ <| tG <| cV rfl (ok_extract rfl rfl rfl) <| cV rfl (ok_extract rfl rfl rfl) <| sm 2 rfl <| nL <| tQ <| tG <| sm 1 rfl <| cE rfl (ocq (sc_tkLetter _) ent73 rfl rfl) <| sm 2 rfl ?_
  refine wS 14 rfl (fun hb14 => ?_) fun hb14 => ?_
  ·refine sm 1 rfl <| WL.yes rfl rfl rfl rfl rfl rfl (ok_callq (sc_tkDigit _) ent104 rfl rfl (Subs.refl _ _) rfl) <| sm 2 rfl <| nL ?_
   refine tC rfl (fun hc18 => ?_) fun hc18 => ?_
   ·refine tQ <| tG <| sm 2 rfl <| cV rfl (ok_slice_str rfl rfl Tryz.underlying9 (.inl ⟨rfl, rfl⟩) (.inr ⟨_, _, rfl, rfl⟩) (by omega) (Nat.le_of_lt (by assumption))) <| sm 1 rfl <| nL <| Tr.ret <| ret_ok rfl ?_ no_post
    have hld : isLDr (Utf8.decode s k).1 = false := by
      simp only [isLDr]
      simp_all
    rw [runOf_at hI.2 (List.getElem?_eq_getElem hlt) ((decode_ld hlt).2 hld)]
   refine Tr.skip ?_
   refine ⟨rfl, [(0, iStr s)], Sub.of ⟨rfl, rfl, trivial⟩, ?_, rfl⟩
   have hld : isLDr (Utf8.decode s k).1 = true := by
     simp only [isLDr]
     simp_all
   obtain ⟨hw1, hb1⟩ := (decode_ld hlt).1 hld
   rw [hw1]
   exact ⟨by omega, by rw [List.take_succ_eq_append_getElem hlt, List.all_append, hI.2]; simp [hb1]⟩
  refine sm 4 rfl <| nL <| Tr.condF rfl <| Tr.skip ?_
  refine ⟨rfl, [(0, iStr s)], Sub.of ⟨rfl, rfl, trivial⟩, ?_, rfl⟩
  have hld : isLDr (Utf8.decode s k).1 = true := by
    simp only [isLDr]
    simp_all
  obtain ⟨hw1, hb1⟩ := (decode_ld hlt).1 hld
  rw [hw1]
  exact ⟨by omega, by rw [List.take_succ_eq_append_getElem hlt, List.all_append, hI.2]; simp [hb1]⟩
theorem sc_tkName (s : ByteArray) : SC Tryz.prog 46 [iStr s] [] (fun _ => False) (iBool (isName s)) [] := by
  refine SC.of Tryz.func46 rfl (lb rfl) fun F ρ w => ?_
  refine tQ <| tG <| sm 1 rfl <| nL <| tQ <| tG <| sm 1 rfl <| cV rfl (ok_bin_str rfl rfl rfl rfl) <| sm 1 rfl ?_
  refine wS 5 rfl (fun hb5 => ?_) fun hb5 => ?_
  ·have hne : s.toList ≠ [] := by simpa using hb5
   obtain ⟨b0, r0, hs0⟩ := List.exists_cons_of_ne_nil hne
   have hi0 : s[0]? = some b0 := by rw [ba_get (i := 0) (by rw [hs0]; simp)]; simp [hs0]
   have hw0 : IntKind.i32.wrap (b0.toNat : Int) = b0.toNat := by
     have : b0.toNat < 256 := b0.toNat_lt
     simp [IntKind.wrap, IntKind.bits, IntKind.signed]
     omega
   have hre := runOf_eq s
   refine sm 1 rfl <| yV rfl rfl (ok_index_str rfl rfl rfl Tryz.underlying9 (by assumption) (by rfl)) <| yV rfl rfl (ok_conv_int rfl rfl ⟨_, Tryz.underlying5⟩ Tryz.underlying21) <| WL.yes rfl rfl rfl rfl rfl rfl (ok_callq (sc_tkLetter _) ent73 rfl rfl (Subs.refl _ _) rfl) <| sm 2 rfl ?_
   refine wS 11 rfl (fun hb11 => ?_) fun hb11 => ?_
   ·refine sm 1 rfl <| WL.yes rfl rfl rfl rfl rfl rfl (ok_callq (sc_tkRun s) ent74 rfl rfl (Subs.refl _ _) rfl) <| sm 1 rfl <| yV rfl rfl (ok_bin_str rfl rfl rfl rfl) <| sm 2 rfl ?_
    refine wS 17 rfl (fun hb17 => ?_) fun hb17 => ?_
    ·refine sm 1 rfl <| yV rfl rfl (ok_len_str rfl rfl Tryz.underlying9) <| sm 3 rfl ?_
     refine wS 22 rfl (fun hb22 => ?_) fun hb22 => ?_
     ·refine sm 1 rfl <| WL.yes rfl rfl rfl rfl rfl rfl (ok_callq (sc_tkWord s) ent75 rfl rfl (Subs.refl _ _) rfl) <| sm 3 rfl <| nL <| Tr.ret <| ret_ok rfl ?_ no_post
      refine congrArg (fun b => iBool b) ?_
      simp_all [isName]
     refine sm 5 rfl <| nL <| Tr.ret <| ret_ok rfl ?_ no_post
     refine congrArg (fun b => iBool b) ?_
     (simp_all [isName] <;> omega)
    refine sm 10 rfl <| nL <| Tr.ret <| ret_ok rfl ?_ no_post
    refine congrArg (fun b => iBool b) ?_
    simp_all [isName]
   refine sm 16 rfl <| nL <| Tr.ret <| ret_ok rfl ?_ no_post
   refine congrArg (fun b => iBool b) ?_
   simp_all [isName]
  refine sm 22 rfl <| nL <| Tr.ret <| ret_ok rfl ?_ no_post
  refine congrArg (fun b => iBool b) ?_
  simp_all [isName]
set_option maxRecDepth 20000
set_option maxHeartbeats 2000000
theorem sc_shHead (u : Un) (hW : r8Weight u ≤ 536870912) : SC Tryz.prog 27 [.pv u.enc] [] (fun _ => False) (iBool (shHead u)) [] := by
  refine SC.anyR (SC.vc tb {} [] Tryz.func27 rfl rfl ?_)
  have hw1 : u.arrays.length ≤ r8Weight u := by unfold r8Weight; omega
  have hw2 : u.flows.length ≤ r8Weight u := by unfold r8Weight; omega
  refine ⟨Nat × List (Value × PV), fun (k, _) => [(13, iInt k)], fun (_, es) => [(109, .map es)], fun (k, _) => u.arrays.length - k, fun (k, es) => k ≤ u.arrays.length ∧ u.arrays.all shArr = (u.arrays.drop k).all shArr ∧ countA [] u.arrays = countA es (u.arrays.drop k) ∧ Cnt es, [], (0, []), ⟨Nat.zero_le _, rfl, rfl, Cnt.nil⟩, ⟨rfl, trivial⟩, ⟨rfl, trivial⟩, ?_⟩
  rintro ⟨k, es⟩ ⟨hk, hA, hC, hes⟩
  refine bcase (fun hc => ?_) fun hc => ?_
  · have hlt := lt_of (f := Ar.enc) rfl hc
    obtain ⟨a, ha, _, hd, _⟩ := at_lt hlt
    rw [hd] at hA hC
    rw [List.all_cons] at hA
    obtain ⟨n, hn⟩ := hes.find (.string a.name)
    have bad : shArr a = false → SubI (iBool false) (iBool (shHead u)) := fun h => sE (by unfold shHead; rw [hA, h]; rfl)
    have hNm := sc_tkName a.name
    cases hN : isName a.name with
    | false =>
      rw [hN] at hNm
      exact ⟨map_get (f := Ar.enc) ha, rfl, VAsk.mk (p := vInt n) (b := (mfind (.string a.name) es).isSome) rfl hes.1 (Prod.ext hn rfl) ⟨rfl, rfl, hes.1, [], hNm, sR, trivial, rfl, bad (by unfold shArr; rw [hN]; rfl), trivial⟩⟩
    | true =>
      rw [hN] at hNm
      refine ⟨map_get (f := Ar.enc) ha, rfl, VAsk.mk (p := vInt n) (b := (mfind (.string a.name) es).isSome) rfl hes.1 (Prod.ext hn rfl) ⟨rfl, rfl, hes.1, [], hNm, sR, trivial, rfl, bcase (fun h1 => ⟨bad (by unfold shArr; rw [hN, show decide (a.size < 1) = true from h1]; rfl), trivial⟩) fun h1 => bcase (fun h2 => ⟨bad (by unfold shArr; rw [hN, show decide (a.size < 1) = false from h1, show decide (a.size > 1000) = true from h2]; rfl), trivial⟩) fun h2 => ?_⟩⟩
      have good : shArr a = true := by unfold shArr; rw [hN, show decide (a.size < 1) = false from h1, show decide (a.size > 1000) = false from h2]; rfl
      exact ⟨i64_add rfl (by omega), (k + 1, bump a.name es), step_lt hlt, ⟨hlt, by rw [hA, good]; rfl, hC, hes.bump _⟩, ⟨rfl, trivial⟩, ⟨mpq (bump_eq hn).symm, trivial⟩, rfl, rfl, rfl, rfl⟩
  · have hge := ge_of (f := Ar.enc) rfl hc
    rw [List.drop_eq_nil_of_le hge] at hA hC
    refine ⟨Nat × List (Value × PV), fun (k, _) => [(40, iInt k)], fun (_, es) => [(109, .map es)], fun (k, _) => u.flows.length - k, fun (k, es) => k ≤ u.flows.length ∧ u.flows.all shFlw = (u.flows.drop k).all shFlw ∧ countF (countA [] u.arrays) u.flows = countF es (u.flows.drop k) ∧ Cnt es, [], (0, es), ⟨Nat.zero_le _, rfl, by rw [hC]; rfl, hes⟩, ⟨rfl, trivial⟩, ⟨rfl, trivial⟩, ?_⟩
    rintro ⟨k, es⟩ ⟨hk, hF, hC, hes⟩
    refine bcase (fun hc => ?_) fun hc => ?_
    · have hlt := lt_of (f := Fl.enc) rfl hc
      obtain ⟨f, hf, _, hd, hm⟩ := at_lt hlt
      rw [hd] at hF hC
      rw [List.all_cons] at hF
      obtain ⟨n, hn⟩ := hes.find (.string f.name)
      have bad : shFlw f = false → SubI (iBool false) (iBool (shHead u)) := fun h => sE (by unfold shHead; rw [hA, hF, h]; rfl)
      have hNm := sc_tkName f.name
      cases hN : isName f.name with
      | false =>
        rw [hN] at hNm
        exact ⟨map_get (f := Fl.enc) hf, rfl, VAsk.mk (p := vInt n) (b := (mfind (.string f.name) es).isSome) rfl hes.1 (Prod.ext hn rfl) ⟨rfl, rfl, hes.1, [], hNm, sR, trivial, rfl, bad (by unfold shFlw; rw [hN]; rfl), trivial⟩⟩
      | true =>
        rw [hN] at hNm
        have hT := sc_isTy f.ty
        cases hty : isTy f.ty with
        | false =>
          rw [hty] at hT
          exact ⟨map_get (f := Fl.enc) hf, rfl, VAsk.mk (p := vInt n) (b := (mfind (.string f.name) es).isSome) rfl hes.1 (Prod.ext hn rfl) ⟨rfl, rfl, hes.1, [], hNm, sR, trivial, rfl, [], hT, sR, trivial, rfl, bad (by unfold shFlw; rw [hN, hty]; rfl), trivial⟩⟩
        | true =>
          rw [hty] at hT
          refine ⟨map_get (f := Fl.enc) hf, rfl, VAsk.mk (p := vInt n) (b := (mfind (.string f.name) es).isSome) rfl hes.1 (Prod.ext hn rfl) ⟨rfl, rfl, hes.1, [], hNm, sR, trivial, rfl, [], hT, sR, trivial, rfl, bcase (fun h1 => ⟨bad (by unfold shFlw; rw [hN, hty, show decide (f.params < 0) = true from h1]; rfl), trivial⟩) fun h1 => bcase (fun h2 => ⟨bad (by unfold shFlw; rw [hN, hty, show decide (f.params < 0) = false from h1, show decide (f.params > f.types.length) = true by simpa using h2]; rfl), trivial⟩) fun h2 => ?_⟩⟩
          have good : shFlw f = true := by unfold shFlw; rw [hN, hty, show decide (f.params < 0) = false from h1, show decide (f.params > f.types.length) = false by simpa using h2]; rfl
          exact ⟨i64_add rfl (by omega), (k + 1, bump f.name es), step_lt hlt, ⟨hlt, by rw [hF, good]; rfl, hC, hes.bump _⟩, ⟨rfl, trivial⟩, ⟨mpq (bump_eq hn).symm, trivial⟩, rfl, rfl, rfl, rfl⟩
    · have hge := ge_of (f := Fl.enc) rfl hc
      rw [List.drop_eq_nil_of_le hge] at hF hC
      have hG : shHead u = ((es.length : Int) == u.arrays.length + u.flows.length && r8main u) := by unfold shHead; rw [hA, hF, hC]; rfl
      rw [hG]
      have N : ∀ {P : Prop} {b : Bool}, b = true → b = false → P := fun h g => by rw [h] at g; cases g
      cases hb : ((es.length : Int) == u.arrays.length + u.flows.length) with
      | false => exact ⟨[], sc_shPlace u mainName, sR, trivial, rfl, i64_add rfl (by simp; omega), bcase (fun h => N (show ((es.length : Int) == u.arrays.length + u.flows.length) = true by simpa using h) hb) fun _ => ⟨sI, trivial⟩⟩
      | true =>
        cases hp : decide (r8Place mainName u.flows 0 ≥ 0) with
        | false => exact ⟨[], sc_shPlace u mainName, sR, trivial, rfl, i64_add rfl (by simp; omega), bcase (fun _ => bcase (fun h => N h hp) fun _ => ⟨sE (by unfold r8main; rw [hp]; rfl), trivial⟩) fun h => N hb (by simpa using h)⟩
        | true =>
          have h0 : r8Place mainName u.flows 0 ≥ 0 := by simpa using hp
          obtain ⟨g, hg, _⟩ := r8Place_at h0
          have hD : u.flows.getD (r8Place mainName u.flows 0).toNat flDef = g := by rw [List.getD_eq_getElem?_getD, hg]; rfl
          have hi := map_get (f := Fl.enc) hg
          refine ⟨[], sc_shPlace u mainName, sR, trivial, rfl, i64_add rfl (by simp; omega), bcase (fun _ => bcase (fun _ => ⟨hi, by omega, bcase (fun h1 => ⟨hi, by omega, sE ?_, trivial⟩) fun h1 => ⟨sE ?_, trivial⟩⟩) fun h => N hp h) fun h => N hb (by simpa using h)⟩
          · unfold r8main; rw [hp, hD, show (g.ty == 1) = true from h1]; rfl
          · unfold r8main; rw [hp, hD, show (g.ty == 1) = false from h1]; rfl
theorem sc_shCheck (u : Un) (hW : r8Weight u ≤ 536870912) : SC Tryz.prog 14 [.pv u.enc] [] (fun _ => False) (.tup [iInt (shCheck u).1, iInt (shCheck u).2]) [] := by
  refine SC.of Tryz.func14 rfl (lb rfl) fun F ρ w => ?_
  refine tQ <| tG <| cE rfl (ok_box rfl rfl) <| sm 2 rfl <| nL <| tQ <| tQ <| tG <| cV rfl (ok_load_ept_agg rfl rfl Tryz.underlying25 rfl tS25 (lb rfl)) <| cE rfl (ocq (sc_shHead u hW) ent27 rfl rfl) <| sm 1 rfl <| nL ?_
  refine tC rfl (fun hc8 => ?_) fun hc8 => ?_
  ·refine tQ <| tG <| sm 2 rfl <| nL <| Tr.ret <| ret_ok rfl ?_ no_post
   have hg : shHead u = false := by simpa using hc8
   simp [shCheck, hg]
  have hg : shHead u = true := by simpa using hc8
  refine Tr.skip <| tQ <| tQ <| tG <| sm 2 rfl ?_
  refine WL.lenOf (t := 10) rfl (fun hl1 => ?_)
  simp only [List.length_map] at hl1
  refine cV rfl (oSm Tryz.underlying23 rfl) <| sm 1 rfl <| nL <| Tr.block <| Tr.sub (Sub.of (fr' := [(12, iInt 0), (11, iInt u.flows.length), (10, .pv (flws u.flows)), (1, .pv (.ept [arrs u.arrays, flws u.flows] 0))]) ⟨rfl, rfl, rfl, rfl, trivial⟩) ?_
  refine Tr.loop (fun fr σ m => ∃ (k : Nat), (k ≤ u.flows.length) ∧ (shflows u u.flows 0 = shflows u (u.flows.drop k) k) ∧ fr = [(12, iInt k), (11, iInt u.flows.length), (10, .pv (flws u.flows)), (1, .pv (.ept [arrs u.arrays, flws u.flows] 0))] ∧ σ = look [] ∧ m = u.flows.length - k) (n := u.flows.length - 0) ?_ ?_
  ·exact ⟨0, Nat.zero_le _, rfl, rfl, rfl, rfl⟩
  rintro fr σ m ⟨k, hI0, hI1, rfl, rfl, rfl⟩
  refine tQ <| tG <| sm 1 rfl <| nL <| tQ ?_
  refine tC rfl (fun hc13 => ?_) fun hc13 => ?_
  ·have hlt : k < u.flows.length := by simpa using hc13
   have hd := List.drop_eq_getElem_cons hlt
   have hm := List.getElem_mem hlt
   have hi := map_get (f := Fl.enc) (List.getElem?_eq_getElem hlt)
   generalize u.flows[k] = x at hd hm hi
   refine Tr.skip <| tQ <| Tr.block <| tQ <| tG <| sm 1 rfl <| cV rfl (ok_index_seq rfl rfl rfl Tryz.underlying23 hi tS41 rfl (by rfl)) <| cV rfl (ok_load_ept_agg rfl rfl Tryz.underlying41 rfl tS41 (lb rfl)) <| cE rfl (ok_alloc (k := 105) rfl tZ41 rfl rfl rfl rfl) <| sm 1 rfl <| c0 (ok_store_box_agg rfl rfl rfl rfl rfl ((fun h => h)) tS41 (firmL_ok rfl) (lb rfl)) <| nL ?_
   refine tQ <| Tr.freezeBox (t := 5) (k := 105) rfl rfl rfl <| Tr.heap (σ' := look []) (fun k => by simp only [look]; cases Nat.beq 105 k <;> rfl) <| tG <| cV rfl (ok_load_ept_agg rfl rfl Tryz.underlying25 rfl tS25 (lb rfl)) <| cV rfl (ok_load_ept_agg rfl rfl Tryz.underlying41 rfl tS41 (lb rfl)) <| cE rfl (ocq (sc_shFlow u x (shHead_params hg) (shHead_params hg x hm) (flow_le hW hm)) ent28 rfl rfl) <| sm 1 rfl <| nL ?_
   refine tC rfl (fun hc20 => ?_) fun hc20 => ?_
   ·refine tQ <| tG <| sm 3 rfl <| nL <| Tr.ret <| ret_ok rfl ?_ no_post
    have hx : shFlow u x = false := by simpa using hc20
    simp only [shCheck, hg, if_true, hI1, hd, shflows, hx, Bool.false_eq_true, if_false]
   refine Tr.skip <| tG <| cV rfl (oB rfl rfl (i64_add rfl (by omega))) <| sm 1 rfl <| nL ?_
   refine ⟨_, _, ?_, Sub.of (fr' := [(12, iInt (k + 1)), (11, iInt u.flows.length), (10, .pv (flws u.flows)), (1, .pv (.ept [arrs u.arrays, flws u.flows] 0))]) ⟨rfl, rfl, rfl, rfl, trivial⟩, (k + 1), ?_, ?_, rfl, rfl, rfl⟩
   ·omega
   ·omega
   rw [hI1, hd]
   have hx : shFlow u x = true := by simpa using hc20
   simp only [shflows, hx, if_true]
   rfl
  refine Tr.exit <| tQ <| tG <| sm 2 rfl <| nL <| Tr.ret <| ret_ok rfl ?_ no_post
  have hge : u.flows.length ≤ k := by simpa using hc13
  simp only [shCheck, hg, if_true, hI1, List.drop_eq_nil_of_le hge, shflows]
set_option maxRecDepth 20000
set_option maxHeartbeats 8000000
theorem okf_boxT {P : Program} {o : Oper} {fr : Fr} {hp : Hp} {Rl : List Nat} {t : TypeId} {x : Operand} (k : Nat) (ho : o.op = .box t x) (hx : fr.ev x = some (.pv (.agg [.val (.pointer none), .val (.slice none 0 0)]))) :
    OkF P Rl o fr hp ⟨.ptr k 0, [(k, some (.box [.tnil k (tyTag + t), .pv (.val (.slice none 0 0))]))], [k], [k]⟩ := fun c fr2 hp2 _ hc0 hg _ hf => by
  obtain ⟨f1, f2, f3⟩ := frsh_ok (hf k (.head _))
  exact ok_boxT ho (hg.ev hx (by rw [ho]; simp [Op.operands])) f3 (hc0 k (.head _)) f1 f2
theorem okf_String {o : Oper} {fr : Fr} {hp : Hp} {Rl : List Nat} {x : Operand} {n : Nat} {s : ByteArray} {tys : Array TypeId} (ho : o.op = .call { callee := .value (.func 19), args := #[x], argTypes := tys }) (hx : fr.ev x = some (.ptr 1001 0))
    (h1 : look hp 1001 = some (.box [bPt, .sl 1002 n])) (h2 : look hp 1002 = some (.row bRt (tEls s))) (hn : (tEls s).length = n) (h0 : s.size ≠ 0) (hR : nIn 1002 Rl = false) : OkF Tryz.prog Rl o fr hp ⟨.pv (.val (.string s)), [(1002, none)], [1001, 1002], []⟩ :=
  fun c fr2 hp2 hc _ hg hh _ => ok_String ho (hg.ev hx (by rw [ho]; simp [Op.operands, Call.operands])) (hh.at h1 (.head _)) (hh.at h2 (.tail _ (.head _))) hn h0 (notR hc hR)
theorem tTabs0 : tTabs 0 = ⟨#[]⟩ := rfl
theorem tTabs1 : tTabs 1 = tTab := rfl
theorem tHd_ge (f : Fl) : ∀ k, 1 ≤ (tHd f k).size
  | 0 => by
    simp only [tHd, size_app]
    have e : tSp.size = 1 := rfl
    omega
  | k + 1 => by
    have e : tSp.size = 1 := rfl
    simp only [tHd, size_app]
    omega
theorem tUnit_ne {u : Un} (h : u.flows ≠ []) : (tUnit u).size ≠ 0 := by
  match hf : u.flows, h with
  | f :: r, _ =>
    have := tHd_ge f f.types.length
    simp only [tUnit, hf, List.map_cons, tCat, tFlw, size_app]
    omega
theorem sc_showPrint (u : Un) (ho : PrOk u) : SC Tryz.prog 9 [.pv u.enc] [] (fun k => k ∈ []) (.tup [.pv (.val (.string (printOf u).1)), iInt (printOf u).2]) [] := by
  refine SC.vc tb { pb := [101], an := [4001, 16003], gh := [(5, [.growC 1001 1 1002 5 1])] } [] Tryz.func9 rfl rfl ?_
  have hsc := sc_shCheck u ho.w
  rw [shCheck_eq] at hsc
  refine ⟨[], hsc, sR, trivial, rfl, bcase (fun hb => ?_) fun hb => ?_⟩
  · have h : ¬ (r8Check u).1 = 0 := by simpa using hb
    exact ⟨sE (by rw [printOf, if_neg h]), trivial⟩
  · have h : (r8Check u).1 = 0 := by simpa using hb
    have hU := tUnit_le h ho
    have hAr := arrs_ok h
    have hU2 := hU
    simp only [tUnit, size_app] at hU2
    have hw := ho.w
    simp only [r8Weight] at hw
    refine ⟨okf_boxT 1001 rfl rfl, ?_⟩
    refine ⟨Nat × IV, fun (k, _) => [(23, iInt k)], fun (k, c) => bd c (tCat ((u.arrays.take k).map tArr)), fun (k, _) => u.arrays.length - k, fun (k, c) => k ≤ u.arrays.length ∧ BdC c, [], (0, bTn), ⟨Nat.zero_le _, .inl rfl⟩, ⟨rfl, trivial⟩, ⟨rfl, rfl, trivial⟩, ?_⟩
    rintro ⟨k, c0⟩ ⟨hk, hC⟩
    refine bcase (fun hc => ?_) fun hc => ?_
    · have hlt : k < u.arrays.length := lt_of (f := Ar.enc) rfl hc
      obtain ⟨a, hx, hk1, _, hm⟩ := at_lt hlt
      have hA := hAr a hm
      have hpn := tCat_part tArr u.arrays (k + 1)
      have hn := tCat_next tArr hk1
      have hl := sc_line hC 0 (by omega) [⟨#[97, 114, 114, 97, 121, 32]⟩, a.name, tSp, tNum a.size] (by simp) (t := tCat ((u.arrays.take k).map tArr)) (t' := tCat ((u.arrays.take (k + 1)).map tArr)) (by rw [hn]; simp only [tLine, tCat, tArr, app_assoc, app_nil, nil_app, tTabs0]) (by omega)
      have hi := sc_Itoa a.size ⟨by omega, by omega⟩
      have g := map_get (f := Ar.enc) hx
      rcases hC with rfl | rfl
      all_goals exact ⟨g, rfl, [], hi, sR, trivial, rfl, [], hl, sR, ⟨rfl, rfl, trivial⟩, rfl, i64_add rfl (by omega), (k + 1, bPt), step_lt hlt, ⟨hlt, .inr rfl⟩, ⟨rfl, trivial⟩, ⟨rfl, rfl, trivial⟩, rfl, rfl, rfl, rfl⟩
    · have hge : u.arrays.length ≤ k := ge_of (f := Ar.enc) rfl hc
      rw [List.take_of_length_le hge]
      generalize hT : tCat (u.arrays.map tArr) = T at *
      refine ⟨Nat × IV, fun (k, _) => [(39, iInt k)], fun (k, c) => bd c (T ++ tCat ((u.flows.take k).map tFlw)), fun (k, _) => u.flows.length - k, fun (k, c) => k ≤ u.flows.length ∧ BdC c ∧ (1 ≤ k → c = bPt), [], (0, c0), ⟨Nat.zero_le _, hC, fun h => absurd h (by decide)⟩, ⟨rfl, trivial⟩, ?_, ?_⟩
      · have e : T ++ tCat ((u.flows.take 0).map tFlw) = T := app_nil T
        show subH _ (bd c0 (T ++ tCat ((u.flows.take 0).map tFlw)))
        rw [e]
        exact ⟨rfl, rfl, trivial⟩
      rintro ⟨k, c1⟩ ⟨hk, hC2, hk0⟩
      refine bcase (fun hc => ?_) fun hc => ?_
      · have hlt : k < u.flows.length := lt_of (f := Fl.enc) rfl hc
        obtain ⟨f, hx, hk1, _, hm⟩ := at_lt hlt
        have hpn := tCat_part tFlw u.flows (k + 1)
        have hn := tCat_next tFlw hk1
        have hb := body_ok h hm (ho.n f hm)
        have hwf := wtF_at hm
        simp only [r8nodes] at hwf
        have hhd := sc_head f (by omega) (by omega)
        have e : T ++ tCat ((u.flows.take (k + 1)).map tFlw) = T ++ tCat ((u.flows.take k).map tFlw) ++ tLine 0 [tHd f f.types.length] ++ tLs (tTabs 1) f.body := by
          rw [hn]
          simp only [tLine, tCat, tFlw, app_assoc, app_nil, nil_app, tTabs0, tTabs1]
        have hsz : (T ++ tCat ((u.flows.take (k + 1)).map tFlw)).size ≤ 70368744177664 := by rw [size_app]; omega
        have hsz2 := hsz
        rw [e, size_app] at hsz2
        have h1 := sc_line hC2 0 (by omega) [tHd f f.types.length] (by simp) (t := T ++ tCat ((u.flows.take k).map tFlw)) rfl (by omega)
        have h2 := sc_showList _ 1 100 f.body (Nat.lt_succ_self _) (by omega) hb.1 hb.2 (by omega) (t := T ++ tCat ((u.flows.take k).map tFlw) ++ tLine 0 [tHd f f.types.length]) e hsz
        have g := map_get (f := Fl.enc) hx
        rcases hC2 with rfl | rfl
        all_goals exact ⟨g, rfl, [], hhd, sR, trivial, rfl, [], h1, sR, ⟨rfl, rfl, trivial⟩, rfl, [], h2, sR, ⟨rfl, rfl, trivial⟩, rfl, i64_add rfl (by omega), (k + 1, bPt), step_lt hlt, ⟨hlt, .inr rfl, fun _ => rfl⟩, ⟨rfl, trivial⟩, ⟨rfl, rfl, trivial⟩, rfl, rfl, rfl, rfl⟩
      · have hge : u.flows.length ≤ k := ge_of (f := Fl.enc) rfl hc
        have hne := flws_ne h
        obtain rfl := hk0 (by
          have : u.flows.length ≠ 0 := fun e => hne (List.eq_nil_of_length_eq_zero e)
          omega)
        rw [List.take_of_length_le hge]
        have e : T ++ tCat (u.flows.map tFlw) = tUnit u := by rw [tUnit, hT]
        rw [e]
        have h0 : (tUnit u).size ≠ 0 := tUnit_ne hne
        exact ⟨okf_String rfl rfl rfl rfl rfl h0 rfl, sE (by rw [printOf, if_pos h]), trivial⟩
set_option maxRecDepth 20000
set_option maxHeartbeats 4000000
def numU (n : Int) : Un := ⟨[], [⟨mainName, 1, 0, [1], [.mk 1 0 n ⟨#[]⟩ [] [0] [] [], .mk 15 0 0 ⟨#[]⟩ [0] [] [] []]⟩]⟩
def nilv : PV := .val (.slice none 0 0)
def numRaw (n : Int) : PV := .agg [nilv, .seq [[vStr mainName, vInt 1, vInt 0, .seq [[vInt 1]], .seq [[vInt 1, vInt 0, vInt n, vStr ⟨#[]⟩, nilv, .seq [[vInt 0]], nilv, nilv], [vInt 15, vInt 0, vInt 0, vStr ⟨#[]⟩, .seq [[vInt 0]], nilv, nilv, nilv]]]]]
theorem num_sub (n : Int) : PSub (numRaw n) (numU n).enc := by
  refine PSub.agg (ps := [_, _]) (qs := [_, _]) ?_
  repeat' (first | exact PSub.nil | exact PSub.refl _ | exact trivial | refine And.intro ?_ ?_ | refine PSub.seq (ps := [_, _]) (qs := [_, _]) ?_ | refine PSub.seq (ps := [_]) (qs := [_]) ?_)
theorem num_check (n : Int) : (r8Check (numU n)).1 = 0 := by
  have h1 : isName mainName = true := by decide +kernel
  have h2 : eqS mainName mainName = true := by decide +kernel
  rw [check_iff]
  refine ⟨?_, fun f hf => ?_⟩
  · simp [r8globals, r8gA, r8gF, gFlw, r8main, numU, r8Place, h1, h2]
  · simp only [numU, List.mem_singleton] at hf
    subst hf
    simp [r8Flow, r8list, ne, r8go, r8node, andT, andS, r8bare, r8simple, r8types, r8typesGo, r8sets, r8setsGo, r8use, r8op, r8num, r8name, r8kn, firsts, iota, r8Closed, Nd.kind, Nd.op, Nd.n, Nd.name, Nd.args, Nd.outs, Nd.params, Nd.kids, r8bad, r8Ender]
theorem num_weight (n : Int) : r8Weight (numU n) ≤ 536870912 := by
  simp [r8Weight, numU, wtA, wtF, r8nodes, wtL, wtN, wtK]
  decide
theorem num_ok {n : Int} (h : N64 n) : PrOk (numU n) := ⟨num_weight n, fun f hf => by
  simp only [numU, List.mem_singleton] at hf
  subst hf
  simp only [n64L, n64N, n64K]
  exact ⟨⟨h, trivial⟩, ⟨⟨by decide, by decide⟩, trivial⟩, trivial⟩⟩
def emptyU : Un := ⟨[], []⟩
theorem empty_ok : PrOk emptyU := ⟨by decide, fun f hf => by simp [emptyU] at hf⟩
theorem empty_print : printOf emptyU = (⟨#[]⟩, 1) := rfl
theorem wake_text : tUnit (numU (-7)) = ⟨#[105, 110, 116, 32, 109, 97, 105, 110, 59, 32, 105, 110, 116, 10, 9, 118, 48, 32, 61, 32, 45, 55, 10, 9, 114, 101, 116, 117, 114, 110, 32, 118, 48, 10]⟩ := by decide +kernel
theorem sc_awake : SC Tryz.prog 8 [] [] (fun k => k ∈ []) (iBool true) [] := by
  have h1 := sc_showPrint (numU (-7)) (num_ok ⟨by decide, by decide⟩)
  have h2 := sc_showPrint emptyU empty_ok
  rw [empty_print] at h2
  rw [printOf, if_pos (num_check _), wake_text] at h1
  refine SC.vc tb {} [] Tryz.func8 rfl rfl ?_
  refine ⟨[], h1, SubA.cons (sP (num_sub (-7))) sR, trivial, rfl, [], h2, SubA.cons (sP (nilP_agg _)) sR, trivial, rfl, bcase (fun _ => ?_) fun h => absurd h (by simp)⟩
  exact ⟨sI, trivial⟩
section
structure Bd (a b : Nat) (g g' : Gn) : Prop where
  lf : g'.left ≤ g.left
  ps : g'.pos + 60 * g'.left ≤ g.pos + 60 * g.left + a
  t1 : g.types.length ≤ g'.types.length
  t2 : g'.types.length + 10 * g'.left ≤ g.types.length + 10 * g.left + b
theorem Bd.trans {a b a' b' : Nat} {g g' g'' : Gn} (h : Bd a b g g') (h' : Bd a' b' g' g'') : Bd (a + a') (b + b') g g'' :=
  ⟨by have := h.lf; have := h'.lf; omega, by have := h.ps; have := h'.ps; omega, by have := h.t1; have := h'.t1; omega, by have := h.t2; have := h'.t2; omega⟩
theorem Bd.mono {a b a' b' : Nat} {g g' : Gn} (h : Bd a b g g') (ha : a ≤ a') (hb : b ≤ b') : Bd a' b' g g' :=
  ⟨h.lf, by have := h.ps; omega, h.t1, by have := h.t2; omega⟩
section
variable (l : List UInt8)
theorem bd_pick (n : Nat) (g : Gn) : Bd 1 0 g (gPick l n g).2 := ⟨Nat.le_refl _, by simp only [gPick]; omega, Nat.le_refl _, Nat.le_refl _⟩
theorem bd_each (seen ts : List Int) (g : Gn) : Bd ts.length 0 g (gEach l seen ts g).2 := by
  rw [(gEach_st l seen ts g).1]
  exact ⟨Nat.le_refl _, by simp only []; omega, Nat.le_refl _, Nat.le_refl _⟩
theorem bd_outs (ts : List Int) (g : Gn) : Bd 0 ts.length g (gOuts ts g).2 := by
  rw [(gOuts_st ts g).1]
  exact ⟨Nat.le_refl _, Nat.le_refl _, by simp, by simp only [List.length_append]; omega⟩
theorem bd_types (g : Gn) : Bd 3 0 g (gTypes l g).2 ∧ (gTypes l g).1.length ≤ 2 := by
  have h3 : (gPick l 3 g).1 < 3 := gPick_lt (by omega)
  obtain ⟨h1, h2⟩ := gTypes_st l g
  refine ⟨?_, by omega⟩
  rw [h1]
  exact ⟨Nat.le_refl _, by simp only []; omega, Nat.le_refl _, Nat.le_refl _⟩
theorem bd_node (kind op n : Int) (name : ByteArray) (seen ins outs : List Int) (g : Gn) : Bd ins.length outs.length g (gNode l kind op n name seen ins outs g).2 := by
  have := (bd_each l seen ins g).trans (bd_outs outs (gEach l seen ins g).2)
  simpa [gNode] using this
theorem bd_simple (seen : List Int) (g : Gn) : Bd 4 1 g (gSimple l seen g).2 := by
  unfold gSimple
  have h0 := bd_pick l 12 g
  have P := fun n => bd_pick l n (gPick l 12 g).2
  have N := fun kind op n name ins outs g' => bd_node l kind op n name seen ins outs g'
  simp only
  split
  ·exact ((h0.trans (P 6)).trans (N _ _ _ _ [] [1] _)).mono (by simp) (by simp)
  split
  ·exact ((h0.trans (P 2)).trans (N _ _ _ _ [] [2] _)).mono (by simp) (by simp)
  split
  ·exact ((h0.trans (P 4)).trans (N _ _ _ _ [1] [1] _)).mono (by simp) (by simp)
  split
  ·exact (h0.trans (N _ _ _ _ [2] [2] _)).mono (by simp) (by simp)
  split
  ·exact ((h0.trans (P 11)).trans (N _ _ _ _ [1, 1] [1] _)).mono (by simp) (by simp)
  split
  ·exact ((h0.trans (P 6)).trans (N _ _ _ _ [1, 1] [2] _)).mono (by simp) (by simp)
  split
  ·exact (h0.trans (N _ _ _ _ [1] [1] _)).mono (by simp) (by simp)
  split
  ·exact (h0.trans (N _ _ _ _ [1, 1] [] _)).mono (by simp) (by simp)
  split
  ·exact ((h0.trans (P 4)).trans (N _ _ _ _ [1, 2] [1] _)).mono (by simp) (by simp)
  split
  ·exact ((h0.trans (P 4)).trans (N _ _ _ _ [] [1] _)).mono (by simp) (by simp)
  exact ((h0.trans (P 4)).trans (N _ _ _ _ [1] [] _)).mono (by simp) (by simp)
def Plc.small (p : Plc) : Prop := p.Yield.length ≤ 2 ∧ p.Next.length ≤ 2 ∧ p.Left.length ≤ 2
theorem bd_end (seen : List Int) (p : Plc) (hp : p.small) (g : Gn) : Bd 3 0 g (gEnd l seen p g).2 := by
  obtain ⟨h1, h2, h3⟩ := hp
  unfold gEnd
  have h0 := bd_pick l 6 g
  have N := fun kind op n name ins outs g' => bd_node l kind op n name seen ins outs g'
  simp only
  split
  ·exact (h0.trans (N _ _ _ _ p.Yield [] _)).mono (by omega) (by simp)
  split
  ·exact (h0.trans (N _ _ _ _ p.Next [] _)).mono (by omega) (by simp)
  split
  ·exact (h0.trans (N _ _ _ _ p.Left [] _)).mono (by omega) (by simp)
  exact (h0.trans (N _ _ _ _ [1] [] _)).mono (by simp) (by simp)
def RecBd (rec : GRec) : Prop := ∀ seen p g, p.small → Bd 4 0 g (rec seen p g).2
theorem bd_shut (x : List Int → Nd) (t : List Int) (ht : t.length ≤ 2) (g : Gn) : Bd 0 2 g (gShut x t g).2 := by
  unfold gShut
  split
  ·exact ⟨Nat.le_refl _, Nat.le_refl _, Nat.le_refl _, by show g.types.length + 10 * g.left ≤ g.types.length + 10 * g.left + 2; omega⟩
  exact (bd_outs t g).mono (Nat.le_refl _) ht
theorem bd_if {rec : GRec} (hr : RecBd rec) (all : List Int) (p : Plc) (hp : p.small) (g : Gn) : Bd 12 2 g (gIf l rec all p g).2 := by
  unfold gIf
  simp only
  obtain ⟨h1, h2⟩ := bd_types l g
  have h3 := h1.trans (bd_each l all [2] (gTypes l g).2)
  have hsm : Plc.small ⟨true, p.Loop, (gTypes l g).1, p.Next, p.Left⟩ := ⟨h2, hp.2.1, hp.2.2⟩
  have h4 := h3.trans (hr all ⟨true, p.Loop, (gTypes l g).1, p.Next, p.Left⟩ _ hsm)
  have h5 := h4.trans (hr all ⟨true, p.Loop, (gTypes l g).1, p.Next, p.Left⟩ _ hsm)
  exact (h5.trans (bd_shut _ _ h2 _)).mono (by simp) (by simp)
theorem bd_loop {rec : GRec} (hr : RecBd rec) (all : List Int) (g : Gn) : Bd 12 4 g (gLoop l rec all g).2 := by
  unfold gLoop
  simp only
  obtain ⟨h1, h2⟩ := bd_types l g
  obtain ⟨h3, h4⟩ := bd_types l (gTypes l g).2
  have h5 := (h1.trans h3).trans ((bd_each l all (gTypes l g).1 (gTypes l (gTypes l g).2).2).mono h2 (Nat.le_refl 0))
  have h6 := h5.trans ((bd_outs (gTypes l g).1 (gEach l all (gTypes l g).1 (gTypes l (gTypes l g).2).2).2).mono (Nat.le_refl 0) h2)
  have h7 := h6.trans (hr (all ++ (gOuts (gTypes l g).1 (gEach l all (gTypes l g).1 (gTypes l (gTypes l g).2).2).2).1) ⟨false, true, [], (gTypes l g).1, (gTypes l (gTypes l g).2).1⟩ _ ⟨by simp, h2, h4⟩)
  exact (h7.trans (bd_shut _ _ h4 _)).mono (by omega) (by omega)
theorem bd_any {rec : Option GRec} (hr : ∀ r, rec = some r → RecBd r) (all : List Int) (p : Plc) (hp : p.small) (g : Gn) (hg : 0 < g.left) : Bd 0 0 g (gAny l rec all p g).2 := by
  have h0 : ({ g with left := g.left - 1 } : Gn).left + 1 = g.left := by show g.left - 1 + 1 = g.left; omega
  have key : ∀ g', Bd 17 5 { g with left := g.left - 1 } g' → Bd 0 0 g g' := fun g' h =>
    ⟨by have := h.lf; omega, by have := h.ps; have e : ({ g with left := g.left - 1 } : Gn).pos = g.pos := rfl; omega, h.t1, by have := h.t2; have e : ({ g with left := g.left - 1 } : Gn).types = g.types := rfl; rw [e] at this; omega⟩
  have hs := (bd_simple l all { g with left := g.left - 1 }).trans (bd_pick l 6 _)
  unfold gAny
  simp only
  cases rec with
  | none => exact key _ (hs.mono (by omega) (by omega))
  | some r =>
    simp only
    split
    ·exact key _ ((hs.trans (bd_if l (hr r rfl) all p hp _)).mono (by omega) (by omega))
    split
    ·exact key _ ((hs.trans (bd_loop l (hr r rfl) all _)).mono (by omega) (by omega))
    exact key _ (hs.mono (by omega) (by omega))
theorem bd_nodes {rec : Option GRec} (hr : ∀ r, rec = some r → RecBd r) (p : Plc) (hp : p.small) : ∀ (i : Nat) (out : List Nd) (all : List Int) (g : Gn), Bd 3 0 g (gNodes l rec p i out all g).2
  | 0, out, all, g => bd_end l all p hp g
  | i + 1, out, all, g => by
    unfold gNodes
    split
    ·exact bd_end l all p hp g
    rename_i hl
    have h1 := bd_any l hr all p hp g (by omega)
    simp only
    split
    ·exact h1.mono (by omega) (by omega)
    exact (h1.trans (bd_nodes hr p hp i _ _ _)).mono (by omega) (by omega)
theorem bd_list : ∀ d : Nat, RecBd (gList l d)
  | 0 => fun seen p g hp => ((bd_pick l 6 g).trans (bd_nodes l (rec := none) (fun r h => by cases h) p hp _ _ _ _)).mono (by omega) (by omega)
  | d + 1 => fun seen p g hp => ((bd_pick l 6 g).trans (bd_nodes l (rec := some (gList l d)) (fun r h => by cases h; exact bd_list d) p hp _ _ _ _)).mono (by omega) (by omega)
def gRec : Nat → Option GRec
  | 0 => none
  | d + 1 => some (gList l d)
theorem gRec_bd (d : Nat) : ∀ r, gRec l d = some r → RecBd r := by
  intro r h
  cases d with
  | zero => cases h
  | succ d => cases h; exact bd_list l d
theorem gList_eq (d : Nat) (seen : List Int) (p : Plc) (g : Gn) : gList l d seen p g = gNodes l (gRec l d) p (gPick l 6 g).1 [] seen (gPick l 6 g).2 := by cases d <;> rfl
end
theorem InR.mono {tys tys' seen : List Int} (h : InR tys seen) (hl : tys.length ≤ tys'.length) : InR tys' seen := fun s hs => ⟨(h s hs).1, Nat.lt_of_lt_of_le (h s hs).2 hl⟩
theorem InR.app {tys a b : List Int} (h : InR tys a) (h' : InR tys b) : InR tys (a ++ b) := fun s hs => (List.mem_append.1 hs).elim (h s) (h' s)
theorem InR.outs (ts : List Int) (g : Gn) : InR (gOuts ts g).2.types (gOuts ts g).1 := by
  intro s hs
  have := gOuts_in ts g s hs
  rw [(gOuts_st ts g).1]
  simp only [List.length_append]
  omega
section
variable (l : List UInt8)
theorem node_outs (kind op n : Int) (name : ByteArray) (seen ins outs : List Int) (g : Gn) : InR (gNode l kind op n name seen ins outs g).2.types (gNode l kind op n name seen ins outs g).1.outs ∧ (gNode l kind op n name seen ins outs g).1.outs.length = outs.length :=
  ⟨InR.outs outs _, (gOuts_st outs _).2⟩
theorem simple_outs (seen : List Int) (g : Gn) : InR (gSimple l seen g).2.types (gSimple l seen g).1.outs ∧ (gSimple l seen g).1.outs.length ≤ 1 := by
  have N := fun kind op n name ins outs g' => node_outs l kind op n name seen ins outs g'
  have fin : ∀ {x : Nd × Gn} {k : Nat}, InR x.2.types x.1.outs ∧ x.1.outs.length = k → k ≤ 1 → InR x.2.types x.1.outs ∧ x.1.outs.length ≤ 1 := fun h hk => ⟨h.1, by omega⟩
  unfold gSimple
  simp only
  split
  ·exact fin (N _ _ _ _ _ [1] _) (by simp)
  split
  ·exact fin (N _ _ _ _ _ [2] _) (by simp)
  split
  ·exact fin (N _ _ _ _ _ [1] _) (by simp)
  split
  ·exact fin (N _ _ _ _ _ [2] _) (by simp)
  split
  ·exact fin (N _ _ _ _ _ [1] _) (by simp)
  split
  ·exact fin (N _ _ _ _ _ [2] _) (by simp)
  split
  ·exact fin (N _ _ _ _ _ [1] _) (by simp)
  split
  ·exact fin (N _ _ _ _ _ [] _) (by simp)
  split
  ·exact fin (N _ _ _ _ _ [1] _) (by simp)
  split
  ·exact fin (N _ _ _ _ _ [1] _) (by simp)
  exact fin (N _ _ _ _ _ [] _) (by simp)
theorem shut_outs (x : List Int → Nd) (hx : ∀ o, (x o).outs = o) (t : List Int) (ht : t.length ≤ 2) (g : Gn) : InR (gShut x t g).2.types (gShut x t g).1.outs ∧ (gShut x t g).1.outs.length ≤ 2 := by
  unfold gShut
  split
  ·rw [hx]; exact ⟨fun s hs => by simp at hs, by simp⟩
  rw [hx]; exact ⟨InR.outs t g, by rw [(gOuts_st t g).2]; exact ht⟩
theorem any_outs {rec : Option GRec} (all : List Int) (p : Plc) (g : Gn) : InR (gAny l rec all p g).2.types (gAny l rec all p g).1.outs ∧ (gAny l rec all p g).1.outs.length ≤ 2 := by
  have hs := simple_outs l all { g with left := g.left - 1 }
  unfold gAny
  simp only
  cases rec with
  | none => exact ⟨hs.1, Nat.le_trans hs.2 (by decide)⟩
  | some r =>
    simp only
    split
    ·unfold gIf; exact shut_outs _ (fun _ => rfl) _ (bd_types l _).2 _
    split
    ·unfold gLoop; exact shut_outs _ (fun _ => rfl) _ (bd_types l _).2 _
    exact ⟨hs.1, Nat.le_trans hs.2 (by decide)⟩
end
theorem any_left (l : List UInt8) {rec : Option GRec} (hr : ∀ r, rec = some r → RecBd r) (all : List Int) (p : Plc) (hp : p.small) (g : Gn) (hg : 0 < g.left) : (gAny l rec all p g).2.left + 1 ≤ g.left := by
  have h0 : ({ g with left := g.left - 1 } : Gn).left + 1 = g.left := by show g.left - 1 + 1 = g.left; omega
  have hs := (bd_simple l all { g with left := g.left - 1 }).trans (bd_pick l 6 _)
  have fin : ∀ {a b : Nat} {g' : Gn}, Bd a b { g with left := g.left - 1 } g' → g'.left + 1 ≤ g.left := fun h => by have := h.lf; omega
  unfold gAny
  simp only
  cases rec with
  | none => exact fin hs
  | some r =>
    simp only
    split
    ·exact fin (hs.trans (bd_if l (hr r rfl) all p hp _))
    split
    ·exact fin (hs.trans (bd_loop l (hr r rfl) all _))
    exact fin hs
theorem gNodes_len (l : List UInt8) (rec : Option GRec) (p : Plc) : ∀ (i : Nat) (out : List Nd) (all : List Int) (g : Gn), (gNodes l rec p i out all g).1.length ≤ out.length + i + 1
  | 0, out, all, g => by simp [gNodes]
  | i + 1, out, all, g => by
    unfold gNodes
    split
    ·simp
    simp only
    split
    ·simp
    have := gNodes_len l rec p i (out ++ [(gAny l rec all p g).1]) (all ++ (gAny l rec all p g).1.outs) (gAny l rec all p g).2
    simp only [List.length_append, List.length_cons, List.length_nil] at this
    omega
theorem gList_len (l : List UInt8) (d : Nat) (seen : List Int) (p : Plc) (g : Gn) : (gList l d seen p g).1.length ≤ 6 := by
  rw [gList_eq]
  have h6 : (gPick l 6 g).1 < 6 := gPick_lt (by omega)
  have := gNodes_len l (gRec l d) p (gPick l 6 g).1 [] seen (gPick l 6 g).2
  simp only [List.length_nil] at this
  omega
theorem gFlow_pos (l : List UInt8) (name : ByteArray) (params : List Int) (g : Gn) (hp : params.length ≤ 10) (hg : g.pos ≤ 100) : (gFlow l name params g).2.pos ≤ 2000 := by
  have hS := (gOuts_st params { g with types := [], left := 30 }).1
  have hb := (bd_list l 3 ((gOuts params { g with types := [], left := 30 }).1 ++ [(gFresh 1 (gOuts params { g with types := [], left := 30 }).2).1, (gFresh 2 (gFresh 1 (gOuts params { g with types := [], left := 30 }).2).2).1]) plc0 (gFresh 2 (gFresh 1 (gOuts params { g with types := [], left := 30 }).2).2).2 ⟨by simp [plc0], by simp [plc0], by simp [plc0]⟩).ps
  have h1 : (gFresh 2 (gFresh 1 (gOuts params { g with types := [], left := 30 }).2).2).2.pos = g.pos := by rw [hS]; rfl
  have h2 : (gFresh 2 (gFresh 1 (gOuts params { g with types := [], left := 30 }).2).2).2.left = 30 := by rw [hS]; rfl
  rw [h1, h2] at hb
  show (gList l 3 _ plc0 _).2.pos ≤ 2000
  omega
end
section
section
variable (l : List UInt8)
def gTail (rec : Option GRec) (p : Plc) : Nat → List Int → Gn → List Nd × Gn
  | 0, all, g => ([(gEnd l all p g).1], (gEnd l all p g).2)
  | i + 1, all, g =>
    if g.left = 0 then ([(gEnd l all p g).1], (gEnd l all p g).2)
    else if r8Closed (gAny l rec all p g).1 then ([(gAny l rec all p g).1], (gAny l rec all p g).2)
      else ((gAny l rec all p g).1 :: (gTail rec p i (all ++ (gAny l rec all p g).1.outs) (gAny l rec all p g).2).1, (gTail rec p i (all ++ (gAny l rec all p g).1.outs) (gAny l rec all p g).2).2)
theorem gNodes_tail (rec : Option GRec) (p : Plc) : ∀ (i : Nat) (out : List Nd) (all : List Int) (g : Gn), gNodes l rec p i out all g = (out ++ (gTail l rec p i all g).1, (gTail l rec p i all g).2)
  | 0, out, all, g => rfl
  | i + 1, out, all, g => by
    unfold gNodes gTail
    split
    ·rfl
    simp only
    split
    ·rfl
    rw [gNodes_tail rec p i]; simp
end
end
section
def n64 (n : Int) : Bool := decide (-9223372036854775808 ≤ n) && decide (n ≤ 9223372036854775807)
mutual
def nIN : Nd → Bool
  | .mk _ _ n _ _ _ _ ks => n64 n && nIK ks
def nIL : List Nd → Bool
  | [] => true
  | x :: r => nIN x && nIL r
def nIK : List (List Nd) → Bool
  | [] => true
  | l :: r => nIL l && nIK r
end
mutual
theorem nIN_64 : ∀ x : Nd, nIN x = true → n64N x
  | .mk _ _ n _ _ _ _ ks, h => by
    simp only [nIN, Bool.and_eq_true, n64, decide_eq_true_eq] at h
    simp only [n64N]
    exact ⟨h.1, nIK_64 ks h.2⟩
theorem nIL_64 : ∀ l : List Nd, nIL l = true → n64L l
  | [], _ => by simp [n64L]
  | x :: r, h => by
    simp only [nIL, Bool.and_eq_true] at h
    simp only [n64L]
    exact ⟨nIN_64 x h.1, nIL_64 r h.2⟩
theorem nIK_64 : ∀ l : List (List Nd), nIK l = true → n64K l
  | [], _ => by simp [n64K]
  | x :: r, h => by
    simp only [nIK, Bool.and_eq_true] at h
    simp only [n64K]
    exact ⟨nIL_64 x h.1, nIK_64 r h.2⟩
end
section
variable (l : List UInt8)
theorem nI_app : ∀ a b : List Nd, nIL (a ++ b) = (nIL a && nIL b)
  | [], b => by simp [nIL]
  | x :: r, b => by simp only [List.cons_append, nIL, nI_app r b, Bool.and_assoc]
theorem nI_node {kind op n : Int} {name : ByteArray} {seen ins outs : List Int} {g : Gn} (hn : n64 n = true) : nIN (gNode l kind op n name seen ins outs g).1 = true := by
  simp [gNode, nIN, nIK, hn]
theorem nums64 (i : Nat) : n64 (gNums.getD i 0) = true := by
  match i with
  | 0 | 1 | 2 | 3 | 4 | 5 => rfl
  | i + 6 => rfl
theorem pick2 (g : Gn) : (gPick l 2 g).1 ≤ 1 := by
  unfold gPick
  dsimp only
  split
  · omega
  · omega
theorem n64_nat {k : Nat} (h : k ≤ 1) : n64 (k : Int) = true := by
  unfold n64
  rw [decide_eq_true (show (-9223372036854775808 : Int) ≤ k by omega), decide_eq_true (show (k : Int) ≤ 9223372036854775807 by omega)]
  rfl
theorem nI_simple (seen : List Int) (g : Gn) : nIN (gSimple l seen g).1 = true := by
  unfold gSimple
  simp only
  repeat' split
  all_goals first
  | exact nI_node l (nums64 _)
  | exact nI_node l rfl
  | exact nI_node l (n64_nat (pick2 l _))
theorem nI_end (seen : List Int) (p : Plc) (g : Gn) : nIN (gEnd l seen p g).1 = true := by
  unfold gEnd
  simp only
  repeat' split
  all_goals exact nI_node l rfl
def RecN (rec : GRec) : Prop := ∀ seen p g, nIL (rec seen p g).1 = true
theorem nI_shut (x : List Int → Nd) (hx : ∀ o, nIN (x o) = true) (t : List Int) (g : Gn) : nIN (gShut x t g).1 = true := by
  unfold gShut
  split
  · exact hx _
  · exact hx _
theorem nI_any {rec : Option GRec} (hr : ∀ r, rec = some r → RecN r) (all : List Int) (p : Plc) (g : Gn) : nIN (gAny l rec all p g).1 = true := by
  have hs := nI_simple l all { g with left := g.left - 1 }
  unfold gAny
  simp only
  cases rec with
  | none => exact hs
  | some r =>
    simp only
    split
    · unfold gIf
      exact nI_shut _ (fun o => by simp [nIN, nIK, hr r rfl _ _ _, n64]) _ _
    split
    · unfold gLoop
      exact nI_shut _ (fun o => by simp [nIN, nIK, hr r rfl _ _ _, n64]) _ _
    · exact hs
theorem nI_tail {rec : Option GRec} (hr : ∀ r, rec = some r → RecN r) (p : Plc) : ∀ (i : Nat) (all : List Int) (g : Gn), nIL (gTail l rec p i all g).1 = true
  | 0, all, g => by simp [gTail, nIL, nI_end]
  | i + 1, all, g => by
    unfold gTail
    split
    · simp [nIL, nI_end]
    split
    · simp [nIL, nI_any l hr]
    · simp [nIL, nI_any l hr, nI_tail hr p i]
theorem nI_list (d : Nat) : RecN (gList l d) := by
  induction d with
  | zero =>
    intro seen p g
    rw [gList_eq, gNodes_tail]
    exact nI_tail l (fun r h => by cases h) p _ _ _
  | succ d ih =>
    intro seen p g
    rw [gList_eq, gNodes_tail]
    exact nI_tail l (fun r h => by cases h; exact ih) p _ _ _
theorem nI_flow (name : ByteArray) (params : List Int) (g : Gn) : nIL (gFlow l name params g).1.body = true := by
  unfold gFlow
  simp only
  rw [nI_app, nI_list]
  rfl
end
theorem made_n (l : List UInt8) : ∀ f ∈ (made l).flows, nIL f.body = true := by
  intro f hf
  simp only [made, List.mem_cons, List.not_mem_nil, or_false] at hf
  rcases hf with rfl | rfl <;> exact nI_flow l _ _ _
theorem made_64 (l : List UInt8) : ∀ f ∈ (made l).flows, n64L f.body := fun f hf => nIL_64 _ (made_n l f hf)
end
theorem sc_gPick (l : List UInt8) (n : Nat) (g : Gn) (hn : 0 < n) (hb : g.pos ≤ 1000000) : SC Tryz.prog 67 [.ptr 2001 0, iInt (n : Int)] (gH l g) (fun _ => False) (iInt ((gPick l n g).1 : Int)) (gH l (gPick l n g).2) := by
  refine SC.of Tryz.func67 rfl (lb rfl) fun F ρ w => ?_
  refine tQ <| tG <| sm 1 rfl <| nL <| tQ <| tG <| sm 1 rfl <| cV rfl (ok_nilCheck rfl rfl rfl) <| sm 2 rfl <| cV rfl (oB rfl rfl (i64_add rfl (by omega))) <| cV rfl (ok_nilCheck rfl rfl rfl) <| sm 1 rfl ?_
  refine c0 (ok_store_box rfl rfl rfl rfl ((fun h => h)) tS3 (rfl) (lb rfl)) <| nL <| tQ <| tQ <| Tr.still mixed (by kernel_rfl) rfl <| smS 1 rfl <| sV rfl (ok_nilCheck rfl rfl rfl) <| smS 3 rfl <| sV rfl (ok_nilCheck rfl rfl rfl) <| smS 2 rfl <| sV rfl (oSm Tryz.underlying32 rfl) <| smS 2 rfl ?_
  refine WS.split (t := 22) rfl (fun hb22 => ?_) (fun hb22 => ?_)
  ·refine smS 6 rfl <| WS.nil <| Tr.condT rfl ?_
   have hc : g.pos + 1 > l.length ∨ g.pos + 1 > 150 := by
     (have := hb22; simp at this; omega)
   refine tQ <| tG <| sm 1 rfl <| nL <| Tr.ret <| ret_ok rfl ?_ (po2 rfl rfl)
   simp only [gPick, if_pos hc]
   rfl
  refine smS 1 rfl <| syV rfl rfl (ok_nilCheck rfl rfl rfl) <| smS 4 rfl <| WS.nil ?_
  refine tC rfl (fun hc28 => ?_) fun hc28 => ?_
  ·have hc : g.pos + 1 > l.length ∨ g.pos + 1 > 150 := by
     (have := hc28; simp at this; omega)
   refine tQ <| tG <| sm 1 rfl <| nL <| Tr.ret <| ret_ok rfl ?_ (po2 rfl rfl)
   simp only [gPick, if_pos hc]
   rfl
  have hc : ¬ (g.pos + 1 > l.length ∨ g.pos + 1 > 150) := by
    simp at hb22 hc28
    omega
  have hlt : g.pos < l.length := by omega
  have hi := map_get (f := eB) (List.getElem?_eq_getElem hlt)
  have hgd : l.getD g.pos 0 = l[g.pos] := by rw [List.getD, List.getElem?_eq_getElem hlt]; rfl
  generalize l[g.pos] = x at hi hgd
  have hrem : intBin .rem .i64 (IntKind.i64.wrap (x.toNat : Int)) (n : Int) = some (.int .i64 ((x.toNat % n : Nat) : Int)) := by rw [u8_i64]; exact i64_rem hn
  refine Tr.skip <| tQ <| Tr.still mixed (by kernel_rfl) rfl <| smS 1 rfl <| sV rfl (ok_nilCheck rfl rfl rfl) <| smS 3 rfl <| sV rfl (ok_nilCheck rfl rfl rfl) <| smS 2 rfl <| sV rfl (oB rfl rfl (i64_sub rfl (by omega))) <| sV rfl (ok_index_seq rfl rfl rfl Tryz.underlying32 hi tS5 rfl (by omega)) <| smS 1 rfl <| sV rfl (ok_conv_int rfl rfl ⟨_, Tryz.underlying5⟩ Tryz.underlying3) ?_
  refine smS 1 rfl <| sV rfl (oB rfl rfl hrem) <| smS 1 rfl <| WS.nil <| Tr.ret <| ret_ok rfl ?_ (po2 rfl rfl)
  simp only [gPick, if_neg hc, hgd]
theorem sc_gFresh (l : List UInt8) (t : Int) (g : Gn) (hb : g.types.length ≤ 1000000) : SC Tryz.prog 44 [.ptr 2001 0, iInt t] (gH l g) (fun _ => False) (iInt (gFresh t g).1) (gH l (gFresh t g).2) := by
  refine SC.of Tryz.func44 rfl (lb rfl) fun F ρ w => ?_
  have hbl : (g.types.map eInt).length = g.types.length := by simp
  have hbl2 : ((gFresh t g).2.types.map eInt).length = g.types.length + 1 := by simp [gFresh]
  refine tQ <| tG <| sm 1 rfl <| nL <| tQ <| tG <| sm 2 rfl <| cV rfl (ok_nilCheck rfl rfl rfl) <| sm 3 rfl <| cE rfl (ok_buildSlice rfl rfl Tryz.underlying35 tZ3 tS3 rfl rfl rfl rfl (firmB_ok rfl) rfl) ?_
  refine cE rfl (ok_append rfl rfl rfl rfl (by rfl) ((fun h => h)) Tryz.underlying35 tB3 (by decide) (by (simp [chunks]; done)) (by (simp [chunks, PV.one]; rfl)) (by simp [maxLen, chunks]; omega) (by simp [chunks]; omega)) ?_
  refine cV rfl (ok_nilCheck rfl rfl rfl) <| sm 1 rfl <| c0 (ok_store_box rfl rfl rfl rfl ((fun h => h)) tS35 (⟨_, _, rfl, by simp⟩) (lb rfl)) <| nL <| tQ ?_
  refine Tr.heap (σ' := look [(2001, some (genBox l (gFresh t g).2)), (2002, some (rowI (gFresh t g).2.types))]) (lkq [2001, 2002] rfl rfl ⟨(by first | exact congrArg (fun z => some (HO.row _ z)) (by simp [gFresh, chunks, eInt]) | exact congrArg (fun z => some (HO.box z)) (by simp [gFresh, chunks, eInt])), (by first | exact congrArg (fun z => some (HO.row _ z)) (by simp [gFresh, chunks, eInt]) | exact congrArg (fun z => some (HO.box z)) (by simp [gFresh, chunks, eInt])), trivial⟩) ?_
  refine tG <| sm 1 rfl <| cV rfl (ok_nilCheck rfl rfl rfl) <| sm 2 rfl <| cV rfl (ok_len_row rfl rfl rfl rfl Tryz.underlying35) <| cV rfl (oB rfl rfl (i64_sub rfl (by omega))) <| sm 1 rfl <| nL <| Tr.ret <| ret_ok rfl ?_ (po2 rfl rfl)
  refine congrArg (fun z => IV.pv (.val (.int .i64 z))) ?_
  rw [hbl2]
  simp only [gFresh]
  omega
theorem sc_gSome (l : List UInt8) (g : Gn) (seen : List Int) (t : Int) (hs : InR g.types seen) (hb : g.pos ≤ 999999) (hsl : seen.length ≤ 1000000) : SC Tryz.prog 100 [.ptr 2001 0, .sl 2003 (seen.map eInt).length, iInt t] (gHs l g seen) (fun _ => False) (iInt (gSome l seen t g).1) (gHs l (gSome l seen t g).2 seen) := by
  refine SC.of Tryz.func100 rfl (lb rfl) fun F ρ w => ?_
  have hp8 : (gPick l 8 g).1 < 8 := gPick_lt (by omega)
  refine tQ <| tG <| sm 1 rfl <| nL <| tQ <| tG <| sm 1 rfl <| cE rfl (ocr (sc_gPick l 8 g (by omega) (by omega)) ent67 rfl (po2 rfl rfl) rfl (fun k (h : _) => .inr h) rfl rfl) <| sm 1 rfl <| nL <| tQ <| tG ?_
  refine sm 1 rfl <| nL <| tQ <| tQ <| tG <| sm 1 rfl <| nL <| Tr.block <| Tr.sub (Sub.of (fr' := [(9, iInt 0), (8, iInt 0), (7, iInt ((gPick l 8 g).1 : Int)), (0, .ptr 2001 0), (1, .sl 2003 (seen.map eInt).length), (2, iInt t)]) ⟨rfl, rfl, rfl, rfl, rfl, rfl, trivial⟩) <| Tr.heap (σ' := look [(2001, some (genBox l (gPick l 8 g).2)), (2002, some (rowI (gPick l 8 g).2.types)), (2003, some (rowI seen))]) (lkq [2001, 2002, 2003] rfl rfl ⟨rfl, rfl, rfl, trivial⟩) ?_
  refine Tr.loop (fun fr σ m => ∃ (i : Nat) (k : Int) (v : Int), (i ≤ seen.length) ∧ (k ≤ 8 ∧ -(i : Int) ≤ k) ∧ (gS1 g.types t (i == 0) k v (seen.drop i) = gS1 g.types t true (gPick l 8 g).1 0 seen) ∧ fr = [(9, iInt i), (8, iInt v), (7, iInt k), (0, .ptr 2001 0), (1, .sl 2003 (seen.map eInt).length), (2, iInt t)] ∧ σ = look [(2001, some (genBox l (gPick l 8 g).2)), (2002, some (rowI (gPick l 8 g).2.types)), (2003, some (rowI seen))] ∧ m = seen.length - i) (n := seen.length - 0) ?_ ?_
  ·exact ⟨0, ((gPick l 8 g).1 : Int), 0, Nat.zero_le _, ⟨by omega, by omega⟩, rfl, rfl, rfl, rfl⟩
  rintro fr σ m ⟨i, k, v, hI0, hI1, hI2, rfl, rfl, rfl⟩
  refine tQ <| tQ <| tG <| sm 2 rfl <| cV rfl (ok_len_row rfl rfl rfl rfl Tryz.underlying35) <| sm 1 rfl <| nL ?_
  refine tC rfl (fun hc16 => ?_) fun hc16 => ?_
  ·have hlt : i < seen.length := by simpa using hc16
   have hd := List.drop_eq_getElem_cons hlt
   have hm := List.getElem_mem hlt
   have hi := map_get (f := eInt) (List.getElem?_eq_getElem hlt)
   generalize seen[i] = s at hd hm hi
   have hil : i < (seen.map eInt).length := by rw [List.length_map]; exact hlt
   obtain ⟨hs1, hs2, hs3⟩ := hs.at hm
   refine Tr.skip <| tQ <| Tr.block <| tQ <| Tr.still mixed (by kernel_rfl) rfl <| smS 1 rfl <| sV rfl (ok_nilCheck rfl rfl rfl) <| smS 4 rfl <| sV rfl (ok_index_row rfl rfl rfl rfl rfl Tryz.underlying35 tS3 hil (by rfl)) <| sV rfl (ok_load_row rfl rfl rfl rfl (Nat.add_zero _).symm hi rfl Tryz.underlying3 rfl trivial) <| sV rfl (ok_index_row rfl rfl rfl rfl rfl Tryz.underlying35 tS3 hs1 (by assumption)) <| sV rfl (ok_load_row rfl rfl rfl rfl (Nat.add_zero _).symm hs2 rfl Tryz.underlying3 rfl trivial) ?_
   refine smS 3 rfl ?_
   refine WS.split (t := 31) rfl (fun hb31 => ?_) (fun hb31 => ?_)
   ·refine smS 3 rfl ?_
    refine WS.split (t := 34) rfl (fun hb34 => ?_) (fun hb34 => ?_)
    ·refine smS 4 rfl <| WS.nil <| Tr.condT rfl <| tQ <| tG <| sm 2 rfl <| cV rfl (ok_index_row rfl rfl rfl rfl rfl Tryz.underlying35 tS3 hil (by rfl)) <| cV rfl (ok_load_row rfl rfl rfl rfl (Nat.add_zero _).symm hi rfl Tryz.underlying3 rfl trivial) <| sm 1 rfl <| nL <| tG <| sm 1 rfl ?_
     refine cV rfl (oB rfl rfl (i64_sub rfl (by omega))) <| sm 1 rfl <| nL <| tG <| sm 1 rfl <| cV rfl (oB rfl rfl (i64_add rfl (by omega))) <| sm 1 rfl <| nL ?_
     refine ⟨_, _, ?_, Sub.of (fr' := [(9, iInt (i + 1)), (8, iInt s), (7, iInt (k - 1)), (0, .ptr 2001 0), (1, .sl 2003 (seen.map eInt).length), (2, iInt t)]) ⟨rfl, rfl, rfl, rfl, rfl, rfl, trivial⟩, (i + 1), (k - 1), s, ?_, ?_, ?_, rfl, rfl, rfl⟩
     ·omega
     ·omega
     ·omega
     rw [← hI2, hd]
     have hi0 : (i + 1 == 0) = false := rfl
     rw [hi0]
     simp only [gS1]
     (rw [if_pos (by clear hs3 hi hs hd hm hs1 hs2 hI2; simp_all)]; done)
    refine smS 4 rfl <| WS.nil ?_
    refine tC rfl (fun hc38 => ?_) fun hc38 => ?_
    ·refine tQ <| tG <| sm 2 rfl <| cV rfl (ok_index_row rfl rfl rfl rfl rfl Tryz.underlying35 tS3 hil (by rfl)) <| cV rfl (ok_load_row rfl rfl rfl rfl (Nat.add_zero _).symm hi rfl Tryz.underlying3 rfl trivial) <| sm 1 rfl <| nL <| tG <| sm 1 rfl <| cV rfl (oB rfl rfl (i64_sub rfl (by omega))) <| sm 1 rfl <| nL ?_
     refine tG <| sm 1 rfl <| cV rfl (oB rfl rfl (i64_add rfl (by omega))) <| sm 1 rfl <| nL ?_
     refine ⟨_, _, ?_, Sub.of (fr' := [(9, iInt (i + 1)), (8, iInt s), (7, iInt (k - 1)), (0, .ptr 2001 0), (1, .sl 2003 (seen.map eInt).length), (2, iInt t)]) ⟨rfl, rfl, rfl, rfl, rfl, rfl, trivial⟩, (i + 1), (k - 1), s, ?_, ?_, ?_, rfl, rfl, rfl⟩
     ·omega
     ·omega
     ·omega
     rw [← hI2, hd]
     have hi0 : (i + 1 == 0) = false := rfl
     rw [hi0]
     simp only [gS1]
     (rw [if_pos (by clear hs3 hi hs hd hm hs1 hs2 hI2; simp_all)]; done)
    refine Tr.skip <| tG <| sm 1 rfl <| cV rfl (oB rfl rfl (i64_add rfl (by omega))) <| sm 1 rfl <| nL ?_
    refine ⟨_, _, ?_, Sub.of (fr' := [(9, iInt (i + 1)), (8, iInt v), (7, iInt k), (0, .ptr 2001 0), (1, .sl 2003 (seen.map eInt).length), (2, iInt t)]) ⟨rfl, rfl, rfl, rfl, rfl, rfl, trivial⟩, (i + 1), k, v, ?_, ?_, ?_, rfl, rfl, rfl⟩
    ·omega
    ·omega
    ·omega
    rw [← hI2, hd]
    have hi0 : (i + 1 == 0) = false := rfl
    rw [hi0]
    simp only [gS1]
    (rw [if_neg (by clear hs3 hi hs hd hm hs1 hs2 hI2; simp_all)]; done)
   refine smS 3 rfl <| WS.noU rfl rfl rfl rfl rfl rfl <| WS.noU rfl rfl rfl rfl rfl rfl <| smS 2 rfl <| WS.nil <| Tr.condF rfl <| Tr.skip <| tG <| sm 1 rfl <| cV rfl (oB rfl rfl (i64_add rfl (by omega))) <| sm 1 rfl <| nL ?_
   refine ⟨_, _, ?_, Sub.of (fr' := [(9, iInt (i + 1)), (8, iInt v), (7, iInt k), (0, .ptr 2001 0), (1, .sl 2003 (seen.map eInt).length), (2, iInt t)]) ⟨rfl, rfl, rfl, rfl, rfl, rfl, trivial⟩, (i + 1), k, v, ?_, ?_, ?_, rfl, rfl, rfl⟩
   ·omega
   ·omega
   ·omega
   rw [← hI2, hd]
   have hi0 : (i + 1 == 0) = false := rfl
   rw [hi0]
   simp only [gS1]
   (rw [if_neg (by clear hs3 hi hs hd hm hs1 hs2 hI2; simp_all)]; done)
  refine Tr.exit <| tQ <| tQ ?_
  have hge : seen.length ≤ i := by simpa using hc16
  rw [List.drop_eq_nil_of_le hge] at hI2
  simp only [gS1] at hI2
  obtain ⟨v0, hv0e⟩ : ∃ v0, gS1 g.types t true (gPick l 8 g).1 0 seen = v0 := ⟨_, rfl⟩
  have hv0 := gS1_in (t := t) seen true (gPick l 8 g).1 0 hs ⟨by omega, .inr rfl⟩
  rw [hv0e] at hI2 hv0
  subst hI2
  refine tG <| sm 1 rfl <| nL <| Tr.block <| Tr.sub (Sub.of (fr' := [(10, iInt 0), (8, iInt v), (0, .ptr 2001 0), (1, .sl 2003 (seen.map eInt).length), (2, iInt t)]) ⟨rfl, rfl, rfl, rfl, rfl, trivial⟩) ?_
  refine Tr.loop (fun fr σ m => ∃ (i : Nat) (v1 : Int), (i ≤ seen.length) ∧ (gS2 g.types t v1 (seen.drop i) = gS2 g.types t v seen) ∧ (0 ≤ v1 ∧ (v1.toNat < g.types.length ∨ v1 = 0)) ∧ fr = [(10, iInt i), (8, iInt v1), (0, .ptr 2001 0), (1, .sl 2003 (seen.map eInt).length), (2, iInt t)] ∧ σ = look [(2001, some (genBox l (gPick l 8 g).2)), (2002, some (rowI (gPick l 8 g).2.types)), (2003, some (rowI seen))] ∧ m = seen.length - i) (n := seen.length - 0) ?_ ?_
  ·exact ⟨0, v, Nat.zero_le _, rfl, hv0, rfl, rfl, rfl⟩
  rintro fr σ m ⟨i, v1, hI0, hI1, hI2, rfl, rfl, rfl⟩
  refine tQ <| tQ <| tG <| sm 2 rfl <| cV rfl (ok_len_row rfl rfl rfl rfl Tryz.underlying35) <| sm 2 rfl ?_
  refine wS 49 rfl (fun hb49 => ?_) fun hb49 => ?_
  ·have hlt : i < seen.length := by simpa using hb49
   have hd := List.drop_eq_getElem_cons hlt
   have hm := List.getElem_mem hlt
   have hi := map_get (f := eInt) (List.getElem?_eq_getElem hlt)
   generalize seen[i] = s at hd hm hi
   have hil : i < (seen.map eInt).length := by rw [List.length_map]; exact hlt
   obtain ⟨hs1, hs2, hs3⟩ := hs.at hm
   have hvr : v1.toNat < g.types.length := by
     rcases hI2.2 with h1 | h1
     ·exact h1
     subst h1
     have : s.toNat < g.types.length := by simpa using hs1
     simp; omega
   have hvm : InR g.types [v1] := fun x hx => by rw [List.mem_singleton.1 hx]; exact ⟨hI2.1, hvr⟩
   obtain ⟨hv1, hv2, hv3⟩ := hvm.at (.head _)
   refine sm 1 rfl <| yV rfl rfl (ok_nilCheck rfl rfl rfl) <| sm 3 rfl <| yV rfl rfl (ok_index_row rfl rfl rfl rfl rfl Tryz.underlying35 tS3 hv1 (by assumption)) <| yV rfl rfl (ok_load_row rfl rfl rfl rfl (Nat.add_zero _).symm hv2 rfl Tryz.underlying3 rfl trivial) <| sm 3 rfl <| nL ?_
   refine tC rfl (fun hc59 => ?_) fun hc59 => ?_
   ·have hcont : (g.types.getD v1.toNat 0 != t) = true := hc59
    refine Tr.skip <| tQ <| Tr.block <| tQ <| Tr.still mixed (by kernel_rfl) rfl <| smS 1 rfl <| sV rfl (ok_nilCheck rfl rfl rfl) <| smS 4 rfl <| sV rfl (ok_index_row rfl rfl rfl rfl rfl Tryz.underlying35 tS3 hil (by rfl)) <| sV rfl (ok_load_row rfl rfl rfl rfl (Nat.add_zero _).symm hi rfl Tryz.underlying3 rfl trivial) <| sV rfl (ok_index_row rfl rfl rfl rfl rfl Tryz.underlying35 tS3 hs1 (by assumption)) <| sV rfl (ok_load_row rfl rfl rfl rfl (Nat.add_zero _).symm hs2 rfl Tryz.underlying3 rfl trivial) ?_
    refine smS 2 rfl <| WS.nil ?_
    refine tC rfl (fun hc73 => ?_) fun hc73 => ?_
    ·refine tG <| sm 2 rfl <| cV rfl (ok_index_row rfl rfl rfl rfl rfl Tryz.underlying35 tS3 hil (by rfl)) <| cV rfl (ok_load_row rfl rfl rfl rfl (Nat.add_zero _).symm hi rfl Tryz.underlying3 rfl trivial) <| sm 1 rfl <| nL <| tG <| sm 1 rfl <| cV rfl (oB rfl rfl (i64_add rfl (by omega))) <| sm 1 rfl <| nL ?_
     refine ⟨_, _, ?_, Sub.of (fr' := [(10, iInt (i + 1)), (8, iInt s), (0, .ptr 2001 0), (1, .sl 2003 (seen.map eInt).length), (2, iInt t)]) ⟨rfl, rfl, rfl, rfl, rfl, trivial⟩, (i + 1), s, ?_, ?_, ?_, rfl, rfl, rfl⟩
     ·omega
     ·omega
     ·rw [← hI1, hd]
      simp only [gS2]
      rw [if_pos hcont]
      (rw [if_pos hc73]; done)
     first
     | exact hI2
     | exact ⟨by omega, .inl (by simpa using hs1)⟩
    refine Tr.skip <| tG <| sm 1 rfl <| cV rfl (oB rfl rfl (i64_add rfl (by omega))) <| sm 1 rfl <| nL ?_
    refine ⟨_, _, ?_, Sub.of (fr' := [(10, iInt (i + 1)), (8, iInt v1), (0, .ptr 2001 0), (1, .sl 2003 (seen.map eInt).length), (2, iInt t)]) ⟨rfl, rfl, rfl, rfl, rfl, trivial⟩, (i + 1), v1, ?_, ?_, ?_, rfl, rfl, rfl⟩
    ·omega
    ·omega
    ·rw [← hI1, hd]
     simp only [gS2]
     rw [if_pos hcont]
     (rw [if_neg (by rw [hc73]; decide)]; done)
    first
    | exact hI2
    | exact ⟨by omega, .inl (by simpa using hs1)⟩
   refine Tr.exit <| tQ <| tG <| sm 2 rfl <| nL <| Tr.ret <| ret_ok rfl ?_ (po3 rfl rfl rfl)
   refine congrArg iInt ?_
   show _ = gS2 g.types t (gS1 g.types t true (gPick l 8 g).1 0 seen) seen
   rw [hv0e, ← hI1]
   (rw [hd]
    simp only [gS2]
    rw [if_neg (by rw [show (g.types.getD v1.toNat 0 != t) = false from hc59]; decide)]
    done)
  refine sm 10 rfl <| nL <| Tr.condF rfl <| Tr.exit <| tQ <| tG <| sm 2 rfl <| nL <| Tr.ret <| ret_ok rfl ?_ (po3 rfl rfl rfl)
  refine congrArg iInt ?_
  show _ = gS2 g.types t (gS1 g.types t true (gPick l 8 g).1 0 seen) seen
  rw [hv0e, ← hI1]
  (rw [List.drop_eq_nil_of_le (by simpa using hb49)]
   rfl)
theorem sc_gEach (l : List UInt8) (seen ts : List Int) (g : Gn) (hs : InR g.types seen) (hb : g.pos + ts.length ≤ 1000000) (hsl : seen.length ≤ 1000000) : SC Tryz.prog 70 [.ptr 2001 0, .sl 2003 (seen.map eInt).length, .pv (ints ts)] (gHs l g seen) (fun _ => False) (.pv (ints (gEach l seen ts g).1)) (gHs l (gEach l seen ts g).2 seen) := by
  refine SC.of Tryz.func70 rfl (lb rfl) fun F ρ w => ?_
  refine Tr.lenOf (t := 2) rfl (fun hl => ?_)
  simp only [List.length_map] at hl
  refine tQ <| tG <| sm 1 rfl <| nL <| tQ <| tG <| sm 1 rfl <| nL <| tQ <| tQ <| Tr.grow (t := 7) (k := 107) ⟨3, 1⟩ rfl rfl rfl rfl rfl <| tG ?_
  refine sm 1 rfl <| nL <| Tr.block <| Tr.sub (Sub.of (fr' := [(8, iInt 0), (7, .sl 107 (([] : List Int).map eInt).length), (0, .ptr 2001 0), (1, .sl 2003 (seen.map eInt).length), (2, .pv (ints ts))]) ⟨rfl, rfl, rfl, rfl, rfl, trivial⟩) <| Tr.heap (σ' := look [(107, some (rowI ([] : List Int))), (2001, some (genBox l g)), (2002, some (rowI g.types)), (2003, some (rowI seen))]) (lkq [107, 2001, 2002, 2003] rfl rfl ⟨rfl, rfl, rfl, rfl, trivial⟩) ?_
  refine Tr.loop (fun fr σ m => ∃ (i : Nat) (acc : List Int) (g1 : Gn), (i ≤ ts.length) ∧ (acc ++ (gEach l seen (ts.drop i) g1).1 = (gEach l seen ts g).1) ∧ ((gEach l seen (ts.drop i) g1).2 = (gEach l seen ts g).2) ∧ (g1.types = g.types) ∧ (g1.pos + (ts.length - i) ≤ 1000000) ∧ (acc.length = i) ∧ fr = [(8, iInt i), (7, .sl 107 (acc.map eInt).length), (0, .ptr 2001 0), (1, .sl 2003 (seen.map eInt).length), (2, .pv (ints ts))] ∧ σ = look [(107, some (rowI acc)), (2001, some (genBox l g1)), (2002, some (rowI g1.types)), (2003, some (rowI seen))] ∧ m = ts.length - i) (n := ts.length - 0) ?_ ?_
  ·exact ⟨0, ([] : List Int), g, Nat.zero_le _, (by simp), rfl, rfl, hb, rfl, rfl, rfl, rfl⟩
  rintro fr σ m ⟨i, acc, g1, hI0, hI1, hI2, hIt, hIb, hIa, rfl, rfl, rfl⟩
  refine tQ <| tQ <| tG <| sm 2 rfl <| cV rfl (oSm Tryz.underlying35 rfl) <| sm 1 rfl <| nL ?_
  refine tC rfl (fun hc12 => ?_) fun hc12 => ?_
  ·have hlt : i < ts.length := by simpa using hc12
   have hd := List.drop_eq_getElem_cons hlt
   have hm := List.getElem_mem hlt
   have hi := map_get (f := eInt) (List.getElem?_eq_getElem hlt)
   generalize ts[i] = x at hd hm hi
   have hal : (acc.map eInt).length = acc.length := by simp
   refine Tr.skip <| tQ <| Tr.block <| tG <| sm 5 rfl <| cV rfl (ok_index_seq rfl rfl rfl Tryz.underlying35 hi tS3 rfl (by rfl)) <| sm 1 rfl <| cE rfl (ocr (sc_gSome l g1 seen x (by rw [hIt]; exact hs) (by omega) hsl) ent100 rfl (po3 rfl rfl rfl) rfl (fun k (h : _) => .inr h) rfl rfl) <| cE rfl (ok_buildSlice rfl rfl Tryz.underlying35 tZ3 tS3 rfl rfl rfl rfl (firmB_ok rfl) rfl) ?_
   refine cE rfl (ok_append rfl rfl rfl rfl (by rfl) ((fun h => h)) Tryz.underlying35 tB3 (by decide) (by (simp [chunks]; done)) (by (simp [chunks, PV.one]; rfl)) (by simp [maxLen, chunks]; omega) (by simp [chunks]; omega)) ?_
   refine sm 1 rfl <| nL <| tG <| sm 1 rfl <| cV rfl (oB rfl rfl (i64_add rfl (by omega))) <| sm 1 rfl <| nL ?_
   refine ⟨_, _, ?_, Sub.of (fr' := [(8, iInt (i + 1)), (7, .sl 107 ((acc ++ [(gSome l seen x g1).1]).map eInt).length), (0, .ptr 2001 0), (1, .sl 2003 (seen.map eInt).length), (2, .pv (ints ts))]) ⟨rfl, congrArg (fun z => some (IV.sl _ z)) (by simp [chunks, eInt]), rfl, rfl, rfl, trivial⟩, (i + 1), (acc ++ [(gSome l seen x g1).1]), (gSome l seen x g1).2, ?_, ?_, ?_, ?_, ?_, ?_, rfl, (funext (lkq [107, 2001, 2002, 2003] rfl rfl ⟨(congrArg (fun z => some (HO.row _ z)) (by simp [chunks, eInt])), rfl, rfl, rfl, trivial⟩)), rfl⟩
   ·omega
   ·omega
   ·rw [← hI1, hd]; simp [gEach]
   ·rw [← hI2, hd]; rfl
   ·exact hIt
   ·show g1.pos + 1 + (ts.length - (i + 1)) ≤ 1000000
    omega
   simp [hIa]
  refine Tr.exit <| tQ <| Tr.freeze (t := 7) (k := 107) rfl rfl (by simp) ?_
  have hge : ts.length ≤ i := by simpa using hc12
  rw [List.drop_eq_nil_of_le hge] at hI1 hI2
  simp only [gEach, List.append_nil] at hI1 hI2
  subst hI2
  refine tG <| sm 2 rfl <| nL <| Tr.ret <| ret_ok rfl ?_ (po3 rfl rfl rfl)
  rw [← hI1]
  rfl
theorem sc_gTypes (l : List UInt8) (g : Gn) (hb : g.pos ≤ 999990) : SC Tryz.prog 69 [.ptr 2001 0] (gH l g) (fun _ => False) (.pv (ints (gTypes l g).1)) (gH l (gTypes l g).2) := by
  refine SC.of Tryz.func69 rfl (lb rfl) fun F ρ w => ?_
  have hp3 : (gPick l 3 g).1 < 3 := gPick_lt (by omega)
  refine tQ <| tG <| sm 1 rfl <| nL <| tQ <| tG <| sm 1 rfl <| nL <| tQ <| tQ <| Tr.grow (t := 3) (k := 103) ⟨3, 1⟩ rfl rfl rfl rfl rfl <| tG ?_
  refine sm 1 rfl <| cE rfl (ocr (sc_gPick l 3 g (by omega) (by omega)) ent67 rfl (po2 rfl rfl) rfl (fun k (h : _) => .inr h) rfl rfl) <| sm 1 rfl <| nL <| Tr.block <| Tr.sub (Sub.of (fr' := [(4, iInt (((gPick l 3 g).1 : Nat) : Int)), (3, .sl 103 (([] : List Int).map eInt).length), (0, .ptr 2001 0)]) ⟨rfl, rfl, rfl, trivial⟩) <| Tr.heap (σ' := look [(103, some (rowI ([] : List Int))), (2001, some (genBox l (gPick l 3 g).2)), (2002, some (rowI (gPick l 3 g).2.types))]) (lkq [103, 2001, 2002] rfl rfl ⟨rfl, rfl, rfl, trivial⟩) ?_
  refine Tr.loop (fun fr σ m => ∃ (n : Nat) (acc : List Int) (g1 : Gn), (n ≤ 3) ∧ (acc ++ (gTyN l n g1).1 = (gTypes l g).1) ∧ ((gTyN l n g1).2 = (gTypes l g).2) ∧ (g1.pos + n ≤ 1000000) ∧ (acc.length + n ≤ 3) ∧ fr = [(4, iInt ((n : Nat) : Int)), (3, .sl 103 (acc.map eInt).length), (0, .ptr 2001 0)] ∧ σ = look [(103, some (rowI acc)), (2001, some (genBox l g1)), (2002, some (rowI g1.types))] ∧ m = n + 1) (n := (gPick l 3 g).1 + 1) ?_ ?_
  ·exact ⟨(gPick l 3 g).1, ([] : List Int), (gPick l 3 g).2, (by omega), (by rw [List.nil_append]; rfl), rfl, (by simp only [gPick] at hp3 ⊢; omega), (by simp; omega), rfl, rfl, rfl⟩
  rintro fr σ m ⟨n, acc, g1, hI0, hI1, hI2, hIb, hIa, rfl, rfl, rfl⟩
  refine tQ <| tQ <| tG <| sm 2 rfl <| nL ?_
  refine tC rfl (fun hc8 => ?_) fun hc8 => ?_
  ·have hn0 : 0 < n := by simpa using hc8
   obtain ⟨m, rfl⟩ : ∃ m, n = m + 1 := ⟨n - 1, by omega⟩
   have hp2 : (gPick l 2 g1).1 < 2 := gPick_lt (by omega)
   have hal : (acc.map eInt).length = acc.length := by simp
   refine Tr.skip <| tQ <| Tr.block <| tG <| sm 2 rfl <| cE rfl (ocr (sc_gPick l 2 g1 (by omega) (by omega)) ent67 rfl (po2 rfl rfl) rfl (fun k (h : _) => .inr h) rfl rfl) <| cV rfl (oB rfl rfl (i64_add rfl (by omega))) <| cE rfl (ok_buildSlice rfl rfl Tryz.underlying35 tZ3 tS3 rfl rfl rfl rfl (firmB_ok rfl) rfl) ?_
   refine cE rfl (ok_append rfl rfl rfl rfl (by rfl) ((fun h => h)) Tryz.underlying35 tB3 (by decide) (by (simp [chunks]; done)) (by (simp [chunks, PV.one]; rfl)) (by simp [maxLen, chunks]; omega) (by simp [chunks]; omega)) ?_
   refine sm 1 rfl <| nL <| tG <| sm 1 rfl <| cV rfl (oB rfl rfl (i64_sub rfl (by omega))) <| sm 1 rfl <| nL ?_
   refine ⟨_, _, ?_, Sub.of (fr' := [(4, iInt ((m : Nat) : Int)), (3, .sl 103 ((acc ++ [1 + ((gPick l 2 g1).1 : Int)]).map eInt).length), (0, .ptr 2001 0)]) ⟨congrArg (fun z => some (iInt z)) (by omega), congrArg (fun z => some (IV.sl _ z)) (by simp [chunks, eInt]), rfl, trivial⟩, m, (acc ++ [1 + ((gPick l 2 g1).1 : Int)]), (gPick l 2 g1).2, ?_, ?_, ?_, ?_, ?_, rfl, (funext (lkq [103, 2001, 2002] rfl rfl ⟨(congrArg (fun z => some (HO.row _ z)) (by simp [chunks, eInt])), rfl, rfl, trivial⟩)), rfl⟩
   ·omega
   ·omega
   ·rw [← hI1]; simp [gTyN]
   ·rw [← hI2]; rfl
   ·show g1.pos + 1 + m ≤ 1000000
    omega
   simp; omega
  refine Tr.exit <| tQ <| Tr.freeze (t := 3) (k := 103) rfl rfl (by simp) ?_
  obtain rfl : n = 0 := by simp at hc8; omega
  simp only [gTyN, List.append_nil] at hI1 hI2
  subst hI2
  refine tG <| sm 2 rfl <| nL <| Tr.ret <| ret_ok rfl ?_ (po2 rfl rfl)
  rw [← hI1]
  rfl
theorem sc_gOuts (l : List UInt8) (ts : List Int) (g : Gn) (hb : g.types.length + ts.length ≤ 1000000) : SC Tryz.prog 43 [.ptr 2001 0, .pv (ints ts)] (gH l g) (fun _ => False) (.pv (ints (gOuts ts g).1)) (gH l (gOuts ts g).2) := by
  refine SC.of Tryz.func43 rfl (lb rfl) fun F ρ w => ?_
  refine Tr.lenOf (t := 1) rfl (fun hl => ?_)
  simp only [List.length_map] at hl
  refine tQ <| tG <| sm 1 rfl <| nL <| tQ <| tG <| sm 1 rfl <| nL <| tQ <| tQ <| Tr.grow (t := 5) (k := 105) ⟨3, 1⟩ rfl rfl rfl rfl rfl <| tG ?_
  refine sm 1 rfl <| nL <| Tr.block <| Tr.sub (Sub.of (fr' := [(6, iInt 0), (5, .sl 105 (([] : List Int).map eInt).length), (0, .ptr 2001 0), (1, .pv (ints ts))]) ⟨rfl, rfl, rfl, rfl, trivial⟩) <| Tr.heap (σ' := look [(105, some (rowI ([] : List Int))), (2001, some (genBox l g)), (2002, some (rowI g.types))]) (lkq [105, 2001, 2002] rfl rfl ⟨rfl, rfl, rfl, trivial⟩) ?_
  refine Tr.loop (fun fr σ m => ∃ (i : Nat) (acc : List Int) (g1 : Gn), (i ≤ ts.length) ∧ (acc ++ (gOuts (ts.drop i) g1).1 = (gOuts ts g).1) ∧ ((gOuts (ts.drop i) g1).2 = (gOuts ts g).2) ∧ (g1.types.length + (ts.length - i) ≤ 1000000) ∧ (acc.length = i) ∧ fr = [(6, iInt i), (5, .sl 105 (acc.map eInt).length), (0, .ptr 2001 0), (1, .pv (ints ts))] ∧ σ = look [(105, some (rowI acc)), (2001, some (genBox l g1)), (2002, some (rowI g1.types))] ∧ m = ts.length - i) (n := ts.length - 0) ?_ ?_
  ·exact ⟨0, ([] : List Int), g, Nat.zero_le _, (by simp), rfl, hb, rfl, rfl, rfl, rfl⟩
  rintro fr σ m ⟨i, acc, g1, hI0, hI1, hI2, hIb, hIa, rfl, rfl, rfl⟩
  refine tQ <| tQ <| tG <| sm 2 rfl <| cV rfl (oSm Tryz.underlying35 rfl) <| sm 1 rfl <| nL ?_
  refine tC rfl (fun hc10 => ?_) fun hc10 => ?_
  ·have hlt : i < ts.length := by simpa using hc10
   have hd := List.drop_eq_getElem_cons hlt
   have hm := List.getElem_mem hlt
   have hi := map_get (f := eInt) (List.getElem?_eq_getElem hlt)
   generalize ts[i] = x at hd hm hi
   have hal : (acc.map eInt).length = acc.length := by simp
   refine Tr.skip <| tQ <| Tr.block <| tG <| sm 4 rfl <| cV rfl (ok_index_seq rfl rfl rfl Tryz.underlying35 hi tS3 rfl (by rfl)) <| sm 1 rfl <| cE rfl (ocr (sc_gFresh l x g1 (by omega)) ent44 rfl (po2 rfl rfl) rfl (fun k (h : _) => .inr h) rfl rfl) <| cE rfl (ok_buildSlice rfl rfl Tryz.underlying35 tZ3 tS3 rfl rfl rfl rfl (firmB_ok rfl) rfl) ?_
   refine cE rfl (ok_append rfl rfl rfl rfl (by rfl) ((fun h => h)) Tryz.underlying35 tB3 (by decide) (by (simp [chunks]; done)) (by (simp [chunks, PV.one]; rfl)) (by simp [maxLen, chunks]; omega) (by simp [chunks]; omega)) ?_
   refine sm 1 rfl <| nL <| tG <| sm 1 rfl <| cV rfl (oB rfl rfl (i64_add rfl (by omega))) <| sm 1 rfl <| nL ?_
   refine ⟨_, _, ?_, Sub.of (fr' := [(6, iInt (i + 1)), (5, .sl 105 ((acc ++ [(gFresh x g1).1]).map eInt).length), (0, .ptr 2001 0), (1, .pv (ints ts))]) ⟨rfl, congrArg (fun z => some (IV.sl _ z)) (by simp [chunks, eInt]), rfl, rfl, trivial⟩, (i + 1), (acc ++ [(gFresh x g1).1]), (gFresh x g1).2, ?_, ?_, ?_, ?_, ?_, rfl, (funext (lkq [105, 2001, 2002] rfl rfl ⟨(congrArg (fun z => some (HO.row _ z)) (by simp [chunks, eInt])), rfl, rfl, trivial⟩)), rfl⟩
   ·omega
   ·omega
   ·rw [← hI1, hd]; simp [gOuts]
   ·rw [← hI2, hd]; rfl
   ·simp only [gFresh, List.length_append, List.length_cons, List.length_nil]
    omega
   simp [hIa]
  refine Tr.exit <| tQ <| Tr.freeze (t := 5) (k := 105) rfl rfl (by simp) ?_
  have hge : ts.length ≤ i := by simpa using hc10
  rw [List.drop_eq_nil_of_le hge] at hI1 hI2
  simp only [gOuts, List.append_nil] at hI1 hI2
  subst hI2
  rw [← hI1]
  refine tG <| sm 2 rfl <| nL <| Tr.ret <| ret_ok rfl rfl (po2 rfl rfl)
theorem sc_gOutsN (l : List UInt8) (ts : List Int) (g : Gn) (hb : g.types.length + ts.length ≤ 1000000) : SC Tryz.prog 43 [.ptr 2001 0, .pv (ints ts)] (gH l g) (fun _ => False) (.sl 2005 ((gOuts ts g).1.map eInt).length) ((2005, rowI (gOuts ts g).1) :: gH l (gOuts ts g).2) := by
  refine SC.of Tryz.func43 rfl (lb rfl) fun F ρ w => ?_
  refine Tr.lenOf (t := 1) rfl (fun hl => ?_)
  simp only [List.length_map] at hl
  refine tQ <| tG <| sm 1 rfl <| nL <| tQ <| tG <| sm 1 rfl <| nL <| tQ <| tQ <| Tr.grow (t := 5) (k := 2005) ⟨3, 1⟩ rfl rfl rfl rfl rfl <| tG ?_
  refine sm 1 rfl <| nL <| Tr.block <| Tr.sub (Sub.of (fr' := [(6, iInt 0), (5, .sl 2005 (([] : List Int).map eInt).length), (0, .ptr 2001 0), (1, .pv (ints ts))]) ⟨rfl, rfl, rfl, rfl, trivial⟩) <| Tr.heap (σ' := look [(2005, some (rowI ([] : List Int))), (2001, some (genBox l g)), (2002, some (rowI g.types))]) (lkq [2005, 2001, 2002] rfl rfl ⟨rfl, rfl, rfl, trivial⟩) ?_
  refine Tr.loop (fun fr σ m => ∃ (i : Nat) (acc : List Int) (g1 : Gn), (i ≤ ts.length) ∧ (acc ++ (gOuts (ts.drop i) g1).1 = (gOuts ts g).1) ∧ ((gOuts (ts.drop i) g1).2 = (gOuts ts g).2) ∧ (g1.types.length + (ts.length - i) ≤ 1000000) ∧ (acc.length = i) ∧ fr = [(6, iInt i), (5, .sl 2005 (acc.map eInt).length), (0, .ptr 2001 0), (1, .pv (ints ts))] ∧ σ = look [(2005, some (rowI acc)), (2001, some (genBox l g1)), (2002, some (rowI g1.types))] ∧ m = ts.length - i) (n := ts.length - 0) ?_ ?_
  ·exact ⟨0, ([] : List Int), g, Nat.zero_le _, (by simp), rfl, hb, rfl, rfl, rfl, rfl⟩
  rintro fr σ m ⟨i, acc, g1, hI0, hI1, hI2, hIb, hIa, rfl, rfl, rfl⟩
  refine tQ <| tQ <| tG <| sm 2 rfl <| cV rfl (oSm Tryz.underlying35 rfl) <| sm 1 rfl <| nL ?_
  refine tC rfl (fun hc10 => ?_) fun hc10 => ?_
  ·have hlt : i < ts.length := by simpa using hc10
   have hd := List.drop_eq_getElem_cons hlt
   have hm := List.getElem_mem hlt
   have hi := map_get (f := eInt) (List.getElem?_eq_getElem hlt)
   generalize ts[i] = x at hd hm hi
   have hal : (acc.map eInt).length = acc.length := by simp
   refine Tr.skip <| tQ <| Tr.block <| tG <| sm 4 rfl <| cV rfl (ok_index_seq rfl rfl rfl Tryz.underlying35 hi tS3 rfl (by rfl)) <| sm 1 rfl <| cE rfl (ocr (sc_gFresh l x g1 (by omega)) ent44 rfl (po2 rfl rfl) rfl (fun k (h : _) => .inr h) rfl rfl) <| cE rfl (ok_buildSlice rfl rfl Tryz.underlying35 tZ3 tS3 rfl rfl rfl rfl (firmB_ok rfl) rfl) ?_
   refine cE rfl (ok_append rfl rfl rfl rfl (by rfl) ((fun h => h)) Tryz.underlying35 tB3 (by decide) (by (simp [chunks]; done)) (by (simp [chunks, PV.one]; rfl)) (by simp [maxLen, chunks]; omega) (by simp [chunks]; omega)) ?_
   refine sm 1 rfl <| nL <| tG <| sm 1 rfl <| cV rfl (oB rfl rfl (i64_add rfl (by omega))) <| sm 1 rfl <| nL ?_
   refine ⟨_, _, ?_, Sub.of (fr' := [(6, iInt (i + 1)), (5, .sl 2005 ((acc ++ [(gFresh x g1).1]).map eInt).length), (0, .ptr 2001 0), (1, .pv (ints ts))]) ⟨rfl, congrArg (fun z => some (IV.sl _ z)) (by simp [chunks, eInt]), rfl, rfl, trivial⟩, (i + 1), (acc ++ [(gFresh x g1).1]), (gFresh x g1).2, ?_, ?_, ?_, ?_, ?_, rfl, (funext (lkq [2005, 2001, 2002] rfl rfl ⟨(congrArg (fun z => some (HO.row _ z)) (by simp [chunks, eInt])), rfl, rfl, trivial⟩)), rfl⟩
   ·omega
   ·omega
   ·rw [← hI1, hd]; simp [gOuts]
   ·rw [← hI2, hd]; rfl
   ·simp only [gFresh, List.length_append, List.length_cons, List.length_nil]
    omega
   simp [hIa]
  refine Tr.exit <| tQ ?_
  have hge : ts.length ≤ i := by simpa using hc10
  rw [List.drop_eq_nil_of_le hge] at hI1 hI2
  simp only [gOuts, List.append_nil] at hI1 hI2
  subst hI2
  rw [← hI1]
  refine tG <| sm 2 rfl <| nL <| Tr.ret <| ret_ok rfl rfl (po3 rfl rfl rfl)
set_option maxRecDepth 20000
theorem sc_gSimple (l : List UInt8) (seen : List Int) (g : Gn) (hs : InR g.types seen) (hb : g.pos ≤ 999980) (hbt : g.types.length ≤ 999990) (hsl : seen.length ≤ 1000000) : SC Tryz.prog 68 [.ptr 2001 0, .sl 2003 (seen.map eInt).length] (gHs l g seen) (fun _ => False) (.pv (ndv (gSimple l seen g).1)) (gHs l (gSimple l seen g).2 seen) := by
  refine SC.sameR (SC.vc tb {} [] Tryz.func68 rfl rfl ?_) fun k _ h => h.elim
  have h0 := sc_gPick l 12 g (by omega) (by omega)
  have h12 : (gPick l 12 g).1 < 12 := gPick_lt (by omega)
  have hp : (gPick l 12 g).2.pos = g.pos + 1 := by simp only [gPick]
  have hs1 : InR (gPick l 12 g).2.types seen := by simp only [gPick]; exact hs
  have ht : (gPick l 12 g).2.types.length = g.types.length := by simp only [gPick]
  unfold gSimple
  generalize gPick l 12 g = A at h0 h12 hp hs1 ht ⊢
  obtain ⟨k, g1⟩ := A
  dsimp only at h0 h12 hp hs1 ht ⊢
  have hN : (gNums.map eInt)[(gPick l 6 g1).1]? = some [vInt (gNums.getD (gPick l 6 g1).1 0)] := getD_at (gPick_lt (by omega))
  have hO : (gOnes.map eInt)[(gPick l 4 g1).1]? = some [vInt (gOnes.getD (gPick l 4 g1).1 0)] := getD_at (gPick_lt (by omega))
  have hp11 : (gPick l 11 g1).1 < 11 := gPick_lt (by omega)
  have hp6 : (gPick l 6 g1).1 < 6 := gPick_lt (by omega)
  have hk : k = 0 ∨ k = 1 ∨ k = 2 ∨ k = 3 ∨ k = 4 ∨ k = 5 ∨ k = 6 ∨ k = 7 ∨ k = 8 ∨ k = 9 ∨ k = 10 ∨ k = 11 := by omega
  rcases hk with rfl | rfl | rfl | rfl | rfl | rfl | rfl | rfl | rfl | rfl | rfl | rfl
  · exact ⟨[], h0, sR, ⟨rfl, rfl, trivial⟩, rfl, [], sc_gPick l 6 g1 (by omega) (by omega), sR, ⟨rfl, rfl, trivial⟩, rfl, hN, rfl, [], sc_gOuts l [1] (gPick l 6 g1).2 (by simp [gPick, gEach_st]; omega), sR, ⟨rfl, rfl, trivial⟩, rfl, sP (nilP_agg _), rfl, rfl, rfl, trivial⟩
  · exact ⟨[], h0, sR, ⟨rfl, rfl, trivial⟩, rfl, [], sc_gPick l 2 g1 (by omega) (by omega), sR, ⟨rfl, rfl, trivial⟩, rfl, [], sc_gOuts l [2] (gPick l 2 g1).2 (by simp [gPick, gEach_st]; omega), sR, ⟨rfl, rfl, trivial⟩, rfl, sP (nilP_agg _), rfl, rfl, rfl, trivial⟩
  · exact ⟨[], h0, sR, ⟨rfl, rfl, trivial⟩, rfl, [], sc_gPick l 4 g1 (by omega) (by omega), sR, ⟨rfl, rfl, trivial⟩, rfl, hO, rfl, [], sc_gEach l seen [1] (gPick l 4 g1).2 hs1 (by simp [gPick]; omega) hsl, sR, ⟨rfl, rfl, rfl, trivial⟩, rfl, [], sc_gOuts l [1] (gEach l seen [1] (gPick l 4 g1).2).2 (by simp [gPick, gEach_st]; omega), sR, ⟨rfl, rfl, trivial⟩, rfl, sP (nilP_agg _), rfl, rfl, rfl, trivial⟩
  · exact ⟨[], h0, sR, ⟨rfl, rfl, trivial⟩, rfl, [], sc_gEach l seen [2] g1 hs1 (by simp [gPick]; omega) hsl, sR, ⟨rfl, rfl, rfl, trivial⟩, rfl, [], sc_gOuts l [2] (gEach l seen [2] g1).2 (by simp [gPick, gEach_st]; omega), sR, ⟨rfl, rfl, trivial⟩, rfl, sP (nilP_agg _), rfl, rfl, rfl, trivial⟩
  · exact ⟨[], h0, sR, ⟨rfl, rfl, trivial⟩, rfl, [], sc_gPick l 11 g1 (by omega) (by omega), sR, ⟨rfl, rfl, trivial⟩, rfl, i64_add rfl (by omega), [], sc_gEach l seen [1, 1] (gPick l 11 g1).2 hs1 (by simp [gPick]; omega) hsl, sR, ⟨rfl, rfl, rfl, trivial⟩, rfl, [], sc_gOuts l [1] (gEach l seen [1, 1] (gPick l 11 g1).2).2 (by simp [gPick, gEach_st]; omega), sR, ⟨rfl, rfl, trivial⟩, rfl, sP (nilP_agg _), rfl, rfl, rfl, trivial⟩
  · exact ⟨[], h0, sR, ⟨rfl, rfl, trivial⟩, rfl, [], sc_gPick l 11 g1 (by omega) (by omega), sR, ⟨rfl, rfl, trivial⟩, rfl, i64_add rfl (by omega), [], sc_gEach l seen [1, 1] (gPick l 11 g1).2 hs1 (by simp [gPick]; omega) hsl, sR, ⟨rfl, rfl, rfl, trivial⟩, rfl, [], sc_gOuts l [1] (gEach l seen [1, 1] (gPick l 11 g1).2).2 (by simp [gPick, gEach_st]; omega), sR, ⟨rfl, rfl, trivial⟩, rfl, sP (nilP_agg _), rfl, rfl, rfl, trivial⟩
  · exact ⟨[], h0, sR, ⟨rfl, rfl, trivial⟩, rfl, [], sc_gPick l 11 g1 (by omega) (by omega), sR, ⟨rfl, rfl, trivial⟩, rfl, i64_add rfl (by omega), [], sc_gEach l seen [1, 1] (gPick l 11 g1).2 hs1 (by simp [gPick]; omega) hsl, sR, ⟨rfl, rfl, rfl, trivial⟩, rfl, [], sc_gOuts l [1] (gEach l seen [1, 1] (gPick l 11 g1).2).2 (by simp [gPick, gEach_st]; omega), sR, ⟨rfl, rfl, trivial⟩, rfl, sP (nilP_agg _), rfl, rfl, rfl, trivial⟩
  · exact ⟨[], h0, sR, ⟨rfl, rfl, trivial⟩, rfl, [], sc_gPick l 6 g1 (by omega) (by omega), sR, ⟨rfl, rfl, trivial⟩, rfl, i64_add rfl (by omega), [], sc_gEach l seen [1, 1] (gPick l 6 g1).2 hs1 (by simp [gPick]; omega) hsl, sR, ⟨rfl, rfl, rfl, trivial⟩, rfl, [], sc_gOuts l [2] (gEach l seen [1, 1] (gPick l 6 g1).2).2 (by simp [gPick, gEach_st]; omega), sR, ⟨rfl, rfl, trivial⟩, rfl, sP (nilP_agg _), rfl, rfl, rfl, trivial⟩
  · exact ⟨[], h0, sR, ⟨rfl, rfl, trivial⟩, rfl, [], sc_gPick l 6 g1 (by omega) (by omega), sR, ⟨rfl, rfl, trivial⟩, rfl, i64_add rfl (by omega), [], sc_gEach l seen [1, 1] (gPick l 6 g1).2 hs1 (by simp [gPick]; omega) hsl, sR, ⟨rfl, rfl, rfl, trivial⟩, rfl, [], sc_gOuts l [2] (gEach l seen [1, 1] (gPick l 6 g1).2).2 (by simp [gPick, gEach_st]; omega), sR, ⟨rfl, rfl, trivial⟩, rfl, sP (nilP_agg _), rfl, rfl, rfl, trivial⟩
  · exact ⟨[], h0, sR, ⟨rfl, rfl, trivial⟩, rfl, [], sc_gEach l seen [1] g1 hs1 (by simp [gPick]; omega) hsl, sR, ⟨rfl, rfl, rfl, trivial⟩, rfl, [], sc_gOuts l [1] (gEach l seen [1] g1).2 (by simp [gPick, gEach_st]; omega), sR, ⟨rfl, rfl, trivial⟩, rfl, sP (nilP_agg _), rfl, rfl, rfl, trivial⟩
  · exact ⟨[], h0, sR, ⟨rfl, rfl, trivial⟩, rfl, [], sc_gEach l seen [1, 1] g1 hs1 (by simp [gPick]; omega) hsl, sR, ⟨rfl, rfl, rfl, trivial⟩, rfl, sP (nilP_agg _), rfl, rfl, rfl, trivial⟩
  · have h4 := sc_gPick l 4 g1 (by omega) (by omega)
    have hl4 : (gPick l 4 g1).1 < 4 := gPick_lt (by omega)
    have hp4 : (gPick l 4 g1).2.pos = g1.pos + 1 := by simp only [gPick]
    have hs4 : InR (gPick l 4 g1).2.types seen := by simp only [gPick]; exact hs1
    have ht4 : (gPick l 4 g1).2.types.length = g1.types.length := by simp only [gPick]
    generalize gPick l 4 g1 = A at h4 hl4 hp4 hs4 ht4 ⊢
    obtain ⟨j, g2⟩ := A
    dsimp only at h4 hl4 hp4 hs4 ht4 ⊢
    have hj : j = 0 ∨ j = 1 ∨ j = 2 ∨ j = 3 := by omega
    rcases hj with rfl | rfl | rfl | rfl
    · exact ⟨[], h0, sR, ⟨rfl, rfl, trivial⟩, rfl, [], h4, sR, ⟨rfl, rfl, trivial⟩, rfl, [], sc_gEach l seen [1, 2] g2 hs4 (by simp [gPick]; omega) hsl, sR, ⟨rfl, rfl, rfl, trivial⟩, rfl, [], sc_gOuts l [1] (gEach l seen [1, 2] g2).2 (by simp [gPick, gEach_st]; omega), sR, ⟨rfl, rfl, trivial⟩, rfl, sP (nilP_agg _), rfl, rfl, rfl, trivial⟩
    · exact ⟨[], h0, sR, ⟨rfl, rfl, trivial⟩, rfl, [], h4, sR, ⟨rfl, rfl, trivial⟩, rfl, [], sc_gOuts l [1] g2 (by simp [gPick, gEach_st]; omega), sR, ⟨rfl, rfl, trivial⟩, rfl, sP (nilP_agg _), rfl, rfl, rfl, trivial⟩
    · exact ⟨[], h0, sR, ⟨rfl, rfl, trivial⟩, rfl, [], h4, sR, ⟨rfl, rfl, trivial⟩, rfl, [], sc_gEach l seen [1] g2 hs4 (by simp [gPick]; omega) hsl, sR, ⟨rfl, rfl, rfl, trivial⟩, rfl, sP (nilP_agg _), rfl, rfl, rfl, trivial⟩
    · exact ⟨[], h0, sR, ⟨rfl, rfl, trivial⟩, rfl, [], h4, sR, ⟨rfl, rfl, trivial⟩, rfl, [], sc_gEach l seen [1] g2 hs4 (by simp [gPick]; omega) hsl, sR, ⟨rfl, rfl, rfl, trivial⟩, rfl, sP (nilP_agg _), rfl, rfl, rfl, trivial⟩
set_option maxRecDepth 20000
set_option maxHeartbeats 2000000
theorem sc_gEnd (l : List UInt8) (seen : List Int) (p : Plc) (g : Gn) (hs : InR g.types seen) (hb : g.pos ≤ 999980) (hsl : seen.length ≤ 1000000) (hp1 : p.Yield.length ≤ 2) (hp2 : p.Next.length ≤ 2) (hp3 : p.Left.length ≤ 2) : SC Tryz.prog 72 [.ptr 2001 0, .sl 2003 (seen.map eInt).length, .pv (plcv p)] (gHs l g seen) (fun _ => False) (.pv (ndv (gEnd l seen p g).1)) (gHs l (gEnd l seen p g).2 seen) := by
  refine SC.sameR (SC.vc tb {} [] Tryz.func72 rfl rfl ?_) fun k _ h => h.elim
  have h0 := sc_gPick l 6 g (by omega) (by omega)
  have h6 : (gPick l 6 g).1 < 6 := gPick_lt (by omega)
  have hp : (gPick l 6 g).2.pos = g.pos + 1 := by simp only [gPick]
  have hs1 : InR (gPick l 6 g).2.types seen := by simp only [gPick]; exact hs
  unfold gEnd
  generalize gPick l 6 g = A at h0 h6 hp hs1 ⊢
  obtain ⟨k, g1⟩ := A
  obtain ⟨b1, b2, Y, N, L⟩ := p
  dsimp only at h0 h6 hp hs1 hp1 hp2 hp3 ⊢
  rcases (show k = 0 ∨ k = 1 ∨ k = 2 ∨ k = 3 ∨ k = 4 ∨ k = 5 by omega) with rfl | rfl | rfl | rfl | rfl | rfl <;> cases b1 <;> cases b2 <;> first
    | exact ⟨[], h0, sR, ⟨rfl, rfl, trivial⟩, rfl, [], sc_gEach l seen Y g1 hs1 (by omega) hsl, sR, ⟨rfl, rfl, rfl, trivial⟩, rfl, sP (nilP_agg _), rfl, rfl, rfl, trivial⟩
    | exact ⟨[], h0, sR, ⟨rfl, rfl, trivial⟩, rfl, [], sc_gEach l seen N g1 hs1 (by omega) hsl, sR, ⟨rfl, rfl, rfl, trivial⟩, rfl, sP (nilP_agg _), rfl, rfl, rfl, trivial⟩
    | exact ⟨[], h0, sR, ⟨rfl, rfl, trivial⟩, rfl, rfl, [], sc_gEach l seen N g1 hs1 (by omega) hsl, sR, ⟨rfl, rfl, rfl, trivial⟩, rfl, sP (nilP_agg _), rfl, rfl, rfl, trivial⟩
    | exact ⟨[], h0, sR, ⟨rfl, rfl, trivial⟩, rfl, [], sc_gEach l seen L g1 hs1 (by omega) hsl, sR, ⟨rfl, rfl, rfl, trivial⟩, rfl, sP (nilP_agg _), rfl, rfl, rfl, trivial⟩
    | exact ⟨[], h0, sR, ⟨rfl, rfl, trivial⟩, rfl, rfl, [], sc_gEach l seen L g1 hs1 (by omega) hsl, sR, ⟨rfl, rfl, rfl, trivial⟩, rfl, sP (nilP_agg _), rfl, rfl, rfl, trivial⟩
    | exact ⟨[], h0, sR, ⟨rfl, rfl, trivial⟩, rfl, [], sc_gEach l seen [1] g1 hs1 (by simp only [List.length_cons, List.length_nil]; omega) hsl, sR, ⟨rfl, rfl, rfl, trivial⟩, rfl, sP (nilP_agg _), rfl, rfl, rfl, trivial⟩
    | exact ⟨[], h0, sR, ⟨rfl, rfl, trivial⟩, rfl, rfl, [], sc_gEach l seen [1] g1 hs1 (by simp only [List.length_cons, List.length_nil]; omega) hsl, sR, ⟨rfl, rfl, rfl, trivial⟩, rfl, sP (nilP_agg _), rfl, rfl, rfl, trivial⟩
def qS (l : List UInt8) (all : List Int) (g1 : Gn) (m1 : Nat) : Nd × Gn := gSimple l all { g1 with left := m1 }
def qK (l : List UInt8) (all : List Int) (g1 : Gn) (m1 : Nat) : Nat × Gn := gPick l 6 (qS l all g1 m1).2
def qT (l : List UInt8) (all : List Int) (g1 : Gn) (m1 : Nat) : List Int × Gn := gTypes l (qK l all g1 m1).2
def qC (l : List UInt8) (all : List Int) (g1 : Gn) (m1 : Nat) : List Int × Gn := gEach l all [2] (qT l all g1 m1).2
def qP (l : List UInt8) (all : List Int) (g1 : Gn) (m1 : Nat) (p : Plc) : Plc := ⟨true, p.Loop, (qT l all g1 m1).1, p.Next, p.Left⟩
def qA (l : List UInt8) (m : Nat) (all : List Int) (p : Plc) (g1 : Gn) (m1 : Nat) : List Nd × Gn := gList l m all (qP l all g1 m1 p) (qC l all g1 m1).2
def qB (l : List UInt8) (m : Nat) (all : List Int) (p : Plc) (g1 : Gn) (m1 : Nat) : List Nd × Gn := gList l m all (qP l all g1 m1 p) (qA l m all p g1 m1).2
def qO (l : List UInt8) (all : List Int) (g1 : Gn) (m1 : Nat) : List Int × Gn := gTypes l (qT l all g1 m1).2
def qE (l : List UInt8) (all : List Int) (g1 : Gn) (m1 : Nat) : List Int × Gn := gEach l all (qT l all g1 m1).1 (qO l all g1 m1).2
def qQ (l : List UInt8) (all : List Int) (g1 : Gn) (m1 : Nat) : List Int × Gn := gOuts (qT l all g1 m1).1 (qE l all g1 m1).2
def qL (l : List UInt8) (all : List Int) (g1 : Gn) (m1 : Nat) : Plc := ⟨false, true, [], (qT l all g1 m1).1, (qO l all g1 m1).1⟩
def qD (l : List UInt8) (m : Nat) (all : List Int) (g1 : Gn) (m1 : Nat) : List Nd × Gn := gList l m (all ++ (qQ l all g1 m1).1) (qL l all g1 m1) (qQ l all g1 m1).2
def gHr (k : Nat) (l : List UInt8) (g : Gn) (seen : List Int) : List (Nat × HO) := [(2001, genBox l g), (2002, rowI g.types), (k, rowI seen)]
theorem sc_gEachA (l : List UInt8) (seen ts : List Int) (g : Gn) (hs : InR g.types seen) (hb : g.pos + ts.length ≤ 1000000) (hsl : seen.length ≤ 1000000) : SC Tryz.prog 70 [.ptr 2001 0, .sl 2010 (seen.map eInt).length, .pv (ints ts)] (gHr 2010 l g seen) (fun _ => False) (.pv (ints (gEach l seen ts g).1)) (gHr 2010 l (gEach l seen ts g).2 seen) := SC.sw 2003 2010 (sc_gEach l seen ts g hs hb hsl)
theorem sc_gSimpleA (l : List UInt8) (seen : List Int) (g : Gn) (hs : InR g.types seen) (hb : g.pos ≤ 999980) (hbt : g.types.length ≤ 999990) (hsl : seen.length ≤ 1000000) : SC Tryz.prog 68 [.ptr 2001 0, .sl 2010 (seen.map eInt).length] (gHr 2010 l g seen) (fun _ => False) (.pv (ndv (gSimple l seen g).1)) (gHr 2010 l (gSimple l seen g).2 seen) := SC.sw 2003 2010 (sc_gSimple l seen g hs hb hbt hsl)
theorem sc_gEndA (l : List UInt8) (seen : List Int) (p : Plc) (g : Gn) (hs : InR g.types seen) (hb : g.pos ≤ 999980) (hsl : seen.length ≤ 1000000) (hp : p.small) : SC Tryz.prog 72 [.ptr 2001 0, .sl 2010 (seen.map eInt).length, .pv (plcv p)] (gHr 2010 l g seen) (fun _ => False) (.pv (ndv (gEnd l seen p g).1)) (gHr 2010 l (gEnd l seen p g).2 seen) := SC.sw 2003 2010 (sc_gEnd l seen p g hs hb hsl hp.1 hp.2.1 hp.2.2)
def LSCg (l : List UInt8) (d : Nat) : Prop := ∀ (seen : List Int) (p : Plc) (g : Gn), InR g.types seen → p.small → g.pos + 60 * g.left ≤ 900000 → g.types.length + 10 * g.left ≤ 900000 → seen.length + 10 * g.left ≤ 900000 →
  SC Tryz.prog 45 [.ptr 2001 0, .sl 2003 (seen.map eInt).length, .pv (plcv p), iInt (d : Int)] (gHs l g seen) (fun _ => False) (.pv (nodes (gList l d seen p g).1)) (gHs l (gList l d seen p g).2 seen)
theorem LSCg.at2010 {l : List UInt8} {d : Nat} (h : LSCg l d) (seen : List Int) (p : Plc) (g : Gn) (h1 : InR g.types seen) (h2 : p.small) (h3 : g.pos + 60 * g.left ≤ 900000) (h4 : g.types.length + 10 * g.left ≤ 900000) (h5 : seen.length + 10 * g.left ≤ 900000) :
    SC Tryz.prog 45 [.ptr 2001 0, .sl 2010 (seen.map eInt).length, .pv (plcv p), iInt (d : Int)] (gHr 2010 l g seen) (fun _ => False) (.pv (nodes (gList l d seen p g).1)) (gHr 2010 l (gList l d seen p g).2 seen) := SC.sw 2003 2010 (h seen p g h1 h2 h3 h4 h5)
theorem LSCg.at2019 {l : List UInt8} {d : Nat} (h : LSCg l d) (seen : List Int) (p : Plc) (g : Gn) (h1 : InR g.types seen) (h2 : p.small) (h3 : g.pos + 60 * g.left ≤ 900000) (h4 : g.types.length + 10 * g.left ≤ 900000) (h5 : seen.length + 10 * g.left ≤ 900000) :
    SC Tryz.prog 45 [.ptr 2001 0, .sl 2019 (seen.map eInt).length, .pv (plcv p), iInt (d : Int)] (gHr 2019 l g seen) (fun _ => False) (.pv (nodes (gList l d seen p g).1)) (gHr 2019 l (gList l d seen p g).2 seen) := SC.sw 2003 2019 (h seen p g h1 h2 h3 h4 h5)
theorem sc_gList0 (l : List UInt8) (d : Nat) (hd3 : d ≤ 100) (ih : ∀ m, d = m + 1 → LSCg l m) (seen : List Int) (p : Plc) (g : Gn) (hs : InR g.types seen) (hp : p.small) (hb1 : g.pos + 60 * g.left ≤ 900000) (hb2 : g.types.length + 10 * g.left ≤ 900000) (hb3 : seen.length + 10 * g.left ≤ 900000) : SC Tryz.prog 45 [.ptr 2001 0, .sl 2003 (seen.map eInt).length, .pv (plcv p), iInt (d : Int)] (gHs l g seen) (fun _ => False) (.pv (nodes (gList l d seen p g).1)) (gHs l (gList l d seen p g).2 seen) := by
  refine SC.of Tryz.func45 rfl (lb rfl) fun F ρ w => ?_
  have h6 : (gPick l 6 g).1 < 6 := gPick_lt (by omega)
  have hsl0 : (seen.map eInt).length = seen.length := by simp
  refine tQ <| tG <| cE rfl (ok_box rfl rfl) <| sm 1 rfl <| nL <| tQ <| tG <| sm 1 rfl <| nL <| tQ <| tG <| sm 1 rfl ?_
  refine nL <| tQ <| Tr.grow (t := 10) (k := 2010) ⟨3, 1⟩ rfl rfl rfl rfl rfl <| tG <| sm 2 rfl ?_
  refine cE rfl (ok_append_row rfl rfl rfl rfl rfl rfl rfl (by simp) Tryz.underlying35 tB3 (by decide) hw_int hone_int (by simp [maxLen]; omega) (by simp; omega)) ?_
  refine sm 1 rfl <| nL <| tQ <| tQ <| Tr.grow (t := 9) (k := 109) ⟨38, 8⟩ rfl rfl rfl rfl rfl <| tG <| sm 1 rfl <| cE rfl (ocr (sc_gPick l 6 g (by omega) (by omega)) ent67 rfl (po2 rfl rfl) rfl (fun k (h : _) => .inr h) rfl rfl) <| sm 1 rfl <| nL <| Tr.block <| Tr.sub (Sub.of (fr' := [(11, iInt (((gPick l 6 g).1 : Nat) : Int)), (10, .sl 2010 (seen.map eInt).length), (9, .sl 109 (([] : List Nd).map Nd.enc).length), (6, .pv (.ept [vBool p.If, vBool p.Loop, ints p.Yield, ints p.Next, ints p.Left] 0)), (0, .ptr 2001 0), (3, iInt (d : Int))]) ⟨rfl, congrArg (fun z => some (IV.sl _ z)) (by simp), rfl, rfl, rfl, rfl, trivial⟩) ?_
  refine Tr.heap (σ' := look [(109, some (.row ⟨38, 8⟩ (([] : List Nd).map Nd.enc))), (2010, some (rowI seen)), (2001, some (genBox l (gPick l 6 g).2)), (2002, some (rowI (gPick l 6 g).2.types)), (2003, some (rowI seen))]) (lkq [109, 2010, 2001, 2002, 2003] rfl rfl ⟨rfl, (congrArg (fun z => some (HO.row _ z)) (by simp)), rfl, rfl, rfl, trivial⟩) ?_
  refine Tr.loop (fun fr σ m => ∃ (n : Nat) (out : List Nd) (all : List Int) (g1 : Gn), (gNodes l (gRec l d) p n out all g1 = gList l d seen p g) ∧ (InR g1.types all) ∧ (g1.pos + 60 * g1.left ≤ 900001) ∧ (g1.types.length + 10 * g1.left ≤ 900000) ∧ (all.length + 10 * g1.left ≤ 900000) ∧ (out.length + n ≤ 5) ∧ fr = [(11, iInt ((n : Nat) : Int)), (10, .sl 2010 (all.map eInt).length), (9, .sl 109 (out.map Nd.enc).length), (6, .pv (.ept [vBool p.If, vBool p.Loop, ints p.Yield, ints p.Next, ints p.Left] 0)), (0, .ptr 2001 0), (3, iInt (d : Int))] ∧ σ = look [(109, some (.row ⟨38, 8⟩ (out.map Nd.enc))), (2010, some (rowI all)), (2001, some (genBox l g1)), (2002, some (rowI g1.types)), (2003, some (rowI seen))] ∧ m = n + 1) (n := (gPick l 6 g).1 + 1) ?_ ?_
  ·exact ⟨(gPick l 6 g).1, ([] : List Nd), seen, (gPick l 6 g).2, (gList_eq l d seen p g).symm, hs, (by simp only [gPick]; omega), hb2, hb3, (by simp; omega), rfl, rfl, rfl⟩
  rintro fr σ m ⟨n, out, all, g1, hI, hIn, hIp, hIt, hIa, hIo, rfl, rfl, rfl⟩
  refine tQ <| tQ <| tG <| sm 3 rfl ?_
  refine wS 27 rfl (fun hb27 => ?_) fun hb27 => ?_
  ·refine sm 1 rfl <| yV rfl rfl (ok_nilCheck rfl rfl rfl) <| sm 4 rfl <| nL ?_
   refine tC rfl (fun hc33 => ?_) fun hc33 => ?_
   ·refine Tr.skip <| tQ <| Tr.block <| tQ ?_
    have hn0 : 0 < n := by simpa using hb27
    obtain ⟨n1, rfl⟩ : ∃ n1, n = n1 + 1 := ⟨n - 1, by omega⟩
    have hl0 : 0 < g1.left := by simpa using hc33
    have hleft : ¬ g1.left = 0 := by omega
    obtain ⟨m1, hm1⟩ : ∃ m1, g1.left = m1 + 1 := ⟨g1.left - 1, by omega⟩
    have hXb := bd_any l (gRec_bd l d) all p hp g1 hl0
    have hXo := any_outs l (rec := gRec l d) all p g1
    have hXl : (gAny l (gRec l d) all p g1).2.left + 1 ≤ g1.left := any_left l (gRec_bd l d) all p hp g1 hl0
    refine tG <| sm 2 rfl <| cV rfl (ok_nilCheck rfl rfl rfl) <| sm 2 rfl <| cV rfl (oB rfl rfl (i64_sub rfl (by omega))) <| cV rfl (ok_nilCheck rfl rfl rfl) <| sm 1 rfl <| c0 (ok_store_box rfl rfl rfl rfl ((fun h => h)) tS3 (rfl) (lb rfl)) <| nL <| tQ <| Tr.heap (σ' := look [(109, some (.row ⟨38, 8⟩ (out.map Nd.enc))), (2010, some (rowI all)), (2001, some (genBox l { g1 with left := m1 })), (2002, some (rowI { g1 with left := m1 }.types)), (2003, some (rowI seen))]) (lkq [2001, 109, 2010, 2002, 2003] rfl rfl ⟨(by exact congrArg (fun z => some (HO.box [.pv (bts l), iInt (g1.pos : Int), .sl 2002 (g1.types.map eInt).length, iInt z])) (by show (g1.left : Int) - 1 = (m1 : Int); omega)), rfl, rfl, rfl, rfl, trivial⟩) <| tG ?_
    refine sm 2 rfl <| cE rfl (ocr (sc_gSimpleA l all { g1 with left := m1 } hIn (by show g1.pos ≤ 999980; omega) (by show g1.types.length ≤ 999990; omega) (by omega)) ent68 rfl (po3 rfl rfl rfl) rfl (fun k (h : _) => .inr h) rfl rfl) <| cE rfl (ok_alloc (k := 112) rfl tZ38 rfl rfl rfl rfl) <| c0 (ok_store_box_agg rfl rfl rfl rfl rfl ((fun h => h)) tS38 (firmL_ok rfl) (lb rfl)) <| nL <| tQ ?_
    have e2 : ({ g1 with left := g1.left - 1 } : Gn) = { g1 with left := m1 } := by rw [hm1]; rfl
    have hSb : Bd 4 1 { g1 with left := m1 } (qS l all g1 m1).2 := bd_simple l all { g1 with left := m1 }
    have hS1 := hSb.ps
    have hS2 := hSb.t1
    have hS3 := hSb.t2
    have hS4 := hSb.lf
    have hKb : Bd 1 0 (qS l all g1 m1).2 (qK l all g1 m1).2 := bd_pick l 6 (qS l all g1 m1).2
    have hK1 := hKb.ps
    have hK2 := hKb.t1
    have hK3 := hKb.t2
    have hK4 := hKb.lf
    dsimp only at hS1 hS2 hS3 hS4
    refine tG <| sm 1 rfl <| cE rfl (ocr (sc_gPick l 6 (qS l all g1 m1).2 (by omega) (by omega)) ent67 rfl (po2 rfl rfl) rfl (fun k (h : _) => .inr h) rfl rfl) <| sm 1 rfl <| nL <| tQ ?_
    refine Tr.cut (fr' := [(12, .ptr 112 0), (11, iInt ((n1 + 1 : Nat) : Int)), (10, .sl 2010 (all.map eInt).length), (9, .sl 109 (out.map Nd.enc).length), (6, .pv (.ept [vBool p.If, vBool p.Loop, ints p.Yield, ints p.Next, ints p.Left] 0)), (0, .ptr 2001 0), (3, iInt (d : Int))]) (σ' := look [(112, some (.box [.pv (vInt (gAny l (gRec l d) all p g1).1.kind), .pv (vInt (gAny l (gRec l d) all p g1).1.op), .pv (vInt (gAny l (gRec l d) all p g1).1.n), .pv (vStr (gAny l (gRec l d) all p g1).1.name), .pv (ints (gAny l (gRec l d) all p g1).1.args), .pv (ints (gAny l (gRec l d) all p g1).1.outs), .pv (ints (gAny l (gRec l d) all p g1).1.params), .pv (kids (gAny l (gRec l d) all p g1).1.kids)])), (109, some (.row ⟨38, 8⟩ (out.map Nd.enc))), (2010, some (rowI all)), (2001, some (genBox l (gAny l (gRec l d) all p g1).2)), (2002, some (rowI (gAny l (gRec l d) all p g1).2.types)), (2003, some (rowI seen))]) ?_ ?_
    ·refine Tr.block <| tQ <| tG <| sm 3 rfl ?_
     refine wS 52 rfl (fun hb52 => ?_) fun hb52 => ?_
     ·refine sm 4 rfl <| nL ?_
      refine tC rfl (fun hc49 => ?_) fun hc49 => ?_
      ·have hk0 : (gPick l 6 (qS l all g1 m1).2).1 = 0 := by simp at hb52; omega
       obtain ⟨m, rfl⟩ : ∃ m, d = m + 1 := ⟨d - 1, by simp at hc49; omega⟩
       obtain ⟨hTb, hTl⟩ : Bd 3 0 (qK l all g1 m1).2 (qT l all g1 m1).2 ∧ (qT l all g1 m1).1.length ≤ 2 := bd_types l (qK l all g1 m1).2
       have hT1 := hTb.ps
       have hT2 := hTb.t1
       have hT3 := hTb.t2
       have hT4 := hTb.lf
       have hXP : Plc.small (qP l all g1 m1 p) := ⟨hTl, hp.2.1, hp.2.2⟩
       have hCb : Bd 1 0 (qT l all g1 m1).2 (qC l all g1 m1).2 := bd_each l all [2] (qT l all g1 m1).2
       have hC1 := hCb.ps
       have hC2 := hCb.t1
       have hC3 := hCb.t2
       have hC4 := hCb.lf
       have hAb : Bd 4 0 (qC l all g1 m1).2 (qA l m all p g1 m1).2 := bd_list l m all (qP l all g1 m1 p) (qC l all g1 m1).2 hXP
       have hA1 := hAb.ps
       have hA2 := hAb.t1
       have hA3 := hAb.t2
       have hA4 := hAb.lf
       have hBb : Bd 4 0 (qA l m all p g1 m1).2 (qB l m all p g1 m1).2 := bd_list l m all (qP l all g1 m1 p) (qA l m all p g1 m1).2 hXP
       have hB1 := hBb.ps
       have hB2 := hBb.t1
       have hB3 := hBb.t2
       have hB4 := hBb.lf
       refine tQ <| tG <| sm 1 rfl <| cE rfl (ocr (sc_gTypes l (qK l all g1 m1).2 (by omega)) ent69 rfl (po2 rfl rfl) rfl (fun k (h : _) => .inr h) rfl rfl) <| sm 1 rfl <| nL <| tQ <| tG <| sm 7 rfl <| cV rfl (ok_build_pure rfl rfl tZ86 tP86 rfl (firmB_ok rfl) rfl) <| cE rfl (ok_alloc (k := 115) rfl tZ86 rfl rfl rfl rfl) <| c0 (ok_store_box_agg rfl rfl rfl rfl rfl ((fun h => h)) tS86 (firmL_ok rfl) (lb rfl)) ?_
       refine nL <| tQ <| Tr.freezeBox (t := 15) (k := 115) rfl rfl rfl <| tG <| sm 2 rfl <| cE rfl (ok_buildSlice rfl rfl Tryz.underlying35 tZ3 tS3 rfl rfl rfl rfl (firmB_ok rfl) rfl) ?_
       refine cE rfl (ocr (sc_gEachA l all [2] (qT l all g1 m1).2 (hIn.mono (by omega)) (by simp only [List.length_cons, List.length_nil]; omega) (by omega)) ent70 rfl (po3 rfl rfl rfl) rfl (fun k (h : _) => .inr h) rfl rfl) ?_
       refine cV rfl (ok_build_pure rfl rfl tZ38 tP38 rfl (firmB_ok rfl) rfl) <| c0 (ok_store_box_agg rfl rfl rfl rfl rfl ((fun h => h)) tS38 (firmL_ok rfl) (lb rfl)) <| nL <| tQ <| Tr.fixNil (k := 112) rfl (fun h => h) <| tG <| sm 2 rfl <| cV rfl (ok_load_ept_agg rfl rfl Tryz.underlying86 rfl tS86 (lb rfl)) <| sm 1 rfl <| cV rfl (oB rfl rfl (i64_sub rfl (by omega))) <| cE rfl (ok_callr ((ih m rfl).at2010 all (qP l all g1 m1 p) (qC l all g1 m1).2 (hIn.mono (by omega)) hXP (by omega) (by omega) (by omega)) ent45 rfl rfl (Subs.same rfl (Subs.same rfl (Subs.same rfl (Subs.same (congrArg (fun z => iInt z) (by omega)) Subs.nil)))) (po3 rfl rfl rfl) (by rfl) (fun k (h : _) => .inr h) rfl (by rfl)) <| sm 1 rfl ?_
       refine nL <| tQ <| tG <| sm 3 rfl <| cV rfl (ok_load_ept_agg rfl rfl Tryz.underlying86 rfl tS86 (lb rfl)) <| sm 1 rfl <| cV rfl (oB rfl rfl (i64_sub rfl (by omega))) <| cE rfl (ok_callr ((ih m rfl).at2010 all (qP l all g1 m1 p) (qA l m all p g1 m1).2 (hIn.mono (by omega)) hXP (by omega) (by omega) (by omega)) ent45 rfl rfl (Subs.same rfl (Subs.same rfl (Subs.same rfl (Subs.same (congrArg (fun z => iInt z) (by omega)) Subs.nil)))) (po3 rfl rfl rfl) (by rfl) (fun k (h : _) => .inr h) rfl (by rfl)) <| cE rfl (ok_buildSlice rfl rfl Tryz.underlying36 tZ39 tS39 rfl rfl rfl rfl (firmB_ok rfl) rfl) <| sm 1 rfl <| c0 (ok_store_box rfl rfl rfl rfl ((fun h => h)) tS36 (rfl) (lb rfl)) <| nL ?_
       refine tQ <| tG <| cV rfl (ok_load_box_pure rfl rfl rfl Tryz.underlying38 rfl tS38 (lb rfl) rfl trivial) <| cE rfl (ocq (sc_r8Closed (.mk 10 0 0 nName (qC l all g1 m1).1 [] [] [(qA l m all p g1 m1).1, (qB l m all p g1 m1).1] : Nd)) ent71 rfl rfl) <| sm 1 rfl <| nL ?_
       refine tC rfl (fun hc88 => ?_) fun hc88 => ?_
       ·have hX : gAny l (gRec l (m + 1)) all p g1 = ((.mk 10 0 0 nName (qC l all g1 m1).1 (gOuts (qT l all g1 m1).1 (qB l m all p g1 m1).2).1 [] [(qA l m all p g1 m1).1, (qB l m all p g1 m1).1] : Nd), (gOuts (qT l all g1 m1).1 (qB l m all p g1 m1).2).2) := by
          have hcl : r8Closed (.mk 10 0 0 nName (qC l all g1 m1).1 [] [] [(qA l m all p g1 m1).1, (qB l m all p g1 m1).1] : Nd) = false := by simpa using hc88
          unfold gAny
          simp only [gRec, e2]
          exact (if_pos hk0).trans (if_neg (fun h => Bool.noConfusion (hcl.symm.trans h)))
        refine tG <| sm 2 rfl <| cE rfl (ocr (sc_gOuts l (qT l all g1 m1).1 (qB l m all p g1 m1).2 (by omega)) ent43 rfl (po2 rfl rfl) rfl (fun k (h : _) => .inr h) rfl rfl) <| sm 1 rfl <| c0 (ok_store_box rfl rfl rfl rfl ((fun h => h)) tS35 (rfl) (lb rfl)) <| nL ?_
        refine ⟨rfl, Sub.of ⟨rfl, rfl, rfl, rfl, rfl, rfl, rfl, trivial⟩, funext (lkq [112, 109, 2010, 2001, 2002, 2003, 115, 2019] rfl rfl ⟨(by first | rfl | (rw [hX]; rfl)), rfl, rfl, (by first | rfl | (rw [hX]; rfl)), (by first | rfl | (rw [hX]; rfl)), rfl, rfl, rfl, trivial⟩)⟩
       have hX : gAny l (gRec l (m + 1)) all p g1 = ((.mk 10 0 0 nName (qC l all g1 m1).1 [] [] [(qA l m all p g1 m1).1, (qB l m all p g1 m1).1] : Nd), (qB l m all p g1 m1).2) := by
         have hcl : r8Closed (.mk 10 0 0 nName (qC l all g1 m1).1 [] [] [(qA l m all p g1 m1).1, (qB l m all p g1 m1).1] : Nd) = true := by simpa using hc88
         unfold gAny
         simp only [gRec, e2]
         exact (if_pos hk0).trans (if_pos hcl)
       refine Tr.skip ?_
       refine ⟨rfl, Sub.of ⟨rfl, rfl, rfl, rfl, rfl, rfl, rfl, trivial⟩, funext (lkq [112, 109, 2010, 2001, 2002, 2003, 115, 2019] rfl rfl ⟨(by first | rfl | (rw [hX]; rfl)), rfl, rfl, (by first | rfl | (rw [hX]; rfl)), (by first | rfl | (rw [hX]; rfl)), rfl, rfl, rfl, trivial⟩)⟩
      refine tQ <| tG <| sm 3 rfl ?_
      refine wS 96 rfl (fun hb96 => ?_) fun hb96 => ?_
      ·refine sm 4 rfl <| nL ?_
       refine tC rfl (fun hc93 => ?_) fun hc93 => ?_
       ·have hk1 : (gPick l 6 (qS l all g1 m1).2).1 = 1 := by simp at hb96; omega
        obtain ⟨m, rfl⟩ : ∃ m, d = m + 1 := ⟨d - 1, by simp at hc93; omega⟩
        obtain ⟨hTb, hTl⟩ : Bd 3 0 (qK l all g1 m1).2 (qT l all g1 m1).2 ∧ (qT l all g1 m1).1.length ≤ 2 := bd_types l (qK l all g1 m1).2
        have hT1 := hTb.ps
        have hT2 := hTb.t1
        have hT3 := hTb.t2
        have hT4 := hTb.lf
        obtain ⟨hOb, hOl⟩ : Bd 3 0 (qT l all g1 m1).2 (qO l all g1 m1).2 ∧ (qO l all g1 m1).1.length ≤ 2 := bd_types l (qT l all g1 m1).2
        have hO1 := hOb.ps
        have hO2 := hOb.t1
        have hO3 := hOb.t2
        have hO4 := hOb.lf
        have hLP : Plc.small (qL l all g1 m1) := ⟨by simp [qL], hTl, hOl⟩
        have hCb : Bd (qT l all g1 m1).1.length 0 (qO l all g1 m1).2 (qE l all g1 m1).2 := bd_each l all (qT l all g1 m1).1 (qO l all g1 m1).2
        have hC1 := hCb.ps
        have hC2 := hCb.t1
        have hC3 := hCb.t2
        have hC4 := hCb.lf
        have hQb : Bd 0 (qT l all g1 m1).1.length (qE l all g1 m1).2 (qQ l all g1 m1).2 := bd_outs (qT l all g1 m1).1 (qE l all g1 m1).2
        have hQ1 := hQb.ps
        have hQ2 := hQb.t1
        have hQ3 := hQb.t2
        have hQ4 := hQb.lf
        have hQl : (qQ l all g1 m1).1.length = (qT l all g1 m1).1.length := (gOuts_st (qT l all g1 m1).1 (qE l all g1 m1).2).2
        have hInQ : InR (qQ l all g1 m1).2.types (all ++ (qQ l all g1 m1).1) := (hIn.mono (by omega)).app (InR.outs _ _)
        have hBb : Bd 4 0 (qQ l all g1 m1).2 (qD l m all g1 m1).2 := bd_list l m (all ++ (qQ l all g1 m1).1) (qL l all g1 m1) (qQ l all g1 m1).2 hLP
        have hB1 := hBb.ps
        have hB2 := hBb.t1
        have hB3 := hBb.t2
        have hB4 := hBb.lf
        have hQl2 : ((qQ l all g1 m1).1.map eInt).length = (qQ l all g1 m1).1.length := by simp
        have hal : (all.map eInt).length = all.length := by simp
        have hQl3 := (gOuts_st (qT l all g1 m1).1 (qE l all g1 m1).2).2
        refine tQ <| tG <| sm 1 rfl <| cE rfl (ocr (sc_gTypes l (qK l all g1 m1).2 (by omega)) ent69 rfl (po2 rfl rfl) rfl (fun k (h : _) => .inr h) rfl rfl) <| sm 1 rfl <| cE rfl (ocr (sc_gTypes l (qT l all g1 m1).2 (by omega)) ent69 rfl (po2 rfl rfl) rfl (fun k (h : _) => .inr h) rfl rfl) <| sm 2 rfl <| nL <| tQ <| tG <| sm 3 rfl <| cE rfl (ocr (sc_gEachA l all (qT l all g1 m1).1 (qO l all g1 m1).2 (hIn.mono (by omega)) (by omega) (by omega)) ent70 rfl (po3 rfl rfl rfl) rfl (fun k (h : _) => .inr h) rfl rfl) ?_
        refine sm 2 rfl <| cE rfl (ocr (sc_gOuts l (qT l all g1 m1).1 (qE l all g1 m1).2 (by omega)) ent43 rfl (po2 rfl rfl) rfl (fun k (h : _) => .inr h) rfl rfl) <| cV rfl (ok_build_pure rfl rfl tZ38 tP38 rfl (firmB_ok rfl) rfl) <| c0 (ok_store_box_agg rfl rfl rfl rfl rfl ((fun h => h)) tS38 (firmL_ok rfl) (lb rfl)) <| nL <| tQ <| Tr.fixNil (k := 112) rfl (fun h => h) <| tG <| sm 1 rfl <| nL <| tQ <| Tr.grow (t := 19) (k := 2019) ⟨3, 1⟩ rfl rfl rfl rfl rfl ?_
        refine tG <| sm 2 rfl ?_
        refine cE rfl (ok_append_row rfl rfl rfl rfl rfl rfl rfl (by simp) Tryz.underlying35 tB3 (by decide) hw_int hone_int (by simp [maxLen]; omega) (by simp; omega)) ?_
        refine sm 1 rfl <| nL <| tQ <| tG <| sm 3 rfl ?_
        refine cE rfl (ok_append rfl rfl rfl rfl (by (simp; done)) ((fun h => h)) Tryz.underlying35 tB3 (by decide) (hw_int) (hone_int) (by simp [maxLen, chunks]; omega) (by simp [chunks]; omega)) ?_
        refine sm 1 rfl <| nL <| tQ ?_
        refine Tr.heap (σ' := look [(2019, some (rowI (all ++ (qQ l all g1 m1).1))), (112, some (.box [.pv (vInt (.mk 11 0 0 nName (qE l all g1 m1).1 [] (qQ l all g1 m1).1 [] : Nd).kind), .pv (vInt (.mk 11 0 0 nName (qE l all g1 m1).1 [] (qQ l all g1 m1).1 [] : Nd).op), .pv (vInt (.mk 11 0 0 nName (qE l all g1 m1).1 [] (qQ l all g1 m1).1 [] : Nd).n), .pv (vStr (.mk 11 0 0 nName (qE l all g1 m1).1 [] (qQ l all g1 m1).1 [] : Nd).name), .pv (ints (.mk 11 0 0 nName (qE l all g1 m1).1 [] (qQ l all g1 m1).1 [] : Nd).args), .pv (ints (.mk 11 0 0 nName (qE l all g1 m1).1 [] (qQ l all g1 m1).1 [] : Nd).outs), .pv (ints (.mk 11 0 0 nName (qE l all g1 m1).1 [] (qQ l all g1 m1).1 [] : Nd).params), .pv (kids (.mk 11 0 0 nName (qE l all g1 m1).1 [] (qQ l all g1 m1).1 [] : Nd).kids)])), (109, some (.row ⟨38, 8⟩ (out.map Nd.enc))), (2010, some (rowI all)), (2001, some (genBox l (qQ l all g1 m1).2)), (2002, some (rowI (qQ l all g1 m1).2.types)), (2003, some (rowI seen))]) (lkq [2019, 112, 109, 2010, 2001, 2002, 2003] rfl rfl ⟨(congrArg (fun z => some (HO.row _ z)) (by simp [qQ])), rfl, rfl, rfl, rfl, rfl, rfl, trivial⟩) ?_
        refine tG <| sm 4 rfl <| cV rfl (ok_build_pure rfl rfl tZ86 tP86 rfl (firmB_ok rfl) rfl) <| sm 1 rfl <| cV rfl (oB rfl rfl (i64_sub rfl (by omega))) ?_
        refine cE rfl (ok_callr ((ih m rfl).at2019 (all ++ (qQ l all g1 m1).1) (qL l all g1 m1) (qQ l all g1 m1).2 hInQ hLP (by omega) (by omega) (by rw [List.length_append]; omega)) ent45 rfl rfl (Subs.same rfl (Subs.same (congrArg (fun n => IV.sl 2019 n) (by simp [qQ])) (Subs.cons (fun _ _ _ _ h => sub_pv (q := plcv (qL l all g1 m1)) (PSub.agg (ps := [vBool false, vBool true, .val (.slice none 0 0), ints (qT l all g1 m1).1, ints (qO l all g1 m1).1]) (And.intro (PSub.refl _) (And.intro (PSub.refl _) (And.intro PSub.nil (And.intro (PSub.refl _) (And.intro (PSub.refl _) trivial)))))) h) (Subs.same (congrArg (fun z => iInt z) (by omega)) Subs.nil)))) (po3 rfl rfl rfl) (by rfl) (fun k (h : _) => .inr h) rfl (by rfl)) ?_
        refine cE rfl (ok_buildSlice rfl rfl Tryz.underlying36 tZ39 tS39 rfl rfl rfl rfl (firmB_ok rfl) rfl) <| sm 1 rfl <| c0 (ok_store_box rfl rfl rfl rfl ((fun h => h)) tS36 (rfl) (lb rfl)) <| nL <| tQ <| Tr.drop (k := 2019) <| tG <| cV rfl (ok_load_box_pure rfl rfl rfl Tryz.underlying38 rfl tS38 (lb rfl) rfl trivial) <| cE rfl (ocq (sc_r8Closed (.mk 11 0 0 nName (qE l all g1 m1).1 [] (qQ l all g1 m1).1 [(qD l m all g1 m1).1] : Nd)) ent71 rfl rfl) <| sm 1 rfl <| nL ?_
        refine tC rfl (fun hc131 => ?_) fun hc131 => ?_
        ·have hX : gAny l (gRec l (m + 1)) all p g1 = ((.mk 11 0 0 nName (qE l all g1 m1).1 (gOuts (qO l all g1 m1).1 (qD l m all g1 m1).2).1 (qQ l all g1 m1).1 [(qD l m all g1 m1).1] : Nd), (gOuts (qO l all g1 m1).1 (qD l m all g1 m1).2).2) := by
           have hcl : r8Closed (.mk 11 0 0 nName (qE l all g1 m1).1 [] (qQ l all g1 m1).1 [(qD l m all g1 m1).1] : Nd) = false := by simpa using hc131
           have hk0 : ¬ (gPick l 6 (qS l all g1 m1).2).1 = 0 := by omega
           unfold gAny
           simp only [gRec, e2]
           exact (if_neg hk0).trans ((if_pos hk1).trans (if_neg (fun h => Bool.noConfusion (hcl.symm.trans h))))
         refine tG <| sm 2 rfl <| cE rfl (ocr (sc_gOuts l (qO l all g1 m1).1 (qD l m all g1 m1).2 (by omega)) ent43 rfl (po2 rfl rfl) rfl (fun k (h : _) => .inr h) rfl rfl) <| sm 1 rfl <| c0 (ok_store_box rfl rfl rfl rfl ((fun h => h)) tS35 (rfl) (lb rfl)) <| nL ?_
         refine ⟨rfl, Sub.of ⟨rfl, rfl, rfl, rfl, rfl, rfl, rfl, trivial⟩, funext (lkq [112, 109, 2010, 2001, 2002, 2003, 115, 2019] rfl rfl ⟨(by first | rfl | (rw [hX]; rfl)), rfl, rfl, (by first | rfl | (rw [hX]; rfl)), (by first | rfl | (rw [hX]; rfl)), rfl, rfl, rfl, trivial⟩)⟩
        have hX : gAny l (gRec l (m + 1)) all p g1 = ((.mk 11 0 0 nName (qE l all g1 m1).1 [] (qQ l all g1 m1).1 [(qD l m all g1 m1).1] : Nd), (qD l m all g1 m1).2) := by
          have hcl : r8Closed (.mk 11 0 0 nName (qE l all g1 m1).1 [] (qQ l all g1 m1).1 [(qD l m all g1 m1).1] : Nd) = true := by simpa using hc131
          have hk0 : ¬ (gPick l 6 (qS l all g1 m1).2).1 = 0 := by omega
          unfold gAny
          simp only [gRec, e2]
          exact (if_neg hk0).trans ((if_pos hk1).trans (if_pos hcl))
        refine Tr.skip ?_
        refine ⟨rfl, Sub.of ⟨rfl, rfl, rfl, rfl, rfl, rfl, rfl, trivial⟩, funext (lkq [112, 109, 2010, 2001, 2002, 2003, 115, 2019] rfl rfl ⟨(by first | rfl | (rw [hX]; rfl)), rfl, rfl, (by first | rfl | (rw [hX]; rfl)), (by first | rfl | (rw [hX]; rfl)), rfl, rfl, rfl, trivial⟩)⟩
       have hX : gAny l (gRec l d) all p g1 = ((qS l all g1 m1).1, (qK l all g1 m1).2) := by
         unfold gAny
         simp only [e2]
         cases d with
         | zero => rfl
         | succ m =>
           have hk0 : ¬ (gPick l 6 (qS l all g1 m1).2).1 = 0 := by first | (simp at hb52 <;> omega) | (simp at hc49 <;> omega)
           have hk1 : ¬ (gPick l 6 (qS l all g1 m1).2).1 = 1 := by first | (simp at hb96 <;> omega) | (simp at hc93 <;> omega)
           exact (if_neg hk0).trans (if_neg hk1)
       refine Tr.skip ?_
       refine ⟨rfl, Sub.of ⟨rfl, rfl, rfl, rfl, rfl, rfl, rfl, trivial⟩, funext (lkq [112, 109, 2010, 2001, 2002, 2003, 115, 2019] rfl rfl ⟨(by first | rfl | (rw [hX]; rfl)), rfl, rfl, (by first | rfl | (rw [hX]; rfl)), (by first | rfl | (rw [hX]; rfl)), rfl, rfl, rfl, trivial⟩)⟩
      refine sm 4 rfl <| nL <| Tr.condF rfl ?_
      have hX : gAny l (gRec l d) all p g1 = ((qS l all g1 m1).1, (qK l all g1 m1).2) := by
        unfold gAny
        simp only [e2]
        cases d with
        | zero => rfl
        | succ m =>
          have hk0 : ¬ (gPick l 6 (qS l all g1 m1).2).1 = 0 := by first | (simp at hb52 <;> omega) | (simp at hc49 <;> omega)
          have hk1 : ¬ (gPick l 6 (qS l all g1 m1).2).1 = 1 := by first | (simp at hb96 <;> omega) | (simp at hc93 <;> omega)
          exact (if_neg hk0).trans (if_neg hk1)
      refine Tr.skip ?_
      refine ⟨rfl, Sub.of ⟨rfl, rfl, rfl, rfl, rfl, rfl, rfl, trivial⟩, funext (lkq [112, 109, 2010, 2001, 2002, 2003, 115, 2019] rfl rfl ⟨(by first | rfl | (rw [hX]; rfl)), rfl, rfl, (by first | rfl | (rw [hX]; rfl)), (by first | rfl | (rw [hX]; rfl)), rfl, rfl, rfl, trivial⟩)⟩
     refine sm 4 rfl <| nL <| Tr.condF rfl <| tQ <| tG <| sm 3 rfl ?_
     refine wS 96 rfl (fun hb96 => ?_) fun hb96 => ?_
     ·refine sm 4 rfl <| nL ?_
      refine tC rfl (fun hc93 => ?_) fun hc93 => ?_
      ·have hk1 : (gPick l 6 (qS l all g1 m1).2).1 = 1 := by simp at hb96; omega
       obtain ⟨m, rfl⟩ : ∃ m, d = m + 1 := ⟨d - 1, by simp at hc93; omega⟩
       obtain ⟨hTb, hTl⟩ : Bd 3 0 (qK l all g1 m1).2 (qT l all g1 m1).2 ∧ (qT l all g1 m1).1.length ≤ 2 := bd_types l (qK l all g1 m1).2
       have hT1 := hTb.ps
       have hT2 := hTb.t1
       have hT3 := hTb.t2
       have hT4 := hTb.lf
       obtain ⟨hOb, hOl⟩ : Bd 3 0 (qT l all g1 m1).2 (qO l all g1 m1).2 ∧ (qO l all g1 m1).1.length ≤ 2 := bd_types l (qT l all g1 m1).2
       have hO1 := hOb.ps
       have hO2 := hOb.t1
       have hO3 := hOb.t2
       have hO4 := hOb.lf
       have hLP : Plc.small (qL l all g1 m1) := ⟨by simp [qL], hTl, hOl⟩
       have hCb : Bd (qT l all g1 m1).1.length 0 (qO l all g1 m1).2 (qE l all g1 m1).2 := bd_each l all (qT l all g1 m1).1 (qO l all g1 m1).2
       have hC1 := hCb.ps
       have hC2 := hCb.t1
       have hC3 := hCb.t2
       have hC4 := hCb.lf
       have hQb : Bd 0 (qT l all g1 m1).1.length (qE l all g1 m1).2 (qQ l all g1 m1).2 := bd_outs (qT l all g1 m1).1 (qE l all g1 m1).2
       have hQ1 := hQb.ps
       have hQ2 := hQb.t1
       have hQ3 := hQb.t2
       have hQ4 := hQb.lf
       have hQl : (qQ l all g1 m1).1.length = (qT l all g1 m1).1.length := (gOuts_st (qT l all g1 m1).1 (qE l all g1 m1).2).2
       have hInQ : InR (qQ l all g1 m1).2.types (all ++ (qQ l all g1 m1).1) := (hIn.mono (by omega)).app (InR.outs _ _)
       have hBb : Bd 4 0 (qQ l all g1 m1).2 (qD l m all g1 m1).2 := bd_list l m (all ++ (qQ l all g1 m1).1) (qL l all g1 m1) (qQ l all g1 m1).2 hLP
       have hB1 := hBb.ps
       have hB2 := hBb.t1
       have hB3 := hBb.t2
       have hB4 := hBb.lf
       have hQl2 : ((qQ l all g1 m1).1.map eInt).length = (qQ l all g1 m1).1.length := by simp
       have hal : (all.map eInt).length = all.length := by simp
       have hQl3 := (gOuts_st (qT l all g1 m1).1 (qE l all g1 m1).2).2
       refine tQ <| tG <| sm 1 rfl <| cE rfl (ocr (sc_gTypes l (qK l all g1 m1).2 (by omega)) ent69 rfl (po2 rfl rfl) rfl (fun k (h : _) => .inr h) rfl rfl) <| sm 1 rfl <| cE rfl (ocr (sc_gTypes l (qT l all g1 m1).2 (by omega)) ent69 rfl (po2 rfl rfl) rfl (fun k (h : _) => .inr h) rfl rfl) <| sm 2 rfl <| nL <| tQ <| tG <| sm 3 rfl <| cE rfl (ocr (sc_gEachA l all (qT l all g1 m1).1 (qO l all g1 m1).2 (hIn.mono (by omega)) (by omega) (by omega)) ent70 rfl (po3 rfl rfl rfl) rfl (fun k (h : _) => .inr h) rfl rfl) ?_
       refine sm 2 rfl <| cE rfl (ocr (sc_gOuts l (qT l all g1 m1).1 (qE l all g1 m1).2 (by omega)) ent43 rfl (po2 rfl rfl) rfl (fun k (h : _) => .inr h) rfl rfl) <| cV rfl (ok_build_pure rfl rfl tZ38 tP38 rfl (firmB_ok rfl) rfl) <| c0 (ok_store_box_agg rfl rfl rfl rfl rfl ((fun h => h)) tS38 (firmL_ok rfl) (lb rfl)) <| nL <| tQ <| Tr.fixNil (k := 112) rfl (fun h => h) <| tG <| sm 1 rfl <| nL <| tQ <| Tr.grow (t := 19) (k := 2019) ⟨3, 1⟩ rfl rfl rfl rfl rfl ?_
       refine tG <| sm 2 rfl ?_
       refine cE rfl (ok_append_row rfl rfl rfl rfl rfl rfl rfl (by simp) Tryz.underlying35 tB3 (by decide) hw_int hone_int (by simp [maxLen]; omega) (by simp; omega)) ?_
       refine sm 1 rfl <| nL <| tQ <| tG <| sm 3 rfl ?_
       refine cE rfl (ok_append rfl rfl rfl rfl (by (simp; done)) ((fun h => h)) Tryz.underlying35 tB3 (by decide) (hw_int) (hone_int) (by simp [maxLen, chunks]; omega) (by simp [chunks]; omega)) ?_
       refine sm 1 rfl <| nL <| tQ ?_
       refine Tr.heap (σ' := look [(2019, some (rowI (all ++ (qQ l all g1 m1).1))), (112, some (.box [.pv (vInt (.mk 11 0 0 nName (qE l all g1 m1).1 [] (qQ l all g1 m1).1 [] : Nd).kind), .pv (vInt (.mk 11 0 0 nName (qE l all g1 m1).1 [] (qQ l all g1 m1).1 [] : Nd).op), .pv (vInt (.mk 11 0 0 nName (qE l all g1 m1).1 [] (qQ l all g1 m1).1 [] : Nd).n), .pv (vStr (.mk 11 0 0 nName (qE l all g1 m1).1 [] (qQ l all g1 m1).1 [] : Nd).name), .pv (ints (.mk 11 0 0 nName (qE l all g1 m1).1 [] (qQ l all g1 m1).1 [] : Nd).args), .pv (ints (.mk 11 0 0 nName (qE l all g1 m1).1 [] (qQ l all g1 m1).1 [] : Nd).outs), .pv (ints (.mk 11 0 0 nName (qE l all g1 m1).1 [] (qQ l all g1 m1).1 [] : Nd).params), .pv (kids (.mk 11 0 0 nName (qE l all g1 m1).1 [] (qQ l all g1 m1).1 [] : Nd).kids)])), (109, some (.row ⟨38, 8⟩ (out.map Nd.enc))), (2010, some (rowI all)), (2001, some (genBox l (qQ l all g1 m1).2)), (2002, some (rowI (qQ l all g1 m1).2.types)), (2003, some (rowI seen))]) (lkq [2019, 112, 109, 2010, 2001, 2002, 2003] rfl rfl ⟨(congrArg (fun z => some (HO.row _ z)) (by simp [qQ])), rfl, rfl, rfl, rfl, rfl, rfl, trivial⟩) ?_
       refine tG <| sm 4 rfl <| cV rfl (ok_build_pure rfl rfl tZ86 tP86 rfl (firmB_ok rfl) rfl) <| sm 1 rfl <| cV rfl (oB rfl rfl (i64_sub rfl (by omega))) ?_
       refine cE rfl (ok_callr ((ih m rfl).at2019 (all ++ (qQ l all g1 m1).1) (qL l all g1 m1) (qQ l all g1 m1).2 hInQ hLP (by omega) (by omega) (by rw [List.length_append]; omega)) ent45 rfl rfl (Subs.same rfl (Subs.same (congrArg (fun n => IV.sl 2019 n) (by simp [qQ])) (Subs.cons (fun _ _ _ _ h => sub_pv (q := plcv (qL l all g1 m1)) (PSub.agg (ps := [vBool false, vBool true, .val (.slice none 0 0), ints (qT l all g1 m1).1, ints (qO l all g1 m1).1]) (And.intro (PSub.refl _) (And.intro (PSub.refl _) (And.intro PSub.nil (And.intro (PSub.refl _) (And.intro (PSub.refl _) trivial)))))) h) (Subs.same (congrArg (fun z => iInt z) (by omega)) Subs.nil)))) (po3 rfl rfl rfl) (by rfl) (fun k (h : _) => .inr h) rfl (by rfl)) ?_
       refine cE rfl (ok_buildSlice rfl rfl Tryz.underlying36 tZ39 tS39 rfl rfl rfl rfl (firmB_ok rfl) rfl) <| sm 1 rfl <| c0 (ok_store_box rfl rfl rfl rfl ((fun h => h)) tS36 (rfl) (lb rfl)) <| nL <| tQ <| Tr.drop (k := 2019) <| tG <| cV rfl (ok_load_box_pure rfl rfl rfl Tryz.underlying38 rfl tS38 (lb rfl) rfl trivial) <| cE rfl (ocq (sc_r8Closed (.mk 11 0 0 nName (qE l all g1 m1).1 [] (qQ l all g1 m1).1 [(qD l m all g1 m1).1] : Nd)) ent71 rfl rfl) <| sm 1 rfl <| nL ?_
       refine tC rfl (fun hc131 => ?_) fun hc131 => ?_
       ·have hX : gAny l (gRec l (m + 1)) all p g1 = ((.mk 11 0 0 nName (qE l all g1 m1).1 (gOuts (qO l all g1 m1).1 (qD l m all g1 m1).2).1 (qQ l all g1 m1).1 [(qD l m all g1 m1).1] : Nd), (gOuts (qO l all g1 m1).1 (qD l m all g1 m1).2).2) := by
          have hcl : r8Closed (.mk 11 0 0 nName (qE l all g1 m1).1 [] (qQ l all g1 m1).1 [(qD l m all g1 m1).1] : Nd) = false := by simpa using hc131
          have hk0 : ¬ (gPick l 6 (qS l all g1 m1).2).1 = 0 := by omega
          unfold gAny
          simp only [gRec, e2]
          exact (if_neg hk0).trans ((if_pos hk1).trans (if_neg (fun h => Bool.noConfusion (hcl.symm.trans h))))
        refine tG <| sm 2 rfl <| cE rfl (ocr (sc_gOuts l (qO l all g1 m1).1 (qD l m all g1 m1).2 (by omega)) ent43 rfl (po2 rfl rfl) rfl (fun k (h : _) => .inr h) rfl rfl) <| sm 1 rfl <| c0 (ok_store_box rfl rfl rfl rfl ((fun h => h)) tS35 (rfl) (lb rfl)) <| nL ?_
        refine ⟨rfl, Sub.of ⟨rfl, rfl, rfl, rfl, rfl, rfl, rfl, trivial⟩, funext (lkq [112, 109, 2010, 2001, 2002, 2003, 115, 2019] rfl rfl ⟨(by first | rfl | (rw [hX]; rfl)), rfl, rfl, (by first | rfl | (rw [hX]; rfl)), (by first | rfl | (rw [hX]; rfl)), rfl, rfl, rfl, trivial⟩)⟩
       have hX : gAny l (gRec l (m + 1)) all p g1 = ((.mk 11 0 0 nName (qE l all g1 m1).1 [] (qQ l all g1 m1).1 [(qD l m all g1 m1).1] : Nd), (qD l m all g1 m1).2) := by
         have hcl : r8Closed (.mk 11 0 0 nName (qE l all g1 m1).1 [] (qQ l all g1 m1).1 [(qD l m all g1 m1).1] : Nd) = true := by simpa using hc131
         have hk0 : ¬ (gPick l 6 (qS l all g1 m1).2).1 = 0 := by omega
         unfold gAny
         simp only [gRec, e2]
         exact (if_neg hk0).trans ((if_pos hk1).trans (if_pos hcl))
       refine Tr.skip ?_
       refine ⟨rfl, Sub.of ⟨rfl, rfl, rfl, rfl, rfl, rfl, rfl, trivial⟩, funext (lkq [112, 109, 2010, 2001, 2002, 2003, 115, 2019] rfl rfl ⟨(by first | rfl | (rw [hX]; rfl)), rfl, rfl, (by first | rfl | (rw [hX]; rfl)), (by first | rfl | (rw [hX]; rfl)), rfl, rfl, rfl, trivial⟩)⟩
      have hX : gAny l (gRec l d) all p g1 = ((qS l all g1 m1).1, (qK l all g1 m1).2) := by
        unfold gAny
        simp only [e2]
        cases d with
        | zero => rfl
        | succ m =>
          have hk0 : ¬ (gPick l 6 (qS l all g1 m1).2).1 = 0 := by first | (simp at hb52 <;> omega) | (simp at hc49 <;> omega)
          have hk1 : ¬ (gPick l 6 (qS l all g1 m1).2).1 = 1 := by first | (simp at hb96 <;> omega) | (simp at hc93 <;> omega)
          exact (if_neg hk0).trans (if_neg hk1)
      refine Tr.skip ?_
      refine ⟨rfl, Sub.of ⟨rfl, rfl, rfl, rfl, rfl, rfl, rfl, trivial⟩, funext (lkq [112, 109, 2010, 2001, 2002, 2003, 115, 2019] rfl rfl ⟨(by first | rfl | (rw [hX]; rfl)), rfl, rfl, (by first | rfl | (rw [hX]; rfl)), (by first | rfl | (rw [hX]; rfl)), rfl, rfl, rfl, trivial⟩)⟩
     refine sm 4 rfl <| nL <| Tr.condF rfl ?_
     have hX : gAny l (gRec l d) all p g1 = ((qS l all g1 m1).1, (qK l all g1 m1).2) := by
       unfold gAny
       simp only [e2]
       cases d with
       | zero => rfl
       | succ m =>
         have hk0 : ¬ (gPick l 6 (qS l all g1 m1).2).1 = 0 := by first | (simp at hb52 <;> omega) | (simp at hc49 <;> omega)
         have hk1 : ¬ (gPick l 6 (qS l all g1 m1).2).1 = 1 := by first | (simp at hb96 <;> omega) | (simp at hc93 <;> omega)
         exact (if_neg hk0).trans (if_neg hk1)
     refine Tr.skip ?_
     refine ⟨rfl, Sub.of ⟨rfl, rfl, rfl, rfl, rfl, rfl, rfl, trivial⟩, funext (lkq [112, 109, 2010, 2001, 2002, 2003, 115, 2019] rfl rfl ⟨(by first | rfl | (rw [hX]; rfl)), rfl, rfl, (by first | rfl | (rw [hX]; rfl)), (by first | rfl | (rw [hX]; rfl)), rfl, rfl, rfl, trivial⟩)⟩
    refine tQ ?_
    have hol : (out.map Nd.enc).length = out.length := by simp
    have hal : (all.map eInt).length = all.length := by simp
    have hxo : ((gAny l (gRec l d) all p g1).1.outs.map eInt).length = (gAny l (gRec l d) all p g1).1.outs.length := by simp
    have hxo2 := hXo.2
    refine tG <| sm 1 rfl <| cV rfl (ok_load_box_pure rfl rfl rfl Tryz.underlying38 rfl tS38 (lb rfl) rfl trivial) <| cE rfl (ok_buildSlice rfl rfl Tryz.underlying39 tZ38 tS38 rfl rfl rfl rfl (firmB_ok rfl) rfl) ?_
    refine cE rfl (ok_append rfl rfl rfl rfl (by rfl) ((fun h => h)) Tryz.underlying39 tB38 (by decide) (by (simp [chunks]; done)) (hone_cells _) (by simp [maxLen, chunks]; omega) (by simp [chunks]; omega)) ?_
    refine sm 1 rfl <| nL <| tQ <| tQ <| tG <| cV rfl (ok_load_box_pure rfl rfl rfl Tryz.underlying38 rfl tS38 (lb rfl) rfl trivial) <| cE rfl (ocq (sc_r8Closed (gAny l (gRec l d) all p g1).1) ent71 rfl rfl) <| nL ?_
    refine tC rfl (fun hc141 => ?_) fun hc141 => ?_
    ·refine tQ ?_
     have hres : gList l d seen p g = (out ++ [(gAny l (gRec l d) all p g1).1], (gAny l (gRec l d) all p g1).2) := by rw [← hI, gNodes, if_neg hleft, if_pos hc141]
     refine tG <| sm 2 rfl <| nL ?_
     refine Tr.freeze (t := 8) (k := 109) rfl rfl (by simp [chunks]) ?_
     refine Tr.ret ?_
     rw [hres]
     refine ret_ok rfl (congrArg (fun z => IV.pv (.seq z)) (by simp [chunks, Nd.enc_eq, Nd.cells_eta])) (po3 rfl rfl rfl)
    refine Tr.skip <| tG <| sm 3 rfl ?_
    refine cE rfl (ok_append rfl rfl rfl rfl (by rfl) ((fun h => h)) Tryz.underlying35 tB3 (by decide) (hw_int) (hone_int) (by simp [maxLen, chunks]; omega) (by simp [chunks]; omega)) ?_
    refine sm 1 rfl <| nL <| Tr.drop (k := 112) <| tG <| sm 1 rfl <| cV rfl (oB rfl rfl (i64_sub rfl (by omega))) <| sm 1 rfl <| nL ?_
    refine ⟨_, _, ?_, Sub.of (fr' := [(11, iInt ((n1 : Nat) : Int)), (10, .sl 2010 ((all ++ (gAny l (gRec l d) all p g1).1.outs).map eInt).length), (9, .sl 109 ((out ++ [(gAny l (gRec l d) all p g1).1]).map Nd.enc).length), (6, .pv (.ept [vBool p.If, vBool p.Loop, ints p.Yield, ints p.Next, ints p.Left] 0)), (0, .ptr 2001 0), (3, iInt (d : Int))]) ⟨congrArg (fun z => some (iInt z)) (by omega), congrArg (fun z => some (IV.sl _ z)) (by simp), congrArg (fun z => some (IV.sl _ z)) (by simp [chunks]), rfl, rfl, rfl, trivial⟩, n1, (out ++ [(gAny l (gRec l d) all p g1).1]), (all ++ (gAny l (gRec l d) all p g1).1.outs), (gAny l (gRec l d) all p g1).2, ?_, ?_, ?_, ?_, ?_, ?_, rfl, (funext (lkq [112, 109, 2010, 2001, 2002, 2003] rfl rfl ⟨rfl, (by first | rfl | exact congrArg (fun z => some (HO.row _ z)) (by simp [chunks, Nd.enc_eq, Nd.cells_eta]) | exact congrArg (fun z => some (HO.row _ z)) (by simp)), (by first | rfl | exact congrArg (fun z => some (HO.row _ z)) (by simp [chunks, Nd.enc_eq, Nd.cells_eta]) | exact congrArg (fun z => some (HO.row _ z)) (by simp)), rfl, rfl, rfl, trivial⟩)), rfl⟩
    ·omega
    ·rw [← hI, gNodes, if_neg hleft, if_neg (by rw [hc141]; decide)]
    ·exact (hIn.mono hXb.t1).app hXo.1
    ·have := hXb.ps; omega
    ·have := hXb.t2; omega
    ·have := hXo.2; rw [List.length_append]; have := hXl; omega
    simp; omega
   refine Tr.exit <| tQ ?_
   have hres : gList l d seen p g = (out ++ [(gEnd l all p g1).1], (gEnd l all p g1).2) := by
     rw [← hI]
     (have h0 : g1.left = 0 := by simpa using hc33
      cases n with
      | zero => rw [gNodes]
      | succ n => rw [gNodes, if_pos h0])
   have hol : (out.map Nd.enc).length = out.length := by simp
   refine tG <| sm 3 rfl <| cV rfl (ok_load_ept_agg rfl rfl Tryz.underlying86 rfl tS86 (lb rfl)) <| cE rfl (ocr (sc_gEndA l all p g1 hIn (by omega) (by omega) hp) ent72 rfl (po3 rfl rfl rfl) rfl (fun k (h : _) => .inr h) rfl rfl) <| cE rfl (ok_buildSlice rfl rfl Tryz.underlying39 tZ38 tS38 rfl rfl rfl rfl (firmB_ok rfl) rfl) ?_
   refine cE rfl (ok_append rfl rfl rfl rfl (by rfl) ((fun h => h)) Tryz.underlying39 tB38 (by decide) (by (simp [chunks]; done)) (hone_cells _) (by simp [maxLen, chunks]; omega) (by simp [chunks]; omega)) ?_
   refine sm 1 rfl <| nL ?_
   refine Tr.freeze (t := 8) (k := 109) rfl rfl (by simp [chunks]) ?_
   refine Tr.ret ?_
   rw [hres]
   refine ret_ok rfl (congrArg (fun z => IV.pv (.seq z)) (by simp [chunks, Nd.enc_eq, Nd.cells_eta])) (po3 rfl rfl rfl)
  refine sm 6 rfl <| nL <| Tr.condF rfl <| Tr.exit <| tQ ?_
  have hres : gList l d seen p g = (out ++ [(gEnd l all p g1).1], (gEnd l all p g1).2) := by
    rw [← hI]
    (have h0 : n = 0 := by simpa using hb27
     rw [h0, gNodes]
     done)
  have hol : (out.map Nd.enc).length = out.length := by simp
  refine tG <| sm 3 rfl <| cV rfl (ok_load_ept_agg rfl rfl Tryz.underlying86 rfl tS86 (lb rfl)) <| cE rfl (ocr (sc_gEndA l all p g1 hIn (by omega) (by omega) hp) ent72 rfl (po3 rfl rfl rfl) rfl (fun k (h : _) => .inr h) rfl rfl) <| cE rfl (ok_buildSlice rfl rfl Tryz.underlying39 tZ38 tS38 rfl rfl rfl rfl (firmB_ok rfl) rfl) ?_
  refine cE rfl (ok_append rfl rfl rfl rfl (by rfl) ((fun h => h)) Tryz.underlying39 tB38 (by decide) (by (simp [chunks]; done)) (hone_cells _) (by simp [maxLen, chunks]; omega) (by simp [chunks]; omega)) ?_
  refine sm 1 rfl <| nL ?_
  refine Tr.freeze (t := 8) (k := 109) rfl rfl (by simp [chunks]) ?_
  refine Tr.ret ?_
  rw [hres]
  refine ret_ok rfl (congrArg (fun z => IV.pv (.seq z)) (by simp [chunks, Nd.enc_eq, Nd.cells_eta])) (po3 rfl rfl rfl)
theorem sc_gList (l : List UInt8) : ∀ d, d ≤ 100 → LSCg l d
  | 0, h => fun seen p g h1 h2 h3 h4 h5 => sc_gList0 l 0 h (fun m e => by omega) seen p g h1 h2 h3 h4 h5
  | d + 1, h => fun seen p g h1 h2 h3 h4 h5 => sc_gList0 l (d + 1) h (fun m e => by obtain rfl : d = m := (by omega); exact sc_gList l d (by omega)) seen p g h1 h2 h3 h4 h5
theorem sc_gList3 (l : List UInt8) (seen : List Int) (p : Plc) (g : Gn) (h1 : InR g.types seen) (h2 : p.small) (h3 : g.pos + 60 * g.left ≤ 900000) (h4 : g.types.length + 10 * g.left ≤ 900000) (h5 : seen.length + 10 * g.left ≤ 900000) :
    SC Tryz.prog 45 [.ptr 2001 0, .sl 2005 (seen.map eInt).length, .pv (plcv p), iInt 3] (gHr 2005 l g seen) (fun _ => False) (.pv (nodes (gList l 3 seen p g).1)) (gHr 2005 l (gList l 3 seen p g).2 seen) := SC.sw 2003 2005 (sc_gList l 3 (by omega) seen p g h1 h2 h3 h4 h5)
def genF (l : List UInt8) (g : Gn) (ty : PV) : HO := .box [.pv (bts l), iInt (g.pos : Int), .pv ty, iInt (g.left : Int)]
theorem plc0_sub : PSub (.agg [vBool false, vBool false, .val (.slice none 0 0), .val (.slice none 0 0), .val (.slice none 0 0)]) (plcv plc0) := nilP_agg [vBool false, vBool false, .val (.slice none 0 0), .val (.slice none 0 0), .val (.slice none 0 0)]
theorem sc_gFlow (l : List UInt8) (name : ByteArray) (params : List Int) (hpl : params.length ≤ 10) (g : Gn) (hb : g.pos ≤ 500000) (ty : PV) : SC Tryz.prog 24 [.ptr 2001 0, iStr name, .pv (ints params)] [(2001, genF l g ty)] (fun _ => False) (.pv (.agg (gFlow l name params g).1.enc)) [(2001, genF l (gFlow l name params g).2 (ints (gFlow l name params g).2.types))] := by
  refine SC.ofC Tryz.func24 rfl (lb rfl) rfl fun F ρ w => ?_
  refine Tr.lenOf (t := 2) rfl (fun hl => ?_)
  simp only [List.length_map] at hl
  have hS := (gOuts_st params { g with types := [], left := 30 }).1
  have hSl := (gOuts_st params { g with types := [], left := 30 }).2
  have hSin := InR.outs params { g with types := [], left := 30 }
  have hst : (gOuts params { g with types := [], left := 30 }).2.types.length = params.length := by rw [hS]; simp
  have hsp : (gOuts params { g with types := [], left := 30 }).2.pos = g.pos ∧ (gOuts params { g with types := [], left := 30 }).2.left = 30 := by rw [hS]; exact ⟨rfl, rfl⟩
  have hbt : (gFresh 2 (gFresh 1 (gOuts params { g with types := [], left := 30 }).2).2).2.types.length = params.length + 2 := by simp [gFresh, hst]
  have hbp : (gFresh 2 (gFresh 1 (gOuts params { g with types := [], left := 30 }).2).2).2.pos = g.pos ∧ (gFresh 2 (gFresh 1 (gOuts params { g with types := [], left := 30 }).2).2).2.left = 30 := hsp
  have hin : InR (gFresh 2 (gFresh 1 (gOuts params { g with types := [], left := 30 }).2).2).2.types ((gOuts params { g with types := [], left := 30 }).1 ++ [(gFresh 1 (gOuts params { g with types := [], left := 30 }).2).1, (gFresh 2 (gFresh 1 (gOuts params { g with types := [], left := 30 }).2).2).1]) := by
    refine (hSin.mono (by omega)).app fun s hs => ?_
    simp only [List.mem_cons, List.not_mem_nil, or_false] at hs
    rcases hs with rfl | rfl
    ·rw [hbt]; simp only [gFresh, hst]; omega
    rw [hbt]; simp only [gFresh, List.length_append, List.length_cons, List.length_nil, hst]; omega
  have hsl2 : ((gOuts params { g with types := [], left := 30 }).1.map eInt).length = (gOuts params { g with types := [], left := 30 }).1.length := by simp
  refine tQ <| tG <| cE rfl (ok_alloc (k := 106) rfl tZ41 rfl rfl rfl rfl) <| nL <| tQ <| tG <| sm 2 rfl <| cV rfl (ok_nilCheck rfl rfl rfl) <| sm 1 rfl <| c0 (ok_store_box rfl rfl rfl rfl ((fun h => h)) tS35 (rfl) (lb rfl)) <| cV rfl (ok_nilCheck rfl rfl rfl) <| sm 1 rfl ?_
  refine c0 (ok_store_box rfl rfl rfl rfl ((fun h => h)) tS3 (rfl) (lb rfl)) <| nL <| tQ <| Tr.growCell (k := 2002) (k2 := 2001) (j := 2) ⟨3, 1⟩ rfl rfl rfl rfl rfl rfl <| Tr.heap (σ' := look [(106, some (.box [.pv (vStr ⟨#[]⟩), iInt 0, iInt 0, .pv (.val (.slice none 0 0)), .pv (.val (.slice none 0 0))])), (2001, some (genBox l { g with types := [], left := 30 })), (2002, some (rowI []))]) (lkq [106, 2001, 2002] rfl rfl ⟨rfl, rfl, rfl, trivial⟩) <| tG <| sm 2 rfl <| cE rfl (ok_calln (k0 := 2005) (sc_gOutsN l params { g with types := [], left := 30 } (by show 0 + params.length ≤ 1000000; omega)) ent43 rfl rfl (Subs.refl _ _) (po2 rfl rfl) rfl rfl rfl rfl rfl (fun k (h : _) => .inr h) rfl (by rfl)) <| sm 1 rfl <| nL <| tQ <| tG ?_
  refine sm 1 rfl <| cE rfl (ocr (sc_gFresh l 1 (gOuts params { g with types := [], left := 30 }).2 (by omega)) ent44 rfl (po2 rfl rfl) rfl (fun k (h : _) => .inr h) rfl rfl) <| sm 1 rfl ?_
  refine cE rfl (ocr (sc_gFresh l 2 (gFresh 1 (gOuts params { g with types := [], left := 30 }).2).2 (by simp only [gFresh, List.length_append, List.length_cons, List.length_nil]; omega)) ent44 rfl (po2 rfl rfl) rfl (fun k (h : _) => .inr h) rfl rfl) ?_
  refine sm 2 rfl <| nL <| tQ <| tG <| sm 1 rfl <| cE rfl (ok_buildSlice rfl rfl Tryz.underlying35 tZ3 tS3 rfl rfl rfl rfl (firmB_ok rfl) rfl) <| cV rfl (ok_build_pure rfl rfl tZ38 tP38 rfl (firmB_ok rfl) rfl) <| WL.sub (Sub.cons2 (fun _ _ _ _ h => sub_pv (nilP_agg _) h) Sub.rfl') <| sm 1 rfl <| cE rfl (ok_buildSlice rfl rfl Tryz.underlying35 tZ3 tS3 rfl rfl rfl rfl (firmB_ok rfl) rfl) <| cV rfl (ok_build_pure rfl rfl tZ38 tP38 rfl (firmB_ok rfl) rfl) <| WL.sub (Sub.cons2 (fun _ _ _ _ h => sub_pv (nilP_agg _) h) Sub.rfl') ?_
  refine cE rfl (ok_buildSliceOwn (k := 110) rfl rfl Tryz.underlying39 tZ38 tS38 rfl rfl rfl rfl (firmB_ok rfl) rfl rfl rfl rfl rfl) <| sm 1 rfl <| nL <| tQ <| tG <| sm 3 rfl <| cE rfl (ok_buildSlice rfl rfl Tryz.underlying35 tZ3 tS3 rfl rfl rfl rfl (firmB_ok rfl) rfl) ?_
  refine cE rfl (ok_append rfl rfl rfl rfl (by rfl) (by simp) Tryz.underlying35 tB3 (by decide) (by simp [chunks]) (hone_int (l := [(gFresh 1 (gOuts params { g with types := [], left := 30 }).2).1, (gFresh 2 (gFresh 1 (gOuts params { g with types := [], left := 30 }).2).2).1])) (by simp [maxLen, chunks]; omega) (by simp [chunks]; omega)) ?_
  refine sm 1 rfl <| nL <| tQ ?_
  refine Tr.heap (σ' := look [(106, some (.box [.pv (vStr ⟨#[]⟩), iInt 0, iInt 0, .pv (.val (.slice none 0 0)), .pv (.val (.slice none 0 0))])), (110, some (.row ⟨38, 8⟩ ((gBegin (gFresh 1 (gOuts params { g with types := [], left := 30 }).2).1 (gFresh 2 (gFresh 1 (gOuts params { g with types := [], left := 30 }).2).2).1).map Nd.enc))), (2005, some (rowI ((gOuts params { g with types := [], left := 30 }).1 ++ [(gFresh 1 (gOuts params { g with types := [], left := 30 }).2).1, (gFresh 2 (gFresh 1 (gOuts params { g with types := [], left := 30 }).2).2).1]))), (2001, some (genBox l (gFresh 2 (gFresh 1 (gOuts params { g with types := [], left := 30 }).2).2).2)), (2002, some (rowI (gFresh 2 (gFresh 1 (gOuts params { g with types := [], left := 30 }).2).2).2.types))]) (lkq [106, 110, 2005, 2001, 2002] rfl rfl ⟨rfl, rfl, (congrArg (fun z => some (HO.row _ z)) (by simp [chunks, eInt])), rfl, rfl, trivial⟩) ?_
  refine tG <| sm 3 rfl <| cV rfl (ok_build_pure rfl rfl tZ86 tP86 rfl (firmB_ok rfl) rfl) ?_
  have hli := bd_list l 3 ((gOuts params { g with types := [], left := 30 }).1 ++ [(gFresh 1 (gOuts params { g with types := [], left := 30 }).2).1, (gFresh 2 (gFresh 1 (gOuts params { g with types := [], left := 30 }).2).2).1]) plc0 (gFresh 2 (gFresh 1 (gOuts params { g with types := [], left := 30 }).2).2).2 ⟨by simp [plc0], by simp [plc0], by simp [plc0]⟩
  have hrl := gList_len l 3 ((gOuts params { g with types := [], left := 30 }).1 ++ [(gFresh 1 (gOuts params { g with types := [], left := 30 }).2).1, (gFresh 2 (gFresh 1 (gOuts params { g with types := [], left := 30 }).2).2).1]) plc0 (gFresh 2 (gFresh 1 (gOuts params { g with types := [], left := 30 }).2).2).2
  refine cE rfl (ok_callr (sc_gList3 l ((gOuts params { g with types := [], left := 30 }).1 ++ [(gFresh 1 (gOuts params { g with types := [], left := 30 }).2).1, (gFresh 2 (gFresh 1 (gOuts params { g with types := [], left := 30 }).2).2).1]) plc0 (gFresh 2 (gFresh 1 (gOuts params { g with types := [], left := 30 }).2).2).2 hin ⟨by simp [plc0], by simp [plc0], by simp [plc0]⟩ (by omega) (by omega) (by simp; omega)) ent45 rfl rfl (Subs.same rfl (Subs.same (congrArg (fun n => IV.sl 2005 n) (by simp [chunks_length])) (Subs.cons (fun _ _ _ _ h => sub_pv plc0_sub h) (Subs.same rfl Subs.nil)))) (po3 rfl rfl rfl) (by rfl) (fun k (h : _) => .inr h) rfl (by rfl)) ?_
  refine cE rfl (ok_append rfl rfl rfl rfl (by rfl) ((fun h => h)) Tryz.underlying39 tB38 (by decide) (hw_node) (hone_node) (by simp [maxLen, chunks]; omega) (by simp [chunks]; omega)) ?_
  refine sm 1 rfl <| nL <| tQ ?_
  refine Tr.freeze (t := 10) (k := 110) rfl rfl (by simp [chunks, gBegin]; omega) ?_
  refine Tr.freezeCell (k := 2002) (k2 := 2001) (j := 2) (n := ((gList l 3 ((gOuts params { g with types := [], left := 30 }).1 ++ [(gFresh 1 (gOuts params { g with types := [], left := 30 }).2).1, (gFresh 2 (gFresh 1 (gOuts params { g with types := [], left := 30 }).2).2).1]) plc0 (gFresh 2 (gFresh 1 (gOuts params { g with types := [], left := 30 }).2).2).2).2.types.map eInt).length) rfl rfl rfl rfl (by decide) <| tG <| sm 2 rfl <| cV rfl (oSm Tryz.underlying35 rfl) <| sm 1 rfl <| cV rfl (ok_nilCheck rfl rfl rfl) <| sm 3 rfl <| cV rfl (ok_build_pure rfl rfl tZ41 tP41 rfl (firmB_ok rfl) rfl) <| c0 (ok_store_box_agg rfl rfl rfl rfl rfl ((fun h => h)) tS41 (firmL_ok rfl) (lb rfl)) <| nL <| Tr.ret <| retC_ok (.inl rfl) (fun _ _ ho => ok_load_box_pure ho rfl rfl Tryz.underlying41 rfl tS41 (lb rfl) rfl trivial) ?_ (po1 rfl)
  rfl
set_option maxRecDepth 20000
set_option maxHeartbeats 2000000
theorem sc_made (l : List UInt8) : SC Tryz.prog 11 [.pv (bts l)] [] (fun _ => False) (.pv (made l).enc) [] := by
  refine SC.anyR (SC.vc tb { ids := [(7, 2001)], gh := [(5, [.fzC 104 1 116])] } [] Tryz.func11 rfl rfl ?_)
  have hb1 : (gFlow l mainName [] ⟨0, [], 0⟩).2.pos ≤ 2000 := gFlow_pos l mainName [] ⟨0, [], 0⟩ (by simp) (by simp)
  have h1 := sc_gFlow l mainName [] (by simp) ⟨0, [], 0⟩ (by simp) (.val (.slice none 0 0))
  have h2 := sc_gFlow l fName [1, 2] (by simp) (gFlow l mainName [] ⟨0, [], 0⟩).2 (by omega) (ints (gFlow l mainName [] ⟨0, [], 0⟩).2.types)
  exact ⟨[], h1, SubA.same (SubA.same (SubA.cons sN sR)), ⟨rfl, trivial⟩, rfl, rfl, flat1 rfl, by simp, rfl, [], h2, sR, ⟨rfl, trivial⟩, rfl, rfl, flat1 rfl, by simp, rfl, rfl, sI, trivial⟩
section
section
variable (l : List UInt8)
theorem wt_gNode (kind op n : Int) (name : ByteArray) (seen ins outs : List Int) (g : Gn) : wtN (gNode l kind op n name seen ins outs g).1 = ins.length + outs.length + name.size := by
  rw [wtN_eq]
  show (gEach l seen ins g).1.length + (gOuts outs _).1.length + 0 + name.size + 0 = _
  rw [(gEach_st l seen ins g).2, (gOuts_st outs _).2]
  omega
theorem wt_simple (seen : List Int) (g : Gn) : wtN (gSimple l seen g).1 ≤ 4 := by
  unfold gSimple
  simp only
  have hn : nName.size = 0 := rfl
  have ha : aName.size = 1 := rfl
  have hf : fName.size = 1 := rfl
  repeat' split
  all_goals (rw [wt_gNode]; simp only [List.length_cons, List.length_nil, hn, ha, hf]; omega)
theorem wt_end (seen : List Int) (p : Plc) (hp : p.small) (g : Gn) : wtN (gEnd l seen p g).1 ≤ 2 := by
  obtain ⟨h1, h2, h3⟩ := hp
  unfold gEnd
  simp only
  have hn : nName.size = 0 := rfl
  repeat' split
  all_goals (rw [wt_gNode]; simp only [List.length_cons, List.length_nil, hn]; omega)
def RecWt (N : Nat) (rec : GRec) : Prop := ∀ seen p g, p.small → wtL (rec seen p g).1 ≤ N ∧ (rec seen p g).1.length ≤ 6
theorem wt_shut (x : List Int → Nd) (t : List Int) (ht : t.length ≤ 2) (g : Gn) (N : Nat) (hx : ∀ o, wtN (x o) = o.length + N) : wtN (gShut x t g).1 ≤ N + 2 := by
  unfold gShut
  split
  ·rw [hx]; simp
  rw [hx, (gOuts_st t g).2]; omega
theorem wt_if {N : Nat} {rec : GRec} (hr : RecWt N rec) (all : List Int) (p : Plc) (hp : p.small) (g : Gn) : wtN (gIf l rec all p g).1 ≤ 2 * N + 20 := by
  unfold gIf
  simp only
  obtain ⟨_, h2⟩ := bd_types l g
  have hsm : Plc.small ⟨true, p.Loop, (gTypes l g).1, p.Next, p.Left⟩ := ⟨h2, hp.2.1, hp.2.2⟩
  refine Nat.le_trans (wt_shut _ _ h2 _ (1 + (1 + ((rec all ⟨true, p.Loop, (gTypes l g).1, p.Next, p.Left⟩ (gEach l all [2] (gTypes l g).2).2).1.length + wtL (rec all ⟨true, p.Loop, (gTypes l g).1, p.Next, p.Left⟩ (gEach l all [2] (gTypes l g).2).2).1) + (1 + ((rec all ⟨true, p.Loop, (gTypes l g).1, p.Next, p.Left⟩ (rec all ⟨true, p.Loop, (gTypes l g).1, p.Next, p.Left⟩ (gEach l all [2] (gTypes l g).2).2).2).1.length + wtL (rec all ⟨true, p.Loop, (gTypes l g).1, p.Next, p.Left⟩ (rec all ⟨true, p.Loop, (gTypes l g).1, p.Next, p.Left⟩ (gEach l all [2] (gTypes l g).2).2).2).1)))) fun o => ?_) ?_
  ·simp only [wtN, wtK, (gEach_st l all [2] (gTypes l g).2).2, show nName.size = 0 from rfl, List.length_cons, List.length_nil]
   omega
  have h3 := hr all _ (gEach l all [2] (gTypes l g).2).2 hsm
  have h4 := hr all _ (rec all ⟨true, p.Loop, (gTypes l g).1, p.Next, p.Left⟩ (gEach l all [2] (gTypes l g).2).2).2 hsm
  omega
theorem wt_loop {N : Nat} {rec : GRec} (hr : RecWt N rec) (all : List Int) (g : Gn) : wtN (gLoop l rec all g).1 ≤ 2 * N + 20 := by
  unfold gLoop
  simp only
  obtain ⟨_, h2⟩ := bd_types l g
  obtain ⟨_, h4⟩ := bd_types l (gTypes l g).2
  generalize hA : gEach l all (gTypes l g).1 (gTypes l (gTypes l g).2).2 = A
  have hAl : A.1.length ≤ 2 := by rw [← hA, (gEach_st l all _ _).2]; exact h2
  generalize hQ : gOuts (gTypes l g).1 A.2 = Q
  have hQl : Q.1.length ≤ 2 := by rw [← hQ, (gOuts_st _ _).2]; exact h2
  have h5 := hr (all ++ Q.1) ⟨false, true, [], (gTypes l g).1, (gTypes l (gTypes l g).2).1⟩ Q.2 ⟨by simp, h2, h4⟩
  generalize hB : rec (all ++ Q.1) ⟨false, true, [], (gTypes l g).1, (gTypes l (gTypes l g).2).1⟩ Q.2 = B at h5
  refine Nat.le_trans (wt_shut _ _ h4 _ (A.1.length + Q.1.length + (1 + (B.1.length + wtL B.1))) fun o => ?_) ?_
  ·simp only [wtN, wtK, show nName.size = 0 from rfl]
   omega
  omega
theorem wt_any {N : Nat} {rec : Option GRec} (hr : ∀ r, rec = some r → RecWt N r) (all : List Int) (p : Plc) (hp : p.small) (g : Gn) : wtN (gAny l rec all p g).1 ≤ 2 * N + 20 := by
  have hs := wt_simple l all { g with left := g.left - 1 }
  unfold gAny
  simp only
  cases rec with
  | none => exact Nat.le_trans hs (by omega)
  | some r =>
    simp only
    split
    ·exact wt_if l (hr r rfl) all p hp _
    split
    ·exact wt_loop l (hr r rfl) all _
    exact Nat.le_trans hs (by omega)
theorem wt_nodes {N : Nat} {rec : Option GRec} (hr : ∀ r, rec = some r → RecWt N r) (p : Plc) (hp : p.small) : ∀ (i : Nat) (out : List Nd) (all : List Int) (g : Gn), wtL (gNodes l rec p i out all g).1 ≤ wtL out + (i + 1) * (2 * N + 20)
  | 0, out, all, g => by
    have := wt_end l all p hp g
    simp only [gNodes, wtL_app, wtL]
    omega
  | i + 1, out, all, g => by
    have he := wt_end l all p hp g
    have hx := wt_any l hr all p hp g
    have e : (i + 1 + 1) * (2 * N + 20) = (i + 1) * (2 * N + 20) + (2 * N + 20) := Nat.succ_mul _ _
    unfold gNodes
    split
    ·simp only [wtL_app, wtL]; omega
    simp only
    split
    ·simp only [wtL_app, wtL]; omega
    have := wt_nodes hr p hp i (out ++ [(gAny l rec all p g).1]) (all ++ (gAny l rec all p g).1.outs) (gAny l rec all p g).2
    simp only [wtL_app, wtL] at this ⊢
    omega
def wtMax : Nat → Nat
  | 0 => 120
  | d + 1 => 6 * (2 * wtMax d + 20)
theorem wtMax_succ (d : Nat) : wtMax (d + 1) = 6 * (2 * wtMax d + 20) := rfl
theorem wt_gList (d : Nat) : RecWt (wtMax d) (gList l d) := by
  induction d with
  | zero =>
    intro seen p g hp
    refine ⟨?_, gList_len l 0 seen p g⟩
    have h6 : (gPick l 6 g).1 < 6 := gPick_lt (by omega)
    have := wt_nodes l (N := 0) (rec := none) (fun r h => by cases h) p hp (gPick l 6 g).1 [] seen (gPick l 6 g).2
    rw [gList_eq]
    show wtL (gNodes l none p (gPick l 6 g).1 [] seen (gPick l 6 g).2).1 ≤ wtMax 0
    generalize wtL (gNodes l none p (gPick l 6 g).1 [] seen (gPick l 6 g).2).1 = z at this
    generalize (gPick l 6 g).1 = k at *
    have e : wtMax 0 = 120 := rfl
    simp only [wtL, Nat.zero_add, Nat.mul_zero] at this
    rw [e]
    omega
  | succ d ih =>
    intro seen p g hp
    refine ⟨?_, gList_len l (d + 1) seen p g⟩
    have h6 : (gPick l 6 g).1 < 6 := gPick_lt (by omega)
    have := wt_nodes l (N := wtMax d) (rec := some (gList l d)) (fun r h => by cases h; exact ih) p hp (gPick l 6 g).1 [] seen (gPick l 6 g).2
    rw [gList_eq]
    rw [show gRec l (d + 1) = some (gList l d) from rfl, wtMax_succ]
    generalize wtL (gNodes l (some (gList l d)) p (gPick l 6 g).1 [] seen (gPick l 6 g).2).1 = z at this
    generalize (gPick l 6 g).1 = k at *
    generalize wtMax d = m at *
    have h7 : (k + 1) * (2 * m + 20) ≤ 6 * (2 * m + 20) := Nat.mul_le_mul_right _ (by omega)
    simp only [wtL, Nat.zero_add] at this
    exact Nat.le_trans this h7
theorem wt_flow (name : ByteArray) (params : List Int) (hp : params.length ≤ 10) (g : Gn) : (gFlow l name params g).1.types.length ≤ 1000 ∧ r8nodes (gFlow l name params g).1.body ≤ 1000000 := by
  have hs : plc0.small := ⟨by simp [plc0], by simp [plc0], by simp [plc0]⟩
  have hS := (gOuts_st params { g with types := [], left := 30 }).1
  generalize hB : (gFresh 2 (gFresh 1 (gOuts params { g with types := [], left := 30 }).2).2).2 = B
  generalize hE : (gOuts params { g with types := [], left := 30 }).1 ++ [(gFresh 1 (gOuts params { g with types := [], left := 30 }).2).1, (gFresh 2 (gFresh 1 (gOuts params { g with types := [], left := 30 }).2).2).1] = E
  have h1 : B.types.length = params.length + 2 := by rw [← hB, hS]; simp [gFresh]
  have h2 : B.left = 30 := by rw [← hB, hS]; rfl
  have hb := (bd_list l 3 E plc0 B hs).t2
  have hw := wt_gList l 3 E plc0 B hs
  have e : gFlow l name params g = (⟨name, 1, params.length, (gList l 3 E plc0 B).2.types, gBegin (gFresh 1 (gOuts params { g with types := [], left := 30 }).2).1 (gFresh 2 (gFresh 1 (gOuts params { g with types := [], left := 30 }).2).2).1 ++ (gList l 3 E plc0 B).1⟩, (gList l 3 E plc0 B).2) := by
    unfold gFlow
    simp only [hB, hE]
  rw [e]
  refine ⟨by simp only; omega, ?_⟩
  simp only [r8nodes, List.length_append, wtL_app]
  have h3 : wtL (gBegin (gFresh 1 (gOuts params { g with types := [], left := 30 }).2).1 (gFresh 2 (gFresh 1 (gOuts params { g with types := [], left := 30 }).2).2).1) = 2 := rfl
  have h4 : (gBegin (gFresh 1 (gOuts params { g with types := [], left := 30 }).2).1 (gFresh 2 (gFresh 1 (gOuts params { g with types := [], left := 30 }).2).2).1).length = 2 := rfl
  have h5 : wtMax 3 ≤ 500000 := by simp only [wtMax]; omega
  omega
theorem wt_made : r8Weight (made l) ≤ 536870912 := by
  have h1 := wt_flow l mainName [] (by simp) ⟨0, [], 0⟩
  have h2 := wt_flow l fName [1, 2] (by simp) (gFlow l mainName [] ⟨0, [], 0⟩).2
  have e1 : (gFlow l mainName [] ⟨0, [], 0⟩).1.name.size = 4 := rfl
  have e2 : (gFlow l fName [1, 2] (gFlow l mainName [] ⟨0, [], 0⟩).2).1.name.size = 1 := rfl
  have e3 : aName.size = 1 := rfl
  simp only [r8Weight, made, wtA, wtF, List.length_cons, List.length_nil, e1, e2, e3]
  omega
end
end
set_option maxRecDepth 20000
set_option maxHeartbeats 4000000
theorem sc_ShowGood (l : List UInt8) : SC Tryz.prog 4 [.pv (bts l)] [] (fun k => k ∈ []) (iBool true) [] := by
  have h1 := sc_showPrint (made l) ⟨wt_made l, made_64 l⟩
  have h2 := sc_refPrint (made l) ⟨wt_made l, made_64 l⟩
  generalize printOf (made l) = p at h1 h2
  obtain ⟨s, e⟩ := p
  refine SC.vc tb {} [] Tryz.func4 rfl rfl ?_
  exact ⟨[], sc_made l, sR, trivial, rfl, [], h1, sR, trivial, rfl, [], sc_made l, sR, trivial, rfl, [], h2, sR, trivial, rfl, [], sc_awake, sR, trivial, rfl, bcase (fun _ => ⟨sE (by simp), trivial⟩) fun h => absurd h (by simp)⟩
section
open Go Go.ChangeShapes Go.WideShapes Go.ChangeAt Go.RowKit
section
variable {H : Type} {enc : TypeId × Value → H} {P : Program} {w : World} {base : Nat} {spare : Nat → Bool} {held : Bool}
def RepEl (own : Nat → Prop) (w : World) (ps : List PV) (cs : List Value) : Prop := ps.length = cs.length ∧ ∀ (j : Nat) p v, ps[j]? = some p → cs[j]? = some v → RepP own w p v
theorem RepEl.nil {own : Nat → Prop} : RepEl own w [] [] := ⟨rfl, fun j p v h => by simp at h⟩
theorem RepEl.cons {own : Nat → Prop} {p : PV} {v : Value} {ps : List PV} {cs : List Value} (h : RepP own w p v) (hr : RepEl own w ps cs) : RepEl own w (p :: ps) (v :: cs) := by
  refine ⟨by simp [hr.1], fun j q x hq hx => ?_⟩
  cases j with
  | zero => simp at hq hx; subst hq; subst hx; exact h
  | succ j => exact hr.2 j q x (by simpa using hq) (by simpa using hx)
theorem choose_els {α : Type} (f : α → List PV) (wt : α → Nat) {own : Nat → Prop} (R : Nat → DataW H × List MemPlace → List Value → Prop)
    (hR : ∀ i y cs, R i y cs → ∃ z : α, RepEl own w (f z) cs ∧ wt z + 1 ≤ Rows.uptoBulk y.1) :
    ∀ (ys : List (DataW H × List MemPlace)) (s : Nat), (∀ i y, ys[i]? = some y → ∃ cs, R (s + i) y cs) →
      ∃ l : List α, l.length = ys.length ∧ (∀ i z, l[i]? = some z → ∃ y cs, ys[i]? = some y ∧ R (s + i) y cs ∧ RepEl own w (f z) cs) ∧ (l.map wt).sum + l.length ≤ Rows.uptoBulkAll (ys.map (·.1))
  | [], _, _ => ⟨[], rfl, fun i z h => by simp at h, by simp [Rows.uptoBulkAll]⟩
  | y :: ys, s, h => by
    obtain ⟨cs, hcs⟩ := h 0 y rfl
    obtain ⟨z, hz, hw⟩ := hR _ _ _ hcs
    obtain ⟨l, hl, hg, hb⟩ := choose_els f wt R hR ys (s + 1) (fun i y' hy => by
      have := h (i + 1) y' (by simpa using hy)
      rwa [show s + 1 + i = s + (i + 1) by omega])
    refine ⟨z :: l, by simp [hl], fun i z' hz' => ?_, ?_⟩
    ·cases i with
     | zero => simp at hz'; subst hz'; exact ⟨y, cs, rfl, hcs, hz⟩
     | succ i =>
       obtain ⟨y', cs', h1, h2, h3⟩ := hg i z' (by simpa using hz')
       exact ⟨y', cs', by simpa using h1, by rwa [show s + (i + 1) = s + 1 + i by omega], h3⟩
    simp only [List.map_cons, List.sum_cons, List.length_cons, Rows.uptoBulkAll]; omega
theorem trod_list {α : Type} (f : α → List PV) (wt : α → Nat) {own : Nat → Prop} (hown : ∀ b, b < w.heap.size → ¬ own b) {t e : TypeId} {fuel : Nat} {cs : List Value} {x : DataW H × List MemPlace} {N : Nat} (ht : P.underlying t = some (.slice e)) (hC : P.cellsOf e = N) (hN : 0 < N)
    (h : DataW.trod enc P w base spare held fuel t cs = some x)
    (hel : ∀ n cs' y, n < fuel → cs'.length = N → DataW.trod enc P w base spare held n e cs' = some y → ∃ z : α, RepEl own w (f z) cs' ∧ wt z + 1 ≤ Rows.uptoBulk y.1) :
    ∃ (l : List α) (v : Value), cs = [v] ∧ RepP own w (.seq (l.map f)) v ∧ (l.map wt).sum + l.length + 1 ≤ Rows.uptoBulk x.1 := by
  rcases DataW.trod_slice ht h with ⟨rfl, rfl⟩ | ⟨a, len, cap, elems, rest, n, rfl, rfl, rfl, hb, hl, hm, hlen, hg, _, _⟩
  ·refine ⟨[], _, rfl, ?_, by simp [Rows.uptoBulk]⟩
   have := RepP.seq (own := own) (w := w) [] none 0 0 0 (fun _ _ => default) (fun h => absurd rfl h) (fun h => absurd rfl h) (Nat.le_refl _) (Nat.zero_le _) (fun i el h => by simp at h) (fun i el h => by simp at h)
   simpa using this
  obtain ⟨l, hll, hat, hsum⟩ := choose_els (w := w) f wt (own := own) (fun i y cs => w.cells? base (a.add (i * P.cellsOf e)) (P.cellsOf e) = some cs ∧ DataW.trod enc P w base spare held n e cs = some y)
    (fun i y cs' hr => hel n cs' y (Nat.lt_succ_self _) (by rw [(World.cells?_some hr.1).2.1, hC]) hr.2) elems 0 (fun i y hy => by
      have hlt : i < len := by rw [← hlen]; exact (List.getElem?_eq_some_iff.1 hy).1
      have h1 := hg i hlt
      rw [hy, Option.bind_eq_some_iff] at h1
      obtain ⟨cs', h2, h3⟩ := h1
      exact ⟨cs', by rw [Nat.zero_add]; exact h2, h3⟩)
  obtain ⟨ab, ao, asp⟩ := a
  have hlen2 : l.length = len := by rw [hll, hlen]
  -- a cell that can be read
  have hsp : l ≠ [] → asp = none ∧ ab < w.heap.size := by
    intro hne
    obtain ⟨z, r, rfl⟩ := List.exists_cons_of_ne_nil hne
    obtain ⟨y, cs', _, hr, hrep⟩ := hat 0 z rfl
    obtain ⟨_, hcl, hcell⟩ := World.cells?_some hr.1
    have h0 := hcell 0 (by rw [hC]; exact hN)
    have hlt : 0 < cs'.length := by rw [hcl, hC]; exact hN
    rw [List.getElem?_eq_getElem hlt] at h0
    unfold World.cell? at h0
    have e0 : (Addr.add (Addr.add ⟨ab, ao, asp⟩ ((0 + 0) * P.cellsOf e)) 0) = ⟨ab, ao, asp⟩ := by simp [Addr.add]
    rw [e0] at h0
    split at h0
    ·rename_i hh
     refine ⟨?_, (Array.getElem?_eq_some_iff.1 hh).1⟩
     cases asp with
     | none => rfl
     | some _ => simp at h0
    cases h0
  refine ⟨l, _, rfl, ?_, ?_⟩
  ·-- the cells of an element
   have key : ∀ i z, l[i]? = some z → ∃ cs', RepEl own w (f z) cs' ∧ cs'.length = N ∧ ∀ j, j < N → w.cell? ⟨ab, ao + i * N + j, none⟩ = cs'[j]? := by
     intro i z hz
     obtain ⟨y, cs', _, hr, hrep⟩ := hat i z hz
     obtain ⟨_, hcl, hcell⟩ := World.cells?_some hr.1
     refine ⟨cs', hrep, hcl.trans hC, fun j hj => ?_⟩
     have h1 := hcell j (by rw [hC]; exact hj)
     have hne : l ≠ [] := by intro e; subst e; simp at hz
     have hs := (hsp hne).1
     subst hs
     rw [← h1, Addr.add_mid, Addr.add_mid, hC, Nat.zero_add]
   have hrep := RepP.seq (own := own) (w := w) (l.map f) (some ⟨ab, ao, asp⟩) cap ab ao (fun i j => (w.cell? ⟨ab, ao + i * N + j, none⟩).getD default)
     (fun hne => by rw [(hsp (by intro e; subst e; exact hne rfl)).1]) (fun hne => by
       have := (hsp (by intro e; subst e; exact hne rfl)).2
       exact ⟨hown _ this, this⟩) (by simp; omega) hm ?_ ?_
   ·rw [List.length_map, hlen2] at hrep; exact hrep
   ·intro i el hi j c hj
    rw [List.getElem?_map, Option.map_eq_some_iff] at hi
    obtain ⟨z, hz, rfl⟩ := hi
    obtain ⟨cs', hrep, hcl, hcell⟩ := key i z hz
    have hjN : j < N := by have := (List.getElem?_eq_some_iff.1 hj).1; rw [hrep.1, hcl] at this; exact this
    have h1 := hcell j hjN
    have hfl : (f z).length = N := by rw [hrep.1, hcl]
    rw [hfl, h1, List.getElem?_eq_getElem (by omega)]
    rfl
   intro i el hi j c hj
   rw [List.getElem?_map, Option.map_eq_some_iff] at hi
   obtain ⟨z, hz, rfl⟩ := hi
   obtain ⟨cs', hrep, hcl, hcell⟩ := key i z hz
   have hjN : j < N := by have := (List.getElem?_eq_some_iff.1 hj).1; rw [hrep.1, hcl] at this; exact this
   have h1 := hcell j hjN
   rw [List.getElem?_eq_getElem (by omega)] at h1
   rw [h1]
   exact hrep.2 j c _ hj (List.getElem?_eq_getElem (by omega))
  simp only [Rows.uptoBulk]; omega
end
end
section
open Go Go.ChangeShapes Go.WideShapes Go.ChangeAt Go.RowKit Go.Deep
theorem Tryz.own : ownKnob Tryz.prog.godebug = none := by kernel_rfl
theorem Tryz.laidOut : laidOutB Tryz.prog = true := by kernel_rfl
section
variable {H : Type} {enc : TypeId × Value → H} {P : Program}
theorem sameAt_of {W W' : World} {p : MemPlace} (h : W'.heap[p.block]? = W.heap[p.block]?) : W.sameAt W' p := by
  cases p <;> simp_all [World.sameAt, MemPlace.block, World.cell?]
theorem trodAll_stays (hl : laidOutB P = true) {W W' : World} (hb : ∀ b, b < W.heap.size → W'.heap[b]? = W.heap[b]?) : ∀ (ts : List TypeId) (vs : List Value) (ds : List (DataW H)) (ps : List MemPlace),
    (∀ t ∈ ts, P.readableRec t = true ∧ t < P.types.size) → DataW.TrodAll enc P W 0 (fun _ => true) true ts vs ds ps → (∀ x ∈ ps, x.block < W.heap.size) →
    DataW.TrodAll enc P W' 0 (fun b => decide (b < W.heap.size)) true ts vs ds ps
  | [], vs, ds, ps, _, h, _ => by
    obtain ⟨rfl, rfl, rfl⟩ := trodAll_nil h
    exact trodAll_mk0
  | t :: ts, vs, ds, ps, hr, h, hp => by
    obtain ⟨v, vs', d, ds', p, q, rfl, rfl, rfl, h1, h2⟩ := trodAll_cons h
    have ht := hr t (.head _)
    refine ⟨p, q, ?_, trodAll_stays hl hb ts vs' ds' q (fun t' h' => hr t' (.tail _ h')) h2 (fun x hx => hp x (List.mem_append_right _ hx)), rfl⟩
    refine WideElems.Trod_stays hl ht.1 ht.2 h1 (fun x hx => ?_) (fun x hx => by simpa using hp x (List.mem_append_left _ hx))
    exact sameAt_of (hb _ (hp x (List.mem_append_left _ hx)))
theorem keptBut_of {W W' : World} (may : MemPlace → Prop) (hos : W'.os = W.os) (hout : W'.output = W.output) (hb : ∀ b, b < W.heap.size → W'.heap[b]? = W.heap[b]?) : W.keptBut W' may := by
  refine ⟨hos, hout, fun i hi => ?_⟩
  rw [hb i hi]
  rcases h : W.heap[i]? with _ | o
  ·trivial
  cases o with
  | cells c t fr => exact ⟨rfl, rfl, rfl, fun _ _ => rfl⟩
  | map es clock => exact .inr ⟨rfl, rfl⟩
  | _ => rfl
theorem post_true {f : Func} {s : ChangeSpec} {apart fresh handsOn : Bool} {W W' : World} {args : Array Value} {ds gs : List (DataW H)} {before : List MemPlace} {tb : TypeId} (hl : laidOutB P = true) (hv0 : s.vars = [])
    (hW : DataW.Whole enc P f.params.toList s.vars apart W args.toList ds gs before) (hrd : ∀ t ∈ f.params.toList, P.readableRec t = true ∧ t < P.types.size) (hres : f.resultTypes = #[tb]) (htb : P.underlying tb = some .bool)
    (hs : s.fn H (ds ++ gs) = { results := [.lit (.bool true)], args := ds }) (hos : W'.os = W.os) (hout : W'.output = W.output) (hb : ∀ b, b < W.heap.size → W'.heap[b]? = W.heap[b]?) :
    s.post enc P f apart fresh handsOn false W args (.bool true) W' := by
  have hlt := hW.lt
  have hW' := hW
  obtain ⟨p, q, hA, hV, rfl, _, _⟩ := hW
  refine ⟨ds, gs, p ++ q, [], p, [], hW', ?_, ?_, ?_, keptBut_of _ hos hout hb, fun h => by cases h⟩
  ·rw [hs, hres]
   exact trodAll_mk1 ⟨1, by simp [DataW.trod, htb, Value.cells]⟩
  ·rw [hs]
   exact trodAll_stays hl hb _ _ _ _ hrd hA (fun x hx => hlt x (List.mem_append_left _ hx))
  rw [hs, hv0]
  exact rfl
end
theorem relH_none {W : World} : RelH (fun _ => False) (fun _ => none) (look (up [])) W where
  inj _ _ _ _ _ h := by cases h
  apart _ _ _ h := by cases h
  old _ h := h.elim
  obj _ _ _ h := by cases h
  real _ _ h := by cases h
theorem call_true {P : Program} {f : FuncId} {args : List IV} {R : Nat → Prop} (hsc : SC P f args [] R (iBool true) []) {W : World} {vs : List Value} (hK : Kept W (owned (fun _ => False) fun _ => none)) (hr : RepL (fun _ => False) (fun _ => none) (look (up [])) W args vs) :
    Calls P f vs.toArray W fun e W' => e = .returned (.bool true) ∧ W'.os = W.os ∧ W'.output = W.output ∧ ∀ b, b < W.heap.size → W'.heap[b]? = W.heap[b]? := by
  refine (hsc (fun _ => False) (fun _ => none) W vs hK relH_none hr).mono ?_
  rintro e W' ⟨ρ', v, rfl, hv, _, t⟩
  refine ⟨?_, t.os, t.output, fun b hb => t.blk b hb fun k c h => by cases h⟩
  cases hv with
  | pv _ _ hp => cases hp; rfl
theorem own_none {b : Nat} : ¬ owned (fun _ => False) (fun _ => none) b := by
  rintro (h | ⟨_, _, h⟩)
  ·exact h
  cases h
end
section
open Go Go.ChangeShapes Go.WideShapes Go.ChangeAt Go.RowKit Go.Deep
theorem repL_one {x : IV} {v : Value} {F : Nat → Prop} {ρ : Loc} {σ : Heap'} {w : World} (h : RepI F ρ σ w x v) : RepL F ρ σ w [x] [v] := by
  refine ⟨rfl, fun j y hj => ?_⟩
  cases j with
  | zero => simp at hj; subst hj; exact ⟨v, rfl, h⟩
  | succ j => simp at hj
section
variable {H : Type} {enc : TypeId × Value → H} {w : World} {base : Nat} {spare : Nat → Bool} {held : Bool}
end
def laidL : List (String × DataW Unit) := Rows.showAnyRow.laid
theorem tab_of {P : Program} {W : World} {name : String} {k : IntKind} {zs : List Int} {rest : List (String × DataW Unit)} {g : Nat} {t e : TypeId} {n : Nat} {ps : List MemPlace}
    (hg : P.globalNamed name = some g) (hty : (P.globals[g]?).map (·.type) = some t) (ht : P.underlying t = some (.array n e)) (he : P.underlying e = some (.int k)) (hce : P.cellsOf e = 1) (hct : P.cellsOf t = n)
    (h : DataW.LaidVars P W ((name, Lib.tabData k zs) :: rest) ps) : W.var? P name = some (zs.map fun z => Value.int k z).toArray := by
  obtain ⟨g', t', cs, fuel, p, q, hg', ht', hvar, hd, _, _⟩ := h
  obtain rfl := Option.some.inj (hg.symm.trans hg')
  obtain rfl := Option.some.inj (hty.symm.trans ht')
  rw [hvar, ← Lib.cells_of_tab ht he hce hct hd]
theorem kept_of {W : World} (h : laidMet Tryz.prog laidL W) : Kept W (owned (fun _ => False) fun _ => none) := by
  obtain ⟨ps, ⟨_, _, _, _, _, _, _, _, _, _, ⟨_, _, _, _, _, _, _, _, _, _, h3, _⟩, _⟩, _⟩ := h
  intro e he
  simp only [tabs, List.mem_singleton] at he
  subst he
  refine ⟨?_, own_none⟩
  have h4 := tab_of (P := Tryz.prog) (name := "internal/strconv.uint64pow10") (k := .u64) (zs := Lib.pow10Tab) (g := 0) (t := 150) (e := 131) (n := 20) (by kernel_rfl) (by kernel_rfl) Tryz.underlying150 Tryz.underlying131 (by kernel_rfl) (by kernel_rfl) h3
  unfold World.var? at h4
  rw [show Tryz.prog.globalNamed "internal/strconv.uint64pow10" = some 0 by kernel_rfl] at h4
  dsimp only [Option.bind_some, Option.bind] at h4
  split at h4
  ·rename_i cs T f hh
   cases h4
   exact ⟨T, f, hh⟩
  cases h4
def setTab (k : IntKind) (zs : List Int) : Obj → Obj
  | .cells _ t frozen => .cells (zs.map fun z => Value.int k z).toArray t frozen
  | o => o
def zsOf : DataW Unit → List Int
  | .agg l => l.map fun
    | .lit (.int _ z) => z
    | _ => 0
  | _ => []
noncomputable def laidWorld (os : Os) : World :=
  let w0 := World.holding Tryz.prog os ⟨#[], #[], []⟩
  { w0 with heap := ((w0.heap.modify 2 (setTab .u8 (zsOf Rows.laid_math_bits_deBruijn32tab))).modify 3 (setTab .u8 (zsOf Rows.laid_math_bits_deBruijn64tab))).modify 0 (setTab .u64 Lib.pow10Tab) }
set_option maxRecDepth 100000 in
theorem laidWorld_met (os : Os) (args : Array Value) : laidMet Tryz.prog laidL ((laidWorld os).forCall (fun _ _ => 0) ⟨#[], args, []⟩).memory :=
  laidMet_of_run' 8 (by kernel_rfl) (by kernel_rfl)
end
section
open Go Go.ChangeShapes Go.WideShapes Go.ChangeAt Go.RowKit Go.Deep
section
variable {H : Type} {enc : TypeId × Value → H} {P : Program} {w : World} {base : Nat} {spare : Nat → Bool} {held : Bool}
theorem trod_bytes {own : Nat → Prop} (hown : ∀ b, b < w.heap.size → ¬ own b) {t e : TypeId} {fuel : Nat} {cs : List Value} {x : DataW H × List MemPlace} (ht : P.underlying t = some (.slice e)) (he : P.underlying e = some (.int .u8)) (hC : P.cellsOf e = 1)
    (h : DataW.trod enc P w base spare held fuel t cs = some x) : ∃ (l : List UInt8) (v : Value), cs = [v] ∧ RepP own w (bts l) v := by
  obtain ⟨l, v, h1, h2, _⟩ := trod_list eB (fun _ => 0) hown ht hC (by decide) h (fun n cs' y _ _ hy => by
    obtain ⟨k, rfl, rfl, hk⟩ := DataW.trod_int he hy
    have hr : 0 ≤ k ∧ k ≤ 255 := by
      simp [Lit.wf, IntKind.min, IntKind.max, IntKind.bits, IntKind.signed] at hk
      omega
    refine ⟨UInt8.ofNat k.toNat, ?_, by simp [Rows.uptoBulk]⟩
    have e : ((UInt8.ofNat k.toNat).toNat : Int) = k := by
      rw [UInt8.toNat_ofNat_of_lt' (by simp [UInt8.size]; omega)]
      omega
    unfold eB
    rw [e]
    exact RepEl.cons (.val _) .nil)
  exact ⟨l, v, h1, h2⟩
end
set_option maxRecDepth 100000 in
theorem open_bytes {H : Type} {enc : TypeId × Value → H} {W : World} {base b0 : Nat} {spare : Nat → Bool} {held : Bool} {r : Reach} {v : Value} {d : DataW H} {p : List MemPlace} (hv : Value.okWide Tryz.prog W r b0 32 v)
    (h : DataW.Trod enc Tryz.prog W base spare held 32 v d p) : ∃ l : List UInt8, RepI (fun _ => False) (fun _ => none) (look (up [])) W (.pv (bts l)) v := by
  obtain ⟨a, len, cap, rfl⟩ := okWide_slice Tryz.underlying32 hv
  obtain ⟨fuel, hf⟩ := h
  obtain ⟨l, v', h1, h2⟩ := trod_bytes (own := owned (fun _ => False) (fun _ => none)) (fun _ _ => own_none) Tryz.underlying32 Tryz.underlying5 (by kernel_rfl) hf
  have e : (Value.slice a len cap).cells.toList = [Value.slice a len cap] := rfl
  rw [e] at h1
  cases h1
  exact ⟨l, .pv _ _ h2⟩
set_option maxRecDepth 100000 in
theorem showGood_lifted (hsc : ∀ l : List UInt8, SC Tryz.prog 4 [.pv (bts l)] [] (fun k => k ∈ []) (iBool true) []) (os : Os) (started : os.Started) (H : Type) (enc : TypeId × Value → H) :
    ReturnsInHanded {} Tryz.checked os 4 .any (fun w args => (Rows.showGoodSpec.pre enc Tryz.prog Tryz.f4 Rows.showGoodRow.domain false w args ∧ laidMet Tryz.prog laidL w) ∧ sizedMet enc Tryz.prog Tryz.f4 (OpenSpec.ofChange Rows.showGoodSpec) false w args) (Rows.showGoodSpec.post enc Tryz.prog Tryz.f4 false true false false) := by
  refine returnsInHanded_of_change_and (C := Tryz.checked) (X := fun w _ => laidMet Tryz.prog laidL w) (fun _ _ _ hh h => h.of_heap hh) Tryz.own started (by kernel_rfl) Tryz.func4
    (ChangeSpec.witness_at (enc := enc) (C := Tryz.checked) (os := os) (X := fun w _ => laidMet Tryz.prog laidL w) false (laidWorld os) #[.slice none 0 0] 8 rfl (by kernel_rfl) (by kernel_rfl) (by kernel_rfl) (by kernel_rfl) (by kernel_rfl) (laidWorld_met os _)) ?_
  intro W base args ds gs before hval0 hW _ _ hL _
  have hval : ∀ (j : Nat) t v, Tryz.f4.params[j]? = some t → args[j]? = some v → Value.okWide Tryz.prog W .any base t v := hval0
  clear hval0
  have hW' := hW
  obtain ⟨p, q, hA0, hV, rfl, hfz, hnd⟩ := hW
  have hA : DataW.TrodAll enc Tryz.prog W 0 (fun _ => true) true Tryz.f4.params.toList args.toList ds p := hA0
  rw [Tryz.params4] at hA hval
  obtain ⟨v0, vs0, d0, ds0, p0, q0, hargs, rfl, rfl, h0, r0⟩ := trodAll_cons hA
  obtain ⟨rfl, rfl, rfl⟩ := trodAll_nil r0
  obtain rfl : args = #[v0] := by cases args; simp_all
  obtain ⟨rfl, rfl⟩ := trodVars_none hV
  obtain ⟨l, hu⟩ := open_bytes (hval 0 32 v0 rfl rfl) h0
  refine (call_true (hsc l) (kept_of hL) (repL_one hu)).mono ?_
  rintro e W' ⟨rfl, hos, hout, hbl⟩
  exact ⟨_, rfl, post_true Tryz.laidOut rfl hW' (fun t ht => by
    have ht' : t ∈ Tryz.f4.params.toList := ht
    rw [Tryz.params4] at ht'
    obtain rfl : t = 32 := by simpa using ht'
    exact ⟨by kernel_rfl, of_decide_eq_true (by kernel_rfl)⟩) (by kernel_rfl) Tryz.underlying4 rfl hos hout hbl⟩
set_option maxRecDepth 100000 in
theorem showGood_of (hsc : ∀ l : List UInt8, SC Tryz.prog 4 [.pv (bts l)] [] (fun k => k ∈ []) (iBool true) []) : Rows.ShowGoodSaid :=
  OpenClaim.holds_of_wide 4 Tryz.f4 rfl rfl rfl rfl rfl rfl rfl ⟨rfl, rfl, rfl, rfl, rfl⟩ rfl rfl rfl rfl rfl (by kernel_rfl) Tryz.func4 (by kernel_rfl)
    (of_decide_eq_true (by kernel_rfl)) (by unfold Func.isWrapper; first | (rw [if_pos (by decide +kernel)]; kernel_rfl) | (rw [if_neg (by decide +kernel)]; exact ⟨rfl, rfl⟩))
    (fun os started H enc _ => showGood_lifted hsc os started H enc)
end
theorem showGood_holds : Rows.ShowGoodSaid := showGood_of sc_ShowGood
theorem showGoodCard_holds : Rows.ShowGoodCardSaid :=
  Claim7.holds_tied_plain_at .later [] [.data, .data, .data] true (true, "84563aa7610ad8d083a9852d4a05201b6768f8dd70055e04f99e7581d59bc703") false
    showGood_holds (fun _ h => by cases h) (by kernel_rfl) (fun _ h => by cases h) showGood_row_tie rfl ⟨rfl, rfl⟩ (by kernel_rfl) rfl
    (fun f fn hf hfn => by
      obtain rfl : f = 4 := Option.some.inj ((show Tryz.prog.funcNamed "boxhedge/boxhedgelaw09.ShowGood" = some 4 by kernel_rfl).symm.trans hf) |>.symm
      obtain rfl : fn = Tryz.f4 := (Option.some.inj (Tryz.func4.symm.trans hfn)).symm
      exact ⟨by kernel_rfl, fun j t ht => by
        rw [Tryz.params4] at ht
        have hm : t ∈ [32] := by
          have := Array.mem_of_getElem? ht
          simpa using this
        have hall : ([32].all fun u => !Tryz.prog.wantsStandIn u) = true := by kernel_rfl
        exact (show Tryz.prog.wantsStandIn t = false by simpa using List.all_eq_true.1 hall t hm)⟩)
    (by kernel_rfl)
end Go.Proofs.YtahpinmlgnfklaaGreatDoor
