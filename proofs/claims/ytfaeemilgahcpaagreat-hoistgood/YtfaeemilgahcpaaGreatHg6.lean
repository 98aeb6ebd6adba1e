/- Units by numbers: whether hoist refuses one is what the document says; else what comes out may be, has its arrays and flow heads, and what a loop begins with hangs on it. Conditions: none beyond those of the given statement. -/
import Derived.Test.YtfaeemilgahcpaaGreatHg5
set_option maxRecDepth 8000
set_option maxHeartbeats 2000000
set_option linter.unusedSimpArgs false
set_option linter.unusedVariables false
set_option linter.unusedSectionVars false
namespace Go.Proofs.YtfaeemilgahcpaaGreat
open Go
def SubL (a b : List Int) : Prop := ∀ v : Int, a.contains v = true → b.contains v = true
theorem SubL.refl (a : List Int) : SubL a a := fun _ h => h
theorem SubL.app {a b c d : List Int} (h : SubL a b) (h2 : SubL c d) : SubL (a ++ c) (b ++ d) := fun v hv => by
  rw [List.contains_append, Bool.or_eq_true] at hv ⊢
  exact hv.elim (fun h' => .inl (h v h')) (fun h' => .inr (h2 v h'))
theorem SubL.left {a b c : List Int} (h : SubL a b) : SubL a (b ++ c) := fun v hv => by rw [List.contains_append, h v hv]; rfl
theorem typesGo_sub {tys s s' : List Int} : ∀ {l want : List Int}, (∀ v ∈ l, s.contains v = true → s'.contains v = true) → r8typesGo tys s l want = true → r8typesGo tys s' l want = true
  | [], _, _, _ => by simp [r8typesGo]
  | _ :: _, [], _, _ => by simp [r8typesGo]
  | x :: r, w :: ws, hs, h => by
    simp only [r8typesGo, Bool.and_eq_true] at h ⊢
    refine ⟨?_, typesGo_sub (fun v hv => hs v (.tail _ hv)) h.2⟩
    have h1 := h.1
    unfold r8use at h1 ⊢
    cases hc : s.contains x with
    | false => rw [hc] at h1; simp at h1
    | true => rw [hs x (.head _) hc]; rw [hc] at h1; exact h1
theorem types_sub {tys s s' l want : List Int} (hs : ∀ v ∈ l, s.contains v = true → s'.contains v = true) (h : r8types tys s l want = true) : r8types tys s' l want = true := by
  unfold r8types at h ⊢
  simp only [Bool.and_eq_true] at h ⊢
  exact ⟨h.1, typesGo_sub hs h.2⟩
theorem types_mono {tys s s' l want : List Int} (hs : SubL s s') (h : r8types tys s l want = true) : r8types tys s' l want = true := types_sub (fun v _ => hs v) h
theorem hmless_kind {x : Nd} (h : hmless x = true) : (x.kind = 1 ∨ x.kind = 2 ∨ x.kind = 3 ∨ x.kind = 4) := by
  simp only [hmless, Bool.or_eq_true, Bool.and_eq_true, beq_iff_eq] at h
  rcases h with ((h | h) | h) | h
  ·exact .inl h
  ·exact .inr (.inl h)
  ·exact .inr (.inr (.inl h))
  exact .inr (.inr (.inr h.1.1))
theorem hmless_no {x : Nd} (h : hmless x = true) : (x.kind == 10) = false ∧ (x.kind == 11) = false ∧ r8Closed x = false ∧ r8LeavesN x = false := by
  have hk := hmless_kind h
  have h10 : (x.kind == 10) = false := by simp; omega
  have h11 : (x.kind == 11) = false := by simp; omega
  have h14 : (x.kind == 14) = false := by simp; omega
  refine ⟨h10, h11, ?_, ?_⟩
  ·simp only [r8Closed, h10, h11, Bool.false_and, Bool.false_eq_true, if_false, r8Ender]
   simp; omega
  rw [r8LeavesN_eq, h10, h14]; rfl
theorem sform_mono {u : Un} {f : Fl} {x : Nd} {s s' : List Int} {w : Wh} {outs : List Int} (hs : SubL s s') (h : (sForm u f x s w).ok f.types outs = true) : (sForm u f x s' w).ok f.types outs = true := by
  have M : ∀ want, r8types f.types s x.args want = true → r8types f.types s' x.args want = true := fun want => types_mono hs
  have F : ∀ (b b' : Bool) (want : Option (List Int)), (b = true → b' = true) → SForm.ok ⟨b, want⟩ f.types outs = true → SForm.ok ⟨b', want⟩ f.types outs = true := fun b b' want hb h => by
    cases want <;> simp only [SForm.ok, Bool.and_eq_true] at h ⊢ <;> exact ⟨hb h.1, h.2⟩
  unfold sForm at h ⊢
  by_cases k1 : (x.kind == 1) = true
  ·rw [if_pos k1] at h ⊢
   exact F _ _ _ (fun hb => M _ hb) h
  rw [if_neg k1] at h ⊢
  by_cases k2 : (x.kind == 2) = true
  ·rw [if_pos k2] at h ⊢
   exact F _ _ _ (fun hb => by simp only [Bool.and_eq_true] at hb ⊢; exact ⟨hb.1, M _ hb.2⟩) h
  rw [if_neg k2] at h ⊢
  by_cases k3 : (x.kind == 3) = true
  ·rw [if_pos k3] at h ⊢
   exact F _ _ _ (fun hb => by simp only [Bool.and_eq_true] at hb ⊢; exact ⟨hb.1, M _ hb.2⟩) h
  rw [if_neg k3] at h ⊢
  by_cases k4 : (x.kind == 4) = true
  ·rw [if_pos k4] at h ⊢
   exact F _ _ _ (fun hb => by simp only [Bool.and_eq_true] at hb ⊢; exact ⟨⟨hb.1.1, M _ hb.1.2⟩, hb.2⟩) h
  rw [if_neg k4] at h ⊢
  by_cases k5 : (x.kind == 5) = true
  ·rw [if_pos k5] at h ⊢
   exact F _ _ _ (fun hb => by simp only [Bool.and_eq_true] at hb ⊢; exact ⟨hb.1, M _ hb.2⟩) h
  rw [if_neg k5] at h ⊢
  by_cases k6 : (x.kind == 6) = true
  ·rw [if_pos k6] at h ⊢
   exact F _ _ _ (fun hb => by simp only [Bool.and_eq_true] at hb ⊢; exact ⟨hb.1, M _ hb.2⟩) h
  rw [if_neg k6] at h ⊢
  by_cases k7 : (x.kind == 7) = true
  ·rw [if_pos k7] at h ⊢
   by_cases hp : decide (r8Place x.name u.flows 0 ≥ 0) = true
   ·rw [if_pos hp] at h ⊢
    cases hg : u.flows[(r8Place x.name u.flows 0).toNat]? with
    | none => rw [hg] at h; exact h
    | some g => rw [hg] at h; exact F _ _ _ (fun hb => M _ hb) h
   rw [if_neg hp] at h ⊢; exact h
  rw [if_neg k7] at h ⊢
  by_cases k8 : (x.kind == 8) = true
  ·rw [if_pos k8] at h ⊢
   exact h
  rw [if_neg k8] at h ⊢
  by_cases k9 : (x.kind == 9) = true
  ·rw [if_pos k9] at h ⊢
   exact F _ _ _ (fun hb => M _ hb) h
  rw [if_neg k9] at h ⊢
  by_cases k12 : (x.kind == 12) = true
  ·rw [if_pos k12] at h ⊢
   exact F _ _ _ (fun hb => by simp only [Bool.and_eq_true] at hb ⊢; exact ⟨hb.1, M _ hb.2⟩) h
  rw [if_neg k12] at h ⊢
  by_cases k13 : (x.kind == 13) = true
  ·rw [if_pos k13] at h ⊢
   exact F _ _ _ (fun hb => by simp only [Bool.and_eq_true] at hb ⊢; exact ⟨hb.1, M _ hb.2⟩) h
  rw [if_neg k13] at h ⊢
  by_cases k14 : (x.kind == 14) = true
  ·rw [if_pos k14] at h ⊢
   exact F _ _ _ (fun hb => by simp only [Bool.and_eq_true] at hb ⊢; exact ⟨hb.1, M _ hb.2⟩) h
  rw [if_neg k14] at h ⊢
  by_cases k15 : (x.kind == 15) = true
  ·rw [if_pos k15] at h ⊢
   exact F _ _ _ (fun hb => M _ hb) h
  rw [if_neg k15] at h ⊢
  exact h
theorem sform_moved {u : Un} {f : Fl} {x : Nd} {s s' : List Int} {w w' : Wh} {outs : List Int} (hm : hmless x = true) (hs : ∀ v ∈ x.args, s.contains v = true → s'.contains v = true) (h : (sForm u f x s w).ok f.types outs = true) :
    (sForm u f x s' w').ok f.types outs = true ∧ outs.length = 1 := by
  have M : ∀ want, r8types f.types s x.args want = true → r8types f.types s' x.args want = true := fun want => types_sub hs
  have F : ∀ (b b' : Bool) (t : Int), (b = true → b' = true) → SForm.ok ⟨b, some [t]⟩ f.types outs = true → SForm.ok ⟨b', some [t]⟩ f.types outs = true ∧ outs.length = 1 := fun b b' t hb h => by
    simp only [SForm.ok, Bool.and_eq_true] at h ⊢
    exact ⟨⟨hb h.1, h.2⟩, vOuts_len h.2⟩
  unfold sForm at h ⊢
  by_cases k1 : (x.kind == 1) = true
  ·rw [if_pos k1] at h ⊢
   exact F _ _ _ (fun hb => M _ hb) h
  rw [if_neg k1] at h ⊢
  by_cases k2 : (x.kind == 2) = true
  ·rw [if_pos k2] at h ⊢
   exact F _ _ _ (fun hb => by simp only [Bool.and_eq_true] at hb ⊢; exact ⟨hb.1, M _ hb.2⟩) h
  rw [if_neg k2] at h ⊢
  by_cases k3 : (x.kind == 3) = true
  ·rw [if_pos k3] at h ⊢
   exact F _ _ _ (fun hb => by simp only [Bool.and_eq_true] at hb ⊢; exact ⟨hb.1, M _ hb.2⟩) h
  rw [if_neg k3] at h ⊢
  by_cases k4 : (x.kind == 4) = true
  ·rw [if_pos k4] at h ⊢
   exact F _ _ _ (fun hb => by simp only [Bool.and_eq_true] at hb ⊢; exact ⟨⟨hb.1.1, M _ hb.1.2⟩, hb.2⟩) h
  rw [if_neg k4] at h ⊢
  have hk := hmless_kind hm
  simp only [beq_iff_eq] at k1 k2 k3 k4
  omega
theorem dL_app : ∀ (a b : List Nd), dL (a ++ b) = dL a ++ dL b
  | [], _ => rfl
  | x :: r, b => by simp only [List.cons_append, dL, dL_app r b, List.append_assoc]
theorem part_perm : ∀ (l : List Nd) (vs : List Int), List.Perm (dL (hPart vs l).1 ++ dL (hPart vs l).2) (dL l)
  | [], _ => by simp [hPart, dL]
  | x :: r, vs => by
    unfold hPart
    split
    ·split
     ·have ih := part_perm r (vs ++ [x.outs.headD 0])
      simp only [dL]
      refine (List.perm_append_comm_assoc _ _ _).trans ?_
      exact ih.append_left (dN x)
     have ih := part_perm r vs
     simp only [dL, List.append_assoc]
     exact ih.append_left (dN x)
    simp [dL]
mutual
theorem hNode_perm : ∀ x : Nd, List.Perm (dL (hNode x)) (dN x)
  | .mk kind op n name args outs params ks => by
    have hk := hKids_perm ks
    unfold hNode hOut
    split
    ·cases hq : hKids ks with
     | nil =>
       rw [hq] at hk
       simp only [dL, dN, List.append_nil]
       exact (hk.append_right outs).append_left params
     | cons b r =>
       rw [hq] at hk
       simp only [dL_app, dL, dN, dK, List.append_nil] at hk ⊢
       have hp := part_perm b params
       refine (List.perm_append_comm_assoc _ _ _).trans (List.Perm.append_left params ?_)
       rw [← List.append_assoc, ← List.append_assoc]
       refine List.Perm.append_right outs ?_
       refine (List.Perm.append_right (dK r) hp).trans hk
    simp only [dL, dN, List.append_nil]
    exact (hk.append_right outs).append_left params
theorem hList_perm : ∀ l : List Nd, List.Perm (dL (hList l)) (dL l)
  | [] => by simp [hList]
  | x :: r => by
    simp only [hList, dL_app, dL]
    exact (hNode_perm x).append (hList_perm r)
theorem hKids_perm : ∀ ks : List (List Nd), List.Perm (dK (hKids ks)) (dK ks)
  | [] => by simp [hKids]
  | l :: r => by
    simp only [hKids, dK]
    exact (hList_perm l).append (hKids_perm r)
end
theorem Frs.perm {set : List Bool} {a b : List Int} (h : Frs set a) (hp : List.Perm a b) : Frs set b := ⟨hp.nodup_iff.1 h.1, fun v hv => h.2 v (hp.mem_iff.2 hv)⟩
theorem leaves_app : ∀ (a b : List Nd), r8Leaves (a ++ b) = (r8Leaves a || r8Leaves b)
  | [], b => by simp [r8Leaves]
  | x :: r, b => by simp only [List.cons_append, r8Leaves, leaves_app r b, Bool.or_assoc]
theorem leaves_part : ∀ (l : List Nd) (vs : List Int), r8Leaves (hPart vs l).1 = false ∧ r8Leaves (hPart vs l).2 = r8Leaves l
  | [], _ => by simp [hPart, r8Leaves]
  | x :: r, vs => by
    unfold hPart
    split
    ·rename_i hm
     obtain ⟨_, _, _, h4⟩ := hmless_no hm
     split
     ·obtain ⟨h1, h2⟩ := leaves_part r (vs ++ [x.outs.headD 0])
      exact ⟨h1, by simp only [r8Leaves, h2]⟩
     obtain ⟨h1, h2⟩ := leaves_part r vs
     exact ⟨by simp only [r8Leaves, h1, h4, Bool.or_false], by simp only [r8Leaves, h2, h4, Bool.false_or]⟩
    simp [r8Leaves]
mutual
theorem leaves_node : ∀ x : Nd, r8Leaves (hNode x) = r8LeavesN x
  | .mk kind op n name args outs params ks => by
    have hk := leaves_kids ks
    unfold hNode hOut
    split
    ·rename_i h11
     have e11 : kind = 11 := by simpa using h11
     subst e11
     cases hq : hKids ks with
     | nil => simp [r8Leaves, r8LeavesN]
     | cons b r => simp only [leaves_app, (leaves_part b params).1]; simp [r8Leaves, r8LeavesN]
    simp only [r8Leaves, r8LeavesN, hk, Bool.or_false]
theorem leaves_list : ∀ l : List Nd, r8Leaves (hList l) = r8Leaves l
  | [] => by simp [hList]
  | x :: r => by simp only [hList, leaves_app, leaves_node x, leaves_list r, r8Leaves]
theorem leaves_kids : ∀ ks : List (List Nd), r8LeavesK (hKids ks) = r8LeavesK ks
  | [] => by simp [hKids]
  | l :: r => by simp only [hKids, r8LeavesK, leaves_list l, leaves_kids r]
end
theorem hNode_last (x : Nd) : ∃ A y, hNode x = A ++ [y] ∧ y.kind = x.kind := by
  cases x with
  | mk kind op n name args outs params ks =>
    unfold hNode hOut
    split
    ·cases hKids ks with
     | nil => exact ⟨[], _, rfl, rfl⟩
     | cons b r => exact ⟨_, _, rfl, rfl⟩
    exact ⟨[], _, rfl, rfl⟩
theorem hList_ne {l : List Nd} (h : l ≠ []) : hList l ≠ [] := by
  cases l with
  | nil => exact absurd rfl h
  | cons x r =>
    obtain ⟨A, y, e, _⟩ := hNode_last x
    simp [hList, e]
theorem last_h : ∀ l : List Nd, r8last (hList l) = r8last l
  | [] => by simp [hList]
  | x :: r => by
    obtain ⟨A, y, e, hk⟩ := hNode_last x
    cases r with
    | nil => simp [hList, e, r8last, hk]
    | cons z r' =>
      have ih := last_h (z :: r')
      have hne : hList (z :: r') ≠ [] := hList_ne (by simp)
      have h1 : (hList (x :: z :: r')).getLast? = (hList (z :: r')).getLast? := by
        rw [show hList (x :: z :: r') = hNode x ++ hList (z :: r') from rfl, List.getLast?_append]
        cases hl : (hList (z :: r')).getLast? with
        | none => exact absurd (List.getLast?_eq_none_iff.1 hl) hne
        | some q => rfl
      unfold r8last at ih ⊢
      rw [h1, ih]
      simp [List.getLast?_cons_cons]
def MG (u : Un) (f : Fl) (l : List Nd) : Prop := ∀ (deep : Int) (w : Wh) (all all' : List Int), SubL all all' → vGo u f deep w all l = true → vGo u f deep w all' l = true
theorem MG.list {u : Un} {f : Fl} {l : List Nd} (h : MG u f l) {deep : Int} {w : Wh} {all all' : List Int} (hs : SubL all all') (hv : vList u f deep w all l = true) : vList u f deep w all' l = true := by
  simp only [vList, Bool.and_eq_true] at hv ⊢
  exact ⟨hv.1, h deep w all all' hs hv.2⟩
theorem node_mono (u : Un) (f : Fl) (x : Nd) (ih : ∀ q ∈ x.kids, MG u f q) (deep : Int) (w : Wh) (s s' : List Int) (hs : SubL s s') (h : vNode u f deep w s x = true) : vNode u f deep w s' x = true := by
  have hb := vNode_bare u f deep w s h
  by_cases h10 : x.kind = 10
  ·obtain ⟨a, b, hk⟩ := r8bare_if hb h10
   rw [vNode_if u f deep w _ hb h10 hk] at h ⊢
   simp only [Bool.and_eq_true] at h ⊢
   exact ⟨⟨⟨⟨types_mono hs h.1.1.1.1, (ih a (by rw [hk]; simp)).list hs h.1.1.1.2⟩, (ih b (by rw [hk]; simp)).list hs h.1.1.2⟩, h.1.2⟩, h.2⟩
  by_cases h11 : x.kind = 11
  ·obtain ⟨a, hk⟩ := r8bare_loop hb h11
   rw [vNode_loop u f deep w _ hb h11 hk] at h ⊢
   simp only [Bool.and_eq_true] at h ⊢
   exact ⟨⟨⟨⟨types_mono hs h.1.1.1.1, h.1.1.1.2⟩, (ih a (by rw [hk]; simp)).list (hs.app (.refl _)) h.1.1.2⟩, h.1.2⟩, h.2⟩
  have e10 : (x.kind == 10) = false := by simpa using h10
  have e11 : (x.kind == 11) = false := by simpa using h11
  rw [vNode_simple u f deep w _ hb e10 e11] at h ⊢
  exact sform_mono hs h
theorem go_mono (u : Un) (f : Fl) : ∀ (l : List Nd), (∀ x ∈ l, ∀ q ∈ x.kids, MG u f q) → MG u f l
  | [], _ => fun _ _ _ _ _ _ => by simp [vGo]
  | x :: r, ih => fun deep w all all' hs h => by
    simp only [vGo, Bool.and_eq_true] at h ⊢
    exact ⟨⟨⟨h.1.1.1, node_mono u f x (ih x (.head _)) _ _ _ _ hs h.1.1.2⟩, h.1.2⟩, go_mono u f r (fun y hy => ih y (.tail _ hy)) _ _ _ _ (hs.app (.refl _)) h.2⟩
theorem mg_all (u : Un) (f : Fl) : ∀ (N : Nat) (l : List Nd), SizeOf.sizeOf l < N → MG u f l
  | 0, _, h => absurd h (Nat.not_lt_zero _)
  | N + 1, l, hN => go_mono u f l fun x hx q hq => mg_all u f N q (Nat.lt_of_lt_of_le (kid_lt hx rfl hq) (Nat.le_of_lt_succ hN))
theorem mg (u : Un) (f : Fl) (l : List Nd) : MG u f l := mg_all u f _ l (Nat.lt_succ_self _)
def vPre (u : Un) (f : Fl) (deep : Int) (w : Wh) (all : List Int) : List Nd → Bool
  | [] => true
  | x :: r => !decide (deep > 100) && vNode u f deep w all x && !r8Closed x && vPre u f deep w (all ++ x.outs) r
theorem go_app (u : Un) (f : Fl) (deep : Int) (w : Wh) : ∀ (A T : List Nd) (all : List Int), T ≠ [] → vPre u f deep w all A = true → vGo u f deep w (all ++ A.flatMap Nd.outs) T = true → vGo u f deep w all (A ++ T) = true
  | [], T, all, _, _, h => by simpa using h
  | x :: r, T, all, hT, h1, h2 => by
    simp only [vPre, Bool.and_eq_true] at h1
    simp only [List.cons_append, vGo, Bool.and_eq_true]
    refine ⟨⟨h1.1.1, ?_⟩, go_app u f deep w r T (all ++ x.outs) hT h1.2 (by rw [List.flatMap_cons, ← List.append_assoc] at h2; exact h2)⟩
    have hc : r8Closed x = false := by simpa using h1.1.2
    have he : (r ++ T).isEmpty = false := by
      cases r with
      | nil => cases T with
        | nil => exact absurd rfl hT
        | cons _ _ => rfl
      | cons _ _ => rfl
    rw [hc, he]; rfl
theorem contains_headD {l : List Int} (h : l.length = 1) (v : Int) (hv : l.contains v = true) : v = l.headD 0 := by
  match l, h with
  | [a], _ => simpa using hv
theorem part_ok (u : Un) (f : Fl) (dI dO : Int) (wI wO : Wh) (hdO : ¬ dO > 100) : ∀ (l : List Nd) (V S vs : List Int), vGo u f dI wI V l = true → (∀ v, V.contains v = true → S.contains v = true ∨ vs.contains v = true) →
    vPre u f dO wO S (hPart vs l).1 = true ∧ (∀ V', SubL V V' → SubL ((hPart vs l).1.flatMap Nd.outs) V' → vGo u f dI wI V' (hPart vs l).2 = true) ∧ (l ≠ [] → (hPart vs l).2 ≠ [])
  | [], V, S, vs, _, _ => ⟨rfl, fun _ _ _ => rfl, fun h => absurd rfl h⟩
  | x :: r, V, S, vs, h, hV => by
    have h0 := h
    simp only [vGo, Bool.and_eq_true] at h
    obtain ⟨⟨⟨hd, hx⟩, hc⟩, hr⟩ := h
    have hb := vNode_bare u f dI wI V hx
    unfold hPart
    by_cases hm : hmless x = true
    ·rw [if_pos hm]
     obtain ⟨e10, e11, hcl, _⟩ := hmless_no hm
     have hne : r ≠ [] := by
       intro e; subst e
       rw [hcl] at hc; simp at hc
     have hx2 := hx
     rw [vNode_simple u f dI wI V hb e10 e11] at hx2
     by_cases ha : x.args.any (fun v => vs.contains v) = true
     ·rw [if_pos ha]
      obtain ⟨_, hol⟩ := sform_moved (s' := V) (w' := wI) hm (fun _ _ h => h) hx2
      obtain ⟨i1, i2, i3⟩ := part_ok u f dI dO wI wO hdO r (V ++ x.outs) S (vs ++ [x.outs.headD 0]) hr (fun v hv => by
        rw [List.contains_append, Bool.or_eq_true] at hv
        rw [List.contains_append, Bool.or_eq_true]
        rcases hv with hv | hv
        · exact (hV v hv).imp_right .inl
        · have := contains_headD hol v hv
          exact .inr (.inr (by rw [this]; simp)))
      refine ⟨i1, fun V' h1 h2 => ?_, fun _ => by simp⟩
      have hR := i3 hne
      have hRe : (hPart (vs ++ [x.outs.headD 0]) r).2.isEmpty = false := by
        cases hq : (hPart (vs ++ [x.outs.headD 0]) r).2 with
        | nil => exact absurd hq hR
        | cons _ _ => rfl
      simp only [vGo, Bool.and_eq_true]
      refine ⟨⟨⟨hd, node_mono u f x (fun q _ => mg u f q) _ _ _ _ h1 hx⟩, by rw [hcl, hRe]; rfl⟩, i2 (V' ++ x.outs) (h1.app (.refl _)) (fun v hv => ?_)⟩
      rw [List.contains_append, h2 v hv]; rfl
     rw [if_neg ha]
     have hargs : ∀ v ∈ x.args, V.contains v = true → S.contains v = true := fun v hv hVv => by
       rcases hV v hVv with h | h
       ·exact h
       exact absurd (List.any_eq_true.2 ⟨v, hv, h⟩) ha
     obtain ⟨hmv, _⟩ := sform_moved (s' := S) (w' := wO) hm hargs hx2
     obtain ⟨i1, i2, i3⟩ := part_ok u f dI dO wI wO hdO r (V ++ x.outs) (S ++ x.outs) vs hr (fun v hv => by
       rw [List.contains_append, Bool.or_eq_true] at hv
       rw [List.contains_append, Bool.or_eq_true]
       rcases hv with hv | hv
       · exact (hV v hv).imp_left .inl
       · exact .inl (.inr hv))
     refine ⟨?_, fun V' h1 h2 => ?_, fun _ => i3 hne⟩
     ·simp only [vPre, Bool.and_eq_true]
      refine ⟨⟨⟨by simpa using hdO, ?_⟩, by rw [hcl]; rfl⟩, i1⟩
      rw [vNode_simple u f dO wO S hb e10 e11]
      exact hmv
     refine i2 V' (fun v hv => ?_) (fun v hv => h2 v (by rw [List.flatMap_cons, List.contains_append, hv, Bool.or_true]))
     rw [List.contains_append, Bool.or_eq_true] at hv
     rcases hv with hv | hv
     ·exact h1 v hv
     exact h2 v (by rw [List.flatMap_cons, List.contains_append, hv]; rfl)
    rw [if_neg hm]
    refine ⟨rfl, fun V' h1 _ => mg u f (x :: r) dI wI V V' h1 h0, fun _ => by simp⟩
def HP (u : Un) (f : Fl) (l : List Nd) : Prop := ∀ (deep : Int) (w : Wh) (all all' : List Int), SubL all all' → vGo u f deep w all l = true → vGo u f deep w all' (hList l) = true
theorem HP.list {u : Un} {f : Fl} {l : List Nd} (h : HP u f l) {deep : Int} {w : Wh} {all all' : List Int} (hs : SubL all all') (hv : vList u f deep w all l = true) : vList u f deep w all' (hList l) = true := by
  simp only [vList, Bool.and_eq_true] at hv ⊢
  refine ⟨?_, h deep w all all' hs hv.2⟩
  have hne : l ≠ [] := by intro e; subst e; simp at hv
  cases hq : hList l with
  | nil => exact absurd hq (hList_ne hne)
  | cons _ _ => rfl
theorem bare_kidsEq {kind op n : Int} {name : ByteArray} {args outs params : List Int} {ks ks' : List (List Nd)} (h : ks'.length = ks.length) : r8bare (.mk kind op n name args outs params ks') = r8bare (.mk kind op n name args outs params ks) := by
  unfold r8bare r8op r8num r8name r8kn
  simp only [Nd.kind, Nd.op, Nd.n, Nd.name, Nd.kids, Nd.params]
  rw [h]
  rfl
theorem node_h (u : Un) (f : Fl) (x : Nd) (ih : ∀ q ∈ x.kids, HP u f q) (deep : Int) (w : Wh) (all all' : List Int) (hd : ¬ deep > 100) (hs : SubL all all') (h : vNode u f deep w all x = true) :
    ∃ A y, hNode x = A ++ [y] ∧ vPre u f deep w all' A = true ∧ vNode u f deep w (all' ++ A.flatMap Nd.outs) y = true ∧ r8Closed y = r8Closed x ∧ y.outs = x.outs := by
  have hb := vNode_bare u f deep w all h
  by_cases h10 : x.kind = 10
  ·obtain ⟨a, b, hk⟩ := r8bare_if hb h10
   rw [vNode_if u f deep w all hb h10 hk] at h
   simp only [Bool.and_eq_true] at h
   have ha := (ih a (by rw [hk]; simp)).list hs h.1.1.1.2
   have hbb := (ih b (by rw [hk]; simp)).list hs h.1.1.2
   have hla := last_h a
   have hlb := last_h b
   cases x with
   | mk kind op n name args outs params ks =>
     simp only [Nd.kind, Nd.kids] at h10 hk
     subst h10 hk
     refine ⟨[], .mk 10 op n name args outs params [hList a, hList b], rfl, rfl, ?_, ?_, rfl⟩
     ·rw [List.flatMap_nil, List.append_nil]
      have hb2 : r8bare (.mk 10 op n name args outs params [hList a, hList b]) = true := (bare_kidsEq (ks := [a, b]) (ks' := [hList a, hList b]) rfl).trans hb
      rw [vNode_if u f deep w all' hb2 rfl rfl]
      simp only [Bool.and_eq_true]
      refine ⟨⟨⟨⟨types_mono hs h.1.1.1.1, ha⟩, hbb⟩, ?_⟩, h.2⟩
      have ho := h.1.2
      unfold outOk r8Closed at ho ⊢
      simpa [Nd.kind, Nd.kids, Nd.outs, kid0, kid1, hla, hlb] using ho
     simp [r8Closed, Nd.kind, Nd.kids, kid0, kid1, hla, hlb]
  by_cases h11 : x.kind = 11
  ·obtain ⟨a, hk⟩ := r8bare_loop hb h11
   rw [vNode_loop u f deep w all hb h11 hk] at h
   simp only [Bool.and_eq_true] at h
   have hIH := (ih a (by rw [hk]; simp)).list (SubL.refl (all ++ x.params)) h.1.1.2
   simp only [vList, Bool.and_eq_true] at hIH
   have hne : hList a ≠ [] := by intro e; rw [e] at hIH; simp at hIH
   obtain ⟨p1, p2, p3⟩ := part_ok u f (deep + 1) deep (w2 f x) w hd (hList a) (all ++ x.params) all' x.params hIH.2 (fun v hv => by
     rw [List.contains_append, Bool.or_eq_true] at hv
     exact hv.imp_left (hs v))
   obtain ⟨l1, l2⟩ := leaves_part (hList a) x.params
   have l3 := leaves_list a
   cases x with
   | mk kind op n name args outs params ks =>
     simp only [Nd.kind, Nd.kids] at h11 hk
     subst h11 hk
     simp only [Nd.params] at p1 p2 p3 l2 h
     refine ⟨(hPart params (hList a)).1, .mk 11 op n name args outs params [(hPart params (hList a)).2], rfl, p1, ?_, ?_, rfl⟩
     ·have hb2 : r8bare (.mk 11 op n name args outs params [(hPart params (hList a)).2]) = true := (bare_kidsEq (ks := [a]) (ks' := [(hPart params (hList a)).2]) rfl).trans hb
      rw [vNode_loop u f deep w _ hb2 rfl rfl]
      simp only [Bool.and_eq_true, vList, Nd.params, Nd.args, Nd.outs] at h ⊢
      refine ⟨⟨⟨⟨types_mono hs.left h.1.1.1.1, h.1.1.1.2⟩, ?_, ?_⟩, ?_⟩, h.2⟩
      ·cases hq : (hPart params (hList a)).2 with
       | nil => exact absurd hq (p3 hne)
       | cons _ _ => rfl
      ·exact p2 _ (hs.left.app (.refl _)) (fun v hv => by rw [List.contains_append, List.contains_append, hv, Bool.or_true, Bool.true_or])
      have ho := h.1.2
      unfold outOk r8Closed at ho ⊢
      simpa [Nd.kind, Nd.kids, Nd.outs, kid0, l2, l3] using ho
     simp [r8Closed, Nd.kind, Nd.kids, kid0, l2, l3]
  have e10 : (x.kind == 10) = false := by simpa using h10
  have e11 : (x.kind == 11) = false := by simpa using h11
  have hk0 := bare_kids0 hb e10 e11
  have hx : hNode x = [x] := by
    cases x with
    | mk kind op n name args outs params ks =>
      simp only [Nd.kind, Nd.kids] at e11 hk0
      subst hk0
      simp [hNode, hOut, hKids, e11]
  refine ⟨[], x, hx, rfl, ?_, rfl, rfl⟩
  rw [List.flatMap_nil, List.append_nil]
  exact node_mono u f x (fun q _ => mg u f q) _ _ _ _ hs h
theorem go_h (u : Un) (f : Fl) : ∀ (l : List Nd), (∀ x ∈ l, ∀ q ∈ x.kids, HP u f q) → HP u f l
  | [], _ => fun _ _ _ _ _ _ => by simp [hList, vGo]
  | x :: r, ih => fun deep w all all' hs h => by
    simp only [vGo, Bool.and_eq_true] at h
    obtain ⟨⟨⟨hd, hx⟩, hc⟩, hr⟩ := h
    obtain ⟨A, y, e, hA, hy, hcy, hoy⟩ := node_h u f x (ih x (.head _)) deep w all all' (by simpa using hd) hs hx
    rw [show hList (x :: r) = hNode x ++ hList r from rfl, e, List.append_assoc]
    refine go_app u f deep w A _ all' (by simp) hA ?_
    simp only [List.singleton_append, vGo, Bool.and_eq_true]
    refine ⟨⟨⟨hd, hy⟩, ?_⟩, go_h u f r (fun z hz => ih z (.tail _ hz)) deep w (all ++ x.outs) _ (by rw [hoy]; exact hs.left.app (.refl _)) hr⟩
    rw [hcy]
    have he : (hList r).isEmpty = r.isEmpty := by
      cases r with
      | nil => rfl
      | cons z r' =>
        cases hq : hList (z :: r') with
        | nil => exact absurd hq (hList_ne (by simp))
        | cons _ _ => rfl
    rw [he]; exact hc
theorem hp_all (u : Un) (f : Fl) : ∀ (N : Nat) (l : List Nd), SizeOf.sizeOf l < N → HP u f l
  | 0, _, h => absurd h (Nat.not_lt_zero _)
  | N + 1, l, hN => go_h u f l fun x hx q hq => hp_all u f N q (Nat.lt_of_lt_of_le (kid_lt hx rfl hq) (Nat.le_of_lt_succ hN))
theorem vList_hoist (u : Un) (f : Fl) {deep : Int} {w : Wh} {all : List Int} {l : List Nd} (h : vList u f deep w all l = true) : vList u f deep w all (hList l) = true :=
  (hp_all u f _ l (Nat.lt_succ_self _)).list (SubL.refl _) h
theorem place_h (name : ByteArray) : ∀ (l : List Fl) (i : Int), r8Place name (l.map hFlow) i = r8Place name l i
  | [], _ => rfl
  | f :: r, i => by
    have ih := place_h name r (i + 1)
    unfold r8Place
    rw [List.map_cons]
    simp only [ih]
    rfl
theorem sForm_h (u : Un) (f : Fl) (x : Nd) (s : List Int) (w : Wh) : sForm (hUnit u) (hFlow f) x s w = sForm u f x s w := by
  unfold sForm
  simp only [hUnit, hFlow, place_h, List.getElem?_map]
  cases u.flows[(r8Place x.name u.flows 0).toNat]? with
  | none => rfl
  | some g => rfl
mutual
theorem vNode_h (u : Un) (f : Fl) : ∀ (x : Nd) (deep : Int) (w : Wh) (s : List Int), vNode (hUnit u) (hFlow f) deep w s x = vNode u f deep w s x
  | .mk kind op n name args outs params ks, deep, w, s => by
    unfold vNode
    rw [sForm_h]
    match ks with
    | [] => rfl
    | [a] =>
      have h1 := vGo_h u f a (deep + 1) (w2 f (.mk kind op n name args outs params [a])) (s ++ params)
      simp only [show w2 (hFlow f) (.mk kind op n name args outs params [a]) = w2 f (.mk kind op n name args outs params [a]) from rfl, h1]
      rfl
    | a :: b :: r =>
      have h1 := vGo_h u f a (deep + 1) (w2 f (.mk kind op n name args outs params (a :: b :: r))) (s ++ params)
      have h2 := vGo_h u f a (deep + 1) (w1 w f (.mk kind op n name args outs params (a :: b :: r))) s
      have h3 := vGo_h u f b (deep + 1) (w1 w f (.mk kind op n name args outs params (a :: b :: r))) s
      simp only [show w2 (hFlow f) (.mk kind op n name args outs params (a :: b :: r)) = w2 f (.mk kind op n name args outs params (a :: b :: r)) from rfl, show w1 w (hFlow f) (.mk kind op n name args outs params (a :: b :: r)) = w1 w f (.mk kind op n name args outs params (a :: b :: r)) from rfl, h1, h2, h3]
      rfl
theorem vGo_h (u : Un) (f : Fl) : ∀ (l : List Nd) (deep : Int) (w : Wh) (s : List Int), vGo (hUnit u) (hFlow f) deep w s l = vGo u f deep w s l
  | [], _, _, _ => by simp [vGo]
  | x :: r, deep, w, s => by
    unfold vGo
    rw [vNode_h u f x, vGo_h u f r]
end
theorem flow_h {u : Un} {f : Fl} (h : r8Flow u f = true) : r8Flow (hUnit u) (hFlow f) = true := by
  unfold r8Flow at h ⊢
  simp only [Bool.and_eq_true] at h ⊢
  obtain ⟨h1, h2⟩ := h
  refine ⟨h1, ?_⟩
  have hp : f.params.toNat ≤ f.types.length := by
    have a1 := h1.1.1.1.1
    have a2 := h1.1.1.2
    simp only [Bool.not_eq_true', decide_eq_false_iff_not] at a1 a2
    omega
  have hn : (firsts f.params.toNat f.types.length).length = f.types.length := firsts_length hp
  rw [r8list_iff u f f.body 1 r8where0 _ _ hn] at h2
  show (r8list (hUnit u) (hFlow f) 1 r8where0 (iota f.params.toNat) (firsts f.params.toNat f.types.length) (hList f.body)).1 = true
  rw [r8list_iff (hUnit u) (hFlow f) (hList f.body) 1 r8where0 _ _ hn]
  have hv := vList_hoist u f h2.1
  simp only [vList, Bool.and_eq_true] at hv ⊢
  exact ⟨⟨hv.1, by rw [vGo_h]; exact hv.2⟩, h2.2.perm (hList_perm f.body).symm⟩
theorem gA_h (u : Un) : ∀ (l : List Ar) (i : Int), r8gA (hUnit u) l i = r8gA u l i
  | [], _ => rfl
  | a :: r, i => by
    have h1 : gArr (hUnit u) a i = gArr u a i := by simp only [gArr, hUnit, place_h]
    simp only [r8gA, gA_h u r, h1]
theorem gF_h (u : Un) : ∀ (l : List Fl) (i : Int), r8gF (hUnit u) (l.map hFlow) i = r8gF u l i
  | [], _ => rfl
  | a :: r, i => by
    have h1 : gFlw (hUnit u) (hFlow a) i = gFlw u a i := by
      simp only [gFlw, hUnit, place_h]
      rfl
    simp only [List.map_cons, r8gF, gF_h u r, h1]
theorem getD_map_h (l : List Fl) (k : Nat) : ((l.map hFlow).getD k flDef).ty = (l.getD k flDef).ty ∧ ((l.map hFlow).getD k flDef).params = (l.getD k flDef).params := by
  simp only [List.getD_eq_getElem?_getD, List.getElem?_map]
  cases l[k]? with
  | none => exact ⟨rfl, rfl⟩
  | some g => exact ⟨rfl, rfl⟩
theorem globals_h (u : Un) : r8globals (hUnit u) = r8globals u := by
  unfold r8globals
  rw [show (hUnit u).arrays = u.arrays from rfl, show (hUnit u).flows = u.flows.map hFlow from rfl, gA_h, gF_h]
  unfold r8main
  rw [show (hUnit u).flows = u.flows.map hFlow from rfl, place_h, (getD_map_h _ _).1, (getD_map_h _ _).2]
theorem flows_iff (u : Un) : ∀ (l : List Fl) (i : Int), (r8flows u l i).1 = 0 ↔ ∀ f ∈ l, r8Flow u f = true
  | [], _ => by simp [r8flows]
  | f :: r, i => by
    unfold r8flows
    cases h : r8Flow u f with
    | false => simp [h]
    | true => simp [h, flows_iff u r (i + 1)]
theorem flows_zero (u : Un) : ∀ (l : List Fl) (i : Int), (∀ f ∈ l, r8Flow u f = true) → r8flows u l i = (0, 0)
  | [], _, _ => rfl
  | f :: r, i, h => by
    unfold r8flows
    rw [if_pos (h f (.head _))]
    exact flows_zero u r (i + 1) fun g hg => h g (.tail _ hg)
theorem check_iff (u : Un) : (r8Check u).1 = 0 ↔ r8globals u = true ∧ ∀ f ∈ u.flows, r8Flow u f = true := by
  unfold r8Check
  cases h : r8globals u with
  | false => simp
  | true => simp [flows_iff]
theorem check_hoist {u : Un} (h : (r8Check u).1 = 0) : r8Check (hUnit u) = (0, 0) := by
  obtain ⟨h1, h2⟩ := (check_iff u).1 h
  unfold r8Check
  rw [globals_h, h1, if_pos rfl]
  refine flows_zero (hUnit u) _ 0 fun g hg => ?_
  obtain ⟨f, hf, rfl⟩ := List.mem_map.1 hg
  exact flow_h (h2 f hf)
mutual
theorem okN_valid (u : Un) (f : Fl) : ∀ (x : Nd) (deep : Int) (w : Wh) (s : List Int), vNode u f deep w s x = true → hOkN x = true
  | .mk kind op n name args outs params ks, deep, w, s, h => by
    have hb := vNode_bare u f deep w s h
    simp only [hOkN, Bool.and_eq_true]
    refine ⟨⟨?_, ?_⟩, ?_⟩
    ·cases hm : hmless (.mk kind op n name args outs params ks) with
     | false => rfl
     | true =>
       obtain ⟨e10, e11, _, _⟩ := hmless_no hm
       rw [vNode_simple u f deep w s hb e10 e11] at h
       obtain ⟨_, hl⟩ := sform_moved (s' := s) (w' := w) hm (fun _ _ h => h) h
       simp only [Nd.outs] at hl
       cases outs with
       | nil => simp at hl
       | cons _ _ => rfl
    ·cases hk : (kind == 11) with
     | false => simp [bne, hk]
     | true =>
       obtain ⟨a, ha⟩ := r8bare_loop hb (show kind = 11 by simpa using hk)
       simp only [Nd.kids] at ha
       simp [ha]
    by_cases h10 : kind = 10
    ·obtain ⟨a, b, hk⟩ := r8bare_if hb h10
     rw [vNode_if u f deep w s hb h10 hk] at h
     simp only [Bool.and_eq_true, vList] at h
     simp only [Nd.kids] at hk
     match ks, hk with
     | [a', b'], hk =>
       cases hk
       simp only [hOkK, Bool.and_eq_true, Bool.and_true]
       exact ⟨okL_valid u f a _ _ _ h.1.1.1.2.2, okL_valid u f b _ _ _ h.1.1.2.2⟩
    by_cases h11 : kind = 11
    ·obtain ⟨a, hk⟩ := r8bare_loop hb h11
     rw [vNode_loop u f deep w s hb h11 hk] at h
     simp only [Bool.and_eq_true, vList] at h
     simp only [Nd.kids] at hk
     match ks, hk with
     | [a'], hk =>
       cases hk
       simp only [hOkK, Bool.and_true]
       exact okL_valid u f a _ _ _ h.1.1.2.2
    have hk0 := bare_kids0 hb (show (kind == 10) = false by simpa using h10) (show (kind == 11) = false by simpa using h11)
    simp only [Nd.kids] at hk0
    rw [hk0]; rfl
theorem okL_valid (u : Un) (f : Fl) : ∀ (l : List Nd) (deep : Int) (w : Wh) (s : List Int), vGo u f deep w s l = true → hOkL l = true
  | [], _, _, _, _ => rfl
  | x :: r, deep, w, s, h => by
    simp only [vGo, Bool.and_eq_true] at h
    simp only [hOkL, Bool.and_eq_true]
    exact ⟨okN_valid u f x _ _ _ h.1.1.2, okL_valid u f r _ _ _ h.2⟩
end
theorem hok_valid {u : Un} (h : (shCheck u).1 = 0) : ∀ f ∈ u.flows, hOkL f.body = true := by
  rw [shCheck_eq] at h
  intro f hf
  have hF := ((check_iff u).1 h).2 f hf
  unfold r8Flow at hF
  simp only [Bool.and_eq_true] at hF
  obtain ⟨h1, h2⟩ := hF
  have hp : f.params.toNat ≤ f.types.length := by
    have a1 := h1.1.1.1.1
    have a2 := h1.1.1.2
    simp only [Bool.not_eq_true', decide_eq_false_iff_not] at a1 a2
    omega
  have hn : (firsts f.params.toNat f.types.length).length = f.types.length := firsts_length hp
  rw [r8list_iff u f f.body 1 r8where0 _ _ hn] at h2
  have hv := h2.1
  simp only [vList, Bool.and_eq_true] at hv
  exact okL_valid u f f.body _ _ _ hv.2
theorem wtL_app : ∀ (a b : List Nd), wtL (a ++ b) = wtL a + wtL b
  | [], b => by simp [wtL]
  | x :: r, b => by simp only [List.cons_append, wtL, wtL_app r b]; omega
theorem wt_part : ∀ (l : List Nd) (vs : List Int), wtL (hPart vs l).1 + wtL (hPart vs l).2 = wtL l
  | [], _ => rfl
  | x :: r, vs => by
    unfold hPart
    split
    ·split
     ·have := wt_part r (vs ++ [x.outs.headD 0]); simp only [wtL]; omega
     have := wt_part r vs; simp only [wtL]; omega
    simp [wtL]
mutual
theorem wt_node : ∀ x : Nd, (hNode x).length + wtL (hNode x) = 1 + wtN x
  | .mk kind op n name args outs params ks => by
    have hk := wt_kids ks
    unfold hNode hOut
    split
    ·cases hq : hKids ks with
     | nil => rw [hq] at hk; simp only [wtL, wtN, List.length_cons, List.length_nil] at hk ⊢; omega
     | cons b r =>
       rw [hq] at hk
       have h1 := wt_part b params
       have h2 := hPart_len b params
       simp only [wtL_app, wtL, wtN, wtK, List.length_append, List.length_cons, List.length_nil] at hk ⊢
       omega
    simp only [wtL, wtN, List.length_cons, List.length_nil]; omega
theorem wt_list : ∀ l : List Nd, (hList l).length + wtL (hList l) = l.length + wtL l
  | [] => rfl
  | x :: r => by
    have h1 := wt_node x
    have h2 := wt_list r
    simp only [hList, wtL_app, wtL, List.length_append, List.length_cons]
    omega
theorem wt_kids : ∀ ks : List (List Nd), wtK (hKids ks) = wtK ks
  | [] => rfl
  | l :: r => by
    have h1 := wt_list l
    have h2 := wt_kids r
    simp only [hKids, wtK]
    omega
end
theorem wtF_h : ∀ l : List Fl, wtF (l.map hFlow) = wtF l
  | [] => rfl
  | f :: r => by
    have h1 := wt_list f.body
    have h2 := wtF_h r
    simp only [List.map_cons, wtF, r8nodes, hFlow] at h2 ⊢
    omega
theorem weight_h (u : Un) : r8Weight (hUnit u) = r8Weight u := by
  unfold r8Weight
  rw [show (hUnit u).flows = u.flows.map hFlow from rfl, wtF_h, List.length_map]
  rfl
theorem hoistOf_bad {u : Un} (h : (r8Check u).1 ≠ 0) : hoistOf u = (⟨[], []⟩, 1) := by
  have : ((shCheck u).1 == 0) = false := by rw [shCheck_eq]; simpa using h
  simp [hoistOf, this]
theorem hoistOf_good {u : Un} (h : (r8Check u).1 = 0) : hoistOf u = (hUnit u, 0) := by
  have : ((shCheck u).1 == 0) = true := by rw [shCheck_eq]; simpa using h
  simp [hoistOf, this]
theorem hoistOf_weight (u : Un) : r8Weight (hoistOf u).1 ≤ r8Weight u := by
  unfold hoistOf
  split
  · rw [weight_h]; exact Nat.le_refl _
  · simp [r8Weight, wtA, wtF]
theorem same_empty : r8Same ⟨[], []⟩ ⟨[], []⟩ = true := rfl
def fIdle (x : Nd) : Bool := decide (x.kind ≤ 3) || (x.kind == 4 && x.op != 4 && x.op != 5)
def fAny (l m : List Int) : Bool := l.any fun v => m.any fun w => v == w
def fHead (x : Nd) : Bool := x.kind == 11 && (match x.kids with
  | [y :: _] => fIdle y && !fAny y.args x.params
  | _ => false)
mutual
def fineN : Nd → Bool
  | .mk kind op n name args outs params ks => !fHead (.mk kind op n name args outs params ks) && fineK ks
def fineL : List Nd → Bool
  | [] => true
  | x :: r => fineN x && fineL r
def fineK : List (List Nd) → Bool
  | [] => true
  | l :: r => fineL l && fineK r
end
theorem fineN_eq (x : Nd) : fineN x = (!fHead x && fineK x.kids) := by cases x; simp [fineN, Nd.kids]
def fRight (u : Un) : Bool := u.flows.all fun f => fineL f.body
theorem sc_fits (u : Un) (hW : r8Weight u ≤ 536870912) : SC Tryz.prog 9 [.pv u.enc] [] (fun _ => False) (iBool true) [] := by
  refine SC.of Tryz.func9 rfl (lb rfl) fun F ρ w => ?_
  refine tQ <| tG <| cE rfl (ok_box rfl rfl) <| sm 1 rfl <| nL <| tQ <| tG <| cV rfl (ok_load_ept_agg rfl rfl Tryz.underlying25 rfl tS25 (lb rfl)) <| cE rfl (ocq (sc_Hoist u hW hok_valid) ent11 rfl rfl) <| sm 1 rfl <| cV rfl (ok_extract rfl rfl rfl) <| cV rfl (ok_extract rfl rfl rfl) ?_
  refine cE rfl (ok_alloc (k := 103) rfl tZ25 rfl rfl rfl rfl) <| c0 (ok_store_box_agg rfl rfl rfl rfl rfl ((fun h => h)) tS25 (firmL_ok rfl) (lb rfl)) <| sm 1 rfl <| nL <| tQ <| Tr.freezeBox (t := 3) (k := 103) rfl rfl rfl <| Tr.heap (σ' := look []) (fun k => by simp only [look]; cases Nat.beq 103 k <;> rfl) <| tG <| cV rfl (ok_load_ept_agg rfl rfl Tryz.underlying25 rfl tS25 (lb rfl)) <| cE rfl (ocq (sc_r8Check u hW) ent19 rfl rfl) <| sm 1 rfl <| cV rfl (ok_extract rfl rfl rfl) ?_
  refine cV rfl (ok_extract rfl rfl rfl) <| sm 2 rfl <| nL <| tQ <| tQ <| tG <| sm 2 rfl <| nL ?_
  refine tC rfl (fun hc20 => ?_) fun hc20 => ?_
  ·refine tQ <| tG <| sm 3 rfl ?_
   refine wS 23 rfl (fun hb23 => ?_) fun hb23 => ?_
   ·refine yV rfl rfl (ok_load_ept_agg rfl rfl Tryz.underlying25 rfl tS25 (lb rfl)) <| yV rfl rfl (ok_build_pure rfl rfl tZ25 tP25 rfl (firmB_ok rfl) rfl) <| WL.yes rfl rfl rfl rfl rfl rfl (ok_callq (sc_r8Same (hoistOf u).1 ⟨[], []⟩) ent15 rfl rfl (Subs.same rfl (Subs.cons (fun _ _ _ _ h => empty_unit h) Subs.nil)) rfl) <| sm 2 rfl <| nL <| Tr.ret <| ret_ok rfl ?_ no_post
    have hH := hoistOf_bad (u := u) (by simpa using hc20)
    have h1 : ((hoistOf u).2 == 1) = true := by rw [hH]; rfl
    have h2 : r8Same (hoistOf u).1 ⟨[], []⟩ = true := by rw [hH]; exact same_empty
    refine congrArg (fun b => iBool b) ?_
    exact h2
   refine sm 5 rfl <| nL <| Tr.ret <| ret_ok rfl ?_ no_post
   have hH := hoistOf_bad (u := u) (by simpa using hc20)
   have h1 : ((hoistOf u).2 == 1) = true := by rw [hH]; rfl
   have h2 : r8Same (hoistOf u).1 ⟨[], []⟩ = true := by rw [hH]; exact same_empty
   refine congrArg (fun b => iBool b) ?_
   simp_all
  refine Tr.skip <| tQ <| tG <| cV rfl (ok_load_ept_agg rfl rfl Tryz.underlying25 rfl tS25 (lb rfl)) <| cE rfl (ocq (sc_r8Check (hoistOf u).1 (Nat.le_trans (hoistOf_weight u) hW)) ent19 rfl rfl) <| sm 1 rfl <| cV rfl (ok_extract rfl rfl rfl) <| cV rfl (ok_extract rfl rfl rfl) <| sm 2 rfl <| nL <| tQ <| tG ?_
  refine sm 3 rfl ?_
  refine wS 35 rfl (fun hb35 => ?_) fun hb35 => ?_
  ·refine sm 4 rfl ?_
   refine wS 39 rfl (fun hb39 => ?_) fun hb39 => ?_
   ·refine yV rfl rfl (ok_load_ept_agg rfl rfl Tryz.underlying25 rfl tS25 (lb rfl)) <| yV rfl rfl (ok_load_ept_agg rfl rfl Tryz.underlying25 rfl tS25 (lb rfl)) <| WL.yes rfl rfl rfl rfl rfl rfl (ok_callq (sc_sameHeads u (hoistOf u).1) ent20 rfl rfl (Subs.refl _ _) rfl) <| sm 2 rfl <| nL <| Tr.ret <| ret_ok rfl ?_ no_post
    have hz : (r8Check u).1 = 0 := by simpa using hc20
    have hH := hoistOf_good (u := u) hz
    have hK := check_hoist hz
    have hS := sameHeads_hoist (u := u) (by rw [shCheck_eq]; exact hz)
    have h1 : ((hoistOf u).2 == 0) = true := by rw [hH]; rfl
    have h2 : ((r8Check (hoistOf u).1).1 == 0) = true := by rw [hH, hK]; rfl
    have h3 : sameHeads u (hoistOf u).1 = true := by rw [hH]; exact hS
    refine congrArg (fun b => iBool b) ?_
    exact h3
   refine sm 5 rfl <| nL <| Tr.ret <| ret_ok rfl ?_ no_post
   have hz : (r8Check u).1 = 0 := by simpa using hc20
   have hH := hoistOf_good (u := u) hz
   have hK := check_hoist hz
   have hS := sameHeads_hoist (u := u) (by rw [shCheck_eq]; exact hz)
   have h1 : ((hoistOf u).2 == 0) = true := by rw [hH]; rfl
   have h2 : ((r8Check (hoistOf u).1).1 == 0) = true := by rw [hH, hK]; rfl
   have h3 : sameHeads u (hoistOf u).1 = true := by rw [hH]; exact hS
   refine congrArg (fun b => iBool b) ?_
   simp_all
  refine sm 9 rfl <| nL <| Tr.ret <| ret_ok rfl ?_ no_post
  have hz : (r8Check u).1 = 0 := by simpa using hc20
  have hH := hoistOf_good (u := u) hz
  have hK := check_hoist hz
  have hS := sameHeads_hoist (u := u) (by rw [shCheck_eq]; exact hz)
  have h1 : ((hoistOf u).2 == 0) = true := by rw [hH]; rfl
  have h2 : ((r8Check (hoistOf u).1).1 == 0) = true := by rw [hH, hK]; rfl
  have h3 : sameHeads u (hoistOf u).1 = true := by rw [hH]; exact hS
  refine congrArg (fun b => iBool b) ?_
  simp_all
theorem sc_idle (x : Nd) : SC Tryz.prog 40 [.pv (ndv x)] [] (fun _ => False) (iBool (fIdle x)) [] := by
  refine SC.of Tryz.func40 rfl (lb rfl) fun F ρ w => ?_
  refine tQ <| tG <| cE rfl (ok_box rfl rfl) <| sm 1 rfl <| nL <| tQ <| tG <| sm 4 rfl ?_
  refine wS 6 rfl (fun hb6 => ?_) fun hb6 => ?_
  ·refine sm 4 rfl <| WL.noU rfl rfl rfl rfl rfl rfl <| WL.noU rfl rfl rfl rfl rfl rfl <| WL.noU rfl rfl rfl rfl rfl rfl <| sm 2 rfl <| WL.noU rfl rfl rfl rfl rfl rfl <| WL.noU rfl rfl rfl rfl rfl rfl <| WL.noU rfl rfl rfl rfl rfl rfl <| sm 3 rfl <| nL <| Tr.ret <| ret_ok rfl ?_ no_post
   refine congrArg (fun b => iBool b) ?_
   simp_all [fIdle]
  refine sm 4 rfl ?_
  refine wS 10 rfl (fun hb10 => ?_) fun hb10 => ?_
  ·refine sm 5 rfl ?_
   refine wS 15 rfl (fun hb15 => ?_) fun hb15 => ?_
   ·refine sm 6 rfl <| nL <| Tr.ret <| ret_ok rfl ?_ no_post
    refine congrArg (fun b => iBool b) ?_
    simp_all [fIdle]
   refine sm 6 rfl <| nL <| Tr.ret <| ret_ok rfl ?_ no_post
   refine congrArg (fun b => iBool b) ?_
   simp_all [fIdle]
  refine sm 11 rfl <| nL <| Tr.ret <| ret_ok rfl ?_ no_post
  refine congrArg (fun b => iBool b) ?_
  simp_all [fIdle]
theorem sc_any (l ms : List Int) : SC Tryz.prog 41 [.pv (ints l), .pv (ints ms)] [] (fun _ => False) (iBool (fAny l ms)) [] := by
  refine SC.of Tryz.func41 rfl (lb rfl) fun F ρ w => ?_
  refine Tr.lenOf (t := 0) rfl (fun hl => ?_)
  simp only [List.length_map] at hl
  refine Tr.lenOf (t := 1) rfl (fun hl2 => ?_)
  simp only [List.length_map] at hl2
  refine tQ <| tG <| sm 1 rfl <| nL <| tQ <| tQ <| tG <| sm 1 rfl <| nL <| Tr.block <| Tr.sub (Sub.of (fr' := [(5, iInt 0), (0, .pv (ints l)), (1, .pv (ints ms))]) ⟨rfl, rfl, rfl, trivial⟩) ?_
  refine Tr.loop (fun fr σ m => ∃ (k : Nat), (k ≤ l.length) ∧ (fAny l ms = fAny (l.drop k) ms) ∧ fr = [(5, iInt k), (0, .pv (ints l)), (1, .pv (ints ms))] ∧ σ = look [] ∧ m = l.length - k) (n := l.length - 0) ?_ ?_
  ·exact ⟨0, Nat.zero_le _, rfl, rfl, rfl, rfl⟩
  rintro fr σ m ⟨k, hI0, hI1, rfl, rfl, rfl⟩
  refine tQ <| tQ <| tG <| sm 2 rfl <| cV rfl (oSm Tryz.underlying35 rfl) <| sm 1 rfl <| nL ?_
  refine tC rfl (fun hc10 => ?_) fun hc10 => ?_
  ·have hlt : k < l.length := by simpa using hc10
   have hd := List.drop_eq_getElem_cons hlt
   have hm := List.getElem_mem hlt
   have hi := map_get (f := eInt) (List.getElem?_eq_getElem hlt)
   generalize l[k] = x at hd hm hi
   refine Tr.skip <| tQ <| Tr.block <| tQ <| tG <| sm 1 rfl <| nL <| Tr.block ?_
   have hstart : fAny l ms = ((ms.drop 0).any (fun w => x == w) || fAny (l.drop (k + 1)) ms) := by rw [hI1, hd]; rfl
   refine Tr.sub (Sub.of (fr' := [(6, iInt 0), (5, iInt k), (0, .pv (ints l)), (1, .pv (ints ms))]) ⟨rfl, rfl, rfl, rfl, trivial⟩) ?_
   refine Tr.loop (fun fr σ m => ∃ (i : Nat), (i ≤ ms.length) ∧ (fAny l ms = ((ms.drop i).any (fun w => x == w) || fAny (l.drop (k + 1)) ms)) ∧ fr = [(6, iInt i), (5, iInt k), (0, .pv (ints l)), (1, .pv (ints ms))] ∧ σ = look [] ∧ m = ms.length - i) (n := ms.length - 0) ?_ ?_
   ·exact ⟨0, Nat.zero_le _, hstart, rfl, rfl, rfl⟩
   rintro fr σ m ⟨i, hJ0, hJ1, rfl, rfl, rfl⟩
   refine tQ <| tQ <| tG <| sm 2 rfl <| cV rfl (oSm Tryz.underlying35 rfl) <| sm 1 rfl <| nL ?_
   refine tC rfl (fun hc16 => ?_) fun hc16 => ?_
   ·have hlt2 : i < ms.length := by simpa using hc16
    have hd2 := List.drop_eq_getElem_cons hlt2
    have hm2 := List.getElem_mem hlt2
    have hi2 := map_get (f := eInt) (List.getElem?_eq_getElem hlt2)
    generalize ms[i] = y at hd2 hm2 hi2
    refine Tr.skip <| tQ <| Tr.block <| tQ <| Tr.still mixed (by kernel_rfl) rfl <| smS 2 rfl <| sV rfl (ok_index_seq rfl rfl rfl Tryz.underlying35 hi tS3 rfl (by rfl)) <| smS 3 rfl <| sV rfl (ok_index_seq rfl rfl rfl Tryz.underlying35 hi2 tS3 rfl (by rfl)) <| smS 2 rfl <| WS.nil ?_
    refine tC rfl (fun hc27 => ?_) fun hc27 => ?_
    ·refine tQ <| tG <| sm 1 rfl <| nL <| Tr.ret <| ret_ok rfl ?_ no_post
     have hxy : (x == y) = true := by simpa using hc27
     rw [hJ1, hd2]
     simp only [List.any_cons, hxy, Bool.true_or]
    refine Tr.skip <| tG <| sm 1 rfl <| cV rfl (oB rfl rfl (i64_add rfl (by omega))) <| sm 1 rfl <| nL ?_
    refine ⟨_, _, ?_, Sub.of (fr' := [(6, iInt (i + 1)), (5, iInt k), (0, .pv (ints l)), (1, .pv (ints ms))]) ⟨rfl, rfl, rfl, rfl, trivial⟩, (i + 1), ?_, ?_, rfl, rfl, rfl⟩
    ·omega
    ·omega
    rw [hJ1, hd2]
    have hxy : (x == y) = false := by simpa using hc27
    simp only [List.any_cons, hxy, Bool.false_or]
   refine Tr.exit <| tG <| sm 1 rfl <| cV rfl (oB rfl rfl (i64_add rfl (by omega))) <| sm 1 rfl <| nL ?_
   refine ⟨_, _, ?_, Sub.of (fr' := [(5, iInt (k + 1)), (0, .pv (ints l)), (1, .pv (ints ms))]) ⟨rfl, rfl, rfl, trivial⟩, (k + 1), ?_, ?_, rfl, rfl, rfl⟩
   ·omega
   ·omega
   rw [hJ1, List.drop_eq_nil_of_le (by simpa using hc16)]
   rfl
  refine Tr.exit <| tQ <| tG <| sm 1 rfl <| nL <| Tr.ret <| ret_ok rfl ?_ no_post
  have hge : l.length ≤ k := by simpa using hc10
  rw [hI1, List.drop_eq_nil_of_le hge]
  rfl
theorem sc_fine_aux (N : Nat) : ∀ (l : List Nd), SizeOf.sizeOf l < N → SC Tryz.prog 24 [.pv (nodes l)] [] (fun _ => False) (iBool (fineL l)) [] := by
  induction N with
  | zero => intro l hN; exact absurd hN (Nat.not_lt_zero _)
  | succ N ih =>
    intro l hN
    refine SC.of Tryz.func24 rfl (lb rfl) fun F ρ w => ?_
    refine Tr.lenOf (t := 0) rfl (fun hl => ?_)
    simp only [List.length_map] at hl
    refine tQ <| tG <| sm 1 rfl <| nL <| tQ <| tQ <| tG <| sm 1 rfl <| nL <| Tr.block <| Tr.sub (Sub.of (fr' := [(3, iInt 0), (0, .pv (nodes l))]) ⟨rfl, rfl, trivial⟩) ?_
    refine Tr.loop (fun fr σ m => ∃ (k : Nat), (k ≤ l.length) ∧ (fineL l = fineL (l.drop k)) ∧ fr = [(3, iInt k), (0, .pv (nodes l))] ∧ σ = look [] ∧ m = l.length - k) (n := l.length - 0) ?_ ?_
    ·exact ⟨0, Nat.zero_le _, rfl, rfl, rfl, rfl⟩
    rintro fr σ m ⟨k, hI0, hI1, rfl, rfl, rfl⟩
    refine tQ <| tQ <| tG <| sm 2 rfl <| cV rfl (oSm Tryz.underlying43 rfl) <| sm 1 rfl <| nL ?_
    refine tC rfl (fun hc9 => ?_) fun hc9 => ?_
    ·have hlt : k < l.length := by simpa using hc9
     have hd := List.drop_eq_getElem_cons hlt
     have hm := List.getElem_mem hlt
     have hi := nodes_get (List.getElem?_eq_getElem hlt)
     generalize l[k] = x at hd hm hi
     refine Tr.skip <| tQ <| Tr.block <| tQ <| tG <| sm 2 rfl <| cV rfl (ok_index_seq rfl rfl rfl Tryz.underlying43 hi tS42 rfl (by rfl)) <| cV rfl (ok_load_ept_agg rfl rfl Tryz.underlying42 rfl tS42 (lb rfl)) <| cE rfl (ok_alloc (k := 104) rfl tZ42 rfl rfl rfl rfl) <| c0 (ok_store_box_agg rfl rfl rfl rfl rfl ((fun h => h)) tS42 (firmL_ok rfl) (lb rfl)) <| nL <| tQ ?_
     refine tQ <| Tr.freezeBox (t := 4) (k := 104) rfl rfl rfl <| Tr.heap (σ' := look []) (fun k => by simp only [look]; cases Nat.beq 104 k <;> rfl) ?_
     refine Tr.cut (fr' := [(54, iBool (fHead x)), (4, .pv (.ept [vInt x.kind, vInt x.op, vInt x.n, vStr x.name, ints x.args, ints x.outs, ints x.params, kids x.kids] 0)), (3, iInt k), (0, .pv (nodes l))]) (σ' := look []) ?_ ?_
     ·refine Tr.drawn mixed (fun k => k ∈ ([] : List Nat)) <| wR 15 [0, 1, 2, 3, 4, 5, 6, 7, 8, 9, 10, 11, 12, 13, 14, 15, 16, 17, 18, 19, 20, 21, 22, 23] (by kernel_rfl) (fun _ _ _ h => pn h.1) <| smR 4 rfl ?_
      refine WR.split (t := 19) rfl (fun hb19 => ?_) (fun hb19 => ?_)
      ·refine smR 2 rfl <| ryV rfl rfl rfl (oSm Tryz.underlying40 rfl) <| smR 3 rfl ?_
       refine WR.split (t := 25) rfl (fun hb25 => ?_) (fun hb25 => ?_)
       ·obtain ⟨q0, hq0⟩ : ∃ q, x.kids = [q] := List.length_eq_one_iff.1 (by have := hb25; simp at this; omega)
        have hiq : (x.kids.map eKid)[0]? = some [nodes q0] := by rw [hq0]; rfl
        refine smR 2 rfl <| ryV rfl rfl rfl (ok_index_seq rfl rfl rfl Tryz.underlying40 hiq tS43 rfl (by rfl)) <| smR 1 rfl <| ryV rfl rfl rfl (oSm Tryz.underlying43 rfl) <| smR 3 rfl ?_
        refine WR.split (t := 33) rfl (fun hb33 => ?_) (fun hb33 => ?_)
        ·obtain ⟨y, yr, hy⟩ : ∃ y yr, q0 = y :: yr := List.exists_cons_of_ne_nil (by intro e; simp_all)
         have hiy := nodes_get (l := q0) (i := 0) (x := y) (by rw [hy]; rfl)
         refine smR 2 rfl <| ryV rfl rfl rfl (ok_index_seq rfl rfl rfl Tryz.underlying40 hiq tS43 rfl (by rfl)) <| smR 1 rfl <| ryV rfl rfl rfl (ok_index_seq rfl rfl rfl Tryz.underlying43 hiy tS42 rfl (by rfl)) <| ryV rfl rfl rfl (ok_load_ept_agg rfl rfl Tryz.underlying42 rfl tS42 (lb rfl)) <| nR <| wO 24 (by kernel_rfl) <| wY rfl rfl rfl nf nw (fun _ _ => ocq (sc_idle y) ent40 rfl rfl) <| wR 3 [25, 26, 27, 28, 29, 30, 31, 32, 33, 34, 35] (by kernel_rfl) (fun _ _ _ h => pn h.1) <| smR 2 rfl ?_
         refine WR.split (t := 42) rfl (fun hb42 => ?_) (fun hb42 => ?_)
         ·refine smR 2 rfl <| ryV rfl rfl rfl (ok_index_seq rfl rfl rfl Tryz.underlying40 hiq tS43 rfl (by rfl)) <| smR 1 rfl <| ryV rfl rfl rfl (ok_index_seq rfl rfl rfl Tryz.underlying43 hiy tS42 rfl (by rfl)) <| smR 4 rfl <| nR <| wO 36 (by kernel_rfl) <| wY rfl rfl rfl nf nw (fun _ _ => ocq (sc_any y.args x.params) ent41 rfl rfl) <| wR 0 [37, 38] (by kernel_rfl) (fun _ _ _ h => pn h.1) <| smR 2 rfl <| nR <| WA.done (by kernel_rfl) ?_
          refine ⟨rfl, Sub.of ⟨?_, rfl, rfl, rfl, trivial⟩, rfl⟩
          refine congrArg (fun b => some (iBool b)) ?_
          unfold fHead
          simp_all
         refine smR 9 rfl <| nR <| wN 36 (by kernel_rfl) (fun _ _ _ h => pn h.1) rfl rfl rfl <| wR 0 [37, 38] (by kernel_rfl) (fun _ _ _ h => pn h.1) <| smR 2 rfl <| nR <| WA.done (by kernel_rfl) ?_
         refine ⟨rfl, Sub.of ⟨?_, rfl, rfl, rfl, trivial⟩, rfl⟩
         refine congrArg (fun b => some (iBool b)) ?_
         unfold fHead
         simp_all
        refine smR 6 rfl <| nR <| wN 24 (by kernel_rfl) (fun _ _ _ h => pn h.1) rfl rfl rfl <| wR 3 [25, 26, 27, 28, 29, 30, 31, 32, 33, 34, 35] (by kernel_rfl) (fun _ _ _ h => pn h.1) <| smR 11 rfl <| nR <| wN 36 (by kernel_rfl) (fun _ _ _ h => pn h.1) rfl rfl rfl <| wR 0 [37, 38] (by kernel_rfl) (fun _ _ _ h => pn h.1) <| smR 2 rfl <| nR <| WA.done (by kernel_rfl) ?_
        refine ⟨rfl, Sub.of ⟨?_, rfl, rfl, rfl, trivial⟩, rfl⟩
        refine congrArg (fun b => some (iBool b)) ?_
        unfold fHead
        simp_all
       refine smR 14 rfl <| nR <| wN 24 (by kernel_rfl) (fun _ _ _ h => pn h.1) rfl rfl rfl <| wR 3 [25, 26, 27, 28, 29, 30, 31, 32, 33, 34, 35] (by kernel_rfl) (fun _ _ _ h => pn h.1) <| smR 11 rfl <| nR <| wN 36 (by kernel_rfl) (fun _ _ _ h => pn h.1) rfl rfl rfl <| wR 0 [37, 38] (by kernel_rfl) (fun _ _ _ h => pn h.1) <| smR 2 rfl <| nR <| WA.done (by kernel_rfl) ?_
       refine ⟨rfl, Sub.of ⟨?_, rfl, rfl, rfl, trivial⟩, rfl⟩
       refine congrArg (fun b => some (iBool b)) ?_
       unfold fHead
       (rcases hxk : x.kids with _ | ⟨_ | ⟨y', r'⟩, _ | ⟨q', r''⟩⟩ <;> simp_all; done)
      refine smR 20 rfl <| nR <| wN 24 (by kernel_rfl) (fun _ _ _ h => pn h.1) rfl rfl rfl <| wR 3 [25, 26, 27, 28, 29, 30, 31, 32, 33, 34, 35] (by kernel_rfl) (fun _ _ _ h => pn h.1) <| smR 11 rfl <| nR <| wN 36 (by kernel_rfl) (fun _ _ _ h => pn h.1) rfl rfl rfl <| wR 0 [37, 38] (by kernel_rfl) (fun _ _ _ h => pn h.1) <| smR 2 rfl <| nR <| WA.done (by kernel_rfl) ?_
      refine ⟨rfl, Sub.of ⟨?_, rfl, rfl, rfl, trivial⟩, rfl⟩
      refine congrArg (fun b => some (iBool b)) ?_
      unfold fHead
      simp_all
     refine tC rfl (fun hc54 => ?_) fun hc54 => ?_
     ·refine tQ <| tG <| sm 1 rfl <| nL <| Tr.ret <| ret_ok rfl ?_ no_post
      have hf : fHead x = true := hc54
      rw [hI1, hd]
      simp only [fineL, fineN_eq, hf, Bool.not_true, Bool.false_and]
     refine Tr.skip <| tQ ?_
     have hf : fHead x = false := hc54
     refine tG <| sm 1 rfl <| nL <| Tr.block <| Tr.sub (Sub.of (fr' := [(5, iInt 0), (4, .pv (.ept [vInt x.kind, vInt x.op, vInt x.n, vStr x.name, ints x.args, ints x.outs, ints x.params, kids x.kids] 0)), (3, iInt k), (0, .pv (nodes l))]) ⟨rfl, rfl, rfl, rfl, trivial⟩) ?_
     refine Tr.loop (fun fr σ m => ∃ (i : Nat), (i ≤ x.kids.length) ∧ (fineK x.kids = fineK (x.kids.drop i)) ∧ fr = [(5, iInt i), (4, .pv (.ept [vInt x.kind, vInt x.op, vInt x.n, vStr x.name, ints x.args, ints x.outs, ints x.params, kids x.kids] 0)), (3, iInt k), (0, .pv (nodes l))] ∧ σ = look [] ∧ m = x.kids.length - i) (n := x.kids.length - 0) ?_ ?_
     ·exact ⟨0, Nat.zero_le _, rfl, rfl, rfl, rfl⟩
     rintro fr σ m ⟨i, hJ0, hJ1, rfl, rfl, rfl⟩
     refine tQ <| tQ <| tG <| sm 3 rfl ?_
     refine WL.lenOf (t := 57) rfl (fun hl2 => ?_)
     simp only [List.length_map] at hl2
     refine cV rfl (oSm Tryz.underlying40 rfl) <| sm 1 rfl <| nL ?_
     refine tC rfl (fun hc59 => ?_) fun hc59 => ?_
     ·have hlt2 : i < x.kids.length := by simpa using hc59
      have hd2 := List.drop_eq_getElem_cons hlt2
      have hm2 := List.getElem_mem hlt2
      have hi2 := map_get (f := eKid) (List.getElem?_eq_getElem hlt2)
      generalize x.kids[i] = q at hd2 hm2 hi2
      have hdec : SizeOf.sizeOf q < N := Nat.lt_of_lt_of_le (kid_lt hm rfl hm2) (Nat.le_of_lt_succ hN)
      refine Tr.skip <| tQ <| Tr.block <| tQ <| tG <| sm 3 rfl <| cV rfl (ok_index_seq rfl rfl rfl Tryz.underlying40 hi2 tS43 rfl (by rfl)) <| sm 1 rfl <| cE rfl (ocq (ih q hdec) ent24 rfl rfl) <| sm 1 rfl <| nL ?_
      refine tC rfl (fun hc68 => ?_) fun hc68 => ?_
      ·refine tQ <| tG <| sm 1 rfl <| nL <| Tr.ret <| ret_ok rfl ?_ no_post
       have hq : fineL q = false := by simpa using hc68
       rw [hI1, hd]
       simp only [fineL, fineN_eq, hJ1, hd2, fineK, hq, Bool.false_and, Bool.and_false]
      refine Tr.skip <| tG <| sm 1 rfl <| cV rfl (oB rfl rfl (i64_add rfl (by omega))) <| sm 1 rfl <| nL ?_
      refine ⟨_, _, ?_, Sub.of (fr' := [(5, iInt (i + 1)), (4, .pv (.ept [vInt x.kind, vInt x.op, vInt x.n, vStr x.name, ints x.args, ints x.outs, ints x.params, kids x.kids] 0)), (3, iInt k), (0, .pv (nodes l))]) ⟨rfl, rfl, rfl, rfl, trivial⟩, (i + 1), ?_, ?_, rfl, rfl, rfl⟩
      ·omega
      ·omega
      rw [hJ1, hd2]
      have hq : fineL q = true := by simpa using hc68
      simp only [fineK, hq, Bool.true_and]
     have hxf : fineN x = true := by
       have hge : x.kids.length ≤ i := by simpa using hc59
       rw [fineN_eq, hf, hJ1, List.drop_eq_nil_of_le hge]
       rfl
     refine Tr.exit <| tG <| sm 1 rfl <| cV rfl (oB rfl rfl (i64_add rfl (by omega))) <| sm 1 rfl <| nL ?_
     refine ⟨_, _, ?_, Sub.of (fr' := [(3, iInt (k + 1)), (0, .pv (nodes l))]) ⟨rfl, rfl, trivial⟩, (k + 1), ?_, ?_, rfl, rfl, rfl⟩
     ·omega
     ·omega
     rw [hI1, hd]
     simp only [fineL, hxf, Bool.true_and]
    refine Tr.exit <| tQ <| tG <| sm 1 rfl <| nL <| Tr.ret <| ret_ok rfl ?_ no_post
    have hge : l.length ≤ k := by simpa using hc9
    rw [hI1, List.drop_eq_nil_of_le hge]
    rfl
theorem sc_fine (l : List Nd) : SC Tryz.prog 24 [.pv (nodes l)] [] (fun _ => False) (iBool (fineL l)) [] := sc_fine_aux _ l (Nat.lt_succ_self _)
theorem sc_right (u : Un) : SC Tryz.prog 12 [.pv u.enc] [] (fun _ => False) (iBool (fRight u)) [] := by
  refine SC.of Tryz.func12 rfl (lb rfl) fun F ρ w => ?_
  refine tQ <| tG <| cE rfl (ok_box rfl rfl) <| sm 1 rfl <| nL <| tQ <| tQ <| tG <| sm 1 rfl <| nL <| Tr.block <| Tr.sub (Sub.of (fr' := [(3, iInt 0), (1, .pv (.ept [arrs u.arrays, flws u.flows] 0))]) ⟨rfl, rfl, trivial⟩) ?_
  refine Tr.loop (fun fr σ m => ∃ (k : Nat), (k ≤ u.flows.length) ∧ (fRight u = (u.flows.drop k).all (fun f => fineL f.body)) ∧ fr = [(3, iInt k), (1, .pv (.ept [arrs u.arrays, flws u.flows] 0))] ∧ σ = look [] ∧ m = u.flows.length - k) (n := u.flows.length - 0) ?_ ?_
  ·exact ⟨0, Nat.zero_le _, rfl, rfl, rfl, rfl⟩
  rintro fr σ m ⟨k, hI0, hI1, rfl, rfl, rfl⟩
  refine tQ <| tQ <| tG <| sm 3 rfl ?_
  refine WL.lenOf (t := 6) rfl (fun hl2 => ?_)
  simp only [List.length_map] at hl2
  refine cV rfl (oSm Tryz.underlying23 rfl) <| sm 1 rfl <| nL ?_
  refine tC rfl (fun hc8 => ?_) fun hc8 => ?_
  ·have hlt : k < u.flows.length := by simpa using hc8
   have hd := List.drop_eq_getElem_cons hlt
   have hm := List.getElem_mem hlt
   have hi := map_get (f := Fl.enc) (List.getElem?_eq_getElem hlt)
   generalize u.flows[k] = x at hd hm hi
   refine Tr.skip <| tQ <| Tr.block <| tQ <| tG <| sm 3 rfl <| cV rfl (ok_index_seq rfl rfl rfl Tryz.underlying23 hi tS51 rfl (by rfl)) <| sm 2 rfl <| cE rfl (ocq (sc_fine x.body) ent24 rfl rfl) <| sm 1 rfl <| nL ?_
   refine tC rfl (fun hc18 => ?_) fun hc18 => ?_
   ·refine tQ <| tG <| sm 1 rfl <| nL <| Tr.ret <| ret_ok rfl ?_ no_post
    have hq : fineL x.body = false := by simpa using hc18
    rw [hI1, hd]
    simp only [List.all_cons, hq, Bool.false_and]
   refine Tr.skip <| tG <| sm 1 rfl <| cV rfl (oB rfl rfl (i64_add rfl (by omega))) <| sm 1 rfl <| nL ?_
   refine ⟨_, _, ?_, Sub.of (fr' := [(3, iInt (k + 1)), (1, .pv (.ept [arrs u.arrays, flws u.flows] 0))]) ⟨rfl, rfl, trivial⟩, (k + 1), ?_, ?_, rfl, rfl, rfl⟩
   ·omega
   ·omega
   rw [hI1, hd]
   have hq : fineL x.body = true := by simpa using hc18
   simp only [List.all_cons, hq, Bool.true_and]
  refine Tr.exit <| tQ <| tG <| sm 1 rfl <| nL <| Tr.ret <| ret_ok rfl ?_ no_post
  have hge : u.flows.length ≤ k := by simpa using hc8
  rw [hI1, List.drop_eq_nil_of_le hge]
  rfl
theorem sc_unit15 (ts : List Int) (l : List Nd) : SC Tryz.prog 16 [.pv (ints ts), .pv (nodes l)] [] (fun _ => False) (.pv (.agg [.val (.slice none 0 0), flws [⟨mainName, 1, 0, ts, l⟩]])) [] := by
  refine SC.ofC Tryz.func16 rfl (lb rfl) rfl fun F ρ w => ?_
  refine tQ <| tG <| cE rfl (ok_alloc (k := 104) rfl tZ25 rfl rfl rfl rfl) <| nL <| tQ <| tG <| sm 2 rfl <| cV rfl (ok_build_pure rfl rfl tZ51 tP51 rfl (firmB_ok rfl) rfl) <| cE rfl (ok_buildSlice rfl rfl Tryz.underlying23 tZ51 tS51 rfl rfl rfl rfl (firmB_ok rfl) rfl) <| cV rfl (ok_build_pure rfl rfl tZ25 tP25 rfl (firmB_ok rfl) rfl) <| c0 (ok_store_box_agg rfl rfl rfl rfl rfl ((fun h => h)) tS25 (firmL_ok rfl) (lb rfl)) <| nL ?_
  refine Tr.ret <| retC_ok (.inl rfl) (fun _ _ ho => ok_load_box_pure ho rfl rfl Tryz.underlying25 rfl tS25 (lb rfl) rfl trivial) ?_ no_post
  rfl
theorem sc_mFlag (b : Bool) : SC Tryz.prog 104 [iBool b] [] (fun _ => False) (iInt (mFlag b)) [] := by
  refine SC.of Tryz.func104 rfl (lb rfl) fun F ρ w => ?_
  refine tQ <| tG <| sm 1 rfl <| nL <| tQ <| tQ <| tG <| sm 1 rfl <| nL ?_
  refine tC rfl (fun hc3 => ?_) fun hc3 => ?_
  ·refine tQ <| tG <| sm 1 rfl <| nL <| Tr.ret <| ret_ok rfl ?_ no_post
   cases b <;> first | rfl | (simp_all; done)
  refine Tr.skip <| tQ <| tG <| sm 1 rfl <| nL <| Tr.ret <| ret_ok rfl ?_ no_post
  cases b <;> first | rfl | (simp_all; done)
theorem sc_mOne (op a : Int) : SC Tryz.prog 87 [iInt op, iInt a] [] (fun _ => False) (iInt (mOne op a)) [] := by
  refine SC.of Tryz.func87 rfl (lb rfl) fun F ρ w => ?_
  refine tQ <| tG <| sm 1 rfl <| nL <| tQ <| tQ <| tG <| sm 1 rfl <| nL <| Tr.block <| tQ <| tG ?_
  refine sm 2 rfl <| nL ?_
  refine tC rfl (fun hc6 => ?_) fun hc6 => ?_
  ·refine tQ <| tG <| sm 3 rfl <| nL <| Tr.ret <| ret_ok rfl ?_ no_post
   (simp only [mOne, *, if_true, Bool.false_eq_true, if_false, Bool.or_true, Bool.true_or, Bool.or_false] <;> rfl)
  refine tQ <| tG <| sm 2 rfl <| nL ?_
  refine tC rfl (fun hc10 => ?_) fun hc10 => ?_
  ·refine tQ <| tG <| sm 3 rfl <| nL <| Tr.ret <| ret_ok rfl ?_ no_post
   (simp only [mOne, *, if_true, Bool.false_eq_true, if_false, Bool.or_true, Bool.true_or, Bool.or_false] <;> rfl)
  refine tQ <| tG <| sm 2 rfl <| nL ?_
  refine tC rfl (fun hc14 => ?_) fun hc14 => ?_
  ·refine tQ <| tG <| sm 2 rfl <| cE rfl (ocq (sc_mFlag _) ent104 rfl rfl) <| sm 1 rfl <| nL <| Tr.ret <| ret_ok rfl ?_ no_post
   (simp only [mOne, *, if_true, Bool.false_eq_true, if_false, Bool.or_true, Bool.true_or, Bool.or_false] <;> rfl)
  refine tQ <| tG <| sm 2 rfl <| nL ?_
  refine tC rfl (fun hc19 => ?_) fun hc19 => ?_
  ·refine tQ <| tG <| sm 3 rfl <| nL <| Tr.ret <| ret_ok rfl ?_ no_post
   (simp only [mOne, *, if_true, Bool.false_eq_true, if_false, Bool.or_true, Bool.true_or, Bool.or_false] <;> rfl)
  refine tQ <| tG <| sm 2 rfl <| nL ?_
  refine tC rfl (fun hc23 => ?_) fun hc23 => ?_
  ·refine tQ <| tG <| sm 3 rfl <| nL <| Tr.ret <| ret_ok rfl ?_ no_post
   (simp only [mOne, *, if_true, Bool.false_eq_true, if_false, Bool.or_true, Bool.true_or, Bool.or_false] <;> rfl)
  refine tQ <| tG <| sm 2 rfl <| nL ?_
  refine tC rfl (fun hc27 => ?_) fun hc27 => ?_
  ·refine tQ <| tG <| sm 3 rfl <| nL <| Tr.ret <| ret_ok rfl ?_ no_post
   (simp only [mOne, *, if_true, Bool.false_eq_true, if_false, Bool.or_true, Bool.true_or, Bool.or_false] <;> rfl)
  refine tQ <| tG <| sm 2 rfl <| nL ?_
  refine tC rfl (fun hc31 => ?_) fun hc31 => ?_
  ·refine tQ <| tG <| sm 5 rfl <| nL <| Tr.ret <| ret_ok rfl ?_ no_post
   (simp only [mOne, *, if_true, Bool.false_eq_true, if_false, Bool.or_true, Bool.true_or, Bool.or_false] <;> rfl)
  refine tQ <| tG <| sm 2 rfl <| nL ?_
  refine tC rfl (fun hc37 => ?_) fun hc37 => ?_
  ·refine tQ <| tG <| sm 5 rfl <| nL <| Tr.ret <| ret_ok rfl ?_ no_post
   (simp only [mOne, *, if_true, Bool.false_eq_true, if_false, Bool.or_true, Bool.true_or, Bool.or_false] <;> rfl)
  refine tQ <| tG <| sm 2 rfl <| nL ?_
  refine tC rfl (fun hc43 => ?_) fun hc43 => ?_
  ·refine tQ <| tG <| sm 5 rfl <| nL <| Tr.ret <| ret_ok rfl ?_ no_post
   (simp only [mOne, *, if_true, Bool.false_eq_true, if_false, Bool.or_true, Bool.true_or, Bool.or_false] <;> rfl)
  refine Tr.skip <| tQ <| tG <| sm 1 rfl <| nL <| Tr.ret <| ret_ok rfl ?_ no_post
  (simp only [mOne, *, if_true, Bool.false_eq_true, if_false, Bool.or_true, Bool.true_or, Bool.or_false] <;> rfl)
theorem sc_mTwo (op a b : Int) : SC Tryz.prog 88 [iInt op, iInt a, iInt b] [] (fun _ => False) (.tup [iInt (mTwo op a b).1, iBool (mTwo op a b).2]) [] := by
  refine SC.of Tryz.func88 rfl (lb rfl) fun F ρ w => ?_
  refine tQ <| tG <| sm 2 rfl <| nL <| tQ <| tQ <| tG <| sm 1 rfl <| nL <| Tr.block <| tQ <| tG ?_
  refine sm 2 rfl <| nL ?_
  refine tC rfl (fun hc9 => ?_) fun hc9 => ?_
  ·refine tQ <| tG <| sm 5 rfl <| nL <| Tr.ret <| ret_ok rfl ?_ no_post
   (simp only [mTwo, *, if_true, Bool.false_eq_true, if_false, Bool.or_true, Bool.true_or, Bool.or_false] <;> rfl)
  refine tQ <| tG <| sm 2 rfl <| nL ?_
  refine tC rfl (fun hc14 => ?_) fun hc14 => ?_
  ·refine tQ <| tG <| sm 5 rfl <| nL <| Tr.ret <| ret_ok rfl ?_ no_post
   (simp only [mTwo, *, if_true, Bool.false_eq_true, if_false, Bool.or_true, Bool.true_or, Bool.or_false] <;> rfl)
  refine tQ <| tG <| sm 2 rfl <| nL ?_
  refine tC rfl (fun hc19 => ?_) fun hc19 => ?_
  ·refine tQ <| tG <| sm 5 rfl <| nL <| Tr.ret <| ret_ok rfl ?_ no_post
   (simp only [mTwo, *, if_true, Bool.false_eq_true, if_false, Bool.or_true, Bool.true_or, Bool.or_false] <;> rfl)
  refine tQ <| tQ <| tG <| sm 2 rfl <| nL ?_
  refine tC rfl (fun hc24 => ?_) fun hc24 => ?_
  ·refine Tr.skip ?_
   refine tC rfl (fun hc24 => ?_) fun hc24 => ?_
   ·refine tQ <| tQ <| tG <| sm 2 rfl <| nL ?_
    refine tC rfl (fun hc28 => ?_) fun hc28 => ?_
    ·refine tQ <| tG <| sm 2 rfl <| nL <| Tr.ret <| ret_ok rfl ?_ no_post
     (simp only [mTwo, *, if_true, Bool.false_eq_true, if_false, Bool.or_true, Bool.true_or, Bool.or_false] <;> rfl)
    refine Tr.skip <| tQ <| tQ <| tG <| sm 2 rfl <| nL ?_
    refine tC rfl (fun hc30 => ?_) fun hc30 => ?_
    ·refine tQ <| tG <| sm 2 rfl <| cV rfl (oB rfl rfl (show intBin .quo .i64 a b = some (.int .i64 (w64 (a.tdiv b))) by simp [intBin, w64, show ¬ b = 0 by simpa using hc28])) <| sm 2 rfl <| nL <| Tr.ret <| ret_ok rfl ?_ no_post
     (simp only [mTwo, *, if_true, Bool.false_eq_true, if_false, Bool.or_true, Bool.true_or, Bool.or_false] <;> rfl)
    refine Tr.skip <| tQ <| tG <| sm 2 rfl <| cV rfl (oB rfl rfl (show intBin .rem .i64 a b = some (.int .i64 (a.tmod b)) by simp [intBin, show ¬ b = 0 by simpa using hc28])) <| sm 2 rfl <| nL <| Tr.ret <| ret_ok rfl ?_ no_post
    (exfalso; simp_all; done)
   refine tQ <| tG <| sm 2 rfl <| nL ?_
   refine tC rfl (fun hc37 => ?_) fun hc37 => ?_
   ·refine tQ <| tG <| sm 5 rfl <| nL <| Tr.ret <| ret_ok rfl ?_ no_post
    (exfalso; simp_all; done)
   refine tQ <| tG <| sm 2 rfl <| nL ?_
   refine tC rfl (fun hc42 => ?_) fun hc42 => ?_
   ·refine tQ <| tG <| sm 5 rfl <| nL <| Tr.ret <| ret_ok rfl ?_ no_post
    (exfalso; simp_all; done)
   refine tQ <| tG <| sm 2 rfl <| nL ?_
   refine tC rfl (fun hc47 => ?_) fun hc47 => ?_
   ·refine tQ <| tG <| sm 5 rfl <| nL <| Tr.ret <| ret_ok rfl ?_ no_post
    (exfalso; simp_all; done)
   refine tQ <| tG <| sm 2 rfl <| nL ?_
   refine tC rfl (fun hc52 => ?_) fun hc52 => ?_
   ·refine tQ <| tG <| sm 3 rfl <| cV rfl (ok_shl rfl rfl rfl (and63 b)) <| sm 2 rfl <| nL <| Tr.ret <| ret_ok rfl ?_ no_post
    (exfalso; simp_all; done)
   refine tQ <| tG <| sm 2 rfl <| nL ?_
   refine tC rfl (fun hc58 => ?_) fun hc58 => ?_
   ·refine tQ <| tG <| sm 3 rfl <| cV rfl (ok_shr rfl rfl rfl (and63 b)) <| sm 2 rfl <| nL <| Tr.ret <| ret_ok rfl ?_ no_post
    (exfalso; simp_all; done)
   refine tQ <| tG <| sm 2 rfl <| nL ?_
   refine tC rfl (fun hc64 => ?_) fun hc64 => ?_
   ·refine tQ <| tG <| sm 1 rfl <| cV rfl (ok_conv_int rfl rfl ⟨_, Tryz.underlying3⟩ Tryz.underlying128) <| sm 2 rfl <| cV rfl (ok_shr rfl rfl rfl (and63 b)) <| cV rfl (ok_conv_int rfl rfl ⟨_, Tryz.underlying128⟩ Tryz.underlying3) <| sm 2 rfl <| nL <| Tr.ret <| ret_ok rfl ?_ no_post
    (exfalso; simp_all; done)
   refine tQ <| tG <| sm 2 rfl <| nL ?_
   refine tC rfl (fun hc72 => ?_) fun hc72 => ?_
   ·refine tQ <| tG <| sm 3 rfl <| cE rfl (ocq (sc_mFlag _) ent104 rfl rfl) <| sm 2 rfl <| nL <| Tr.ret <| ret_ok rfl ?_ no_post
    (exfalso; simp_all; done)
   refine tQ <| tG <| sm 2 rfl <| nL ?_
   refine tC rfl (fun hc78 => ?_) fun hc78 => ?_
   ·refine tQ <| tG <| sm 3 rfl <| cE rfl (ocq (sc_mFlag _) ent104 rfl rfl) <| sm 2 rfl <| nL <| Tr.ret <| ret_ok rfl ?_ no_post
    (exfalso; simp_all; done)
   refine tQ <| tG <| sm 2 rfl <| nL ?_
   refine tC rfl (fun hc84 => ?_) fun hc84 => ?_
   ·refine tQ <| tG <| sm 3 rfl <| cE rfl (ocq (sc_mFlag _) ent104 rfl rfl) <| sm 2 rfl <| nL <| Tr.ret <| ret_ok rfl ?_ no_post
    (exfalso; simp_all; done)
   refine tQ <| tG <| sm 2 rfl <| nL ?_
   refine tC rfl (fun hc90 => ?_) fun hc90 => ?_
   ·refine tQ <| tG <| sm 3 rfl <| cE rfl (ocq (sc_mFlag _) ent104 rfl rfl) <| sm 2 rfl <| nL <| Tr.ret <| ret_ok rfl ?_ no_post
    (exfalso; simp_all; done)
   refine tQ <| tG <| sm 2 rfl <| nL ?_
   refine tC rfl (fun hc96 => ?_) fun hc96 => ?_
   ·refine tQ <| tG <| sm 3 rfl <| cE rfl (ocq (sc_mFlag _) ent104 rfl rfl) <| sm 2 rfl <| nL <| Tr.ret <| ret_ok rfl ?_ no_post
    (exfalso; simp_all; done)
   refine tQ <| tG <| sm 2 rfl <| nL ?_
   refine tC rfl (fun hc102 => ?_) fun hc102 => ?_
   ·refine tQ <| tG <| sm 3 rfl <| cE rfl (ocq (sc_mFlag _) ent104 rfl rfl) <| sm 2 rfl <| nL <| Tr.ret <| ret_ok rfl ?_ no_post
    (exfalso; simp_all; done)
   refine Tr.skip <| tQ <| tG <| sm 2 rfl <| nL <| Tr.ret <| ret_ok rfl ?_ no_post
   (exfalso; simp_all; done)
  refine tG <| sm 2 rfl <| nL ?_
  refine tC rfl (fun hc24 => ?_) fun hc24 => ?_
  ·refine tQ <| tQ <| tG <| sm 2 rfl <| nL ?_
   refine tC rfl (fun hc28 => ?_) fun hc28 => ?_
   ·refine tQ <| tG <| sm 2 rfl <| nL <| Tr.ret <| ret_ok rfl ?_ no_post
    (simp only [mTwo, *, if_true, Bool.false_eq_true, if_false, Bool.or_true, Bool.true_or, Bool.or_false] <;> rfl)
   refine Tr.skip <| tQ <| tQ <| tG <| sm 2 rfl <| nL ?_
   refine tC rfl (fun hc30 => ?_) fun hc30 => ?_
   ·refine tQ <| tG <| sm 2 rfl <| cV rfl (oB rfl rfl (show intBin .quo .i64 a b = some (.int .i64 (w64 (a.tdiv b))) by simp [intBin, w64, show ¬ b = 0 by simpa using hc28])) <| sm 2 rfl <| nL <| Tr.ret <| ret_ok rfl ?_ no_post
    (exfalso; simp_all; done)
   refine Tr.skip <| tQ <| tG <| sm 2 rfl <| cV rfl (oB rfl rfl (show intBin .rem .i64 a b = some (.int .i64 (a.tmod b)) by simp [intBin, show ¬ b = 0 by simpa using hc28])) <| sm 2 rfl <| nL <| Tr.ret <| ret_ok rfl ?_ no_post
   (simp only [mTwo, *, if_true, Bool.false_eq_true, if_false, Bool.or_true, Bool.true_or, Bool.or_false] <;> rfl)
  refine tQ <| tG <| sm 2 rfl <| nL ?_
  refine tC rfl (fun hc37 => ?_) fun hc37 => ?_
  ·refine tQ <| tG <| sm 5 rfl <| nL <| Tr.ret <| ret_ok rfl ?_ no_post
   (simp only [mTwo, *, if_true, Bool.false_eq_true, if_false, Bool.or_true, Bool.true_or, Bool.or_false] <;> rfl)
  refine tQ <| tG <| sm 2 rfl <| nL ?_
  refine tC rfl (fun hc42 => ?_) fun hc42 => ?_
  ·refine tQ <| tG <| sm 5 rfl <| nL <| Tr.ret <| ret_ok rfl ?_ no_post
   (simp only [mTwo, *, if_true, Bool.false_eq_true, if_false, Bool.or_true, Bool.true_or, Bool.or_false] <;> rfl)
  refine tQ <| tG <| sm 2 rfl <| nL ?_
  refine tC rfl (fun hc47 => ?_) fun hc47 => ?_
  ·refine tQ <| tG <| sm 5 rfl <| nL <| Tr.ret <| ret_ok rfl ?_ no_post
   (simp only [mTwo, *, if_true, Bool.false_eq_true, if_false, Bool.or_true, Bool.true_or, Bool.or_false] <;> rfl)
  refine tQ <| tG <| sm 2 rfl <| nL ?_
  refine tC rfl (fun hc52 => ?_) fun hc52 => ?_
  ·refine tQ <| tG <| sm 3 rfl <| cV rfl (ok_shl rfl rfl rfl (and63 b)) <| sm 2 rfl <| nL <| Tr.ret <| ret_ok rfl ?_ no_post
   (simp only [mTwo, *, if_true, Bool.false_eq_true, if_false, Bool.or_true, Bool.true_or, Bool.or_false] <;> rfl)
  refine tQ <| tG <| sm 2 rfl <| nL ?_
  refine tC rfl (fun hc58 => ?_) fun hc58 => ?_
  ·refine tQ <| tG <| sm 3 rfl <| cV rfl (ok_shr rfl rfl rfl (and63 b)) <| sm 2 rfl <| nL <| Tr.ret <| ret_ok rfl ?_ no_post
   (simp only [mTwo, *, if_true, Bool.false_eq_true, if_false, Bool.or_true, Bool.true_or, Bool.or_false] <;> rfl)
  refine tQ <| tG <| sm 2 rfl <| nL ?_
  refine tC rfl (fun hc64 => ?_) fun hc64 => ?_
  ·refine tQ <| tG <| sm 1 rfl <| cV rfl (ok_conv_int rfl rfl ⟨_, Tryz.underlying3⟩ Tryz.underlying128) <| sm 2 rfl <| cV rfl (ok_shr rfl rfl rfl (and63 b)) <| cV rfl (ok_conv_int rfl rfl ⟨_, Tryz.underlying128⟩ Tryz.underlying3) <| sm 2 rfl <| nL <| Tr.ret <| ret_ok rfl ?_ no_post
   (simp only [mTwo, *, if_true, Bool.false_eq_true, if_false, Bool.or_true, Bool.true_or, Bool.or_false] <;> rfl)
  refine tQ <| tG <| sm 2 rfl <| nL ?_
  refine tC rfl (fun hc72 => ?_) fun hc72 => ?_
  ·refine tQ <| tG <| sm 3 rfl <| cE rfl (ocq (sc_mFlag _) ent104 rfl rfl) <| sm 2 rfl <| nL <| Tr.ret <| ret_ok rfl ?_ no_post
   (simp only [mTwo, *, if_true, Bool.false_eq_true, if_false, Bool.or_true, Bool.true_or, Bool.or_false] <;> rfl)
  refine tQ <| tG <| sm 2 rfl <| nL ?_
  refine tC rfl (fun hc78 => ?_) fun hc78 => ?_
  ·refine tQ <| tG <| sm 3 rfl <| cE rfl (ocq (sc_mFlag _) ent104 rfl rfl) <| sm 2 rfl <| nL <| Tr.ret <| ret_ok rfl ?_ no_post
   (simp only [mTwo, *, if_true, Bool.false_eq_true, if_false, Bool.or_true, Bool.true_or, Bool.or_false] <;> rfl)
  refine tQ <| tG <| sm 2 rfl <| nL ?_
  refine tC rfl (fun hc84 => ?_) fun hc84 => ?_
  ·refine tQ <| tG <| sm 3 rfl <| cE rfl (ocq (sc_mFlag _) ent104 rfl rfl) <| sm 2 rfl <| nL <| Tr.ret <| ret_ok rfl ?_ no_post
   (simp only [mTwo, *, if_true, Bool.false_eq_true, if_false, Bool.or_true, Bool.true_or, Bool.or_false] <;> rfl)
  refine tQ <| tG <| sm 2 rfl <| nL ?_
  refine tC rfl (fun hc90 => ?_) fun hc90 => ?_
  ·refine tQ <| tG <| sm 3 rfl <| cE rfl (ocq (sc_mFlag _) ent104 rfl rfl) <| sm 2 rfl <| nL <| Tr.ret <| ret_ok rfl ?_ no_post
   (simp only [mTwo, *, if_true, Bool.false_eq_true, if_false, Bool.or_true, Bool.true_or, Bool.or_false] <;> rfl)
  refine tQ <| tG <| sm 2 rfl <| nL ?_
  refine tC rfl (fun hc96 => ?_) fun hc96 => ?_
  ·refine tQ <| tG <| sm 3 rfl <| cE rfl (ocq (sc_mFlag _) ent104 rfl rfl) <| sm 2 rfl <| nL <| Tr.ret <| ret_ok rfl ?_ no_post
   (simp only [mTwo, *, if_true, Bool.false_eq_true, if_false, Bool.or_true, Bool.true_or, Bool.or_false] <;> rfl)
  refine tQ <| tG <| sm 2 rfl <| nL ?_
  refine tC rfl (fun hc102 => ?_) fun hc102 => ?_
  ·refine tQ <| tG <| sm 3 rfl <| cE rfl (ocq (sc_mFlag _) ent104 rfl rfl) <| sm 2 rfl <| nL <| Tr.ret <| ret_ok rfl ?_ no_post
   (simp only [mTwo, *, if_true, Bool.false_eq_true, if_false, Bool.or_true, Bool.true_or, Bool.or_false] <;> rfl)
  refine Tr.skip <| tQ <| tG <| sm 2 rfl <| nL <| Tr.ret <| ret_ok rfl ?_ no_post
  (simp only [mTwo, *, if_true, Bool.false_eq_true, if_false, Bool.or_true, Bool.true_or, Bool.or_false] <;> rfl)
theorem sc_over (u : Un) (s : Rs) : SC Tryz.prog 31 [.ptr 1001 0] (runH u s) (fun _ => True) (iBool (mOver s)) (runH u s) := by
  refine SC.of Tryz.func31 rfl (lb rfl) fun F ρ w => ?_
  refine tQ <| tG <| sm 1 rfl <| nL <| tQ <| tG <| sm 1 rfl <| cV rfl (ok_nilCheck rfl rfl rfl) <| sm 3 rfl ?_
  refine wS 7 rfl (fun hb7 => ?_) fun hb7 => ?_
  ·refine sm 8 rfl <| nL <| Tr.ret <| ret_ok rfl ?_ (fun _ _ h => h)
   cases hsp : s.spent <;> simp_all [mOver, iBool]
  refine sm 1 rfl <| yV rfl rfl (ok_nilCheck rfl rfl rfl) <| sm 6 rfl <| nL <| Tr.ret <| ret_ok rfl ?_ (fun _ _ h => h)
  cases hsp : s.spent <;> simp_all [mOver, iBool]
theorem sc_step (u : Un) (s : Rs) : SC Tryz.prog 64 [.ptr 1001 0] (runH u s) (fun _ => False) (iBool (mStep s).1) (runH u (mStep s).2) := by
  refine SC.of Tryz.func64 rfl (lb rfl) fun F ρ w => ?_
  refine tQ <| tG <| sm 1 rfl <| nL <| tQ <| tQ <| tG <| sm 1 rfl <| cE rfl (ocr (sc_over u s) ent31 rfl (fun _ _ h => h) rfl (fun k (h : _) => .inr trivial) rfl rfl) <| nL ?_
  refine tC rfl (fun hc4 => ?_) fun hc4 => ?_
  ·refine tQ <| tG <| sm 1 rfl <| nL <| Tr.ret ?_
   have e : mStep s = (false, s) := by simp [mStep, hc4]
   rw [e]
   refine ret_ok rfl rfl (po2 rfl rfl)
  refine Tr.skip <| tQ <| tQ <| tG <| sm 1 rfl <| cV rfl (ok_nilCheck rfl rfl rfl) <| sm 4 rfl <| nL ?_
  refine tC rfl (fun hc10 => ?_) fun hc10 => ?_
  ·refine tQ <| tG <| sm 1 rfl <| cV rfl (ok_nilCheck rfl rfl rfl) <| sm 1 rfl <| c0 (ok_store_box rfl rfl rfl rfl ((fun h => h)) tS4 (rfl) (lb rfl)) <| nL <| tQ <| tG <| sm 1 rfl <| nL <| Tr.ret ?_
   have e : mStep s = (false, { s with spent := true }) := by
     have h1 : s.fuel < 1 := by simpa using hc10
     simp [mStep, hc4, h1]
   rw [e]
   refine ret_ok rfl rfl (po2 rfl rfl)
  refine Tr.skip <| tQ <| tG <| sm 2 rfl <| cV rfl (ok_nilCheck rfl rfl rfl) <| sm 4 rfl <| cV rfl (ok_nilCheck rfl rfl rfl) <| sm 2 rfl <| c0 (ok_store_box rfl rfl rfl rfl ((fun h => h)) tS3 (rfl) (lb rfl)) <| nL <| tQ <| tG ?_
  refine sm 1 rfl <| nL <| Tr.ret ?_
  have e : mStep s = (true, { s with fuel := w64 (s.fuel - 1) }) := by
    have h1 : ¬ s.fuel < 1 := by simpa using hc10
    simp [mStep, hc4, h1]
  rw [e]
  refine ret_ok rfl rfl (po2 rfl rfl)
theorem sc_of (v l o : List Int) (h : mOf v l = some o) (hb : l.length ≤ 1073741824) : SC Tryz.prog 65 [.sl 510 (v.map eInt).length, .pv (ints l)] [(510, rowI v)] (fun k => k = 510) (.pv (ints o)) [(510, rowI v)] := by
  refine SC.of Tryz.func65 rfl (lb rfl) fun F ρ w => ?_
  refine Tr.lenOf (t := 1) rfl (fun hl => ?_)
  simp only [List.length_map] at hl
  refine tQ <| tG <| sm 1 rfl <| nL <| tQ <| tG <| sm 1 rfl <| nL <| tQ <| tQ <| Tr.grow (t := 5) (k := 105) ⟨3, 1⟩ rfl rfl rfl rfl rfl <| tG ?_
  refine sm 1 rfl <| nL <| Tr.block <| Tr.sub (Sub.of (fr' := [(6, iInt 0), (5, .sl 105 (([] : List Int).map eInt).length), (0, .sl 510 (v.map eInt).length), (1, .pv (ints l))]) ⟨rfl, rfl, rfl, rfl, trivial⟩) ?_
  refine Tr.heap (σ' := look [(105, some (rowI ([] : List Int))), (510, some (rowI v))]) (by
  intro j
  simp only [look]
  by_cases h1 : 105 = j
  · subst h1; rfl
  · simp [look, up, beq_ne h1]) ?_
  refine Tr.loop (fun fr σ m => ∃ (k : Nat) (acc : List Int), (k ≤ l.length) ∧ ((mOf v (l.drop k)).map (acc ++ ·) = some o) ∧ (acc.length = k) ∧ fr = [(6, iInt k), (5, .sl 105 (acc.map eInt).length), (0, .sl 510 (v.map eInt).length), (1, .pv (ints l))] ∧ σ = look [(105, some (rowI acc)), (510, some (rowI v))] ∧ m = l.length - k) (n := l.length - 0) ?_ ?_
  ·exact ⟨0, ([] : List Int), Nat.zero_le _, (by rw [List.drop_zero, h]; rfl), rfl, rfl, rfl, rfl⟩
  rintro fr σ m ⟨k, acc, hI0, hI1, hI2, rfl, rfl, rfl⟩
  refine tQ <| tQ <| tG <| sm 2 rfl <| cV rfl (oSm Tryz.underlying35 rfl) <| sm 1 rfl <| nL ?_
  refine tC rfl (fun hc10 => ?_) fun hc10 => ?_
  ·have hlt : k < l.length := by simpa using hc10
   have hd := List.drop_eq_getElem_cons hlt
   have hm := List.getElem_mem hlt
   have hi := map_get (f := eInt) (List.getElem?_eq_getElem hlt)
   generalize l[k] = x at hd hm hi
   rw [hd] at hI1
   obtain ⟨y, hy, hO⟩ := mOf_step hI1
   obtain ⟨hx0, hxl, hxg⟩ := getV_some hy
   have hal : (acc.map eInt).length = acc.length := by simp
   refine Tr.skip <| tQ <| Tr.block <| tG <| sm 4 rfl <| cV rfl (ok_index_seq rfl rfl rfl Tryz.underlying35 hi tS3 rfl (by rfl)) <| sm 1 rfl <| cV rfl (ok_index_row rfl rfl rfl rfl rfl Tryz.underlying35 tS3 hxl (by omega)) <| cV rfl (ok_load_row rfl rfl rfl rfl (Nat.add_zero _).symm hxg rfl Tryz.underlying3 rfl trivial) <| cE rfl (ok_buildSlice rfl rfl Tryz.underlying35 tZ3 tS3 rfl rfl rfl rfl (firmB_ok rfl) rfl) ?_
   refine cE rfl (ok_append rfl rfl rfl rfl (by rfl) (by simp) Tryz.underlying35 tB3 (by decide) (by (simp [chunks]; done)) (by (simp [chunks, PV.one]; rfl)) (by simp [maxLen, chunks]; omega) (by simp [chunks]; omega)) ?_
   refine sm 1 rfl <| nL <| tG <| sm 1 rfl <| cV rfl (oB rfl rfl (i64_add rfl (by omega))) <| sm 1 rfl <| nL ?_
   refine ⟨_, _, ?_, Sub.of (fr' := [(6, iInt (k + 1)), (5, .sl 105 ((acc ++ [y]).map eInt).length), (0, .sl 510 (v.map eInt).length), (1, .pv (ints l))]) ⟨rfl, congrArg (fun z => some (IV.sl _ z)) (by simp [chunks, eInt]), rfl, rfl, trivial⟩, (k + 1), (acc ++ [y]), ?_, ?_, ?_, rfl, (funext (by
  intro j
  simp only [look]
  by_cases h1 : 105 = j
  · subst h1; exact congrArg (fun z => some (HO.row _ z)) (by simp [chunks, eInt])
  · simp [look, beq_ne h1])), rfl⟩
   ·omega
   ·omega
   ·exact hO
   simp [hI2]
  refine Tr.exit <| tQ <| Tr.freeze (t := 5) (k := 105) rfl rfl (by simp) <| tG <| sm 2 rfl <| nL <| Tr.ret <| ret_ok rfl ?_ (po1 rfl)
  have hge : l.length ≤ k := by simpa using hc10
  rw [List.drop_eq_nil_of_le hge] at hI1
  have : acc = o := by simpa [mOf] using hI1
  rw [this]
  rfl
theorem sc_set (v l n v' : List Int) (h : mSet v l n = some v') : SC Tryz.prog 66 [.sl 510 (v.map eInt).length, .pv (ints l), .pv (ints n)] [(510, rowI v)] (fun _ => False) (.tup []) [(510, rowI v')] := by
  refine SC.of Tryz.func66 rfl (lb rfl) fun F ρ w => ?_
  refine Tr.lenOf (t := 1) rfl (fun hl => ?_)
  simp only [List.length_map] at hl
  refine Tr.lenOf (t := 2) rfl (fun hl2 => ?_)
  simp only [List.length_map] at hl2
  refine tQ <| tG <| sm 1 rfl <| nL <| Tr.block <| Tr.sub (Sub.of (fr' := [(6, iInt 0), (0, .sl 510 (v.map eInt).length), (1, .pv (ints l)), (2, .pv (ints n))]) ⟨rfl, rfl, rfl, rfl, trivial⟩) ?_
  refine Tr.loop (fun fr σ m => ∃ (k : Nat) (w1 : List Int) (m1 : List Int), (k ≤ l.length) ∧ (mSet w1 (l.drop k) m1 = some v') ∧ (w1.length = v.length) ∧ (m1 = n.drop k) ∧ fr = [(6, iInt k), (0, .sl 510 (v.map eInt).length), (1, .pv (ints l)), (2, .pv (ints n))] ∧ σ = look [(510, some (rowI w1))] ∧ m = l.length - k) (n := l.length - 0) ?_ ?_
  ·exact ⟨0, v, n, Nat.zero_le _, h, rfl, rfl, rfl, rfl, rfl⟩
  rintro fr σ m ⟨k, w1, m1, hI0, hI1, hI2, hI3, rfl, rfl, rfl⟩
  refine tQ <| tQ <| tG <| sm 2 rfl <| cV rfl (oSm Tryz.underlying35 rfl) <| sm 1 rfl <| nL ?_
  refine tC rfl (fun hc10 => ?_) fun hc10 => ?_
  ·have hlt : k < l.length := by simpa using hc10
   have hd := List.drop_eq_getElem_cons hlt
   have hm := List.getElem_mem hlt
   have hi := map_get (f := eInt) (List.getElem?_eq_getElem hlt)
   generalize l[k] = x at hd hm hi
   rw [hd] at hI1
   obtain ⟨y, m2, w2, hm1, hs, hO⟩ := mSet_step hI1
   obtain ⟨hx0, hxl, hw2⟩ := setV_some hs
   obtain ⟨z0, hxg⟩ := row_at hxl
   have hwn : (w1.map eInt).length = (v.map eInt).length := by simp [hI2]
   have hxl2 : x.toNat < (v.map eInt).length := by rw [← hwn]; exact hxl
   have hnk : n[k]? = some y := by
     have h0 := List.getElem?_drop (xs := n) (i := k) (j := 0)
     rw [← hI3, hm1] at h0
     simpa using h0.symm
   have hi2 := map_get (f := eInt) hnk
   refine Tr.skip <| tQ <| Tr.block <| Tr.drawn mixed (fun k => k ∈ ([] : List Nat)) <| wR 1 [0, 1, 2, 3, 4, 5, 6, 7, 8, 9] (by kernel_rfl) (fun _ _ _ h => h) <| smR 3 rfl <| rV rfl rfl (ok_index_seq rfl rfl rfl Tryz.underlying35 hi tS3 rfl (by rfl)) <| smR 3 rfl <| rV rfl rfl (ok_index_seq rfl rfl rfl Tryz.underlying35 hi2 tS3 rfl (by rfl)) <| smR 1 rfl <| rV rfl rfl (ok_index_row rfl rfl rfl rfl hwn Tryz.underlying35 tS3 hxl2 (by omega)) <| nR ?_
   refine wO 10 (by kernel_rfl) <| wI rfl rfl nf (new_old rfl) (fun _ _ => ok_store_row rfl rfl rfl rfl hwn (Nat.add_zero _).symm hxg (by simp) tS3 rfl (by simp)) <| WA.done (by kernel_rfl) <| tG <| sm 1 rfl <| cV rfl (oB rfl rfl (i64_add rfl (by omega))) <| sm 1 rfl <| nL ?_
   refine ⟨_, _, ?_, Sub.of (fr' := [(6, iInt (k + 1)), (0, .sl 510 (v.map eInt).length), (1, .pv (ints l)), (2, .pv (ints n))]) ⟨rfl, rfl, rfl, rfl, trivial⟩, (k + 1), w2, m2, ?_, ?_, ?_, ?_, rfl, (funext (by
  intro j
  simp only [look]
  by_cases h1 : 510 = j
  · subst h1; exact congrArg (fun z => some (HO.row _ z)) (by rw [hw2]; exact set_row _ _ _ _ hxg)
  · simp [look, beq_ne h1])), rfl⟩
   ·omega
   ·omega
   ·exact hO
   ·rw [hw2, List.length_set]; exact hI2
   rw [← List.drop_drop, ← hI3, hm1]; rfl
  refine Tr.exit ?_
  have hge : l.length ≤ k := by simpa using hc10
  rw [List.drop_eq_nil_of_le hge] at hI1
  have hw : w1 = v' := by simpa [mSet] using hI1
  subst hw
  refine end_ok rfl rfl (po1 rfl)
section
def mCost (s : Rs) : Rs := { s with cost := w64 (s.cost + 1) }
theorem setV_len {v v' : List Int} {x y : Int} (h : setV v x y = some v') : v'.length = v.length := by
  rw [(setV_some h).2.2, List.length_set]
theorem mSet_len : ∀ {l n v v' : List Int}, mSet v l n = some v' → v'.length = v.length
  | [], _, _, _, h => by cases h; rfl
  | _ :: _, _, _, _, h => by
    obtain ⟨y, n', v1, rfl, h1, h2⟩ := mSet_step h
    rw [mSet_len h2, setV_len h1]
theorem mNode_len {rec : List Nd → List Int → Rs → Option Rres} {recLoop : Nd → List Int → List Int → Rs → Option Rres} {recSum : Nd → List Int → Rs → Option (Int × Rs)} {x : Nd} {a v : List Int} {s : Rs} {r : Rres}
    (hr : ∀ q v s r, rec q v s = some r → r.2.1.length = v.length) (hl : ∀ x v a s r, recLoop x v a s = some r → r.2.1.length = v.length) (h : mNode rec recLoop recSum x a v s = some r) : r.2.1.length = v.length := by
  unfold mNode at h
  split at h
  ·simp only [Option.bind_eq_some_iff, Option.map_eq_some_iff] at h
   obtain ⟨o, _, v', h1, rfl⟩ := h
   exact setV_len h1
  split at h
  ·cases h; rfl
  split at h
  ·simp only [Option.bind_eq_some_iff] at h
   obtain ⟨a0, _, q, _, r1, h1, h2⟩ := h
   have h3 := hr _ _ _ _ h1
   split at h2
   ·simp only [Option.map_eq_some_iff] at h2
    obtain ⟨v', h4, rfl⟩ := h2
    exact (mSet_len h4).trans h3
   cases h2; exact h3
  split at h
  ·exact hl _ _ _ _ _ h
  simp only [Option.bind_eq_some_iff] at h
  obtain ⟨r1, h1, h2⟩ := h
  split at h2
  ·simp only [Option.bind_eq_some_iff, Option.map_eq_some_iff] at h2
   obtain ⟨o, _, v', h4, rfl⟩ := h2
   exact setV_len h4
  cases h2; rfl
theorem mLL_len (u : Un) : ∀ d, (∀ l v s r, mList u d l v s = some r → r.2.1.length = v.length) ∧ ∀ x v a s r, mLoop u d x v a s = some r → r.2.1.length = v.length
  | 0 => ⟨fun _ _ _ _ h => by simp [mList] at h, fun _ _ _ _ _ h => by simp [mLoop] at h⟩
  | d + 1 => by
    obtain ⟨i1, i2⟩ := mLL_len u d
    refine ⟨fun l v s r h => ?_, fun x v a s r h => ?_⟩
    ·cases l with
     | nil => simp only [mList] at h; cases h; rfl
     | cons x l =>
       rw [mList] at h
       split at h
       ·cases h; rfl
       simp only [Option.bind_eq_some_iff] at h
       obtain ⟨a, _, r1, h1, h2⟩ := h
       have h3 := mNode_len i1 i2 h1
       split at h2
       ·cases h2; exact h3
       exact (i1 _ _ _ _ h2).trans h3
    rw [mLoop] at h
    simp only [Option.bind_eq_some_iff] at h
    obtain ⟨v1, hv1, q, _, r1, h1, h2⟩ := h
    have h3 := (i1 _ _ _ _ h1).trans (mSet_len hv1)
    split at h2
    ·cases h2; exact h3
    split at h2
    ·simp only [Option.map_eq_some_iff] at h2
     obtain ⟨v', h4, rfl⟩ := h2
     exact (mSet_len h4).trans h3
    exact (i2 _ _ _ _ _ h2).trans h3
theorem mList_len {u : Un} {d : Nat} {l : List Nd} {v : List Int} {s : Rs} {r : Rres} (h : mList u d l v s = some r) : r.2.1.length = v.length := (mLL_len u d).1 _ _ _ _ h
theorem mLoop_step {u : Un} {d : Nat} {x : Nd} {v a : List Int} {s : Rs} {r : Rres} (h : mLoop u d x v a s = some r) : ∃ d1 v2 q r1, d = d1 + 1 ∧ mSet v x.params a = some v2 ∧ x.kids[0]? = some q ∧ mList u d1 q v2 s = some r1 ∧
    (if mOver r1.2.2 || r1.1.1 == 15 then some r1 else if r1.1.1 == 14 then (mSet r1.2.1 x.outs r1.1.2).map fun v => ((0, []), v, r1.2.2) else mLoop u d1 x r1.2.1 r1.1.2 r1.2.2) = some r := by
  cases d with
  | zero => simp [mLoop] at h
  | succ d =>
    rw [mLoop] at h
    simp only [Option.bind_eq_some_iff] at h
    obtain ⟨v2, h1, q, h2, r1, h3, h4⟩ := h
    exact ⟨d, v2, q, r1, rfl, h1, h2, h3, h4⟩
theorem mList_step {u : Un} {d : Nat} {x : Nd} {l : List Nd} {v : List Int} {s s2 : Rs} {r : Rres} (hs2 : (mStep s).2 = s2) (h : mList u d (x :: l) v s = some r) : ∃ d1, d = d1 + 1 ∧ (((mStep s).1 = false ∧ r = ((0, []), v, s2)) ∨
    ((mStep s).1 = true ∧ ∃ a r1, mOf v x.args = some a ∧ mNode (mList u d1) (mLoop u d1) (mSum u d1) x a v s2 = some r1 ∧ (if mOver r1.2.2 || r1.1.1 != 0 then some r1 else mList u d1 l r1.2.1 r1.2.2) = some r)) := by
  cases d with
  | zero => simp [mList] at h
  | succ d =>
    refine ⟨d, rfl, ?_⟩
    subst hs2
    rw [mList] at h
    split at h
    ·rename_i s' e; cases h; exact .inl ⟨by rw [e], by rw [e]⟩
    rename_i s' e
    simp only [Option.bind_eq_some_iff] at h
    obtain ⟨a, h1, r1, h2, h3⟩ := h
    exact .inr ⟨by rw [e], a, r1, h1, by rw [e]; exact h2, h3⟩
section
variable {rec : List Nd → List Int → Rs → Option Rres} {recLoop : Nd → List Int → List Int → Rs → Option Rres} {recSum : Nd → List Int → Rs → Option (Int × Rs)} {x : Nd} {a v : List Int} {s : Rs} {r : Rres}
theorem mNode_set (h : mNode rec recLoop recSum x a v s = some r) (hk : (x.kind == 1 || x.kind == 2) = true) : ∃ o v2, x.outs[0]? = some o ∧ setV v o x.n = some v2 ∧ r = ((0, []), v2, s) := by
  unfold mNode at h
  rw [if_pos hk] at h
  simp only [Option.bind_eq_some_iff, Option.map_eq_some_iff] at h
  obtain ⟨o, h1, v2, h2, rfl⟩ := h
  exact ⟨o, v2, h1, h2, rfl⟩
theorem mNode_end (h : mNode rec recLoop recSum x a v s = some r) (hk : (x.kind == 12 || x.kind == 13 || x.kind == 14 || x.kind == 15) = true) : r = ((x.kind, a), v, s) := by
  unfold mNode at h
  rw [if_neg (by simp only [Bool.or_eq_true, beq_iff_eq] at hk ⊢; omega), if_pos hk] at h
  cases h; rfl
theorem mNode_if (h : mNode rec recLoop recSum x a v s = some r) (hk : (x.kind == 10) = true) : ∃ a0 q r1, a[0]? = some a0 ∧ x.kids[if a0 != 0 then 0 else 1]? = some q ∧ rec q v s = some r1 ∧
    (if !mOver r1.2.2 && r1.1.1 == 12 then (mSet r1.2.1 x.outs r1.1.2).map fun v' => ((0, []), v', r1.2.2) else some r1) = some r := by
  unfold mNode at h
  rw [if_neg (by simp only [Bool.or_eq_true, beq_iff_eq] at hk ⊢; omega), if_neg (by simp only [Bool.or_eq_true, beq_iff_eq] at hk ⊢; omega), if_pos hk] at h
  simp only [Option.bind_eq_some_iff] at h
  obtain ⟨a0, h1, q, h2, r1, h3, h4⟩ := h
  exact ⟨a0, q, r1, h1, h2, h3, h4⟩
theorem mNode_loop (h : mNode rec recLoop recSum x a v s = some r) (hk : (x.kind == 11) = true) : recLoop x v a s = some r := by
  unfold mNode at h
  rw [if_neg (by simp only [Bool.or_eq_true, beq_iff_eq] at hk ⊢; omega), if_neg (by simp only [Bool.or_eq_true, beq_iff_eq] at hk ⊢; omega), if_neg (by simp only [beq_iff_eq] at hk ⊢; omega), if_pos hk] at h
  exact h
theorem mNode_sum (h : mNode rec recLoop recSum x a v s = some r) (h1 : (x.kind == 1 || x.kind == 2) = false) (h2 : (x.kind == 12 || x.kind == 13 || x.kind == 14 || x.kind == 15) = false) (h3 : (x.kind == 10) = false) (h4 : (x.kind == 11) = false) : ∃ r1, recSum x a s = some r1 ∧
    (if !mOver r1.2 && decide (0 < x.outs.length) then (x.outs[0]?).bind fun o => (setV v o r1.1).map fun v' => ((0, []), v', r1.2) else some ((0, []), v, r1.2)) = some r := by
  unfold mNode at h
  rw [h1, h2, h3, h4] at h
  simp only [Bool.false_eq_true, if_false, Option.bind_eq_some_iff] at h
  exact h
end
theorem mCall_step {u : Un} {d : Nat} {k : Int} {a : List Int} {s : Rs} {r : Int × Rs} (h : mCall u d k a s = some r) : ∃ d1 f r1, d = d1 + 1 ∧ 0 ≤ k ∧ u.flows[k.toNat]? = some f ∧ a.length ≤ f.types.length ∧ f.types.length ≤ 1073741824 ∧
    mList u d1 f.body (a ++ List.replicate (f.types.length - a.length) 0) s = some r1 ∧ r = (if mOver r1.2.2 then 0 else r1.1.2.headD 0, r1.2.2) := by
  cases d with
  | zero => simp [mCall] at h
  | succ d =>
    rw [mCall] at h
    split at h
    ·rename_i hk
     simp only [Option.bind_eq_some_iff] at h
     obtain ⟨f, hf, h⟩ := h
     split at h
     ·rename_i hl
      simp only [Option.bind_eq_some_iff] at h
      obtain ⟨r1, h1, h2⟩ := h
      refine ⟨d, f, r1, rfl, hk, hf, hl.1, hl.2, h1, ?_⟩
      split at h2 <;> cases h2 <;> simp_all
     cases h
    cases h
variable {u : Un} {d : Nat} {x : Nd} {a : List Int} {s : Rs} {r : Int × Rs}
theorem mSum_pos (h : mSum u d x a s = some r) : ∃ d', d = d' + 1 := by
  cases d with
  | zero => simp [mSum] at h
  | succ d => exact ⟨d, rfl⟩
theorem mSum_one (h : mSum u (d + 1) x a s = some r) (hk : (x.kind == 3) = true) : ∃ a0, a[0]? = some a0 ∧ r = (mOne x.op a0, mCost s) := by
  simp only [mSum, hk, if_true, Option.map_eq_some_iff] at h
  obtain ⟨a0, h1, rfl⟩ := h
  exact ⟨a0, h1, rfl⟩
theorem mSum_two (h : mSum u (d + 1) x a s = some r) (hk : (x.kind == 4) = true) : ∃ a0 a1, a[0]? = some a0 ∧ a[1]? = some a1 ∧ r = ((mTwo x.op a0 a1).1, if (mTwo x.op a0 a1).2 then mCost s else { mCost s with st := 2 }) := by
  have h3 : (x.kind == 3) = false := by have := eq_of_beq hk; rw [this]; rfl
  simp only [mSum, h3, hk, if_true, Bool.false_eq_true, if_false, Option.map_eq_some_iff, Option.bind_eq_some_iff] at h
  obtain ⟨a0, h1, a1, h2, rfl⟩ := h
  exact ⟨a0, a1, h1, h2, rfl⟩
theorem mCell_neg {k n : Int} {q : Bool × Rs} (hk : k < 0) (h : mCell s k n = some q) : n < 0 ∧ q = (false, { s with st := 3 }) := by
  unfold mCell at h
  split at h
  ·rename_i h1; cases h; exact ⟨h1, rfl⟩
  rw [if_neg (by omega)] at h; cases h
theorem mSum_load (hu : u.arrays = []) (h : mSum u (d + 1) x a s = some r) (hk : (x.kind == 5) = true) : ∃ a0, a[0]? = some a0 ∧ a0 < 0 ∧ r = (0, { mCost s with st := 3 }) := by
  have h3 : (x.kind == 3) = false := by have := eq_of_beq hk; rw [this]; rfl
  have h4 : (x.kind == 4) = false := by have := eq_of_beq hk; rw [this]; rfl
  simp only [mSum, h3, h4, hk, if_true, Bool.false_eq_true, if_false, Option.bind_eq_some_iff] at h
  obtain ⟨a0, h1, q, h2, h5⟩ := h
  rw [hu] at h2
  obtain ⟨h6, rfl⟩ := mCell_neg (by show (-1 : Int) < 0; decide) h2
  simp only [Bool.false_eq_true, if_false] at h5
  cases h5
  exact ⟨a0, h1, h6, rfl⟩
theorem mSum_store (hu : u.arrays = []) (h : mSum u (d + 1) x a s = some r) (hk : (x.kind == 6) = true) : ∃ a0, a[0]? = some a0 ∧ a0 < 0 ∧ r = (0, { mCost s with st := 3 }) := by
  have h3 : (x.kind == 3) = false := by have := eq_of_beq hk; rw [this]; rfl
  have h4 : (x.kind == 4) = false := by have := eq_of_beq hk; rw [this]; rfl
  have h5 : (x.kind == 5) = false := by have := eq_of_beq hk; rw [this]; rfl
  simp only [mSum, h3, h4, h5, hk, if_true, Bool.false_eq_true, if_false, Option.bind_eq_some_iff] at h
  obtain ⟨a0, h1, q, h2, h5⟩ := h
  rw [hu] at h2
  obtain ⟨h6, rfl⟩ := mCell_neg (by show (-1 : Int) < 0; decide) h2
  simp only [Bool.false_eq_true, if_false] at h5
  cases h5
  exact ⟨a0, h1, h6, rfl⟩
theorem mSum_call (h : mSum u (d + 1) x a s = some r) (hk : (x.kind == 7) = true) : mCall u d (r8Place x.name u.flows 0) a (mCost s) = some r := by
  have e := eq_of_beq hk
  simp only [mSum, e] at h
  exact h
theorem mSum_print (h : mSum u (d + 1) x a s = some r) (hk : (x.kind == 9) = true) : ∃ a0, a[0]? = some a0 ∧ s.out.length < 1073741824 ∧ r = (0, { mCost s with out := s.out ++ [a0] }) := by
  have e := eq_of_beq hk
  simp only [mSum, e] at h
  simp only [show ((9 : Int) == 3) = false from rfl, show ((9 : Int) == 4) = false from rfl, show ((9 : Int) == 5) = false from rfl, show ((9 : Int) == 6) = false from rfl, show ((9 : Int) == 7) = false from rfl, show ((9 : Int) == 9) = true from rfl, if_true, Bool.false_eq_true, if_false, Option.bind_eq_some_iff] at h
  obtain ⟨a0, h1, h2⟩ := h
  split at h2
  ·rename_i h3; cases h2; exact ⟨a0, h1, h3, rfl⟩
  cases h2
theorem mSum_read (h : mSum u (d + 1) x a s = some r) (hk : (x.kind == 8) = true) : (s.ins = [] ∧ r = (0, { mCost s with st := 4 })) ∨ ∃ y q, s.ins = y :: q ∧ r = (y, { mCost s with ins := q }) := by
  have e := eq_of_beq hk
  simp only [mSum, e] at h
  simp only [show ((8 : Int) == 3) = false from rfl, show ((8 : Int) == 4) = false from rfl, show ((8 : Int) == 5) = false from rfl, show ((8 : Int) == 6) = false from rfl, show ((8 : Int) == 7) = false from rfl, show ((8 : Int) == 9) = false from rfl, show ((8 : Int) == 8) = true from rfl, if_true, Bool.false_eq_true, if_false] at h
  split at h
  ·rename_i h1; cases h; exact .inl ⟨h1, rfl⟩
  rename_i y q h1; cases h; exact .inr ⟨y, q, h1, rfl⟩
theorem mSum_else (h : mSum u (d + 1) x a s = some r) (h3 : (x.kind == 3) = false) (h4 : (x.kind == 4) = false) (h5 : (x.kind == 5) = false) (h6 : (x.kind == 6) = false) (h7 : (x.kind == 7) = false) (h9 : (x.kind == 9) = false) (h8 : (x.kind == 8) = false) : r = (0, mCost s) := by
  simp only [mSum, h3, h4, h5, h6, h7, h8, h9, Bool.false_eq_true, if_false] at h
  cases h; rfl
end
theorem sc_cell0 (u : Un) (s : Rs) (k n : Int) (hn : n < 0) : SC Tryz.prog 89 [.ptr 1001 0, iInt k, iInt n] (runH u s) (fun _ => False) (iBool false) (runH u { s with st := 3 }) := by
  refine SC.of Tryz.func89 rfl (lb rfl) fun F ρ w => ?_
  refine tQ <| tG <| sm 1 rfl <| nL <| tQ <| tQ <| tG <| sm 3 rfl ?_
  refine wS 9 rfl (fun hb9 => ?_) fun hb9 => ?_
  ·refine sm 11 rfl <| nL <| Tr.condT rfl <| tQ <| tG <| sm 1 rfl <| cV rfl (ok_nilCheck rfl rfl rfl) <| sm 2 rfl <| c0 (ok_store_box rfl rfl rfl rfl ((fun h => h)) tS3 (rfl) (lb rfl)) <| nL <| tQ <| tG ?_
   refine sm 1 rfl <| nL <| Tr.ret <| ret_ok rfl rfl (po2 rfl rfl)
  exact absurd hn (by simpa using hb9)
def SCC (u : Un) (D : Nat) : Prop := ∀ d, d < D → ∀ k a s r, mCall u d k a s = some r → SC Tryz.prog 29 [.ptr 1001 0, iInt k, .pv (ints a)] (runH u s) (fun _ => False) (iInt r.1) (runH u r.2)
def SCL (u : Un) (D : Nat) : Prop := ∀ d, d < D → ∀ l v s r, mList u d l v s = some r → lsW l ≤ 1073741824 → SC Tryz.prog 45 [.ptr 1001 0, .pv (nodes l), .sl 510 (v.map eInt).length] (runV u s v) (fun _ => False) (.pv (endv r.1)) (runV u r.2.2 r.2.1)
theorem sc_sum (u : Un) (hu : u.arrays = []) (D : Nat) (ihC : SCC u D) (d : Nat) (hd : d ≤ D) (x : Nd) (a : List Int) (s : Rs) (r : Int × Rs) (h : mSum u d x a s = some r) : SC Tryz.prog 68 [.ptr 1001 0, .pv (ndv x), .pv (ints a)] (runH u s) (fun _ => False) (iInt r.1) (runH u r.2) := by
  refine SC.of Tryz.func68 rfl (lb rfl) fun F ρ w => ?_
  obtain ⟨d, rfl⟩ := mSum_pos h
  refine Tr.lenOf (t := 2) rfl (fun hl => ?_)
  simp only [List.length_map] at hl
  refine tQ <| tG <| cE rfl (ok_box rfl rfl) <| sm 1 rfl <| nL <| tQ <| tG <| sm 2 rfl <| cV rfl (ok_nilCheck rfl rfl rfl) <| sm 4 rfl <| cV rfl (ok_nilCheck rfl rfl rfl) <| sm 2 rfl ?_
  refine c0 (ok_store_box rfl rfl rfl rfl ((fun h => h)) tS3 (rfl) (lb rfl)) <| nL <| tQ <| Tr.heap (σ' := look (up (runH u (mCost s)))) (lkq [1001, 1002] rfl rfl ⟨rfl, rfl, trivial⟩) <| Tr.drawn mixed (fun k => k ∈ ([1001] : List Nat)) <| wR 2 [0, 1, 2, 3, 4, 5] (by kernel_rfl) (fun _ _ _ h => h) <| smR 1 rfl <| rV rfl rfl (ok_nilCheck rfl rfl rfl) <| smR 1 rfl <| rV rfl rfl (ok_load_box_pure rfl rfl rfl Tryz.underlying25 rfl tS25 (lb rfl) rfl (by decide)) <| smR 2 rfl <| nR ?_
  refine wO 6 (by kernel_rfl) <| wI rfl rfl nf nw (fun _ _ => ocq (sc_r8Array _ _) ent47 rfl rfl) <| wR 0 [7] (by kernel_rfl) (fun _ _ _ h => h) <| smR 1 rfl <| nR <| WA.done (by kernel_rfl) <| tQ <| tQ <| tG <| sm 2 rfl <| nL <| Tr.block ?_
  refine tQ <| tG <| sm 2 rfl <| nL ?_
  refine tC rfl (fun hc30 => ?_) fun hc30 => ?_
  ·obtain ⟨a0, h0, rfl⟩ := mSum_one h hc30
   have hi0 := map_get (f := eInt) h0
   refine tQ <| Tr.drawn mixed (fun k => k ∈ ([] : List Nat)) <| wR 2 [0, 1, 2, 3, 4] (by kernel_rfl) (fun _ _ _ h => h) <| smR 3 rfl <| rV rfl rfl (ok_index_seq rfl rfl rfl Tryz.underlying35 hi0 tS3 rfl (by rfl)) <| smR 1 rfl <| nR <| wO 5 (by kernel_rfl) <| wI rfl rfl nf nw (fun _ _ => ocq (sc_mOne _ _) ent87 rfl rfl) <| wR 0 [6] (by kernel_rfl) (fun _ _ _ h => h) <| smR 1 rfl <| nR ?_
   refine WA.done (by kernel_rfl) <| Tr.ret <| ret_ok rfl ?_ (po2 rfl rfl)
   rfl
  refine tQ <| tG <| sm 2 rfl <| nL ?_
  refine tC rfl (fun hc38 => ?_) fun hc38 => ?_
  ·obtain ⟨a0, a1, h0, h1, rfl⟩ := mSum_two h hc38
   have hi0 := map_get (f := eInt) h0
   have hi1 := map_get (f := eInt) h1
   refine tQ <| Tr.drawn mixed (fun k => k ∈ ([] : List Nat)) <| wR 6 [0, 1, 2, 3, 4, 5, 6, 7] (by kernel_rfl) (fun _ _ _ h => h) <| smR 3 rfl <| rV rfl rfl (ok_index_seq rfl rfl rfl Tryz.underlying35 hi0 tS3 rfl (by rfl)) <| smR 2 rfl <| rV rfl rfl (ok_index_seq rfl rfl rfl Tryz.underlying35 hi1 tS3 rfl (by rfl)) <| smR 1 rfl <| nR <| wO 8 (by kernel_rfl) <| wI rfl rfl nf nw (fun _ _ => ocq (sc_mTwo _ _ _) ent88 rfl rfl) <| wR 0 [9, 10, 11, 12, 13] (by kernel_rfl) (fun _ _ _ h => h) ?_
   refine smR 1 rfl <| rV rfl rfl (ok_extract rfl rfl rfl) <| rV rfl rfl (ok_extract rfl rfl rfl) <| smR 2 rfl <| nR <| WA.done (by kernel_rfl) <| tQ <| tQ <| tG <| sm 2 rfl <| nL ?_
   refine tC rfl (fun hc53 => ?_) fun hc53 => ?_
   ·have hok : (mTwo x.op a0 a1).2 = false := by simpa using hc53
    refine tG <| sm 1 rfl <| cV rfl (ok_nilCheck rfl rfl rfl) <| sm 2 rfl <| c0 (ok_store_box rfl rfl rfl rfl ((fun h => h)) tS3 (rfl) (lb rfl)) <| nL <| tQ <| tG <| sm 2 rfl <| nL <| Tr.ret ?_
    rw [hok]
    refine ret_ok rfl rfl (po2 rfl rfl)
   have hok : (mTwo x.op a0 a1).2 = true := by simpa using hc53
   refine Tr.skip <| tQ <| tG <| sm 2 rfl <| nL <| Tr.ret ?_
   rw [hok]
   refine ret_ok rfl rfl (po2 rfl rfl)
  refine tQ <| tG <| sm 2 rfl <| nL ?_
  refine tC rfl (fun hc59 => ?_) fun hc59 => ?_
  ·obtain ⟨a0, h0, ha0, rfl⟩ := mSum_load hu h hc59
   have hi0 := map_get (f := eInt) h0
   refine tQ <| tG <| sm 3 rfl <| cV rfl (ok_index_seq rfl rfl rfl Tryz.underlying35 hi0 tS3 rfl (by rfl)) <| sm 1 rfl <| cE rfl (ocr (sc_cell0 u (mCost s) _ a0 ha0) ent89 rfl (fun _ _ h => h) rfl (fun k (h : _) => .inr h) rfl rfl) <| nL ?_
   refine tC rfl (fun hc66 => ?_) fun hc66 => ?_
   ·cases hc66
   refine Tr.skip <| tQ <| tG <| sm 1 rfl <| nL <| Tr.ret <| ret_ok rfl rfl (po2 rfl rfl)
  refine tQ <| tG <| sm 2 rfl <| nL ?_
  refine tC rfl (fun hc79 => ?_) fun hc79 => ?_
  ·obtain ⟨a0, h0, ha0, rfl⟩ := mSum_store hu h hc79
   have hi0 := map_get (f := eInt) h0
   refine tQ <| tG <| sm 3 rfl <| cV rfl (ok_index_seq rfl rfl rfl Tryz.underlying35 hi0 tS3 rfl (by rfl)) <| sm 1 rfl <| cE rfl (ocr (sc_cell0 u (mCost s) _ a0 ha0) ent89 rfl (fun _ _ h => h) rfl (fun k (h : _) => .inr h) rfl rfl) <| nL ?_
   refine tC rfl (fun hc86 => ?_) fun hc86 => ?_
   ·cases hc86
   refine Tr.skip <| tQ <| tG <| sm 1 rfl <| nL <| Tr.ret <| ret_ok rfl rfl (po2 rfl rfl)
  refine tQ <| tG <| sm 2 rfl <| nL ?_
  refine tC rfl (fun hc101 => ?_) fun hc101 => ?_
  ·have hcall := mSum_call h hc101
   refine tQ <| Tr.drawn mixed (fun k => k ∈ ([] : List Nat)) <| wR 4 [0, 1, 2, 3, 5, 6, 8] (by kernel_rfl) (fun _ _ _ h => h) <| smR 2 rfl <| rV rfl rfl (ok_nilCheck rfl rfl rfl) <| smR 4 rfl <| nR <| wO 4 (by kernel_rfl) <| wI rfl rfl nf nw (fun _ _ => OkV.ok (R1 := fun _ => True) ((ok_load_box_pure rfl rfl rfl Tryz.underlying25 rfl tS25 (lb rfl) rfl trivial))) <| wO 7 (by kernel_rfl) <| wI rfl rfl nf nw (fun _ _ => ocq (sc_r8Place _ _) ent30 rfl rfl) <| wO 9 (by kernel_rfl) ?_
   refine wI rfl rfl nf (new_app rfl) (fun _ _ => ocr (ihC d (by omega) _ a (mCost s) r hcall) ent29 rfl (fun _ _ h => h) rfl nl rfl rfl) <| wR 0 [10] (by kernel_rfl) (fun _ _ _ h => h) <| smR 1 rfl <| nR <| WA.done (by kernel_rfl) <| Tr.ret <| ret_ok rfl ?_ (po2 rfl rfl)
   rfl
  refine tQ <| tG <| sm 2 rfl <| nL ?_
  refine tC rfl (fun hc113 => ?_) fun hc113 => ?_
  ·obtain ⟨a0, h0, hol, rfl⟩ := mSum_print h hc113
   have hi0 := map_get (f := eInt) h0
   have hol2 : (mCost s).out.length < 1073741824 := hol
   refine Tr.drawn mixed (fun k => k ∈ ([] : List Nat)) <| wR 7 [0, 1, 2, 3, 4, 6, 7, 8] (by kernel_rfl) (fun _ _ _ h => h) <| smR 2 rfl <| rV rfl rfl (ok_nilCheck rfl rfl rfl) <| smR 3 rfl <| rV rfl rfl (ok_index_seq rfl rfl rfl Tryz.underlying35 hi0 tS3 rfl (by rfl)) <| smR 1 rfl <| nR <| WA.all (rs := [5, 9]) (by kernel_rfl) (by simp) ?_
   refine List.forall_mem_cons.2 ⟨?_, List.forall_mem_cons.2 ⟨?_, by simp⟩⟩
   ·refine wI rfl rfl nf nw (fun _ _ => OkV.ok (R1 := fun _ => True) ((ok_load_box rfl rfl rfl Tryz.underlying35 rfl rfl trivial))) <| wO 9 (by kernel_rfl) <| wI rfl rfl nf nw (fun _ _ => ok_buildSlice rfl rfl Tryz.underlying35 tZ3 tS3 rfl rfl rfl rfl (firmB_ok rfl) rfl) <| wO 10 (by kernel_rfl) ?_
    refine wI rfl rfl nf (new_old rfl) (fun _ _ => ok_append rfl rfl rfl rfl (by rfl) (by simp) Tryz.underlying35 tB3 (by decide) (by (simp [chunks]; done)) (by (simp [chunks, PV.one]; rfl)) (by simp [maxLen, chunks]; omega) (by simp [chunks]; omega)) ?_
    refine wR 1 [11, 12, 13] (by kernel_rfl) (fun _ _ _ h => h) <| rV rfl rfl (ok_nilCheck rfl rfl rfl) <| smR 2 rfl <| nR <| wO 14 (by kernel_rfl) <| wI rfl rfl nf (new_old rfl) (fun _ _ => ok_store_box rfl rfl rfl rfl (by simp) tS35 (⟨_, _, rfl, by simp⟩) (lb rfl)) <| WA.done (by kernel_rfl) <| tQ <| tG <| sm 1 rfl <| nL <| Tr.ret <| ret_ok rfl rfl (post_ok (And.intro (congrArg (fun z => some (HO.box z)) (by simp [chunks, eInt, mCost])) (And.intro (congrArg (fun z => some (HO.row _ z)) (by simp [chunks, eInt, mCost])) trivial)))
   refine wI rfl rfl nf nw (fun _ _ => ok_buildSlice rfl rfl Tryz.underlying35 tZ3 tS3 rfl rfl rfl rfl (firmB_ok rfl) rfl) <| wO 5 (by kernel_rfl) <| wI rfl rfl nf nw (fun _ _ => OkV.ok (R1 := fun _ => True) ((ok_load_box rfl rfl rfl Tryz.underlying35 rfl rfl trivial))) <| wO 10 (by kernel_rfl) ?_
   refine wI rfl rfl nf (new_old rfl) (fun _ _ => ok_append rfl rfl rfl rfl (by rfl) (by simp) Tryz.underlying35 tB3 (by decide) (by (simp [chunks]; done)) (by (simp [chunks, PV.one]; rfl)) (by simp [maxLen, chunks]; omega) (by simp [chunks]; omega)) ?_
   refine wR 1 [11, 12, 13] (by kernel_rfl) (fun _ _ _ h => h) <| rV rfl rfl (ok_nilCheck rfl rfl rfl) <| smR 2 rfl <| nR <| wO 14 (by kernel_rfl) <| wI rfl rfl nf (new_old rfl) (fun _ _ => ok_store_box rfl rfl rfl rfl (by simp) tS35 (⟨_, _, rfl, by simp⟩) (lb rfl)) <| WA.done (by kernel_rfl) <| tQ <| tG <| sm 1 rfl <| nL <| Tr.ret <| ret_ok rfl rfl (post_ok (And.intro (congrArg (fun z => some (HO.box z)) (by simp [chunks, eInt, mCost])) (And.intro (congrArg (fun z => some (HO.row _ z)) (by simp [chunks, eInt, mCost])) trivial)))
  refine tQ <| tG <| sm 2 rfl <| nL ?_
  refine tC rfl (fun hc129 => ?_) fun hc129 => ?_
  ·have hrd := mSum_read h hc129
   refine tQ <| tQ <| tG <| sm 1 rfl <| cV rfl (ok_nilCheck rfl rfl rfl) <| sm 2 rfl <| cV rfl (oSm Tryz.underlying35 rfl) <| sm 1 rfl <| nL ?_
   refine tC rfl (fun hc136 => ?_) fun hc136 => ?_
   ·obtain ⟨hin, rfl⟩ : s.ins = [] ∧ r = (0, { mCost s with st := 4 }) := by
      rcases hrd with h1 | ⟨y, q, h1, _⟩
      ·exact h1
      simp [mCost, h1] at hc136
      omega
    refine tQ <| tG <| sm 1 rfl <| cV rfl (ok_nilCheck rfl rfl rfl) <| sm 2 rfl <| c0 (ok_store_box rfl rfl rfl rfl ((fun h => h)) tS3 (rfl) (lb rfl)) <| nL <| tQ <| tG <| sm 1 rfl <| nL <| Tr.ret <| ret_ok rfl ?_ (po2 rfl rfl)
    rfl
   obtain ⟨y, q, hin, rfl⟩ : ∃ y q, s.ins = y :: q ∧ r = (y, { mCost s with ins := q }) := by
     rcases hrd with ⟨h1, _⟩ | h1
     ·simp [mCost, h1] at hc136
     exact h1
   have hil : (mCost s).ins = y :: q := hin
   have hi0 : ((mCost s).ins.map eInt)[0]? = some (eInt y) := by show (s.ins.map eInt)[0]? = _; rw [hin]; rfl
   refine Tr.skip <| tQ <| tG <| sm 1 rfl <| cV rfl (ok_nilCheck rfl rfl rfl) <| sm 2 rfl <| cV rfl (ok_index_seq rfl rfl rfl Tryz.underlying35 hi0 tS3 rfl (by rfl)) <| sm 2 rfl <| nL <| tQ <| tG <| sm 2 rfl ?_
   refine cV rfl (ok_nilCheck rfl rfl rfl) <| sm 2 rfl ?_
   refine cV rfl (ok_slice_seq (i := 1) (j := (y :: q).length) rfl (show _ = some (IV.pv (ints (mCost s).ins)) from rfl) Tryz.underlying35 tS3 (.inr ⟨_, _, rfl, rfl⟩) (.inl ⟨rfl, by simp [hil]⟩) (by simp) (by simp [hil]) hw_int) ?_
   refine cV rfl (ok_nilCheck rfl rfl rfl) <| sm 1 rfl <| c0 (ok_store_box rfl rfl rfl rfl ((fun h => h)) tS35 (rfl) (lb rfl)) <| nL <| tQ <| tG <| sm 2 rfl <| nL <| Tr.ret <| ret_ok rfl rfl (post_ok (And.intro (congrArg (fun z => some (HO.box z)) (by (simp [hil, ints, List.take_of_length_le]; done))) (And.intro rfl trivial)))
  obtain rfl := mSum_else h hc30 hc38 hc59 hc79 hc101 hc113 hc129
  refine Tr.skip <| tQ <| tG <| sm 1 rfl <| nL <| Tr.ret <| ret_ok rfl rfl (po2 rfl rfl)
theorem end_nil : PSub (.agg [vInt 0, .val (.slice none 0 0)]) (endv (0, [])) := PSub.agg (ps := [vInt 0, .val (.slice none 0 0)]) (qs := [vInt 0, .seq []]) (And.intro (PSub.refl _) (And.intro PSub.nil trivial))
theorem sc_loop (u : Un) (D : Nat) (ihL : SCL u D) (d : Nat) (hd : d ≤ D) (x : Nd) (hx : ndW x ≤ 1073741824) (v a : List Int) (s : Rs) (r : Rres) (h : mLoop u d x v a s = some r) : SC Tryz.prog 67 [.ptr 1001 0, .pv (ndv x), .sl 510 (v.map eInt).length, .pv (ints a)] (runV u s v) (fun _ => False) (.pv (endv r.1)) (runV u r.2.2 r.2.1) := by
  refine SC.ofC Tryz.func67 rfl (lb rfl) rfl fun F ρ w => ?_
  refine tQ <| tG <| cE rfl (ok_box rfl rfl) <| cE rfl (ok_alloc (k := 108) rfl tZ79 rfl rfl rfl rfl) <| nL <| Tr.block <| Tr.sub (Sub.of (fr' := [(8, .ptr 108 0), (5, .pv (.ept [vInt x.kind, vInt x.op, vInt x.n, vStr x.name, ints x.args, ints x.outs, ints x.params, kids x.kids] 0)), (0, .ptr 1001 0), (2, .sl 510 (v.map eInt).length), (3, .pv (ints a))]) ⟨rfl, rfl, rfl, rfl, rfl, trivial⟩) <| Tr.heap (σ' := look [(108, some (.box [iInt 0, .pv (.val (.slice none 0 0))])), (1001, some (runBox u s)), (1002, some (rowI (s).out)), (510, some (rowI v))]) (lkq [108, 1001, 1002, 510] rfl rfl ⟨rfl, rfl, rfl, rfl, trivial⟩) ?_
  refine Tr.loop (fun fr σ m => ∃ (d0 : Nat) (v1 : List Int) (a1 : List Int) (s1 : Rs), (d0 ≤ d) ∧ (mLoop u d0 x v1 a1 s1 = some r) ∧ ((v1.map eInt).length = (v.map eInt).length) ∧ fr = [(8, .ptr 108 0), (5, .pv (.ept [vInt x.kind, vInt x.op, vInt x.n, vStr x.name, ints x.args, ints x.outs, ints x.params, kids x.kids] 0)), (0, .ptr 1001 0), (2, .sl 510 (v.map eInt).length), (3, .pv (ints a1))] ∧ σ = look [(108, some (.box [iInt 0, .pv (.val (.slice none 0 0))])), (1001, some (runBox u s1)), (1002, some (rowI (s1).out)), (510, some (rowI v1))] ∧ m = d0) (n := d) ?_ ?_
  ·exact ⟨d, v, a, s, Nat.le_refl _, h, rfl, rfl, rfl, rfl⟩
  rintro fr σ m ⟨d0, v1, a1, s1, hI0, hI1, hI2, rfl, rfl, rfl⟩
  obtain ⟨d1, v2, q, r1, rfl, hset, hq, hlist, hrest⟩ := mLoop_step hI1
  have hi0 := map_get (f := eKid) hq
  have hqb : lsW q ≤ 1073741824 := by have := kdW_mem (List.mem_of_getElem? hq); have := ndW_eq x; omega
  have hl2 : (v2.map eInt).length = (v.map eInt).length := by rw [← hI2]; simp [mSet_len hset]
  have hl3 : (r1.2.1.map eInt).length = (v.map eInt).length := by rw [← hl2]; simp [mList_len hlist]
  refine Tr.block <| tQ <| tG <| sm 4 rfl <| cE rfl (ok_callr (sc_set v1 x.params a1 v2 hset) ent66 rfl rfl (Subs.same (congrArg (fun n => IV.sl 510 n) hI2.symm) (Subs.refl _ _)) (po1 rfl) (by rfl) (fun k (h : _) => .inr h) rfl (by rfl)) <| nL <| tQ <| Tr.heap (σ' := look [(108, some (.box [iInt 0, .pv (.val (.slice none 0 0))])), (1001, some (runBox u s1)), (1002, some (rowI (s1).out)), (510, some (rowI v2))]) (lkq [108, 1001, 1002, 510] rfl rfl ⟨rfl, rfl, rfl, rfl, trivial⟩) <| tG <| sm 3 rfl <| cV rfl (ok_index_seq rfl rfl rfl Tryz.underlying40 hi0 tS43 rfl (by rfl)) <| sm 2 rfl ?_
  refine cE rfl (ok_callr (ihL d1 (by omega) q v2 s1 r1 hlist hqb) ent45 rfl rfl (Subs.same rfl (Subs.same rfl (Subs.same (congrArg (fun n => IV.sl 510 n) hl2.symm) Subs.nil))) (po3 rfl rfl rfl) (by rfl) (fun k (h : _) => .inr h) rfl (by rfl)) <| cE rfl (ok_alloc (k := 109) rfl tZ79 rfl rfl rfl rfl) <| c0 (ok_store_box_agg rfl rfl rfl rfl rfl ((fun h => h)) tS79 (firmL_ok rfl) (lb rfl)) <| nL <| tQ <| Tr.block <| tQ <| Tr.freezeBox (t := 9) (k := 109) rfl rfl rfl <| Tr.heap (σ' := look [(108, some (.box [iInt 0, .pv (.val (.slice none 0 0))])), (1001, some (runBox u r1.2.2)), (1002, some (rowI (r1.2.2).out)), (510, some (rowI r1.2.1))]) (lkq [109, 108, 1001, 1002, 510] rfl rfl ⟨rfl, rfl, rfl, rfl, rfl, trivial⟩) <| tG <| sm 1 rfl <| cE rfl (ocr (sc_over u r1.2.2) ent31 rfl (po2 rfl rfl) rfl (fun k (h : _) => .inr trivial) rfl rfl) ?_
  refine sm 1 rfl ?_
  refine wS 25 rfl (fun hb25 => ?_) fun hb25 => ?_
  ·refine sm 5 rfl <| nL <| Tr.condT rfl <| tQ <| tG <| cV rfl (ok_load_ept_agg rfl rfl Tryz.underlying79 rfl tS79 (lb rfl)) <| c0 (ok_store_box_agg rfl rfl rfl rfl rfl ((fun h => h)) tS79 (firmL_ok rfl) (lb rfl)) <| nL <| Tr.ret ?_
   have hov : (mOver r1.2.2 || r1.1.1 == 15) = true := by first | (rw [hb25]; rfl) | (rw [hc22, Bool.or_true])
   rw [if_pos hov] at hrest
   obtain rfl : r1 = r := by injection hrest
   refine retC_ok (.inl rfl) (fun _ _ ho => ok_load_box_pure ho rfl rfl Tryz.underlying79 rfl tS79 (lb rfl) rfl trivial) rfl (po3 rfl rfl rfl)
  refine sm 5 rfl <| nL ?_
  refine tC rfl (fun hc22 => ?_) fun hc22 => ?_
  ·refine tQ <| tG <| cV rfl (ok_load_ept_agg rfl rfl Tryz.underlying79 rfl tS79 (lb rfl)) <| c0 (ok_store_box_agg rfl rfl rfl rfl rfl ((fun h => h)) tS79 (firmL_ok rfl) (lb rfl)) <| nL <| Tr.ret ?_
   have hov : (mOver r1.2.2 || r1.1.1 == 15) = true := by first | (rw [hb25]; rfl) | (rw [hc22, Bool.or_true])
   rw [if_pos hov] at hrest
   obtain rfl : r1 = r := by injection hrest
   refine retC_ok (.inl rfl) (fun _ _ ho => ok_load_box_pure ho rfl rfl Tryz.underlying79 rfl tS79 (lb rfl) rfl trivial) rfl (po3 rfl rfl rfl)
  rw [if_neg (by rw [hb25, hc22]; decide)] at hrest
  refine tQ <| tG <| sm 4 rfl <| nL ?_
  refine tC rfl (fun hc31 => ?_) fun hc31 => ?_
  ·rw [if_pos hc31, Option.map_eq_some_iff] at hrest
   obtain ⟨v3, hset2, rfl⟩ := hrest
   refine tQ <| tG <| sm 5 rfl <| cE rfl (ok_callr (sc_set r1.2.1 x.outs r1.1.2 v3 hset2) ent66 rfl rfl (Subs.same (congrArg (fun n => IV.sl 510 n) hl3.symm) (Subs.refl _ _)) (po1 rfl) (by rfl) (fun k (h : _) => .inr h) rfl (by rfl)) <| nL <| tQ <| tG <| cV rfl (ok_build_pure rfl rfl tZ79 tP79 rfl (firmB_ok rfl) rfl) <| WL.sub (Sub.cons2 (fun _ _ _ _ h => sub_pv end_nil h) Sub.rfl') <| c0 (ok_store_box_agg rfl rfl rfl rfl rfl ((fun h => h)) tS79 (firmL_ok rfl) (lb rfl)) <| nL <| Tr.ret <| retC_ok (.inl rfl) (fun _ _ ho => ok_load_box_pure ho rfl rfl Tryz.underlying79 rfl tS79 (lb rfl) rfl trivial) rfl (po3 rfl rfl rfl)
  rw [if_neg (by rw [hc31]; decide)] at hrest
  have hrest3 := hrest
  refine Tr.skip <| tG <| sm 3 rfl <| nL ?_
  refine ⟨_, _, ?_, Sub.of (fr' := [(8, .ptr 108 0), (5, .pv (.ept [vInt x.kind, vInt x.op, vInt x.n, vStr x.name, ints x.args, ints x.outs, ints x.params, kids x.kids] 0)), (0, .ptr 1001 0), (2, .sl 510 (v.map eInt).length), (3, .pv (ints r1.1.2))]) ⟨rfl, rfl, rfl, rfl, rfl, trivial⟩, d1, r1.2.1, r1.1.2, r1.2.2, ?_, ?_, ?_, rfl, (funext (lkq [108, 1001, 1002, 510] rfl rfl ⟨rfl, rfl, rfl, rfl, trivial⟩)), rfl⟩
  ·omega
  ·omega
  ·exact hrest3
  exact hl3
theorem mList_nil {u : Un} {d : Nat} {v : List Int} {s : Rs} {r : Rres} (h : mList u d [] v s = some r) : r = ((0, []), v, s) := by
  cases d with
  | zero => simp [mList] at h
  | succ d => simp only [mList] at h; cases h; rfl
theorem sc_list0 (u : Un) (hu : u.arrays = []) (D : Nat) (ihC : SCC u D) (ihL : SCL u D) (d : Nat) (hd : d ≤ D) (l : List Nd) (v : List Int) (s : Rs) (r : Rres) (h : mList u d l v s = some r) (hb : lsW l ≤ 1073741824) : SC Tryz.prog 45 [.ptr 1001 0, .pv (nodes l), .sl 510 (v.map eInt).length] (runV u s v) (fun _ => False) (.pv (endv r.1)) (runV u r.2.2 r.2.1) := by
  refine SC.ofC Tryz.func45 rfl (lb rfl) rfl fun F ρ w => ?_
  refine Tr.lenOf (t := 1) rfl (fun hl => ?_)
  simp only [List.length_map] at hl
  refine tQ <| tG <| cE rfl (ok_alloc (k := 106) rfl tZ79 rfl rfl rfl rfl) <| nL <| tQ <| tQ <| Tr.subBox (k := 106) [.pv (vInt 0), .pv (ints [])] rfl ⟨ISub.refl _, ISub.pv PSub.nil, trivial⟩ (fun h => h) <| tG <| sm 1 rfl <| nL <| Tr.block <| Tr.sub (Sub.of (fr' := [(7, iInt 0), (6, .ptr 106 0), (0, .ptr 1001 0), (1, .pv (nodes l)), (2, .sl 510 (v.map eInt).length)]) ⟨rfl, rfl, rfl, rfl, rfl, trivial⟩) ?_
  refine Tr.heap (σ' := look [(106, some (.box [.pv (vInt 0), .pv (ints [])])), (1001, some (runBox u s)), (1002, some (rowI (s).out)), (510, some (rowI v))]) (lkq [106, 1001, 1002, 510] rfl rfl ⟨rfl, rfl, rfl, rfl, trivial⟩) ?_
  refine Tr.loop (fun fr σ m => ∃ (k : Nat) (d0 : Nat) (v1 : List Int) (s1 : Rs), (k ≤ l.length) ∧ (d0 ≤ d) ∧ (mList u d0 (l.drop k) v1 s1 = some r) ∧ ((v1.map eInt).length = (v.map eInt).length) ∧ fr = [(7, iInt k), (6, .ptr 106 0), (0, .ptr 1001 0), (1, .pv (nodes l)), (2, .sl 510 (v.map eInt).length)] ∧ σ = look [(106, some (.box [.pv (vInt 0), .pv (ints [])])), (1001, some (runBox u s1)), (1002, some (rowI (s1).out)), (510, some (rowI v1))] ∧ m = l.length - k) (n := l.length - 0) ?_ ?_
  ·exact ⟨0, d, v, s, Nat.zero_le _, Nat.le_refl _, h, rfl, rfl, rfl, rfl⟩
  rintro fr σ m ⟨k, d0, v1, s1, hIk, hI1, hI2, hI3, rfl, rfl, rfl⟩
  refine tQ <| tQ <| tG <| sm 2 rfl <| cV rfl (oSm Tryz.underlying43 rfl) <| sm 1 rfl <| nL ?_
  refine tC rfl (fun hc16 => ?_) fun hc16 => ?_
  ·have hlt : k < l.length := by simpa using hc16
   have hd2 := List.drop_eq_getElem_cons hlt
   have hm := List.getElem_mem hlt
   have hi := nodes_get (List.getElem?_eq_getElem hlt)
   generalize l[k] = x at hd2 hm hi
   rw [hd2] at hI2
   obtain ⟨s2, hs2⟩ : ∃ s2, (mStep s1).2 = s2 := ⟨_, rfl⟩
   obtain ⟨d1, rfl, hst⟩ := mList_step hs2 hI2
   have hxb : ndW x ≤ 1073741824 := by have := ndW_mem hm; omega
   refine Tr.skip <| tQ <| Tr.block <| tQ <| tG <| sm 2 rfl <| cV rfl (ok_index_seq rfl rfl rfl Tryz.underlying43 hi tS42 rfl (by rfl)) <| cV rfl (ok_load_ept_agg rfl rfl Tryz.underlying42 rfl tS42 (lb rfl)) <| cE rfl (ok_alloc (k := 108) rfl tZ42 rfl rfl rfl rfl) <| c0 (ok_store_box_agg rfl rfl rfl rfl rfl ((fun h => h)) tS42 (firmL_ok rfl) (lb rfl)) <| nL <| tQ ?_
   refine tQ <| Tr.freezeBox (t := 8) (k := 108) rfl rfl rfl <| Tr.heap (σ' := look [(106, some (.box [.pv (vInt 0), .pv (ints [])])), (1001, some (runBox u s1)), (1002, some (rowI (s1).out)), (510, some (rowI v1))]) (lkq [108, 106, 1001, 1002, 510] rfl rfl ⟨rfl, rfl, rfl, rfl, rfl, trivial⟩) <| tG <| sm 1 rfl <| cE rfl (ocr (sc_step u s1) ent64 rfl (po2 rfl rfl) rfl (fun k (h : _) => .inr h) rfl rfl) ?_
   rw [hs2]
   refine sm 1 rfl <| nL ?_
   refine tC rfl (fun hc25 => ?_) fun hc25 => ?_
   ·refine tQ <| tG <| cV rfl (ok_build_pure rfl rfl tZ79 tP79 rfl (firmB_ok rfl) rfl) <| WL.sub (Sub.cons2 (fun _ _ _ _ h => sub_pv end_nil h) Sub.rfl') <| c0 (ok_store_box_agg rfl rfl rfl rfl rfl ((fun h => h)) tS79 (firmL_ok rfl) (lb rfl)) <| nL <| Tr.ret ?_
    obtain rfl : r = ((0, []), v1, s2) := by
      rcases hst with ⟨_, e⟩ | ⟨e, _⟩
      ·exact e
      rw [e] at hc25; exact absurd hc25 (by decide)
    refine retC_ok (.inl rfl) (fun _ _ ho => ok_load_box_pure ho rfl rfl Tryz.underlying79 rfl tS79 (lb rfl) rfl trivial) rfl (po3 rfl rfl rfl)
   obtain ⟨hst1, a, r1, hof, hnode, hrest⟩ := hst.resolve_left (fun hh => by rw [hh.1] at hc25; exact absurd hc25 (by decide))
   have hl1 : (r1.2.1.map eInt).length = (v.map eInt).length := by
     have := mNode_len (fun _ _ _ _ h => (mLL_len u d1).1 _ _ _ _ h) (fun _ _ _ _ _ h => (mLL_len u d1).2 _ _ _ _ _ h) hnode
     rw [← hI3, List.length_map, List.length_map, this]
   refine Tr.heap (σ' := look [(106, some (.box [.pv (vInt 0), .pv (ints [])])), (1001, some (runBox u s2)), (1002, some (rowI (s2).out)), (510, some (rowI v1))]) (lkq [106, 1001, 1002, 510] rfl rfl ⟨rfl, rfl, rfl, rfl, trivial⟩) <| Tr.skip <| tQ <| tG <| sm 3 rfl <| cE rfl (ok_callr (sc_of v1 x.args a hof (by have := ndW_eq x; omega)) ent65 rfl rfl (Subs.same (congrArg (fun n => IV.sl 510 n) hI3.symm) (Subs.refl _ _)) (po1 rfl) (by rfl) (fun k (h : _) => (show False from h).elim) rfl (by rfl)) <| sm 1 rfl <| nL <| tQ <| tG <| cE rfl (ok_alloc (k := 110) rfl tZ79 rfl rfl rfl rfl) <| nL ?_
   refine tQ <| tQ <| Tr.subBox (k := 110) [.pv (vInt 0), .pv (ints [])] rfl ⟨ISub.refl _, ISub.pv PSub.nil, trivial⟩ (fun h => h) <| Tr.heap (σ' := look [(110, some (.box [.pv (vInt (((0, []) : Rend)).1), .pv (ints (((0, []) : Rend)).2)])), (106, some (.box [.pv (vInt 0), .pv (ints [])])), (1001, some (runBox u s2)), (1002, some (rowI (s2).out)), (510, some (rowI v1))]) (lkq [110, 106, 1001, 1002, 510] rfl rfl ⟨rfl, rfl, rfl, rfl, rfl, trivial⟩) <| tG <| sm 2 rfl <| nL ?_
   refine Tr.cutR (fr' := [(10, .ptr 110 0), (7, iInt k), (6, .ptr 106 0), (0, .ptr 1001 0), (1, .pv (nodes l)), (2, .sl 510 (v.map eInt).length)]) (σ' := look [(110, some (.box [.pv (vInt (r1.1).1), .pv (ints (r1.1).2)])), (106, some (.box [.pv (vInt 0), .pv (ints [])])), (1001, some (runBox u r1.2.2)), (1002, some (rowI (r1.2.2).out)), (510, some (rowI r1.2.1))]) ?_ ?_
   ·refine Tr.block <| tQ <| tQ <| tG <| sm 2 rfl <| nL ?_
    refine tC rfl (fun hc53 => ?_) fun hc53 => ?_
    ·refine Tr.skip ?_
     refine tC rfl (fun hd53 => ?_) fun hd53 => ?_
     ·have hk : (x.kind == 1 || x.kind == 2) = true := by first | (rw [hc53]; rfl) | (rw [hc53, Bool.or_true])
      obtain ⟨o, v2, ho, hv0, rfl⟩ := mNode_set hnode hk
      obtain ⟨hx0, hxl, hv2⟩ := setV_some hv0
      obtain ⟨z0, hxg⟩ := row_at hxl
      have hi2 := map_get (f := eInt) ho
      have hxl2 : o.toNat < (v.map eInt).length := by rw [← hI3]; exact hxl
      refine Tr.drawn mixed (fun k => k ∈ ([] : List Nat)) <| wR 1 [0, 1, 2, 3, 4, 5, 6, 7] (by kernel_rfl) (fun _ _ _ h => h.elim (fun g => pn g.1) (fun g => g.2)) <| smR 3 rfl <| rV rfl rfl (ok_index_seq rfl rfl rfl Tryz.underlying35 hi2 tS3 rfl (by rfl)) <| smR 3 rfl <| rV rfl rfl (ok_index_row rfl rfl rfl rfl hI3 Tryz.underlying35 tS3 hxl2 (by omega)) <| nR <| wO 8 (by kernel_rfl) <| wI rfl rfl nf (new_old rfl) (fun _ _ => ok_store_row rfl rfl rfl rfl hI3 (Nat.add_zero _).symm hxg (by simp) tS3 rfl (by simp)) <| WA.done (by kernel_rfl) <| Or.inl ?_
      refine ⟨rfl, Sub.of ⟨rfl, rfl, rfl, rfl, rfl, rfl, trivial⟩, funext (lkq [110, 106, 1001, 1002, 510] rfl rfl ⟨rfl, rfl, rfl, rfl, (by first | rfl | exact congrArg (fun z => some (HO.row _ z)) (by rw [hv2]; exact set_row _ _ _ _ hxg)), trivial⟩)⟩
     exact absurd (hc53.symm.trans hd53) (by decide)
    have hk1 := hc53
    refine tG <| sm 2 rfl <| nL ?_
    refine tC rfl (fun hc53 => ?_) fun hc53 => ?_
    ·have hk : (x.kind == 1 || x.kind == 2) = true := by first | (rw [hc53]; rfl) | (rw [hc53, Bool.or_true])
     obtain ⟨o, v2, ho, hv0, rfl⟩ := mNode_set hnode hk
     obtain ⟨hx0, hxl, hv2⟩ := setV_some hv0
     obtain ⟨z0, hxg⟩ := row_at hxl
     have hi2 := map_get (f := eInt) ho
     have hxl2 : o.toNat < (v.map eInt).length := by rw [← hI3]; exact hxl
     refine Tr.drawn mixed (fun k => k ∈ ([] : List Nat)) <| wR 1 [0, 1, 2, 3, 4, 5, 6, 7] (by kernel_rfl) (fun _ _ _ h => h.elim (fun g => pn g.1) (fun g => g.2)) <| smR 3 rfl <| rV rfl rfl (ok_index_seq rfl rfl rfl Tryz.underlying35 hi2 tS3 rfl (by rfl)) <| smR 3 rfl <| rV rfl rfl (ok_index_row rfl rfl rfl rfl hI3 Tryz.underlying35 tS3 hxl2 (by omega)) <| nR <| wO 8 (by kernel_rfl) <| wI rfl rfl nf (new_old rfl) (fun _ _ => ok_store_row rfl rfl rfl rfl hI3 (Nat.add_zero _).symm hxg (by simp) tS3 rfl (by simp)) <| WA.done (by kernel_rfl) <| Or.inl ?_
     refine ⟨rfl, Sub.of ⟨rfl, rfl, rfl, rfl, rfl, rfl, trivial⟩, funext (lkq [110, 106, 1001, 1002, 510] rfl rfl ⟨rfl, rfl, rfl, rfl, (by first | rfl | exact congrArg (fun z => some (HO.row _ z)) (by rw [hv2]; exact set_row _ _ _ _ hxg)), trivial⟩)⟩
    refine tQ <| tQ ?_
    have hk12 : (x.kind == 1 || x.kind == 2) = false := by rw [hk1, hc53]; rfl
    refine tG <| sm 2 rfl <| nL ?_
    refine tC rfl (fun hc64 => ?_) fun hc64 => ?_
    ·refine Tr.skip ?_
     refine tC rfl (fun hd64 => ?_) fun hd64 => ?_
     ·refine tQ ?_
      have hke : (x.kind == 12 || x.kind == 13 || x.kind == 14 || x.kind == 15) = true := by simp only [hc64, Bool.or_true, Bool.true_or]
      obtain rfl := mNode_end hnode hke
      have hne : (x.kind != 0) = true := by rw [eq_of_beq hc64]; rfl
      simp only [hne, Bool.or_true, if_true] at hrest
      cases hrest
      refine tG <| sm 3 rfl <| cV rfl (ok_build_pure rfl rfl tZ79 tP79 rfl (firmB_ok rfl) rfl) <| c0 (ok_store_box_agg rfl rfl rfl rfl rfl ((fun h => h)) tS79 (firmL_ok rfl) (lb rfl)) <| nL <| Tr.ret ?_
      refine Or.inr ⟨Exit.noConfusion, ?_⟩
      refine retC_ok (.inl rfl) (fun _ _ ho => ok_load_box_pure ho rfl rfl Tryz.underlying79 rfl tS79 (lb rfl) rfl trivial) rfl (po3 rfl rfl rfl)
     exact absurd (hc64.symm.trans hd64) (by decide)
    refine tQ ?_
    have hk3 := hc64
    refine tG <| sm 2 rfl <| nL ?_
    refine tC rfl (fun hc64 => ?_) fun hc64 => ?_
    ·refine Tr.skip ?_
     refine tC rfl (fun hd64 => ?_) fun hd64 => ?_
     ·refine tQ ?_
      have hke : (x.kind == 12 || x.kind == 13 || x.kind == 14 || x.kind == 15) = true := by simp only [hc64, Bool.or_true, Bool.true_or]
      obtain rfl := mNode_end hnode hke
      have hne : (x.kind != 0) = true := by rw [eq_of_beq hc64]; rfl
      simp only [hne, Bool.or_true, if_true] at hrest
      cases hrest
      refine tG <| sm 3 rfl <| cV rfl (ok_build_pure rfl rfl tZ79 tP79 rfl (firmB_ok rfl) rfl) <| c0 (ok_store_box_agg rfl rfl rfl rfl rfl ((fun h => h)) tS79 (firmL_ok rfl) (lb rfl)) <| nL <| Tr.ret ?_
      refine Or.inr ⟨Exit.noConfusion, ?_⟩
      refine retC_ok (.inl rfl) (fun _ _ ho => ok_load_box_pure ho rfl rfl Tryz.underlying79 rfl tS79 (lb rfl) rfl trivial) rfl (po3 rfl rfl rfl)
     exact absurd (hc64.symm.trans hd64) (by decide)
    refine tQ ?_
    have hk4 := hc64
    refine tG <| sm 2 rfl <| nL ?_
    refine tC rfl (fun hc64 => ?_) fun hc64 => ?_
    ·refine Tr.skip ?_
     refine tC rfl (fun hd64 => ?_) fun hd64 => ?_
     ·refine tQ ?_
      have hke : (x.kind == 12 || x.kind == 13 || x.kind == 14 || x.kind == 15) = true := by simp only [hc64, Bool.or_true, Bool.true_or]
      obtain rfl := mNode_end hnode hke
      have hne : (x.kind != 0) = true := by rw [eq_of_beq hc64]; rfl
      simp only [hne, Bool.or_true, if_true] at hrest
      cases hrest
      refine tG <| sm 3 rfl <| cV rfl (ok_build_pure rfl rfl tZ79 tP79 rfl (firmB_ok rfl) rfl) <| c0 (ok_store_box_agg rfl rfl rfl rfl rfl ((fun h => h)) tS79 (firmL_ok rfl) (lb rfl)) <| nL <| Tr.ret ?_
      refine Or.inr ⟨Exit.noConfusion, ?_⟩
      refine retC_ok (.inl rfl) (fun _ _ ho => ok_load_box_pure ho rfl rfl Tryz.underlying79 rfl tS79 (lb rfl) rfl trivial) rfl (po3 rfl rfl rfl)
     exact absurd (hc64.symm.trans hd64) (by decide)
    have hk5 := hc64
    refine tG <| sm 2 rfl <| nL ?_
    refine tC rfl (fun hc64 => ?_) fun hc64 => ?_
    ·refine tQ ?_
     have hke : (x.kind == 12 || x.kind == 13 || x.kind == 14 || x.kind == 15) = true := by simp only [hc64, Bool.or_true, Bool.true_or]
     obtain rfl := mNode_end hnode hke
     have hne : (x.kind != 0) = true := by rw [eq_of_beq hc64]; rfl
     simp only [hne, Bool.or_true, if_true] at hrest
     cases hrest
     refine tG <| sm 3 rfl <| cV rfl (ok_build_pure rfl rfl tZ79 tP79 rfl (firmB_ok rfl) rfl) <| c0 (ok_store_box_agg rfl rfl rfl rfl rfl ((fun h => h)) tS79 (firmL_ok rfl) (lb rfl)) <| nL <| Tr.ret ?_
     refine Or.inr ⟨Exit.noConfusion, ?_⟩
     refine retC_ok (.inl rfl) (fun _ _ ho => ok_load_box_pure ho rfl rfl Tryz.underlying79 rfl tS79 (lb rfl) rfl trivial) rfl (po3 rfl rfl rfl)
    refine tQ ?_
    have hke : (x.kind == 12 || x.kind == 13 || x.kind == 14 || x.kind == 15) = false := by rw [hk3, hk4, hk5, hc64]; rfl
    refine tG <| sm 2 rfl <| nL ?_
    refine tC rfl (fun hc73 => ?_) fun hc73 => ?_
    ·refine tQ ?_
     obtain ⟨a0, q, r2, ha0, hq, hlist, hcont⟩ := mNode_if hnode hc73
     have hi0 := map_get (f := eInt) ha0
     have hl2 : (r2.2.1.map eInt).length = (v.map eInt).length := by rw [← hI3]; simp [mList_len hlist]
     refine tG <| sm 1 rfl <| nL <| tQ <| tQ <| tG <| sm 1 rfl <| cV rfl (ok_index_seq rfl rfl rfl Tryz.underlying35 hi0 tS3 rfl (by rfl)) <| sm 2 rfl <| nL ?_
     refine tC rfl (fun hc78 => ?_) fun hc78 => ?_
     ·rw [if_pos hc78] at hq
      have hi1 := map_get (f := eKid) hq
      have hqb : lsW q ≤ 1073741824 := by have := kdW_mem (List.mem_of_getElem? hq); have := ndW_eq x; omega
      refine tG <| sm 1 rfl <| nL <| tQ <| tG <| sm 4 rfl <| cV rfl (ok_index_seq rfl rfl rfl Tryz.underlying40 hi1 tS43 rfl (by rfl)) <| sm 2 rfl <| cE rfl (ok_callr (ihL d1 (by omega) q v1 s2 r2 hlist hqb) ent45 rfl rfl (Subs.same rfl (Subs.same rfl (Subs.same (congrArg (fun n => IV.sl 510 n) hI3.symm) Subs.nil))) (po3 rfl rfl rfl) (by rfl) (fun k (h : _) => .inr h) rfl (by rfl)) <| c0 (ok_store_box_agg rfl rfl rfl rfl rfl ((fun h => h)) tS79 (firmL_ok rfl) (lb rfl)) <| nL <| tQ ?_
      refine tG <| sm 1 rfl <| cE rfl (ocr (sc_over u r2.2.2) ent31 rfl (po2 rfl rfl) rfl (fun k (h : _) => .inr trivial) rfl rfl) <| sm 2 rfl ?_
      refine wS 90 rfl (fun hb90 => ?_) fun hb90 => ?_
      ·refine sm 4 rfl <| nL ?_
       refine tC rfl (fun hc94 => ?_) fun hc94 => ?_
       ·have hcd : (!mOver r2.2.2 && r2.1.1 == 12) = true := by rw [hb90, hc94]; rfl
        rw [if_pos hcd, Option.map_eq_some_iff] at hcont
        obtain ⟨v3, hset, rfl⟩ := hcont
        refine tQ <| tG <| sm 5 rfl <| cE rfl (ok_callr (sc_set r2.2.1 x.outs r2.1.2 v3 hset) ent66 rfl rfl (Subs.same (congrArg (fun n => IV.sl 510 n) hl2.symm) (Subs.refl _ _)) (po1 rfl) (by rfl) (fun k (h : _) => .inr h) rfl (by rfl)) <| nL <| tG <| cV rfl (ok_build_pure rfl rfl tZ79 tP79 rfl (firmB_ok rfl) rfl) <| WL.sub (Sub.cons2 (fun _ _ _ _ h => sub_pv end_nil h) Sub.rfl') <| c0 (ok_store_box_agg rfl rfl rfl rfl rfl ((fun h => h)) tS79 (firmL_ok rfl) (lb rfl)) <| nL <| Or.inl ?_
        refine ⟨rfl, Sub.of ⟨rfl, rfl, rfl, rfl, rfl, rfl, trivial⟩, funext (lkq [110, 106, 1001, 1002, 510] rfl rfl ⟨rfl, rfl, rfl, rfl, (by first | rfl | exact congrArg (fun z => some (HO.row _ z)) (by rw [hv2]; exact set_row _ _ _ _ hxg)), trivial⟩)⟩
       have hcd : (!mOver r2.2.2 && r2.1.1 == 12) = false := by first | (rw [hb90, hc94]; rfl) | (rw [hb90]; rfl)
       rw [if_neg (by rw [hcd]; decide)] at hcont
       cases hcont
       refine Tr.skip <| Or.inl ?_
       refine ⟨rfl, Sub.of ⟨rfl, rfl, rfl, rfl, rfl, rfl, trivial⟩, funext (lkq [110, 106, 1001, 1002, 510] rfl rfl ⟨rfl, rfl, rfl, rfl, (by first | rfl | exact congrArg (fun z => some (HO.row _ z)) (by rw [hv2]; exact set_row _ _ _ _ hxg)), trivial⟩)⟩
      refine sm 4 rfl <| nL <| Tr.condF rfl ?_
      have hcd : (!mOver r2.2.2 && r2.1.1 == 12) = false := by first | (rw [hb90, hc94]; rfl) | (rw [hb90]; rfl)
      rw [if_neg (by rw [hcd]; decide)] at hcont
      cases hcont
      refine Tr.skip <| Or.inl ?_
      refine ⟨rfl, Sub.of ⟨rfl, rfl, rfl, rfl, rfl, rfl, trivial⟩, funext (lkq [110, 106, 1001, 1002, 510] rfl rfl ⟨rfl, rfl, rfl, rfl, (by first | rfl | exact congrArg (fun z => some (HO.row _ z)) (by rw [hv2]; exact set_row _ _ _ _ hxg)), trivial⟩)⟩
     rw [if_neg (by rw [hc78]; decide)] at hq
     have hi1 := map_get (f := eKid) hq
     have hqb : lsW q ≤ 1073741824 := by have := kdW_mem (List.mem_of_getElem? hq); have := ndW_eq x; omega
     refine Tr.skip <| tQ <| tG <| sm 4 rfl <| cV rfl (ok_index_seq rfl rfl rfl Tryz.underlying40 hi1 tS43 rfl (by rfl)) <| sm 2 rfl <| cE rfl (ok_callr (ihL d1 (by omega) q v1 s2 r2 hlist hqb) ent45 rfl rfl (Subs.same rfl (Subs.same rfl (Subs.same (congrArg (fun n => IV.sl 510 n) hI3.symm) Subs.nil))) (po3 rfl rfl rfl) (by rfl) (fun k (h : _) => .inr h) rfl (by rfl)) <| c0 (ok_store_box_agg rfl rfl rfl rfl rfl ((fun h => h)) tS79 (firmL_ok rfl) (lb rfl)) <| nL <| tQ <| tG <| sm 1 rfl ?_
     refine cE rfl (ocr (sc_over u r2.2.2) ent31 rfl (po2 rfl rfl) rfl (fun k (h : _) => .inr trivial) rfl rfl) <| sm 2 rfl ?_
     refine wS 90 rfl (fun hb90 => ?_) fun hb90 => ?_
     ·refine sm 4 rfl <| nL ?_
      refine tC rfl (fun hc94 => ?_) fun hc94 => ?_
      ·have hcd : (!mOver r2.2.2 && r2.1.1 == 12) = true := by rw [hb90, hc94]; rfl
       rw [if_pos hcd, Option.map_eq_some_iff] at hcont
       obtain ⟨v3, hset, rfl⟩ := hcont
       refine tQ <| tG <| sm 5 rfl <| cE rfl (ok_callr (sc_set r2.2.1 x.outs r2.1.2 v3 hset) ent66 rfl rfl (Subs.same (congrArg (fun n => IV.sl 510 n) hl2.symm) (Subs.refl _ _)) (po1 rfl) (by rfl) (fun k (h : _) => .inr h) rfl (by rfl)) <| nL <| tG <| cV rfl (ok_build_pure rfl rfl tZ79 tP79 rfl (firmB_ok rfl) rfl) <| WL.sub (Sub.cons2 (fun _ _ _ _ h => sub_pv end_nil h) Sub.rfl') <| c0 (ok_store_box_agg rfl rfl rfl rfl rfl ((fun h => h)) tS79 (firmL_ok rfl) (lb rfl)) <| nL <| Or.inl ?_
       refine ⟨rfl, Sub.of ⟨rfl, rfl, rfl, rfl, rfl, rfl, trivial⟩, funext (lkq [110, 106, 1001, 1002, 510] rfl rfl ⟨rfl, rfl, rfl, rfl, (by first | rfl | exact congrArg (fun z => some (HO.row _ z)) (by rw [hv2]; exact set_row _ _ _ _ hxg)), trivial⟩)⟩
      have hcd : (!mOver r2.2.2 && r2.1.1 == 12) = false := by first | (rw [hb90, hc94]; rfl) | (rw [hb90]; rfl)
      rw [if_neg (by rw [hcd]; decide)] at hcont
      cases hcont
      refine Tr.skip <| Or.inl ?_
      refine ⟨rfl, Sub.of ⟨rfl, rfl, rfl, rfl, rfl, rfl, trivial⟩, funext (lkq [110, 106, 1001, 1002, 510] rfl rfl ⟨rfl, rfl, rfl, rfl, (by first | rfl | exact congrArg (fun z => some (HO.row _ z)) (by rw [hv2]; exact set_row _ _ _ _ hxg)), trivial⟩)⟩
     refine sm 4 rfl <| nL <| Tr.condF rfl ?_
     have hcd : (!mOver r2.2.2 && r2.1.1 == 12) = false := by first | (rw [hb90, hc94]; rfl) | (rw [hb90]; rfl)
     rw [if_neg (by rw [hcd]; decide)] at hcont
     cases hcont
     refine Tr.skip <| Or.inl ?_
     refine ⟨rfl, Sub.of ⟨rfl, rfl, rfl, rfl, rfl, rfl, trivial⟩, funext (lkq [110, 106, 1001, 1002, 510] rfl rfl ⟨rfl, rfl, rfl, rfl, (by first | rfl | exact congrArg (fun z => some (HO.row _ z)) (by rw [hv2]; exact set_row _ _ _ _ hxg)), trivial⟩)⟩
    refine tQ ?_
    have hk10 := hc73
    refine tG <| sm 2 rfl <| nL ?_
    refine tC rfl (fun hc102 => ?_) fun hc102 => ?_
    ·have hlp := mNode_loop hnode hc102
     refine tG <| sm 1 rfl <| cV rfl (ok_load_ept_agg rfl rfl Tryz.underlying42 rfl tS42 (lb rfl)) <| sm 2 rfl <| cE rfl (ok_callr (sc_loop u D ihL d1 (by omega) x hxb v1 a s2 r1 hlp) ent67 rfl rfl (Subs.same rfl (Subs.same rfl (Subs.same (congrArg (fun n => IV.sl 510 n) hI3.symm) (Subs.refl _ _)))) (po3 rfl rfl rfl) (by rfl) (fun k (h : _) => .inr h) rfl (by rfl)) <| c0 (ok_store_box_agg rfl rfl rfl rfl rfl ((fun h => h)) tS79 (firmL_ok rfl) (lb rfl)) <| nL <| Or.inl ?_
     refine ⟨rfl, Sub.of ⟨rfl, rfl, rfl, rfl, rfl, rfl, trivial⟩, funext (lkq [110, 106, 1001, 1002, 510] rfl rfl ⟨rfl, rfl, rfl, rfl, (by first | rfl | exact congrArg (fun z => some (HO.row _ z)) (by rw [hv2]; exact set_row _ _ _ _ hxg)), trivial⟩)⟩
    refine tQ ?_
    obtain ⟨q1, hsum, hcont⟩ := mNode_sum hnode hk12 hke hk10 hc102
    refine tG <| sm 1 rfl <| cV rfl (ok_load_ept_agg rfl rfl Tryz.underlying42 rfl tS42 (lb rfl)) <| sm 1 rfl <| cE rfl (ocr (sc_sum u hu D ihC d1 (by omega) x a s2 q1 hsum) ent68 rfl (po2 rfl rfl) rfl (fun k (h : _) => .inr h) rfl rfl) <| sm 1 rfl <| nL <| tQ <| tG <| sm 1 rfl <| cE rfl (ocr (sc_over u q1.2) ent31 rfl (po2 rfl rfl) rfl (fun k (h : _) => .inr trivial) rfl rfl) <| sm 2 rfl ?_
    refine wS 40 rfl (fun hb40 => ?_) fun hb40 => ?_
    ·refine sm 2 rfl <| yV rfl rfl (oSm Tryz.underlying35 rfl) <| sm 2 rfl <| nL ?_
     refine tC rfl (fun hc45 => ?_) fun hc45 => ?_
     ·have h0 : 0 < x.outs.length := by simpa using hc45
      rw [if_pos (by rw [hb40, decide_eq_true h0]; rfl)] at hcont
      simp only [Option.bind_eq_some_iff, Option.map_eq_some_iff] at hcont
      obtain ⟨o, ho, v2, hv0, rfl⟩ := hcont
      obtain ⟨hx0, hxl, hv2⟩ := setV_some hv0
      obtain ⟨z0, hxg⟩ := row_at hxl
      have hi2 := map_get (f := eInt) ho
      have hxl2 : o.toNat < (v.map eInt).length := by rw [← hI3]; exact hxl
      refine tG <| sm 3 rfl <| cV rfl (ok_index_seq rfl rfl rfl Tryz.underlying35 hi2 tS3 rfl (by rfl)) <| sm 2 rfl <| cV rfl (ok_index_row rfl rfl rfl rfl hI3 Tryz.underlying35 tS3 hxl2 (by omega)) <| c0 (ok_store_row rfl rfl rfl rfl hI3 (Nat.add_zero _).symm hxg (by simp) tS3 rfl (by simp)) <| nL <| Or.inl ?_
      refine ⟨rfl, Sub.of ⟨rfl, rfl, rfl, rfl, rfl, rfl, trivial⟩, funext (lkq [110, 106, 1001, 1002, 510] rfl rfl ⟨rfl, rfl, rfl, rfl, (by first | rfl | exact congrArg (fun z => some (HO.row _ z)) (by rw [hv2]; exact set_row _ _ _ _ hxg)), trivial⟩)⟩
     have hcd : (!mOver q1.2 && decide (0 < x.outs.length)) = false := by first | (rw [hb40]; rfl) | (rw [hb40]; simpa using hc45)
     rw [if_neg (by rw [hcd]; decide)] at hcont
     cases hcont
     refine Tr.skip <| Or.inl ?_
     refine ⟨rfl, Sub.of ⟨rfl, rfl, rfl, rfl, rfl, rfl, trivial⟩, funext (lkq [110, 106, 1001, 1002, 510] rfl rfl ⟨rfl, rfl, rfl, rfl, (by first | rfl | exact congrArg (fun z => some (HO.row _ z)) (by rw [hv2]; exact set_row _ _ _ _ hxg)), trivial⟩)⟩
    refine sm 5 rfl <| nL <| Tr.condF rfl ?_
    have hcd : (!mOver q1.2 && decide (0 < x.outs.length)) = false := by first | (rw [hb40]; rfl) | (rw [hb40]; simpa using hc45)
    rw [if_neg (by rw [hcd]; decide)] at hcont
    cases hcont
    refine Tr.skip <| Or.inl ?_
    refine ⟨rfl, Sub.of ⟨rfl, rfl, rfl, rfl, rfl, rfl, trivial⟩, funext (lkq [110, 106, 1001, 1002, 510] rfl rfl ⟨rfl, rfl, rfl, rfl, (by first | rfl | exact congrArg (fun z => some (HO.row _ z)) (by rw [hv2]; exact set_row _ _ _ _ hxg)), trivial⟩)⟩
   refine tQ <| tG <| sm 1 rfl <| cE rfl (ocr (sc_over u r1.2.2) ent31 rfl (po2 rfl rfl) rfl (fun k (h : _) => .inr trivial) rfl rfl) <| sm 1 rfl ?_
   refine wS 111 rfl (fun hb111 => ?_) fun hb111 => ?_
   ·refine sm 4 rfl <| nL <| Tr.condT rfl ?_
    have hov : (mOver r1.2.2 || r1.1.1 != 0) = true := by first | (rw [hb111]; rfl) | (rw [hc115, Bool.or_true])
    rw [if_pos hov] at hrest
    obtain rfl : r1 = r := by injection hrest
    refine tQ <| tG <| cV rfl (ok_load_box_pure rfl rfl rfl Tryz.underlying79 rfl tS79 (lb rfl) rfl trivial) <| c0 (ok_store_box_agg rfl rfl rfl rfl rfl ((fun h => h)) tS79 (firmL_ok rfl) (lb rfl)) <| nL <| Tr.ret <| retC_ok (.inl rfl) (fun _ _ ho => ok_load_box_pure ho rfl rfl Tryz.underlying79 rfl tS79 (lb rfl) rfl trivial) rfl (po3 rfl rfl rfl)
   refine sm 4 rfl <| nL ?_
   refine tC rfl (fun hc115 => ?_) fun hc115 => ?_
   ·have hov : (mOver r1.2.2 || r1.1.1 != 0) = true := by first | (rw [hb111]; rfl) | (rw [hc115, Bool.or_true])
    rw [if_pos hov] at hrest
    obtain rfl : r1 = r := by injection hrest
    refine tQ <| tG <| cV rfl (ok_load_box_pure rfl rfl rfl Tryz.underlying79 rfl tS79 (lb rfl) rfl trivial) <| c0 (ok_store_box_agg rfl rfl rfl rfl rfl ((fun h => h)) tS79 (firmL_ok rfl) (lb rfl)) <| nL <| Tr.ret <| retC_ok (.inl rfl) (fun _ _ ho => ok_load_box_pure ho rfl rfl Tryz.underlying79 rfl tS79 (lb rfl) rfl trivial) rfl (po3 rfl rfl rfl)
   rw [if_neg (by rw [hb111, hc115]; decide)] at hrest
   refine Tr.skip <| Tr.drop (k := 110) <| tG <| sm 1 rfl <| cV rfl (oB rfl rfl (i64_add rfl (by omega))) <| sm 1 rfl <| nL ?_
   refine ⟨_, _, ?_, Sub.of (fr' := [(7, iInt (k + 1)), (6, .ptr 106 0), (0, .ptr 1001 0), (1, .pv (nodes l)), (2, .sl 510 (v.map eInt).length)]) ⟨rfl, rfl, rfl, rfl, rfl, trivial⟩, (k + 1), d1, r1.2.1, r1.2.2, ?_, ?_, ?_, ?_, rfl, (funext (lkq [110, 106, 1001, 1002, 510] rfl rfl ⟨rfl, rfl, rfl, rfl, rfl, trivial⟩)), rfl⟩
   ·omega
   ·omega
   ·omega
   ·exact hrest
   exact hl1
  refine Tr.exit <| tQ ?_
  have hge : l.length ≤ k := by simpa using hc16
  rw [List.drop_eq_nil_of_le hge] at hI2
  obtain rfl := mList_nil hI2
  refine tG <| cV rfl (ok_build_pure rfl rfl tZ79 tP79 rfl (firmB_ok rfl) rfl) <| WL.sub (Sub.cons2 (fun _ _ _ _ h => sub_pv end_nil h) Sub.rfl') <| c0 (ok_store_box_agg rfl rfl rfl rfl rfl ((fun h => h)) tS79 (firmL_ok rfl) (lb rfl)) <| nL <| Tr.ret <| retC_ok (.inl rfl) (fun _ _ ho => ok_load_box_pure ho rfl rfl Tryz.underlying79 rfl tS79 (lb rfl) rfl trivial) rfl (po3 rfl rfl rfl)
theorem copy_step {a : List Int} {i n : Nat} {x : Int} (hx : a[i]? = some x) (hn : a.length ≤ n) : (a.take i ++ List.replicate (n - i) 0).set i x = a.take (i + 1) ++ List.replicate (n - (i + 1)) 0 := by
  have hi : i < a.length := (List.getElem?_eq_some_iff.1 hx).1
  have hl : (a.take i).length = i := by rw [List.length_take]; omega
  rw [List.set_append_right _ _ (by omega), hl, Nat.sub_self, show n - i = (n - (i + 1)) + 1 by omega, List.replicate_succ, List.set_cons_zero, List.take_add_one, hx]
  simp
theorem sc_call0 (u : Un) (hub : ∀ f ∈ u.flows, lsW f.body ≤ 1073741824) (D : Nat) (ihL : SCL u D) (d : Nat) (hd : d ≤ D) (k : Int) (a : List Int) (s : Rs) (r : Int × Rs) (h : mCall u d k a s = some r) : SC Tryz.prog 29 [.ptr 1001 0, iInt k, .pv (ints a)] (runH u s) (fun _ => False) (iInt r.1) (runH u r.2) := by
  refine SC.of Tryz.func29 rfl (lb rfl) fun F ρ w => ?_
  refine Tr.lenOf (t := 2) rfl (fun hl => ?_)
  simp only [List.length_map] at hl
  obtain ⟨d1, f, r1, rfl, hk0, hf, hal, hfl, hlist, rfl⟩ := mCall_step h
  have hif := map_get (f := Fl.enc) hf
  have hfb := hub f (List.mem_of_getElem? hf)
  refine tQ <| tG <| sm 1 rfl <| nL <| tQ <| tG <| sm 1 rfl <| cV rfl (ok_nilCheck rfl rfl rfl) <| sm 4 rfl <| cV rfl (ok_index_seq rfl rfl rfl Tryz.underlying23 hif tS51 rfl (by omega)) <| cV rfl (ok_load_ept_agg rfl rfl Tryz.underlying51 rfl tS51 (lb rfl)) <| cE rfl (ok_alloc (k := 107) rfl tZ51 rfl rfl rfl rfl) ?_
  refine c0 (ok_store_box_agg rfl rfl rfl rfl rfl ((fun h => h)) tS51 (firmL_ok rfl) (lb rfl)) <| nL <| tQ <| Tr.freezeBox (t := 7) (k := 107) rfl rfl rfl <| tG <| sm 2 rfl <| cV rfl (oSm Tryz.underlying35 rfl) <| cE rfl (ok_makeSlice (k := 510) (s := ⟨3, 1⟩) rfl rfl rfl Tryz.underlying35 tZ3 tC3 rfl (by decide) (by omega) (by omega) rfl rfl rfl rfl) <| sm 1 rfl <| nL <| tQ <| tQ ?_
  refine tG <| sm 1 rfl <| nL <| Tr.block <| Tr.sub (Sub.of (fr' := [(9, iInt 0), (8, .sl 510 f.types.length), (7, .pv (.ept [vStr f.name, vInt f.ty, vInt f.params, ints f.types, nodes f.body] 0)), (0, .ptr 1001 0), (2, .pv (ints a))]) ⟨rfl, rfl, rfl, rfl, rfl, trivial⟩) <| Tr.heap (σ' := look [(1001, some (runBox u s)), (1002, some (rowI (s).out)), (510, some (rowI (a.take 0 ++ List.replicate (f.types.length - 0) 0)))]) (lkq [107, 1001, 1002, 510] rfl rfl ⟨rfl, rfl, rfl, (by exact congrArg (fun z => some (HO.row _ z)) (by rw [List.take_zero, List.nil_append, Nat.sub_zero, List.map_replicate]; rfl)), trivial⟩) ?_
  refine Tr.loop (fun fr σ m => ∃ (i : Nat), (i ≤ a.length) ∧ fr = [(9, iInt i), (8, .sl 510 f.types.length), (7, .pv (.ept [vStr f.name, vInt f.ty, vInt f.params, ints f.types, nodes f.body] 0)), (0, .ptr 1001 0), (2, .pv (ints a))] ∧ σ = look [(1001, some (runBox u s)), (1002, some (rowI (s).out)), (510, some (rowI (a.take i ++ List.replicate (f.types.length - i) 0)))] ∧ m = a.length - i) (n := a.length - 0) ?_ ?_
  ·exact ⟨0, Nat.zero_le _, rfl, rfl, rfl⟩
  rintro fr σ m ⟨i, hI0, rfl, rfl, rfl⟩
  refine tQ <| tQ <| tG <| sm 2 rfl <| cV rfl (oSm Tryz.underlying35 rfl) <| sm 1 rfl <| nL ?_
  refine tC rfl (fun hc26 => ?_) fun hc26 => ?_
  ·have hlt : i < a.length := by simpa using hc26
   have hil : i < f.types.length := by omega
   obtain ⟨x, hx⟩ : ∃ x, a[i]? = some x := ⟨_, List.getElem?_eq_getElem hlt⟩
   have hi := map_get (f := eInt) hx
   have hvl : ((a.take i ++ List.replicate (f.types.length - i) 0).map eInt).length = f.types.length := by simp; omega
   obtain ⟨z0, hxg⟩ := row_at (v := (a.take i ++ List.replicate (f.types.length - i) 0)) (i := i) (by rw [hvl]; omega)
   refine Tr.skip <| tQ <| Tr.block <| tG <| sm 4 rfl <| cV rfl (ok_index_seq rfl rfl rfl Tryz.underlying35 hi tS3 rfl (by rfl)) <| sm 1 rfl <| cV rfl (ok_index_row rfl rfl rfl rfl hvl Tryz.underlying35 tS3 hil rfl) <| c0 (ok_store_row rfl rfl rfl rfl hvl (Nat.add_zero _).symm hxg (by simp) tS3 rfl (by simp)) <| nL <| tG <| sm 1 rfl ?_
   refine cV rfl (oB rfl rfl (i64_add rfl (by omega))) <| sm 1 rfl <| nL ?_
   refine ⟨_, _, ?_, Sub.of (fr' := [(9, iInt (i + 1)), (8, .sl 510 f.types.length), (7, .pv (.ept [vStr f.name, vInt f.ty, vInt f.params, ints f.types, nodes f.body] 0)), (0, .ptr 1001 0), (2, .pv (ints a))]) ⟨rfl, rfl, rfl, rfl, rfl, trivial⟩, (i + 1), ?_, rfl, (funext (lkq [1001, 1002, 510] rfl rfl ⟨rfl, rfl, (congrArg (fun z => some (HO.row _ z)) ((set_row _ _ _ _ hxg).trans (congrArg (List.map eInt) (copy_step hx hal)))), trivial⟩)), rfl⟩
   ·omega
   omega
  refine Tr.exit <| tQ ?_
  have he : (a.take i ++ List.replicate (f.types.length - i) 0) = a ++ List.replicate (f.types.length - a.length) 0 := by
    have hge : a.length ≤ i := by simpa using hc26
    obtain rfl : i = a.length := by omega
    rw [List.take_length]
  rw [he]
  have hvl2 : ((a ++ List.replicate (f.types.length - a.length) 0).map eInt).length = f.types.length := by simp; omega
  refine tG <| sm 4 rfl <| cE rfl (ok_callr (ihL d1 (by omega) f.body (a ++ List.replicate (f.types.length - a.length) 0) s r1 hlist hfb) ent45 rfl rfl (Subs.same rfl (Subs.same rfl (Subs.same (congrArg (fun n => IV.sl 510 n) hvl2.symm) Subs.nil))) (po3 rfl rfl rfl) (by rfl) (fun k (h : _) => .inr h) rfl (by rfl)) <| cE rfl (ok_alloc (k := 110) rfl tZ79 rfl rfl rfl rfl) <| c0 (ok_store_box_agg rfl rfl rfl rfl rfl ((fun h => h)) tS79 (firmL_ok rfl) (lb rfl)) <| nL <| tQ <| tQ <| tG <| sm 1 rfl <| cE rfl (ocr (sc_over u r1.2.2) ent31 rfl (po2 rfl rfl) rfl (fun k (h : _) => .inr trivial) rfl rfl) <| sm 1 rfl ?_
  refine wS 43 rfl (fun hb43 => ?_) fun hb43 => ?_
  ·refine sm 5 rfl <| nL <| Tr.condT rfl <| tQ <| tG <| sm 1 rfl <| nL <| Tr.ret <| ret_ok rfl ?_ (po2 rfl rfl)
   (rw [if_pos hb43]; done)
  refine sm 2 rfl <| yV rfl rfl (oSm Tryz.underlying35 rfl) <| sm 2 rfl <| nL ?_
  refine tC rfl (fun hc48 => ?_) fun hc48 => ?_
  ·refine tQ <| tG <| sm 1 rfl <| nL <| Tr.ret <| ret_ok rfl ?_ (po2 rfl rfl)
   (have hz : r1.1.2 = [] := by simpa using hc48
    rw [hz]
    split <;> rfl)
  obtain ⟨x, q, hxq⟩ : ∃ x q, r1.1.2 = x :: q := by
    cases hz : r1.1.2 with
    | nil => rw [hz] at hc48; simp at hc48
    | cons x q => exact ⟨x, q, rfl⟩
  have hi0 : (r1.1.2.map eInt)[0]? = some (eInt x) := by rw [hxq]; rfl
  refine Tr.skip <| tQ <| tG <| sm 2 rfl <| cV rfl (ok_index_seq rfl rfl rfl Tryz.underlying35 hi0 tS3 rfl (by rfl)) <| sm 2 rfl <| nL <| Tr.ret <| ret_ok rfl ?_ (po2 rfl rfl)
  rw [if_neg (by rw [hb43]; decide), hxq]
  rfl
theorem sc_run_all (u : Un) (hu : u.arrays = []) (hub : ∀ f ∈ u.flows, lsW f.body ≤ 1073741824) : ∀ D, SCC u D ∧ SCL u D
  | 0 => ⟨fun _ h => absurd h (Nat.not_lt_zero _), fun _ h => absurd h (Nat.not_lt_zero _)⟩
  | D + 1 => ⟨fun d hd k a s r h => sc_call0 u hub D (sc_run_all u hu hub D).2 d (Nat.le_of_lt_succ hd) k a s r h,
      fun d hd l v s r h hb => sc_list0 u hu D (sc_run_all u hu hub D).1 (sc_run_all u hu hub D).2 d (Nat.le_of_lt_succ hd) l v s r h hb⟩
def run0 (ins : List Int) (fuel : Int) : Rs := { ins := ins, ar := [], st := 0, code := 0, out := [], cost := 0, fuel := if fuel < 0 then 0 else fuel, spent := false }
def mEnd (r : Int × Rs) : Rs := if mOver r.2 then r.2 else { r.2 with st := 1, code := r.1 }
def runv (s : Rs) : PV := .agg [vInt s.st, vInt s.code, ints s.out, vInt s.cost, vInt s.fuel]
theorem sc_run0 (u : Un) (hu : u.arrays = []) (hW : r8Weight u ≤ 536870912) (hz : (r8Check u).1 = 0) (ins : List Int) (fuel : Int) (d : Nat) (r : Int × Rs) (h : mCall u d (r8Place mainName u.flows 0) [] (run0 ins fuel) = some r) : SC Tryz.prog 17 [.pv u.enc, .pv (ints ins), iInt fuel] [] (fun _ => False) (.pv (runv (mEnd r))) [] := by
  refine SC.ofC Tryz.func17 rfl (lb rfl) rfl fun F ρ w => ?_
  have hub : ∀ f ∈ u.flows, lsW f.body ≤ 1073741824 := fun f hf => Nat.le_trans (flow_le hW hf) (by omega)
  have hcall := (sc_run_all u hu hub (d + 1)).1 d (Nat.lt_succ_self d) _ _ _ _ h
  refine tQ <| tG <| cE rfl (ok_box rfl rfl) <| cE rfl (ok_alloc (k := 106) rfl tZ46 rfl rfl rfl rfl) <| nL <| tQ <| tQ <| tG <| cV rfl (ok_load_ept_agg rfl rfl Tryz.underlying25 rfl tS25 (lb rfl)) <| cE rfl (ocq (sc_r8Check u hW) ent19 rfl rfl) <| sm 1 rfl <| cV rfl (ok_extract rfl rfl rfl) ?_
  refine cV rfl (ok_extract rfl rfl rfl) <| sm 2 rfl <| nL <| tQ <| tG <| sm 2 rfl <| nL ?_
  refine tC rfl (fun hc18 => ?_) fun hc18 => ?_
  ·exact absurd hc18 (by rw [hz]; decide)
  refine Tr.skip <| tQ <| tG <| cV rfl (ok_load_ept_agg rfl rfl Tryz.underlying25 rfl tS25 (lb rfl)) <| sm 2 rfl <| cV rfl (ok_max rfl rfl rfl) <| cV rfl (ok_build_pure rfl rfl tZ46 tP46 rfl (firmB_ok rfl) rfl) <| cV rfl (ok_build_pure rfl rfl tZ67 tP67 rfl (firmB_ok rfl) rfl) <| cE rfl (ok_boxOwnP (k := 1001) rfl rfl rfl rfl rfl rfl) <| sm 1 rfl <| nL <| tQ ?_
  refine tQ <| Tr.growCell (k := 1002) (k2 := 1001) (j := 6) ⟨3, 1⟩ rfl rfl rfl rfl rfl rfl <| tG <| sm 1 rfl <| nL <| Tr.block <| Tr.sub (Sub.of (fr' := [(10, iInt 0), (9, .ptr 1001 0), (6, .ptr 106 0), (3, .pv (.ept [arrs u.arrays, flws u.flows] 0))]) ⟨rfl, rfl, rfl, rfl, trivial⟩) <| Tr.heap (σ' := look [(106, some (.box [iInt 0, iInt 0, .pv (.val (.slice none 0 0)), iInt 0, iInt 0])), (1001, some (runBox u (run0 ins fuel))), (1002, some (rowI []))]) (lkq [106, 1001, 1002] rfl rfl ⟨rfl, rfl, rfl, trivial⟩) ?_
  refine Tr.loop (fun fr σ m => fr = [(10, iInt 0), (9, .ptr 1001 0), (6, .ptr 106 0), (3, .pv (.ept [arrs u.arrays, flws u.flows] 0))] ∧ σ = look [(106, some (.box [iInt 0, iInt 0, .pv (.val (.slice none 0 0)), iInt 0, iInt 0])), (1001, some (runBox u (run0 ins fuel))), (1002, some (rowI []))] ∧ m = 0) (n := 0) ?_ ?_
  ·exact ⟨rfl, rfl, rfl⟩
  rintro fr σ m ⟨rfl, rfl, rfl⟩
  refine tQ <| tQ <| tG <| sm 3 rfl <| cV rfl (oSm Tryz.underlying22 rfl) <| sm 1 rfl <| nL ?_
  refine tC rfl (fun hc31 => ?_) fun hc31 => ?_
  ·exact absurd hc31 (by rw [hu]; simp)
  refine Tr.exit <| tQ <| tG <| sm 1 rfl <| cV rfl (ok_load_ept_agg rfl rfl Tryz.underlying25 rfl tS25 (lb rfl)) <| cE rfl (ocq (sc_r8Place _ _) ent30 rfl rfl) <| cE rfl (ok_callr (hcall) ent29 rfl rfl (Subs.same rfl (Subs.same rfl (Subs.cons (fun _ _ _ _ h => sub_pv PSub.nil h) Subs.nil))) (po2 rfl rfl) (by rfl) (fun k (h : _) => .inr h) rfl (by rfl)) <| sm 1 rfl <| nL <| tQ <| tQ <| tG ?_
  refine sm 1 rfl <| cE rfl (ocr (sc_over u r.2) ent31 rfl (po2 rfl rfl) rfl (fun k (h : _) => .inr trivial) rfl rfl) <| sm 1 rfl <| nL ?_
  refine tC rfl (fun hc56 => ?_) fun hc56 => ?_
  ·have hend : mEnd r = { r.2 with st := 1, code := r.1 } := if_neg (by intro hh; rw [hh] at hc56; exact absurd hc56 (by decide))
   refine tG <| sm 3 rfl <| cV rfl (ok_nilCheck rfl rfl rfl) <| sm 2 rfl <| c0 (ok_store_box rfl rfl rfl rfl ((fun h => h)) tS3 (rfl) (lb rfl)) <| cV rfl (ok_nilCheck rfl rfl rfl) <| sm 2 rfl <| c0 (ok_store_box rfl rfl rfl rfl ((fun h => h)) tS3 (rfl) (lb rfl)) <| nL <| tQ <| Tr.freezeCell (k := 1002) (k2 := 1001) (j := 6) (n := (r.2.out.map eInt).length) rfl rfl rfl rfl (by decide) <| tG ?_
   refine sm 1 rfl <| cV rfl (ok_nilCheck rfl rfl rfl) <| sm 1 rfl <| cV rfl (ok_load_box_pure rfl rfl rfl Tryz.underlying46 rfl tS46 (lb rfl) rfl trivial) <| c0 (ok_store_box_agg rfl rfl rfl rfl rfl ((fun h => h)) tS46 (firmL_ok rfl) (lb rfl)) <| nL <| Tr.ret ?_
   rw [hend]
   refine retC_ok (.inl rfl) (fun _ _ ho => ok_load_box_pure ho rfl rfl Tryz.underlying46 rfl tS46 (lb rfl) rfl trivial) rfl no_post
  have hend : mEnd r = r.2 := if_pos (by simpa using hc56)
  refine Tr.skip <| tQ <| Tr.freezeCell (k := 1002) (k2 := 1001) (j := 6) (n := (r.2.out.map eInt).length) rfl rfl rfl rfl (by decide) <| tG <| sm 1 rfl <| cV rfl (ok_nilCheck rfl rfl rfl) <| sm 1 rfl <| cV rfl (ok_load_box_pure rfl rfl rfl Tryz.underlying46 rfl tS46 (lb rfl) rfl trivial) <| c0 (ok_store_box_agg rfl rfl rfl rfl rfl ((fun h => h)) tS46 (firmL_ok rfl) (lb rfl)) <| nL <| Tr.ret ?_
  rw [hend]
  refine retC_ok (.inl rfl) (fun _ _ ho => ok_load_box_pure ho rfl rfl Tryz.underlying46 rfl tS46 (lb rfl) rfl trivial) rfl no_post
mutual
def kdN : Nd → Bool
  | .mk kind _ _ _ _ _ _ ks => decide (1 ≤ kind) && kdK ks
def kdL : List Nd → Bool
  | [] => true
  | x :: r => kdN x && kdL r
def kdK : List (List Nd) → Bool
  | [] => true
  | l :: r => kdL l && kdK r
end
theorem kdN_eq (x : Nd) : kdN x = (decide (1 ≤ x.kind) && kdK x.kids) := by cases x; simp only [kdN]; rfl
theorem fineL_append : ∀ a b : List Nd, fineL (a ++ b) = (fineL a && fineL b)
  | [], b => by simp [fineL]
  | x :: a, b => by simp only [List.cons_append, fineL, fineL_append a b, Bool.and_assoc]
theorem kdL_append : ∀ a b : List Nd, kdL (a ++ b) = (kdL a && kdL b)
  | [], b => by simp [kdL]
  | x :: a, b => by simp only [List.cons_append, kdL, kdL_append a b, Bool.and_assoc]
theorem part_fine : ∀ (l : List Nd) (vs : List Int), fineL l = true → fineL (hPart vs l).1 = true ∧ fineL (hPart vs l).2 = true
  | [], _, _ => ⟨rfl, rfl⟩
  | x :: r, vs, h => by
    simp only [fineL, Bool.and_eq_true] at h
    unfold hPart
    split
    ·split
     ·have := part_fine r (vs ++ [x.outs.headD 0]) h.2
      exact ⟨this.1, by simp only [fineL, Bool.and_eq_true]; exact ⟨h.1, this.2⟩⟩
     have := part_fine r vs h.2
     exact ⟨by simp only [fineL, Bool.and_eq_true]; exact ⟨h.1, this.1⟩, this.2⟩
    exact ⟨rfl, by simp only [fineL, Bool.and_eq_true]; exact h⟩
theorem part_kd : ∀ (l : List Nd) (vs : List Int), kdL l = true → kdL (hPart vs l).1 = true ∧ kdL (hPart vs l).2 = true
  | [], _, _ => ⟨rfl, rfl⟩
  | x :: r, vs, h => by
    simp only [kdL, Bool.and_eq_true] at h
    unfold hPart
    split
    ·split
     ·have := part_kd r (vs ++ [x.outs.headD 0]) h.2
      exact ⟨this.1, by simp only [kdL, Bool.and_eq_true]; exact ⟨h.1, this.2⟩⟩
     have := part_kd r vs h.2
     exact ⟨by simp only [kdL, Bool.and_eq_true]; exact ⟨h.1, this.1⟩, this.2⟩
    exact ⟨rfl, by simp only [kdL, Bool.and_eq_true]; exact h⟩
theorem part_head : ∀ (l : List Nd) (vs : List Int) (y : Nd) (q : List Nd), (hPart vs l).2 = y :: q → hmless y = false ∨ (y.args.any fun v => vs.contains v) = true
  | [], _, _, _, h => by simp [hPart] at h
  | x :: r, vs, y, q, h => by
    unfold hPart at h
    split at h
    ·split at h
     ·rename_i h1 h2
      cases h
      exact .inr h2
     exact part_head r vs y q h
    rename_i h1
    cases h
    exact .inl (by simpa using h1)
theorem idle_hmless {y : Nd} (h : 1 ≤ y.kind) (hm : hmless y = false) : fIdle y = false := by
  simp only [hmless, Bool.or_eq_false_iff, beq_eq_false_iff_ne] at hm
  obtain ⟨⟨⟨h1, h2⟩, h3⟩, h4⟩ := hm
  simp only [fIdle, h4, Bool.or_false, decide_eq_false_iff_not]
  omega
theorem any_contains (l vs : List Int) : (l.any fun v => vs.contains v) = fAny l vs := by
  unfold fAny
  congr 1
  funext v
  exact List.contains_eq_any_beq
theorem out_fine (kind op n : Int) (name : ByteArray) (args outs params : List Int) (ks : List (List Nd)) (h0 : 1 ≤ kind) (hk : kdK ks = true) (hf : fineK ks = true) :
    kdL (hOut kind op n name args outs params ks) = true ∧ fineL (hOut kind op n name args outs params ks) = true := by
  have one : ∀ ks', kdK ks' = true → fineK ks' = true → fHead (.mk kind op n name args outs params ks') = false → kdL [.mk kind op n name args outs params ks'] = true ∧ fineL [.mk kind op n name args outs params ks'] = true := by
    intro ks' h1 h2 h3
    simp only [kdL, kdN, fineL, fineN, h1, h2, h3, Bool.and_true, Bool.not_false, decide_eq_true_eq]
    exact ⟨h0, trivial⟩
  unfold hOut
  split
  ·rename_i h11
   cases ks with
   | nil => exact one [] rfl rfl (by simp [fHead, Nd.kids])
   | cons b r =>
     simp only [kdK, fineK, Bool.and_eq_true] at hk hf
     have p1 := part_fine b params hf.1
     have p2 := part_kd b params hk.1
     have hh : fHead (.mk kind op n name args outs params ((hPart params b).2 :: r)) = false := by
       unfold fHead
       simp only [Nd.kids, Nd.params]
       split
       ·rename_i y q he
        cases he' : (hPart params b).2 with
        | nil => rw [he'] at he; simp at he
        | cons z w =>
          rw [he'] at he
          simp only [List.cons.injEq] at he
          obtain ⟨⟨rfl, _⟩, _⟩ := he
          have hkd := p2.2
          rw [he'] at hkd
          simp only [kdL, kdN_eq, Bool.and_eq_true, decide_eq_true_eq] at hkd
          rcases part_head b params _ _ he' with h1 | h1
          ·rw [idle_hmless hkd.1.1 h1]; simp
          rw [any_contains] at h1
          rw [h1]; simp
       simp
     have h1 := one ((hPart params b).2 :: r) (by simp only [kdK, Bool.and_eq_true]; exact ⟨p2.2, hk.2⟩) (by simp only [fineK, Bool.and_eq_true]; exact ⟨p1.2, hf.2⟩) hh
     simp only [kdL_append, fineL_append, Bool.and_eq_true]
     exact ⟨⟨p2.1, h1.1⟩, ⟨p1.1, h1.2⟩⟩
  rename_i h11
  exact one ks hk hf (by simp [fHead, Nd.kind, h11])
mutual
theorem fineN_h : ∀ x : Nd, kdN x = true → kdL (hNode x) = true ∧ fineL (hNode x) = true
  | .mk kind op n name args outs params ks, h => by
    simp only [kdN, Bool.and_eq_true, decide_eq_true_eq] at h
    have := fineK_h ks h.2
    unfold hNode
    exact out_fine kind op n name args outs params _ h.1 this.1 this.2
theorem fineL_h : ∀ l : List Nd, kdL l = true → kdL (hList l) = true ∧ fineL (hList l) = true
  | [], _ => ⟨rfl, rfl⟩
  | x :: r, h => by
    simp only [kdL, Bool.and_eq_true] at h
    have h1 := fineN_h x h.1
    have h2 := fineL_h r h.2
    simp only [hList, kdL_append, fineL_append, Bool.and_eq_true]
    exact ⟨⟨h1.1, h2.1⟩, ⟨h1.2, h2.2⟩⟩
theorem fineK_h : ∀ ks : List (List Nd), kdK ks = true → kdK (hKids ks) = true ∧ fineK (hKids ks) = true
  | [], _ => ⟨rfl, rfl⟩
  | l :: r, h => by
    simp only [kdK, Bool.and_eq_true] at h
    have h1 := fineL_h l h.1
    have h2 := fineK_h r h.2
    simp only [hKids, kdK, fineK, Bool.and_eq_true]
    exact ⟨⟨h1.1, h2.1⟩, ⟨h1.2, h2.2⟩⟩
end
theorem sForm_kind {u : Un} {f : Fl} {x : Nd} {s : List Int} {w : Wh} {tys outs : List Int} (h : (sForm u f x s w).ok tys outs = true) : 1 ≤ x.kind := by
  rcases Int.lt_or_le x.kind 1 with hk | hk
  ·exfalso
   have e : ∀ n : Int, 1 ≤ n → (x.kind == n) = false := fun n hn => by simp only [beq_eq_false_iff_ne]; omega
   unfold sForm at h
   simp only [e 1 (by omega), e 2 (by omega), e 3 (by omega), e 4 (by omega), e 5 (by omega), e 6 (by omega), e 7 (by omega), e 8 (by omega), e 9 (by omega), e 12 (by omega), e 13 (by omega), e 14 (by omega), e 15 (by omega), Bool.false_eq_true, if_false] at h
   simp [SForm.ok] at h
  exact hk
mutual
theorem kdN_valid (u : Un) (f : Fl) : ∀ (x : Nd) (deep : Int) (w : Wh) (s : List Int), vNode u f deep w s x = true → kdN x = true
  | .mk kind op n name args outs params ks, deep, w, s, h => by
    have hb := vNode_bare u f deep w s h
    simp only [kdN, Bool.and_eq_true, decide_eq_true_eq]
    by_cases h10 : kind = 10
    ·refine ⟨by omega, ?_⟩
     obtain ⟨a, b, hk⟩ := r8bare_if hb h10
     rw [vNode_if u f deep w s hb h10 hk] at h
     simp only [Bool.and_eq_true, vList] at h
     simp only [Nd.kids] at hk
     match ks, hk with
     | [a', b'], hk =>
       cases hk
       simp only [kdK, Bool.and_eq_true, Bool.and_true]
       exact ⟨kdL_valid u f a _ _ _ h.1.1.1.2.2, kdL_valid u f b _ _ _ h.1.1.2.2⟩
    by_cases h11 : kind = 11
    ·refine ⟨by omega, ?_⟩
     obtain ⟨a, hk⟩ := r8bare_loop hb h11
     rw [vNode_loop u f deep w s hb h11 hk] at h
     simp only [Bool.and_eq_true, vList] at h
     simp only [Nd.kids] at hk
     match ks, hk with
     | [a'], hk =>
       cases hk
       simp only [kdK, Bool.and_true]
       exact kdL_valid u f a _ _ _ h.1.1.2.2
    have e10 : (kind == 10) = false := by simpa using h10
    have e11 : (kind == 11) = false := by simpa using h11
    have hk0 := bare_kids0 hb e10 e11
    simp only [Nd.kids] at hk0
    rw [vNode_simple u f deep w s hb e10 e11] at h
    exact ⟨sForm_kind h, by rw [hk0]; rfl⟩
theorem kdL_valid (u : Un) (f : Fl) : ∀ (l : List Nd) (deep : Int) (w : Wh) (s : List Int), vGo u f deep w s l = true → kdL l = true
  | [], _, _, _, _ => rfl
  | x :: r, deep, w, s, h => by
    simp only [vGo, Bool.and_eq_true] at h
    simp only [kdL, Bool.and_eq_true]
    exact ⟨kdN_valid u f x _ _ _ h.1.1.2, kdL_valid u f r _ _ _ h.2⟩
end
theorem kd_valid {u : Un} (h : (shCheck u).1 = 0) : ∀ f ∈ u.flows, kdL f.body = true := by
  rw [shCheck_eq] at h
  intro f hf
  have hF := ((check_iff u).1 h).2 f hf
  unfold r8Flow at hF
  simp only [Bool.and_eq_true] at hF
  obtain ⟨h1, h2⟩ := hF
  have hp : f.params.toNat ≤ f.types.length := by
    have a1 := h1.1.1.1.1
    have a2 := h1.1.1.2
    simp only [Bool.not_eq_true', decide_eq_false_iff_not] at a1 a2
    omega
  have hn : (firsts f.params.toNat f.types.length).length = f.types.length := firsts_length hp
  rw [r8list_iff u f f.body 1 r8where0 _ _ hn] at h2
  have hv := h2.1
  simp only [vList, Bool.and_eq_true] at hv
  exact kdL_valid u f f.body _ _ _ hv.2
theorem right_hoist (u : Un) : fRight (hoistOf u).1 = true := by
  unfold hoistOf
  split
  ·rename_i h
   unfold fRight hUnit
   simp only [List.all_map, List.all_eq_true]
   intro f hf
   exact (fineL_h f.body (kd_valid (by simpa using h) f hf)).2
  rfl
def wakeL : List Nd := [(.mk 1 0 1 ⟨#[]⟩ [] [0] [] []), (.mk 11 0 0 ⟨#[]⟩ [0] [4] [1] [[(.mk 1 0 10 ⟨#[]⟩ [] [2] [] []), (.mk 4 1 0 ⟨#[]⟩ [1, 2] [3] [] []), (.mk 14 0 0 ⟨#[]⟩ [3] [] [] [])]]), (.mk 15 0 0 ⟨#[]⟩ [4] [] [] [])]
def wakeU : Un := ⟨[], [⟨mainName, 1, 0, [1, 1, 1, 1, 1], wakeL⟩]⟩
theorem wake_check : (r8Check wakeU).1 = 0 := by decide +kernel
theorem wake_weight : r8Weight wakeU ≤ 536870912 := by decide +kernel
theorem wake_run0 : ((mCall (hUnit wakeU) 20 (r8Place mainName (hUnit wakeU).flows 0) [] (run0 [] 6)).map fun r => (mOver r.2, r.1)) = some (false, 11) := by decide +kernel
theorem wake_run : ∃ r, mCall (hUnit wakeU) 20 (r8Place mainName (hUnit wakeU).flows 0) [] (run0 [] 6) = some r ∧ (mEnd r).st = 1 ∧ (mEnd r).code = 11 := by
  have h := wake_run0
  rw [Option.map_eq_some_iff] at h
  obtain ⟨r, h1, h2⟩ := h
  simp only [Prod.mk.injEq] at h2
  refine ⟨r, h1, ?_, ?_⟩
  ·simp only [mEnd, h2.1, Bool.false_eq_true, if_false]
  simp only [mEnd, h2.1, Bool.false_eq_true, if_false, h2.2]
def wakeRaw : PV := .seq [[vInt 1, vInt 0, vInt 1, vStr ⟨#[]⟩, .val (.slice none 0 0), .seq [[vInt 0]], .val (.slice none 0 0), .val (.slice none 0 0)], [vInt 11, vInt 0, vInt 0, vStr ⟨#[]⟩, .seq [[vInt 0]], .seq [[vInt 4]], .seq [[vInt 1]], .seq [[.seq [[vInt 1, vInt 0, vInt 10, vStr ⟨#[]⟩, .val (.slice none 0 0), .seq [[vInt 2]], .val (.slice none 0 0), .val (.slice none 0 0)], [vInt 4, vInt 1, vInt 0, vStr ⟨#[]⟩, .seq [[vInt 1], [vInt 2]], .seq [[vInt 3]], .val (.slice none 0 0), .val (.slice none 0 0)], [vInt 14, vInt 0, vInt 0, vStr ⟨#[]⟩, .seq [[vInt 3]], .val (.slice none 0 0), .val (.slice none 0 0), .val (.slice none 0 0)]]]]], [vInt 15, vInt 0, vInt 0, vStr ⟨#[]⟩, .seq [[vInt 4]], .val (.slice none 0 0), .val (.slice none 0 0), .val (.slice none 0 0)]]
theorem wake_sub : PSub wakeRaw (nodes wakeL) := by
  show PSub _ (.seq [_, _, _])
  repeat' (first | exact PSub.nil | exact PSub.refl _ | exact trivial | refine And.intro ?_ ?_ | refine PSub.seq (ps := [_, _, _]) (qs := [_, _, _]) ?_ | refine PSub.seq (ps := [_]) (qs := [_]) ?_)
theorem empty_hoist : hoistOf ⟨[], []⟩ = (⟨[], []⟩, 1) := hoistOf_bad (by decide +kernel)
theorem sc_awake0 (L : List Nd) (hL : PSub wakeRaw (nodes L)) (V : Un) (hH : hoistOf (⟨[], [⟨mainName, 1, 0, [1, 1, 1, 1, 1], L⟩]⟩ : Un) = (V, 0)) (hW : r8Weight (⟨[], [⟨mainName, 1, 0, [1, 1, 1, 1, 1], L⟩]⟩ : Un) ≤ 536870912) (hVa : V.arrays = []) (hVl : V.flows.length = 1) (hVr : fRight V = true) (hVW : r8Weight V ≤ 536870912) (hVz : (r8Check V).1 = 0) (r : Int × Rs) (hr : mCall V 20 (r8Place mainName V.flows 0) [] (run0 [] 6) = some r) (h1 : (mEnd r).st = 1) (h2 : (mEnd r).code = 11) : SC Tryz.prog 7 [] [] (fun _ => False) (iBool true) [] := by
  refine SC.of Tryz.func7 rfl (lb rfl) fun F ρ w => ?_
  have hsc := sc_Hoist (⟨[], [⟨mainName, 1, 0, [1, 1, 1, 1, 1], L⟩]⟩ : Un) hW hok_valid
  rw [hH] at hsc
  have hse := sc_Hoist ⟨[], []⟩ (by decide) hok_valid
  rw [empty_hoist] at hse
  refine tQ <| tG <| sm 1 rfl <| nL <| tQ <| tG <| sm 1 rfl <| nL <| tQ <| tG <| cE rfl (ok_buildSlice rfl rfl Tryz.underlying35 tZ3 tS3 rfl rfl rfl rfl (firmB_ok rfl) rfl) <| cE rfl (ok_buildSlice rfl rfl Tryz.underlying35 tZ3 tS3 rfl rfl rfl rfl (firmB_ok rfl) rfl) ?_
  refine cE rfl (ok_buildSlice rfl rfl Tryz.underlying35 tZ3 tS3 rfl rfl rfl rfl (firmB_ok rfl) rfl) <| cE rfl (ok_buildSlice rfl rfl Tryz.underlying35 tZ3 tS3 rfl rfl rfl rfl (firmB_ok rfl) rfl) <| cV rfl (ok_build_pure rfl rfl tZ42 tP42 rfl (firmB_ok rfl) rfl) <| cE rfl (ok_buildSlice rfl rfl Tryz.underlying35 tZ3 tS3 rfl rfl rfl rfl (firmB_ok rfl) rfl) <| cE rfl (ok_buildSlice rfl rfl Tryz.underlying35 tZ3 tS3 rfl rfl rfl rfl (firmB_ok rfl) rfl) <| cV rfl (ok_build_pure rfl rfl tZ42 tP42 rfl (firmB_ok rfl) rfl) <| cE rfl (ok_buildSlice rfl rfl Tryz.underlying35 tZ3 tS3 rfl rfl rfl rfl (firmB_ok rfl) rfl) <| cV rfl (ok_build_pure rfl rfl tZ42 tP42 rfl (firmB_ok rfl) rfl) <| cE rfl (ok_buildSlice rfl rfl Tryz.underlying43 tZ42 tS42 rfl rfl rfl rfl (firmB_ok rfl) rfl) <| cE rfl (ok_buildSlice rfl rfl Tryz.underlying40 tZ43 tS43 rfl rfl rfl rfl (firmB_ok rfl) rfl) <| cV rfl (ok_build_pure rfl rfl tZ42 tP42 rfl (firmB_ok rfl) rfl) <| cE rfl (ok_alloc (k := 102) rfl tZ42 rfl rfl rfl rfl) ?_
  refine c0 (ok_store_box_agg rfl rfl rfl rfl rfl ((fun h => h)) tS42 (firmL_ok rfl) (lb rfl)) <| nL <| tQ <| tG <| sm 5 rfl <| cE rfl (ok_buildSlice rfl rfl Tryz.underlying35 tZ3 tS3 rfl rfl rfl rfl (firmB_ok rfl) rfl) <| cE rfl (ok_buildSlice rfl rfl Tryz.underlying35 tZ3 tS3 rfl rfl rfl rfl (firmB_ok rfl) rfl) <| cV rfl (ok_build_pure rfl rfl tZ42 tP42 rfl (firmB_ok rfl) rfl) <| cV rfl (ok_load_box_pure rfl rfl rfl Tryz.underlying42 rfl tS42 (lb rfl) rfl trivial) <| cE rfl (ok_buildSlice rfl rfl Tryz.underlying35 tZ3 tS3 rfl rfl rfl rfl (firmB_ok rfl) rfl) <| cV rfl (ok_build_pure rfl rfl tZ42 tP42 rfl (firmB_ok rfl) rfl) <| cE rfl (ok_buildSlice rfl rfl Tryz.underlying43 tZ42 tS42 rfl rfl rfl rfl (firmB_ok rfl) rfl) ?_
  refine cE rfl (ok_callq (sc_unit15 [1, 1, 1, 1, 1] L) ent16 rfl rfl (Subs.same rfl (Subs.cons (fun _ _ _ _ h => sub_pv hL h) Subs.nil)) rfl) <| cE rfl (ok_callq (hsc) ent11 rfl rfl (Subs.cons (fun _ _ _ _ h => sub_pv (PSub.agg (ps := [.val (.slice none 0 0), flws [⟨mainName, 1, 0, [1, 1, 1, 1, 1], L⟩]]) (qs := [.seq [], flws [⟨mainName, 1, 0, [1, 1, 1, 1, 1], L⟩]]) (And.intro PSub.nil (And.intro (PSub.refl _) trivial))) h) Subs.nil) rfl) <| sm 1 rfl <| cV rfl (ok_extract rfl rfl rfl) <| cV rfl (ok_extract rfl rfl rfl) <| cE rfl (ok_alloc (k := 103) rfl tZ25 rfl rfl rfl rfl) <| c0 (ok_store_box_agg rfl rfl rfl rfl rfl ((fun h => h)) tS25 (firmL_ok rfl) (lb rfl)) <| sm 1 rfl <| nL <| tQ <| tG <| cV rfl (ok_load_box_pure rfl rfl rfl Tryz.underlying25 rfl tS25 (lb rfl) rfl trivial) ?_
  refine cE rfl (ok_callq (sc_run0 V hVa hVW hVz [] 6 20 r hr) ent17 rfl rfl (Subs.same rfl (Subs.cons (fun _ _ _ _ h => sub_pv PSub.nil h) (Subs.same rfl Subs.nil))) rfl) <| cE rfl (ok_alloc (k := 105) rfl tZ46 rfl rfl rfl rfl) <| c0 (ok_store_box_agg rfl rfl rfl rfl rfl ((fun h => h)) tS46 (firmL_ok rfl) (lb rfl)) <| nL <| tQ <| tG <| sm 3 rfl ?_
  refine wS 43 rfl (fun hb43 => ?_) fun hb43 => ?_
  ·refine sm 2 rfl <| yV rfl rfl (oSm Tryz.underlying23 rfl) <| sm 3 rfl ?_
   refine wS 49 rfl (fun hb49 => ?_) fun hb49 => ?_
   ·refine yV rfl rfl (ok_load_box_pure rfl rfl rfl Tryz.underlying25 rfl tS25 (lb rfl) rfl trivial) <| WL.yes rfl rfl rfl rfl rfl rfl (ok_callq (sc_right V) ent12 rfl rfl (Subs.refl _ _) rfl) <| sm 2 rfl ?_
    refine wS 53 rfl (fun hb53 => ?_) fun hb53 => ?_
    ·refine sm 5 rfl ?_
     refine wS 58 rfl (fun hb58 => ?_) fun hb58 => ?_
     ·refine sm 5 rfl <| nL <| tQ <| tG <| cV rfl (ok_build_pure rfl rfl tZ25 tP25 rfl (firmB_ok rfl) rfl) <| cE rfl (ok_callq (hse) ent11 rfl rfl (Subs.cons (fun _ _ _ _ h => empty_unit h) Subs.nil) rfl) <| sm 1 rfl <| cV rfl (ok_extract rfl rfl rfl) <| cV rfl (ok_extract rfl rfl rfl) <| cE rfl (ok_alloc (k := 107) rfl tZ25 rfl rfl rfl rfl) <| c0 (ok_store_box_agg rfl rfl rfl rfl rfl ((fun h => h)) tS25 (firmL_ok rfl) (lb rfl)) <| sm 1 rfl ?_
      refine nL <| tQ <| tG <| sm 3 rfl ?_
      refine wS 70 rfl (fun hb70 => ?_) fun hb70 => ?_
      ·refine sm 3 rfl <| nL <| Tr.ret <| ret_ok rfl ?_ no_post
       rw [h2]
       rfl
      exact Bool.noConfusion (show true = false from hb70)
     rw [h1] at hb58
     cases hb58
    rw [hVr] at hb53
    cases hb53
   simp [hVl] at hb49
  exact Bool.noConfusion (show true = false from hb43)
theorem sc_awake : SC Tryz.prog 7 [] [] (fun _ => False) (iBool true) [] := by
  obtain ⟨r, hr, h1, h2⟩ := wake_run
  have hc := check_hoist wake_check
  exact sc_awake0 wakeL wake_sub (hUnit wakeU) (hoistOf_good wake_check) wake_weight rfl rfl (by have := right_hoist wakeU; rw [hoistOf_good wake_check] at this; exact this) (by rw [weight_h]; exact wake_weight) (by rw [hc]) r hr h1 h2
section
section
variable (l : List UInt8)
theorem wt_gNode (kind op n : Int) (name : ByteArray) (seen ins outs : List Int) (g : Gn) : wtN (gNode l kind op n name seen ins outs g).1 = ins.length + outs.length + name.size := by
  rw [wtN_eq]
  show (gEach l seen ins g).1.length + (gOuts outs _).1.length + 0 + name.size + 0 = _
  rw [(gEach_st l seen ins g).2, (gOuts_st outs _).2]
  omega
theorem wt_simple (seen : List Int) (g : Gn) : wtN (gSimple l seen g).1 ≤ 4 := by
  unfold gSimple
  simp only
  have hn : nName.size = 0 := rfl
  have ha : aName.size = 1 := rfl
  have hf : fName.size = 1 := rfl
  repeat' split
  all_goals (rw [wt_gNode]; simp only [List.length_cons, List.length_nil, hn, ha, hf]; omega)
theorem wt_end (seen : List Int) (p : Plc) (hp : p.small) (g : Gn) : wtN (gEnd l seen p g).1 ≤ 2 := by
  obtain ⟨h1, h2, h3⟩ := hp
  unfold gEnd
  simp only
  have hn : nName.size = 0 := rfl
  repeat' split
  all_goals (rw [wt_gNode]; simp only [List.length_cons, List.length_nil, hn]; omega)
def RecWt (N : Nat) (rec : GRec) : Prop := ∀ seen p g, p.small → wtL (rec seen p g).1 ≤ N ∧ (rec seen p g).1.length ≤ 6
theorem wt_shut (x : List Int → Nd) (t : List Int) (ht : t.length ≤ 2) (g : Gn) (N : Nat) (hx : ∀ o, wtN (x o) = o.length + N) : wtN (gShut x t g).1 ≤ N + 2 := by
  unfold gShut
  split
  ·rw [hx]; simp
  rw [hx, (gOuts_st t g).2]; omega
theorem wt_if {N : Nat} {rec : GRec} (hr : RecWt N rec) (all : List Int) (p : Plc) (hp : p.small) (g : Gn) : wtN (gIf l rec all p g).1 ≤ 2 * N + 20 := by
  unfold gIf
  simp only
  obtain ⟨_, h2⟩ := bd_types l g
  have hsm : Plc.small ⟨true, p.Loop, (gTypes l g).1, p.Next, p.Left⟩ := ⟨h2, hp.2.1, hp.2.2⟩
  refine Nat.le_trans (wt_shut _ _ h2 _ (1 + (1 + ((rec all ⟨true, p.Loop, (gTypes l g).1, p.Next, p.Left⟩ (gEach l all [2] (gTypes l g).2).2).1.length + wtL (rec all ⟨true, p.Loop, (gTypes l g).1, p.Next, p.Left⟩ (gEach l all [2] (gTypes l g).2).2).1) + (1 + ((rec all ⟨true, p.Loop, (gTypes l g).1, p.Next, p.Left⟩ (rec all ⟨true, p.Loop, (gTypes l g).1, p.Next, p.Left⟩ (gEach l all [2] (gTypes l g).2).2).2).1.length + wtL (rec all ⟨true, p.Loop, (gTypes l g).1, p.Next, p.Left⟩ (rec all ⟨true, p.Loop, (gTypes l g).1, p.Next, p.Left⟩ (gEach l all [2] (gTypes l g).2).2).2).1)))) fun o => ?_) ?_
  ·simp only [wtN, wtK, (gEach_st l all [2] (gTypes l g).2).2, show nName.size = 0 from rfl, List.length_cons, List.length_nil]
   omega
  have h3 := hr all _ (gEach l all [2] (gTypes l g).2).2 hsm
  have h4 := hr all _ (rec all ⟨true, p.Loop, (gTypes l g).1, p.Next, p.Left⟩ (gEach l all [2] (gTypes l g).2).2).2 hsm
  omega
theorem wt_loop {N : Nat} {rec : GRec} (hr : RecWt N rec) (all : List Int) (g : Gn) : wtN (gLoop l rec all g).1 ≤ 2 * N + 20 := by
  unfold gLoop
  simp only
  obtain ⟨_, h2⟩ := bd_types l g
  obtain ⟨_, h4⟩ := bd_types l (gTypes l g).2
  generalize hA : gEach l all (gTypes l g).1 (gTypes l (gTypes l g).2).2 = A
  have hAl : A.1.length ≤ 2 := by rw [← hA, (gEach_st l all _ _).2]; exact h2
  generalize hQ : gOuts (gTypes l g).1 A.2 = Q
  have hQl : Q.1.length ≤ 2 := by rw [← hQ, (gOuts_st _ _).2]; exact h2
  have h5 := hr (all ++ Q.1) ⟨false, true, [], (gTypes l g).1, (gTypes l (gTypes l g).2).1⟩ Q.2 ⟨by simp, h2, h4⟩
  generalize hB : rec (all ++ Q.1) ⟨false, true, [], (gTypes l g).1, (gTypes l (gTypes l g).2).1⟩ Q.2 = B at h5
  refine Nat.le_trans (wt_shut _ _ h4 _ (A.1.length + Q.1.length + (1 + (B.1.length + wtL B.1))) fun o => ?_) ?_
  ·simp only [wtN, wtK, show nName.size = 0 from rfl]
   omega
  omega
theorem wt_any {N : Nat} {rec : Option GRec} (hr : ∀ r, rec = some r → RecWt N r) (all : List Int) (p : Plc) (hp : p.small) (g : Gn) : wtN (gAny l rec all p g).1 ≤ 2 * N + 20 := by
  have hs := wt_simple l all { g with left := g.left - 1 }
  unfold gAny
  simp only
  cases rec with
  | none => exact Nat.le_trans hs (by omega)
  | some r =>
    simp only
    split
    ·exact wt_if l (hr r rfl) all p hp _
    split
    ·exact wt_loop l (hr r rfl) all _
    exact Nat.le_trans hs (by omega)
theorem wt_nodes {N : Nat} {rec : Option GRec} (hr : ∀ r, rec = some r → RecWt N r) (p : Plc) (hp : p.small) : ∀ (i : Nat) (out : List Nd) (all : List Int) (g : Gn), wtL (gNodes l rec p i out all g).1 ≤ wtL out + (i + 1) * (2 * N + 20)
  | 0, out, all, g => by
    have := wt_end l all p hp g
    simp only [gNodes, wtL_app, wtL]
    omega
  | i + 1, out, all, g => by
    have he := wt_end l all p hp g
    have hx := wt_any l hr all p hp g
    have e : (i + 1 + 1) * (2 * N + 20) = (i + 1) * (2 * N + 20) + (2 * N + 20) := Nat.succ_mul _ _
    unfold gNodes
    split
    ·simp only [wtL_app, wtL]; omega
    simp only
    split
    ·simp only [wtL_app, wtL]; omega
    have := wt_nodes hr p hp i (out ++ [(gAny l rec all p g).1]) (all ++ (gAny l rec all p g).1.outs) (gAny l rec all p g).2
    simp only [wtL_app, wtL] at this ⊢
    omega
def wtMax : Nat → Nat
  | 0 => 120
  | d + 1 => 6 * (2 * wtMax d + 20)
theorem wtMax_succ (d : Nat) : wtMax (d + 1) = 6 * (2 * wtMax d + 20) := rfl
theorem wt_gList (d : Nat) : RecWt (wtMax d) (gList l d) := by
  induction d with
  | zero =>
    intro seen p g hp
    refine ⟨?_, gList_len l 0 seen p g⟩
    have h6 : (gPick l 6 g).1 < 6 := gPick_lt (by omega)
    have := wt_nodes l (N := 0) (rec := none) (fun r h => by cases h) p hp (gPick l 6 g).1 [] seen (gPick l 6 g).2
    rw [gList_eq]
    show wtL (gNodes l none p (gPick l 6 g).1 [] seen (gPick l 6 g).2).1 ≤ wtMax 0
    generalize wtL (gNodes l none p (gPick l 6 g).1 [] seen (gPick l 6 g).2).1 = z at this
    generalize (gPick l 6 g).1 = k at *
    have e : wtMax 0 = 120 := rfl
    simp only [wtL, Nat.zero_add, Nat.mul_zero] at this
    rw [e]
    omega
  | succ d ih =>
    intro seen p g hp
    refine ⟨?_, gList_len l (d + 1) seen p g⟩
    have h6 : (gPick l 6 g).1 < 6 := gPick_lt (by omega)
    have := wt_nodes l (N := wtMax d) (rec := some (gList l d)) (fun r h => by cases h; exact ih) p hp (gPick l 6 g).1 [] seen (gPick l 6 g).2
    rw [gList_eq]
    rw [show gRec l (d + 1) = some (gList l d) from rfl, wtMax_succ]
    generalize wtL (gNodes l (some (gList l d)) p (gPick l 6 g).1 [] seen (gPick l 6 g).2).1 = z at this
    generalize (gPick l 6 g).1 = k at *
    generalize wtMax d = m at *
    have h7 : (k + 1) * (2 * m + 20) ≤ 6 * (2 * m + 20) := Nat.mul_le_mul_right _ (by omega)
    simp only [wtL, Nat.zero_add] at this
    exact Nat.le_trans this h7
theorem wt_flow (name : ByteArray) (params : List Int) (hp : params.length ≤ 10) (g : Gn) : (gFlow l name params g).1.types.length ≤ 1000 ∧ r8nodes (gFlow l name params g).1.body ≤ 1000000 := by
  have hs : plc0.small := ⟨by simp [plc0], by simp [plc0], by simp [plc0]⟩
  have hS := (gOuts_st params { g with types := [], left := 30 }).1
  generalize hB : (gFresh 2 (gFresh 1 (gOuts params { g with types := [], left := 30 }).2).2).2 = B
  generalize hE : (gOuts params { g with types := [], left := 30 }).1 ++ [(gFresh 1 (gOuts params { g with types := [], left := 30 }).2).1, (gFresh 2 (gFresh 1 (gOuts params { g with types := [], left := 30 }).2).2).1] = E
  have h1 : B.types.length = params.length + 2 := by rw [← hB, hS]; simp [gFresh]
  have h2 : B.left = 30 := by rw [← hB, hS]; rfl
  have hb := (bd_list l 3 E plc0 B hs).t2
  have hw := wt_gList l 3 E plc0 B hs
  have e : gFlow l name params g = (⟨name, 1, params.length, (gList l 3 E plc0 B).2.types, gBegin (gFresh 1 (gOuts params { g with types := [], left := 30 }).2).1 (gFresh 2 (gFresh 1 (gOuts params { g with types := [], left := 30 }).2).2).1 ++ (gList l 3 E plc0 B).1⟩, (gList l 3 E plc0 B).2) := by
    unfold gFlow
    simp only [hB, hE]
  rw [e]
  refine ⟨by simp only; omega, ?_⟩
  simp only [r8nodes, List.length_append, wtL_app]
  have h3 : wtL (gBegin (gFresh 1 (gOuts params { g with types := [], left := 30 }).2).1 (gFresh 2 (gFresh 1 (gOuts params { g with types := [], left := 30 }).2).2).1) = 2 := rfl
  have h4 : (gBegin (gFresh 1 (gOuts params { g with types := [], left := 30 }).2).1 (gFresh 2 (gFresh 1 (gOuts params { g with types := [], left := 30 }).2).2).1).length = 2 := rfl
  have h5 : wtMax 3 ≤ 500000 := by simp only [wtMax]; omega
  omega
theorem wt_made : r8Weight (made l) ≤ 536870912 := by
  have h1 := wt_flow l mainName [] (by simp) ⟨0, [], 0⟩
  have h2 := wt_flow l fName [1, 2] (by simp) (gFlow l mainName [] ⟨0, [], 0⟩).2
  have e1 : (gFlow l mainName [] ⟨0, [], 0⟩).1.name.size = 4 := rfl
  have e2 : (gFlow l fName [1, 2] (gFlow l mainName [] ⟨0, [], 0⟩).2).1.name.size = 1 := rfl
  have e3 : aName.size = 1 := rfl
  simp only [r8Weight, made, wtA, wtF, List.length_cons, List.length_nil, e1, e2, e3]
  omega
end
end
theorem sc_HoistGood (l : List UInt8) : SC Tryz.prog 4 [.pv (bts l)] [] (fun _ => False) (iBool true) [] := by
  refine SC.of Tryz.func4 rfl (lb rfl) fun F ρ w => ?_
  have hW := wt_made l
  refine tQ <| tG <| sm 1 rfl <| nL <| tQ <| tG <| sm 1 rfl <| cE rfl (ocq (sc_made l) ent10 rfl rfl) <| cE rfl (ok_alloc (k := 103) rfl tZ25 rfl rfl rfl rfl) <| c0 (ok_store_box_agg rfl rfl rfl rfl rfl ((fun h => h)) tS25 (firmL_ok rfl) (lb rfl)) <| nL <| tQ ?_
  refine tG <| cV rfl (ok_load_box_pure rfl rfl rfl Tryz.underlying25 rfl tS25 (lb rfl) rfl trivial) <| cE rfl (ocq (sc_Hoist (made l) hW hok_valid) ent11 rfl rfl) <| sm 1 rfl <| cV rfl (ok_extract rfl rfl rfl) <| cV rfl (ok_extract rfl rfl rfl) <| cE rfl (ok_alloc (k := 104) rfl tZ25 rfl rfl rfl rfl) <| c0 (ok_store_box_agg rfl rfl rfl rfl rfl ((fun h => h)) tS25 (firmL_ok rfl) (lb rfl)) <| sm 1 rfl <| nL <| tQ <| tG ?_
  refine cE rfl (ocq (sc_awake) ent7 rfl rfl) <| sm 1 rfl ?_
  refine wS 14 rfl (fun hb14 => ?_) fun hb14 => ?_
  ·refine yV rfl rfl (ok_load_box_pure rfl rfl rfl Tryz.underlying25 rfl tS25 (lb rfl) rfl trivial) <| WL.yes rfl rfl rfl rfl rfl rfl (ok_callq (sc_fits (made l) hW) ent9 rfl rfl (Subs.refl _ _) rfl) <| sm 2 rfl ?_
   refine wS 18 rfl (fun hb18 => ?_) fun hb18 => ?_
   ·refine yV rfl rfl (ok_load_box_pure rfl rfl rfl Tryz.underlying25 rfl tS25 (lb rfl) rfl trivial) <| WL.yes rfl rfl rfl rfl rfl rfl (ok_callq (sc_right (hoistOf (made l)).1) ent12 rfl rfl (Subs.refl _ _) rfl) <| sm 2 rfl <| nL <| Tr.ret <| ret_ok rfl ?_ no_post
    rw [right_hoist]
   exact Bool.noConfusion (show true = false from hb18)
  exact Bool.noConfusion (show true = false from hb14)
section
open Go Go.ChangeShapes Go.WideShapes Go.ChangeAt Go.RowKit
section
variable {H : Type} {enc : TypeId × Value → H} {P : Program} {w : World} {base : Nat} {spare : Nat → Bool} {held : Bool}
def RepEl (own : Nat → Prop) (w : World) (ps : List PV) (cs : List Value) : Prop := ps.length = cs.length ∧ ∀ (j : Nat) p v, ps[j]? = some p → cs[j]? = some v → RepP own w p v
theorem RepEl.nil {own : Nat → Prop} : RepEl own w [] [] := ⟨rfl, fun j p v h => by simp at h⟩
theorem RepEl.cons {own : Nat → Prop} {p : PV} {v : Value} {ps : List PV} {cs : List Value} (h : RepP own w p v) (hr : RepEl own w ps cs) : RepEl own w (p :: ps) (v :: cs) := by
  refine ⟨by simp [hr.1], fun j q x hq hx => ?_⟩
  cases j with
  | zero => simp at hq hx; subst hq; subst hx; exact h
  | succ j => exact hr.2 j q x (by simpa using hq) (by simpa using hx)
theorem choose_els {α : Type} (f : α → List PV) (wt : α → Nat) {own : Nat → Prop} (R : Nat → DataW H × List MemPlace → List Value → Prop)
    (hR : ∀ i y cs, R i y cs → ∃ z : α, RepEl own w (f z) cs ∧ wt z + 1 ≤ Rows.uptoBulk y.1) :
    ∀ (ys : List (DataW H × List MemPlace)) (s : Nat), (∀ i y, ys[i]? = some y → ∃ cs, R (s + i) y cs) →
      ∃ l : List α, l.length = ys.length ∧ (∀ i z, l[i]? = some z → ∃ y cs, ys[i]? = some y ∧ R (s + i) y cs ∧ RepEl own w (f z) cs) ∧ (l.map wt).sum + l.length ≤ Rows.uptoBulkAll (ys.map (·.1))
  | [], _, _ => ⟨[], rfl, fun i z h => by simp at h, by simp [Rows.uptoBulkAll]⟩
  | y :: ys, s, h => by
    obtain ⟨cs, hcs⟩ := h 0 y rfl
    obtain ⟨z, hz, hw⟩ := hR _ _ _ hcs
    obtain ⟨l, hl, hg, hb⟩ := choose_els f wt R hR ys (s + 1) (fun i y' hy => by
      have := h (i + 1) y' (by simpa using hy)
      rwa [show s + 1 + i = s + (i + 1) by omega])
    refine ⟨z :: l, by simp [hl], fun i z' hz' => ?_, ?_⟩
    ·cases i with
     | zero => simp at hz'; subst hz'; exact ⟨y, cs, rfl, hcs, hz⟩
     | succ i =>
       obtain ⟨y', cs', h1, h2, h3⟩ := hg i z' (by simpa using hz')
       exact ⟨y', cs', by simpa using h1, by rwa [show s + (i + 1) = s + 1 + i by omega], h3⟩
    simp only [List.map_cons, List.sum_cons, List.length_cons, Rows.uptoBulkAll]; omega
theorem trod_list {α : Type} (f : α → List PV) (wt : α → Nat) {own : Nat → Prop} (hown : ∀ b, b < w.heap.size → ¬ own b) {t e : TypeId} {fuel : Nat} {cs : List Value} {x : DataW H × List MemPlace} {N : Nat} (ht : P.underlying t = some (.slice e)) (hC : P.cellsOf e = N) (hN : 0 < N)
    (h : DataW.trod enc P w base spare held fuel t cs = some x)
    (hel : ∀ n cs' y, n < fuel → cs'.length = N → DataW.trod enc P w base spare held n e cs' = some y → ∃ z : α, RepEl own w (f z) cs' ∧ wt z + 1 ≤ Rows.uptoBulk y.1) :
    ∃ (l : List α) (v : Value), cs = [v] ∧ RepP own w (.seq (l.map f)) v ∧ (l.map wt).sum + l.length + 1 ≤ Rows.uptoBulk x.1 := by
  rcases DataW.trod_slice ht h with ⟨rfl, rfl⟩ | ⟨a, len, cap, elems, rest, n, rfl, rfl, rfl, hb, hl, hm, hlen, hg, _, _⟩
  ·refine ⟨[], _, rfl, ?_, by simp [Rows.uptoBulk]⟩
   have := RepP.seq (own := own) (w := w) [] none 0 0 0 (fun _ _ => default) (fun h => absurd rfl h) (fun h => absurd rfl h) (Nat.le_refl _) (Nat.zero_le _) (fun i el h => by simp at h) (fun i el h => by simp at h)
   simpa using this
  obtain ⟨l, hll, hat, hsum⟩ := choose_els (w := w) f wt (own := own) (fun i y cs => w.cells? base (a.add (i * P.cellsOf e)) (P.cellsOf e) = some cs ∧ DataW.trod enc P w base spare held n e cs = some y)
    (fun i y cs' hr => hel n cs' y (Nat.lt_succ_self _) (by rw [(World.cells?_some hr.1).2.1, hC]) hr.2) elems 0 (fun i y hy => by
      have hlt : i < len := by rw [← hlen]; exact (List.getElem?_eq_some_iff.1 hy).1
      have h1 := hg i hlt
      rw [hy, Option.bind_eq_some_iff] at h1
      obtain ⟨cs', h2, h3⟩ := h1
      exact ⟨cs', by rw [Nat.zero_add]; exact h2, h3⟩)
  obtain ⟨ab, ao, asp⟩ := a
  have hlen2 : l.length = len := by rw [hll, hlen]
  -- a cell that can be read
  have hsp : l ≠ [] → asp = none ∧ ab < w.heap.size := by
    intro hne
    obtain ⟨z, r, rfl⟩ := List.exists_cons_of_ne_nil hne
    obtain ⟨y, cs', _, hr, hrep⟩ := hat 0 z rfl
    obtain ⟨_, hcl, hcell⟩ := World.cells?_some hr.1
    have h0 := hcell 0 (by rw [hC]; exact hN)
    have hlt : 0 < cs'.length := by rw [hcl, hC]; exact hN
    rw [List.getElem?_eq_getElem hlt] at h0
    unfold World.cell? at h0
    have e0 : (Addr.add (Addr.add ⟨ab, ao, asp⟩ ((0 + 0) * P.cellsOf e)) 0) = ⟨ab, ao, asp⟩ := by simp [Addr.add]
    rw [e0] at h0
    split at h0
    ·rename_i hh
     refine ⟨?_, (Array.getElem?_eq_some_iff.1 hh).1⟩
     cases asp with
     | none => rfl
     | some _ => simp at h0
    cases h0
  refine ⟨l, _, rfl, ?_, ?_⟩
  ·-- the cells of an element
   have key : ∀ i z, l[i]? = some z → ∃ cs', RepEl own w (f z) cs' ∧ cs'.length = N ∧ ∀ j, j < N → w.cell? ⟨ab, ao + i * N + j, none⟩ = cs'[j]? := by
     intro i z hz
     obtain ⟨y, cs', _, hr, hrep⟩ := hat i z hz
     obtain ⟨_, hcl, hcell⟩ := World.cells?_some hr.1
     refine ⟨cs', hrep, hcl.trans hC, fun j hj => ?_⟩
     have h1 := hcell j (by rw [hC]; exact hj)
     have hne : l ≠ [] := by intro e; subst e; simp at hz
     have hs := (hsp hne).1
     subst hs
     rw [← h1, Addr.add_mid, Addr.add_mid, hC, Nat.zero_add]
   have hrep := RepP.seq (own := own) (w := w) (l.map f) (some ⟨ab, ao, asp⟩) cap ab ao (fun i j => (w.cell? ⟨ab, ao + i * N + j, none⟩).getD default)
     (fun hne => by rw [(hsp (by intro e; subst e; exact hne rfl)).1]) (fun hne => by
       have := (hsp (by intro e; subst e; exact hne rfl)).2
       exact ⟨hown _ this, this⟩) (by simp; omega) hm ?_ ?_
   ·rw [List.length_map, hlen2] at hrep; exact hrep
   ·intro i el hi j c hj
    rw [List.getElem?_map, Option.map_eq_some_iff] at hi
    obtain ⟨z, hz, rfl⟩ := hi
    obtain ⟨cs', hrep, hcl, hcell⟩ := key i z hz
    have hjN : j < N := by have := (List.getElem?_eq_some_iff.1 hj).1; rw [hrep.1, hcl] at this; exact this
    have h1 := hcell j hjN
    have hfl : (f z).length = N := by rw [hrep.1, hcl]
    rw [hfl, h1, List.getElem?_eq_getElem (by omega)]
    rfl
   intro i el hi j c hj
   rw [List.getElem?_map, Option.map_eq_some_iff] at hi
   obtain ⟨z, hz, rfl⟩ := hi
   obtain ⟨cs', hrep, hcl, hcell⟩ := key i z hz
   have hjN : j < N := by have := (List.getElem?_eq_some_iff.1 hj).1; rw [hrep.1, hcl] at this; exact this
   have h1 := hcell j hjN
   rw [List.getElem?_eq_getElem (by omega)] at h1
   rw [h1]
   exact hrep.2 j c _ hj (List.getElem?_eq_getElem (by omega))
  simp only [Rows.uptoBulk]; omega
end
end
section
open Go Go.ChangeShapes Go.WideShapes Go.ChangeAt Go.RowKit Go.Deep
theorem Tryz.own : ownKnob Tryz.prog.godebug = none := by kernel_rfl
theorem Tryz.laidOut : laidOutB Tryz.prog = true := by kernel_rfl
section
variable {H : Type} {enc : TypeId × Value → H} {P : Program}
theorem sameAt_of {W W' : World} {p : MemPlace} (h : W'.heap[p.block]? = W.heap[p.block]?) : W.sameAt W' p := by
  cases p <;> simp_all [World.sameAt, MemPlace.block, World.cell?]
theorem trodAll_stays (hl : laidOutB P = true) {W W' : World} (hb : ∀ b, b < W.heap.size → W'.heap[b]? = W.heap[b]?) : ∀ (ts : List TypeId) (vs : List Value) (ds : List (DataW H)) (ps : List MemPlace),
    (∀ t ∈ ts, P.readableRec t = true ∧ t < P.types.size) → DataW.TrodAll enc P W 0 (fun _ => true) true ts vs ds ps → (∀ x ∈ ps, x.block < W.heap.size) →
    DataW.TrodAll enc P W' 0 (fun b => decide (b < W.heap.size)) true ts vs ds ps
  | [], vs, ds, ps, _, h, _ => by
    obtain ⟨rfl, rfl, rfl⟩ := trodAll_nil h
    exact trodAll_mk0
  | t :: ts, vs, ds, ps, hr, h, hp => by
    obtain ⟨v, vs', d, ds', p, q, rfl, rfl, rfl, h1, h2⟩ := trodAll_cons h
    have ht := hr t (.head _)
    refine ⟨p, q, ?_, trodAll_stays hl hb ts vs' ds' q (fun t' h' => hr t' (.tail _ h')) h2 (fun x hx => hp x (List.mem_append_right _ hx)), rfl⟩
    refine WideElems.Trod_stays hl ht.1 ht.2 h1 (fun x hx => ?_) (fun x hx => by simpa using hp x (List.mem_append_left _ hx))
    exact sameAt_of (hb _ (hp x (List.mem_append_left _ hx)))
theorem keptBut_of {W W' : World} (may : MemPlace → Prop) (hos : W'.os = W.os) (hout : W'.output = W.output) (hb : ∀ b, b < W.heap.size → W'.heap[b]? = W.heap[b]?) : W.keptBut W' may := by
  refine ⟨hos, hout, fun i hi => ?_⟩
  rw [hb i hi]
  rcases h : W.heap[i]? with _ | o
  ·trivial
  cases o with
  | cells c t fr => exact ⟨rfl, rfl, rfl, fun _ _ => rfl⟩
  | map es clock => exact .inr ⟨rfl, rfl⟩
  | _ => rfl
theorem post_true {f : Func} {s : ChangeSpec} {apart fresh handsOn : Bool} {W W' : World} {args : Array Value} {ds gs : List (DataW H)} {before : List MemPlace} {tb : TypeId} (hl : laidOutB P = true) (hv0 : s.vars = [])
    (hW : DataW.Whole enc P f.params.toList s.vars apart W args.toList ds gs before) (hrd : ∀ t ∈ f.params.toList, P.readableRec t = true ∧ t < P.types.size) (hres : f.resultTypes = #[tb]) (htb : P.underlying tb = some .bool)
    (hs : s.fn H (ds ++ gs) = { results := [.lit (.bool true)], args := ds }) (hos : W'.os = W.os) (hout : W'.output = W.output) (hb : ∀ b, b < W.heap.size → W'.heap[b]? = W.heap[b]?) :
    s.post enc P f apart fresh handsOn false W args (.bool true) W' := by
  have hlt := hW.lt
  have hW' := hW
  obtain ⟨p, q, hA, hV, rfl, _, _⟩ := hW
  refine ⟨ds, gs, p ++ q, [], p, [], hW', ?_, ?_, ?_, keptBut_of _ hos hout hb, fun h => by cases h⟩
  ·rw [hs, hres]
   exact trodAll_mk1 ⟨1, by simp [DataW.trod, htb, Value.cells]⟩
  ·rw [hs]
   exact trodAll_stays hl hb _ _ _ _ hrd hA (fun x hx => hlt x (List.mem_append_left _ hx))
  rw [hs, hv0]
  exact rfl
end
theorem relH_none {W : World} : RelH (fun _ => False) (fun _ => none) (look (up [])) W where
  inj _ _ _ _ _ h := by cases h
  apart _ _ _ h := by cases h
  old _ h := h.elim
  obj _ _ _ h := by cases h
  real _ _ h := by cases h
theorem call_true {P : Program} {f : FuncId} {args : List IV} {R : Nat → Prop} (hsc : SC P f args [] R (iBool true) []) {W : World} {vs : List Value} (hr : RepL (fun _ => False) (fun _ => none) (look (up [])) W args vs) :
    Calls P f vs.toArray W fun e W' => e = .returned (.bool true) ∧ W'.os = W.os ∧ W'.output = W.output ∧ ∀ b, b < W.heap.size → W'.heap[b]? = W.heap[b]? := by
  refine (hsc (fun _ => False) (fun _ => none) W vs relH_none hr).mono ?_
  rintro e W' ⟨ρ', v, rfl, hv, _, t⟩
  refine ⟨?_, t.os, t.output, fun b hb => t.blk b hb fun k c h => by cases h⟩
  cases hv with
  | pv _ _ hp => cases hp; rfl
theorem own_none {b : Nat} : ¬ owned (fun _ => False) (fun _ => none) b := by
  rintro (h | ⟨_, _, h⟩)
  ·exact h
  cases h
end
section
open Go Go.ChangeShapes Go.WideShapes Go.ChangeAt Go.RowKit Go.Deep
theorem repL_one {x : IV} {v : Value} {F : Nat → Prop} {ρ : Loc} {σ : Heap'} {w : World} (h : RepI F ρ σ w x v) : RepL F ρ σ w [x] [v] := by
  refine ⟨rfl, fun j y hj => ?_⟩
  cases j with
  | zero => simp at hj; subst hj; exact ⟨v, rfl, h⟩
  | succ j => simp at hj
end
section
open Go Go.ChangeShapes Go.WideShapes Go.ChangeAt Go.RowKit Go.Deep
section
variable {H : Type} {enc : TypeId × Value → H} {P : Program} {w : World} {base : Nat} {spare : Nat → Bool} {held : Bool}
theorem trod_bytes {own : Nat → Prop} (hown : ∀ b, b < w.heap.size → ¬ own b) {t e : TypeId} {fuel : Nat} {cs : List Value} {x : DataW H × List MemPlace} (ht : P.underlying t = some (.slice e)) (he : P.underlying e = some (.int .u8)) (hC : P.cellsOf e = 1)
    (h : DataW.trod enc P w base spare held fuel t cs = some x) : ∃ (l : List UInt8) (v : Value), cs = [v] ∧ RepP own w (bts l) v := by
  obtain ⟨l, v, h1, h2, _⟩ := trod_list eB (fun _ => 0) hown ht hC (by decide) h (fun n cs' y _ _ hy => by
    obtain ⟨k, rfl, rfl, hk⟩ := DataW.trod_int he hy
    have hr : 0 ≤ k ∧ k ≤ 255 := by
      simp [Lit.wf, IntKind.min, IntKind.max, IntKind.bits, IntKind.signed] at hk
      omega
    refine ⟨UInt8.ofNat k.toNat, ?_, by simp [Rows.uptoBulk]⟩
    have e : ((UInt8.ofNat k.toNat).toNat : Int) = k := by
      rw [UInt8.toNat_ofNat_of_lt' (by simp [UInt8.size]; omega)]
      omega
    unfold eB
    rw [e]
    exact RepEl.cons (.val _) .nil)
  exact ⟨l, v, h1, h2⟩
end
set_option maxRecDepth 100000 in
theorem open_bytes {H : Type} {enc : TypeId × Value → H} {W : World} {base b0 : Nat} {spare : Nat → Bool} {held : Bool} {r : Reach} {v : Value} {d : DataW H} {p : List MemPlace} (hv : Value.okWide Tryz.prog W r b0 29 v)
    (h : DataW.Trod enc Tryz.prog W base spare held 29 v d p) : ∃ l : List UInt8, RepI (fun _ => False) (fun _ => none) (look (up [])) W (.pv (bts l)) v := by
  obtain ⟨a, len, cap, rfl⟩ := okWide_slice Tryz.underlying29 hv
  obtain ⟨fuel, hf⟩ := h
  obtain ⟨l, v', h1, h2⟩ := trod_bytes (own := owned (fun _ => False) (fun _ => none)) (fun _ _ => own_none) Tryz.underlying29 Tryz.underlying5 (by kernel_rfl) hf
  have e : (Value.slice a len cap).cells.toList = [Value.slice a len cap] := rfl
  rw [e] at h1
  cases h1
  exact ⟨l, .pv _ _ h2⟩
set_option maxRecDepth 100000 in
theorem hoistGood_lifted (hsc : ∀ l : List UInt8, SC Tryz.prog 4 [.pv (bts l)] [] (fun _ => False) (iBool true) []) (os : Os) (started : os.Started) (H : Type) (enc : TypeId × Value → H) :
    ReturnsInHanded {} Tryz.checked os 4 .any (Rows.hoistGoodSpec.pre6 enc Tryz.prog Tryz.f4 Rows.hoistGoodRow.domain false) (Rows.hoistGoodSpec.post enc Tryz.prog Tryz.f4 false true false false) := by
  refine returnsInHanded_of_change (C := Tryz.checked) Tryz.own started (by kernel_rfl) Tryz.func4
    (ChangeSpec.witness6 (enc := enc) (C := Tryz.checked) false ⟨#[], #[.slice none 0 0], []⟩ 8 (by kernel_rfl) (by kernel_rfl) (by kernel_rfl) (by kernel_rfl)) ?_
  intro W base args ds gs before hval hW _ _
  have hW' := hW
  obtain ⟨p, q, hA0, hV, rfl, hfz, hnd⟩ := hW
  have hA : DataW.TrodAll enc Tryz.prog W 0 (fun _ => true) true Tryz.f4.params.toList args.toList ds p := hA0
  rw [Tryz.params4] at hA hval
  obtain ⟨v0, vs0, d0, ds0, p0, q0, hargs, rfl, rfl, h0, r0⟩ := trodAll_cons hA
  obtain ⟨rfl, rfl, rfl⟩ := trodAll_nil r0
  obtain rfl : args = #[v0] := by cases args; simp_all
  obtain ⟨rfl, rfl⟩ := trodVars_none hV
  obtain ⟨l, hu⟩ := open_bytes (hval 0 29 v0 rfl rfl) h0
  refine (call_true (hsc l) (repL_one hu)).mono ?_
  rintro e W' ⟨rfl, hos, hout, hbl⟩
  exact ⟨_, rfl, post_true Tryz.laidOut rfl hW' (fun t ht => by
    rw [Tryz.params4] at ht
    obtain rfl : t = 29 := by simpa using ht
    exact ⟨by kernel_rfl, of_decide_eq_true (by kernel_rfl)⟩) (by kernel_rfl) Tryz.underlying4 rfl hos hout hbl⟩
set_option maxRecDepth 100000 in
theorem hoistGood_of (hsc : ∀ l : List UInt8, SC Tryz.prog 4 [.pv (bts l)] [] (fun _ => False) (iBool true) []) : Rows.HoistGoodSaid :=
  OpenClaim.holds_of_wide 4 Tryz.f4 rfl rfl rfl rfl rfl rfl rfl ⟨rfl, rfl, rfl, rfl, rfl⟩ rfl rfl rfl rfl rfl (by kernel_rfl) Tryz.func4 (by kernel_rfl)
    (of_decide_eq_true (by kernel_rfl)) (by unfold Func.isWrapper; first | (rw [if_pos (by decide +kernel)]; kernel_rfl) | (rw [if_neg (by decide +kernel)]; exact ⟨rfl, rfl⟩))
    (fun os started H enc _ => hoistGood_lifted hsc os started H enc)
end
theorem hoistGood_holds : Rows.HoistGoodSaid := hoistGood_of fun l => sc_HoistGood l
end Go.Proofs.YtfaeemilgahcpaaGreat
