/- PART 5 of 6 of a proof: see the last part. -/
import Derived.Test.YtekdhljpmflboaaGreatTa4
set_option maxRecDepth 8000
set_option maxHeartbeats 2000000
set_option linter.unusedSimpArgs false
set_option linter.unusedVariables false
set_option linter.unusedSectionVars false
namespace Go.Proofs.YtekdhljpmflboaaGreat
open Go
theorem y3s (fq : FuncId) (ws : List IV) (pre : List (Nat × HO)) (hon : z2v (pre.map (·.1)) pre = true) (hent : z06 Tryz.prog fq) (p : Int -> Bool) (l : List Int) (h : ∀ x ∈ l, SC Tryz.prog fq ((iInt x) :: ws) pre (fun _ => True) (iBool (p x)) pre) : SC Tryz.prog 89 [.pv (ints l), .fn (.func fq) [] ws] pre (fun _ => True) (iInt (idxP p l 0)) pre := by
  refine SC.of Tryz.func89 rfl (lb rfl) fun F ρ w => ?_
  refine Tr.lenOf (t := 0) rfl (fun hl => ?_)
  simp only [List.length_map] at hl
  refine tQ <| tG <| sm 1 rfl <| nL <| tQ <| tQ <| tG <| sm 1 rfl <| cV rfl (oSm uT35 rfl) <| sm 1 rfl <| nL <| tBk ?_
  refine Tr.sub (Sub.of (fr' := [(8, iInt 0), (7, iInt l.length), (0, .pv (ints l)), (1, .fn (.func fq) [] ws)]) ⟨rfl, rfl, rfl, rfl, trivial⟩) ?_
  refine Tr.loop (fun fr σ m => ∃ (k : Nat), (k <= l.length) /\ (idxP p l 0 = idxP p (l.drop k) k) /\ fr = [(8, iInt k), (7, iInt l.length), (0, .pv (ints l)), (1, .fn (.func fq) [] ws)] /\ σ = look (up pre) /\ m = l.length - k) (n := l.length - 0) ?_ ?_
  ·exact ⟨0, Nat.zero_le _, rfl, rfl, rfl, rfl⟩
  rintro fr σ m ⟨k, hI0, hI1, rfl, rfl, rfl⟩
  refine tQ <| tG <| sm 1 rfl <| nL <| tQ ?_
  refine tC rfl (fun hc9 => ?_) fun hc9 => ?_
  ·have hlt : k < l.length := by simpa using hc9
   have hd := List.drop_eq_getElem_cons hlt
   have hm := List.getElem_mem hlt
   have hi := z0a (f := eInt) (List.getElem?_eq_getElem hlt)
   generalize l[k] = x at hd hm hi
   refine tSk <| tQ <| tBk <| tQ <| tG <| sm 2 rfl <| nL <| tQ <| tG <| sm 3 rfl <| cV rfl (iSq rfl rfl rfl uT35 hi tS3 rfl (by rfl)) <| sm 1 rfl ?_
   refine cE rfl (z6m (h x hm) hent rfl rfl rfl (sRf _ _) (fun _ _ h => h) (by rfl) (fun k (h : _) => trivial) rfl (by assumption)) <| nL ?_
   refine tC rfl (fun hc16 => ?_) fun hc16 => ?_
   ·refine tQ <| tG <| sm 2 rfl <| nL <| tRt <| rOk rfl ?_ (fun k o h => z3c rfl k o h)
    have hx : p x = true := by simpa using hc16
    rw [hI1, hd]
    simp only [idxP, hx, if_true]
   refine tSk <| tG <| cV rfl (oB rfl rfl (z03 rfl oM0)) <| sm 1 rfl <| nL ?_
   refine ⟨_, _, ?_, Sub.of (fr' := [(8, iInt (k + 1)), (7, iInt l.length), (0, .pv (ints l)), (1, .fn (.func fq) [] ws)]) ⟨rfl, rfl, rfl, rfl, trivial⟩, (k + 1), ?_, ?_, rfl, (z1w rfl), rfl⟩
   ·omega
   ·omega
   rw [hI1, hd]
   have hx : p x = false := by simpa using hc16
   simp only [idxP, hx, Bool.false_eq_true, if_false]
   rfl
  refine tEx <| tQ <| tG <| sm 1 rfl <| nL <| tRt <| rOk rfl ?_ (fun _ _ h => h)
  have hge : l.length <= k := by simpa using hc9
  rw [hI1, List.drop_eq_nil_of_le hge]
  rfl
theorem y3p (fq : FuncId) (ws : List IV) (pre : List (Nat × HO)) (hon : z2v (pre.map (·.1)) pre = true) (hent : z06 Tryz.prog fq) (p : Int -> Bool) (l : List Int) (h : ∀ x ∈ l, SC Tryz.prog fq ((iInt x) :: ws) pre (fun _ => True) (iBool (p x)) pre) : SC Tryz.prog 62 [.pv (ints l), .fn (.func fq) [] ws] pre (fun _ => True) (iBool (l.any p)) pre := by
  refine SC.of Tryz.func62 rfl (lb rfl) fun F ρ w => ?_
  refine tQ <| tG <| sm 1 rfl <| nL <| tQ <| tG <| sm 2 rfl <| cE rfl (cRr (y3s fq ws pre hon hent p l h) ent89 rfl rfl (sRf _ _) (fun _ _ h => h) (by rfl) (fun k (h : _) => .inr trivial) rfl (by assumption)) <| sm 2 rfl <| nL <| tRt <| rOk rfl ?_ (fun k o h => z3c rfl k o h)
  exact congrArg (fun b => iBool b) (z99 p l 0 (Int.le_refl 0))
theorem y16 (fq : FuncId) (ws : List IV) (pre : List (Nat × HO)) (hon : z2v (pre.map (·.1)) pre = true) (hent : z06 Tryz.prog fq) (p : Nd -> Bool) (l : List Nd) (h : ∀ x ∈ l, SC Tryz.prog fq ((.pv (ndv x)) :: ws) pre (fun _ => True) (iBool (p x)) pre) : SC Tryz.prog 111 [.pv (z09 l), .fn (.func fq) [] ws] pre (fun _ => True) (iInt (idxP p l 0)) pre := by
  refine SC.of Tryz.func111 rfl (lb rfl) fun F ρ w => ?_
  refine Tr.lenOf (t := 0) rfl (fun hl => ?_)
  simp only [List.length_map] at hl
  refine tQ <| tG <| sm 1 rfl <| nL <| tQ <| tQ <| tG <| sm 1 rfl <| cV rfl (oSm uT43 rfl) <| sm 1 rfl <| nL <| tBk ?_
  refine Tr.sub (Sub.of (fr' := [(8, iInt 0), (7, iInt l.length), (0, .pv (z09 l)), (1, .fn (.func fq) [] ws)]) ⟨rfl, rfl, rfl, rfl, trivial⟩) ?_
  refine Tr.loop (fun fr σ m => ∃ (k : Nat), (k <= l.length) /\ (idxP p l 0 = idxP p (l.drop k) k) /\ fr = [(8, iInt k), (7, iInt l.length), (0, .pv (z09 l)), (1, .fn (.func fq) [] ws)] /\ σ = look (up pre) /\ m = l.length - k) (n := l.length - 0) ?_ ?_
  ·exact ⟨0, Nat.zero_le _, rfl, rfl, rfl, rfl⟩
  rintro fr σ m ⟨k, hI0, hI1, rfl, rfl, rfl⟩
  refine tQ <| tG <| sm 1 rfl <| nL <| tQ ?_
  refine tC rfl (fun hc9 => ?_) fun hc9 => ?_
  ·have hlt : k < l.length := by simpa using hc9
   have hd := List.drop_eq_getElem_cons hlt
   have hm := List.getElem_mem hlt
   have hi := z0p (List.getElem?_eq_getElem hlt)
   generalize l[k] = x at hd hm hi
   refine tSk <| tQ <| tBk <| tQ <| tG <| sm 2 rfl <| nL <| tQ <| tG <| sm 3 rfl <| cV rfl (iSq rfl rfl rfl uT43 hi tS42 rfl (by rfl)) <| cV rfl (lEA rfl rfl uT42 rfl tS42 (lb rfl)) ?_
   refine cE rfl (z6m (h x hm) hent rfl rfl rfl (sRf _ _) (fun _ _ h => h) (by rfl) (fun k (h : _) => trivial) rfl (by assumption)) <| nL ?_
   refine tC rfl (fun hc16 => ?_) fun hc16 => ?_
   ·refine tQ <| tG <| sm 2 rfl <| nL <| tRt <| rOk rfl ?_ (fun k o h => z3c rfl k o h)
    have hx : p x = true := by simpa using hc16
    rw [hI1, hd]
    simp only [idxP, hx, if_true]
   refine tSk <| tG <| cV rfl (oB rfl rfl (z03 rfl oM0)) <| sm 1 rfl <| nL ?_
   refine ⟨_, _, ?_, Sub.of (fr' := [(8, iInt (k + 1)), (7, iInt l.length), (0, .pv (z09 l)), (1, .fn (.func fq) [] ws)]) ⟨rfl, rfl, rfl, rfl, trivial⟩, (k + 1), ?_, ?_, rfl, (z1w rfl), rfl⟩
   ·omega
   ·omega
   rw [hI1, hd]
   have hx : p x = false := by simpa using hc16
   simp only [idxP, hx, Bool.false_eq_true, if_false]
   rfl
  refine tEx <| tQ <| tG <| sm 1 rfl <| nL <| tRt <| rOk rfl ?_ (fun _ _ h => h)
  have hge : l.length <= k := by simpa using hc9
  rw [hI1, List.drop_eq_nil_of_le hge]
  rfl
theorem y14 (fq : FuncId) (ws : List IV) (pre : List (Nat × HO)) (hon : z2v (pre.map (·.1)) pre = true) (hent : z06 Tryz.prog fq) (p : Nd -> Bool) (l : List Nd) (h : ∀ x ∈ l, SC Tryz.prog fq ((.pv (ndv x)) :: ws) pre (fun _ => True) (iBool (p x)) pre) : SC Tryz.prog 94 [.pv (z09 l), .fn (.func fq) [] ws] pre (fun _ => True) (iBool (l.any p)) pre := by
  refine SC.of Tryz.func94 rfl (lb rfl) fun F ρ w => ?_
  refine tQ <| tG <| sm 1 rfl <| nL <| tQ <| tG <| sm 2 rfl <| cE rfl (cRr (y16 fq ws pre hon hent p l h) ent111 rfl rfl (sRf _ _) (fun _ _ h => h) (by rfl) (fun k (h : _) => .inr trivial) rfl (by assumption)) <| sm 2 rfl <| nL <| tRt <| rOk rfl ?_ (fun k o h => z3c rfl k o h)
  exact congrArg (fun b => iBool b) (z99 p l 0 (Int.le_refl 0))
theorem y3t (fq : FuncId) (ws : List IV) (pre : List (Nat × HO)) (hon : z2v (pre.map (·.1)) pre = true) (hent : z06 Tryz.prog fq) (p : (List Nd) -> Bool) (l : List (List Nd)) (h : ∀ x ∈ l, SC Tryz.prog fq ((.pv (z09 x)) :: ws) pre (fun _ => True) (iBool (p x)) pre) : SC Tryz.prog 112 [.pv (kids l), .fn (.func fq) [] ws] pre (fun _ => True) (iInt (idxP p l 0)) pre := by
  refine SC.of Tryz.func112 rfl (lb rfl) fun F ρ w => ?_
  refine Tr.lenOf (t := 0) rfl (fun hl => ?_)
  simp only [List.length_map] at hl
  refine tQ <| tG <| sm 1 rfl <| nL <| tQ <| tQ <| tG <| sm 1 rfl <| cV rfl (oSm uT40 rfl) <| sm 1 rfl <| nL <| tBk ?_
  refine Tr.sub (Sub.of (fr' := [(8, iInt 0), (7, iInt l.length), (0, .pv (kids l)), (1, .fn (.func fq) [] ws)]) ⟨rfl, rfl, rfl, rfl, trivial⟩) ?_
  refine Tr.loop (fun fr σ m => ∃ (k : Nat), (k <= l.length) /\ (idxP p l 0 = idxP p (l.drop k) k) /\ fr = [(8, iInt k), (7, iInt l.length), (0, .pv (kids l)), (1, .fn (.func fq) [] ws)] /\ σ = look (up pre) /\ m = l.length - k) (n := l.length - 0) ?_ ?_
  ·exact ⟨0, Nat.zero_le _, rfl, rfl, rfl, rfl⟩
  rintro fr σ m ⟨k, hI0, hI1, rfl, rfl, rfl⟩
  refine tQ <| tG <| sm 1 rfl <| nL <| tQ ?_
  refine tC rfl (fun hc9 => ?_) fun hc9 => ?_
  ·have hlt : k < l.length := by simpa using hc9
   have hd := List.drop_eq_getElem_cons hlt
   have hm := List.getElem_mem hlt
   have hi := z0a (f := eKid) (List.getElem?_eq_getElem hlt)
   generalize l[k] = x at hd hm hi
   refine tSk <| tQ <| tBk <| tQ <| tG <| sm 2 rfl <| nL <| tQ <| tG <| sm 3 rfl <| cV rfl (iSq rfl rfl rfl uT40 hi tS43 rfl (by rfl)) <| sm 1 rfl ?_
   refine cE rfl (z6m (h x hm) hent rfl rfl rfl (sRf _ _) (fun _ _ h => h) (by rfl) (fun k (h : _) => trivial) rfl (by assumption)) <| nL ?_
   refine tC rfl (fun hc16 => ?_) fun hc16 => ?_
   ·refine tQ <| tG <| sm 2 rfl <| nL <| tRt <| rOk rfl ?_ (fun k o h => z3c rfl k o h)
    have hx : p x = true := by simpa using hc16
    rw [hI1, hd]
    simp only [idxP, hx, if_true]
   refine tSk <| tG <| cV rfl (oB rfl rfl (z03 rfl oM0)) <| sm 1 rfl <| nL ?_
   refine ⟨_, _, ?_, Sub.of (fr' := [(8, iInt (k + 1)), (7, iInt l.length), (0, .pv (kids l)), (1, .fn (.func fq) [] ws)]) ⟨rfl, rfl, rfl, rfl, trivial⟩, (k + 1), ?_, ?_, rfl, (z1w rfl), rfl⟩
   ·omega
   ·omega
   rw [hI1, hd]
   have hx : p x = false := by simpa using hc16
   simp only [idxP, hx, Bool.false_eq_true, if_false]
   rfl
  refine tEx <| tQ <| tG <| sm 1 rfl <| nL <| tRt <| rOk rfl ?_ (fun _ _ h => h)
  have hge : l.length <= k := by simpa using hc9
  rw [hI1, List.drop_eq_nil_of_le hge]
  rfl
theorem y3q (fq : FuncId) (ws : List IV) (pre : List (Nat × HO)) (hon : z2v (pre.map (·.1)) pre = true) (hent : z06 Tryz.prog fq) (p : (List Nd) -> Bool) (l : List (List Nd)) (h : ∀ x ∈ l, SC Tryz.prog fq ((.pv (z09 x)) :: ws) pre (fun _ => True) (iBool (p x)) pre) : SC Tryz.prog 96 [.pv (kids l), .fn (.func fq) [] ws] pre (fun _ => True) (iBool (l.any p)) pre := by
  refine SC.of Tryz.func96 rfl (lb rfl) fun F ρ w => ?_
  refine tQ <| tG <| sm 1 rfl <| nL <| tQ <| tG <| sm 2 rfl <| cE rfl (cRr (y3t fq ws pre hon hent p l h) ent112 rfl rfl (sRf _ _) (fun _ _ h => h) (by rfl) (fun k (h : _) => .inr trivial) rfl (by assumption)) <| sm 2 rfl <| nL <| tRt <| rOk rfl ?_ (fun k o h => z3c rfl k o h)
  exact congrArg (fun b => iBool b) (z99 p l 0 (Int.le_refl 0))
theorem y3r (fq : FuncId) (ws : List IV) (pre : List (Nat × HO)) (hon : z2v (pre.map (·.1)) pre = true) (hent : z06 Tryz.prog fq) (p : Ar -> Bool) (l : List Ar) (h : ∀ x ∈ l, SC Tryz.prog fq ((.pv (.agg x.enc)) :: ws) pre (fun _ => True) (iBool (p x)) pre) : SC Tryz.prog 133 [.pv (arrs l), .fn (.func fq) [] ws] pre (fun _ => True) (iInt (idxP p l 0)) pre := by
  refine SC.of Tryz.func133 rfl (lb rfl) fun F ρ w => ?_
  refine Tr.lenOf (t := 0) rfl (fun hl => ?_)
  simp only [List.length_map] at hl
  refine tQ <| tG <| sm 1 rfl <| nL <| tQ <| tQ <| tG <| sm 1 rfl <| cV rfl (oSm uT22 rfl) <| sm 1 rfl <| nL <| tBk ?_
  refine Tr.sub (Sub.of (fr' := [(8, iInt 0), (7, iInt l.length), (0, .pv (arrs l)), (1, .fn (.func fq) [] ws)]) ⟨rfl, rfl, rfl, rfl, trivial⟩) ?_
  refine Tr.loop (fun fr σ m => ∃ (k : Nat), (k <= l.length) /\ (idxP p l 0 = idxP p (l.drop k) k) /\ fr = [(8, iInt k), (7, iInt l.length), (0, .pv (arrs l)), (1, .fn (.func fq) [] ws)] /\ σ = look (up pre) /\ m = l.length - k) (n := l.length - 0) ?_ ?_
  ·exact ⟨0, Nat.zero_le _, rfl, rfl, rfl, rfl⟩
  rintro fr σ m ⟨k, hI0, hI1, rfl, rfl, rfl⟩
  refine tQ <| tG <| sm 1 rfl <| nL <| tQ ?_
  refine tC rfl (fun hc9 => ?_) fun hc9 => ?_
  ·have hlt : k < l.length := by simpa using hc9
   have hd := List.drop_eq_getElem_cons hlt
   have hm := List.getElem_mem hlt
   have hi := z0a (f := Ar.enc) (List.getElem?_eq_getElem hlt)
   generalize l[k] = x at hd hm hi
   refine tSk <| tQ <| tBk <| tQ <| tG <| sm 2 rfl <| nL <| tQ <| tG <| sm 3 rfl <| cV rfl (iSq rfl rfl rfl uT22 hi tS49 rfl (by rfl)) <| cV rfl (lEA rfl rfl Tryz.underlying49 rfl tS49 (lb rfl)) ?_
   refine cE rfl (z6m (h x hm) hent rfl rfl rfl (sRf _ _) (fun _ _ h => h) (by rfl) (fun k (h : _) => trivial) rfl (by assumption)) <| nL ?_
   refine tC rfl (fun hc16 => ?_) fun hc16 => ?_
   ·refine tQ <| tG <| sm 2 rfl <| nL <| tRt <| rOk rfl ?_ (fun k o h => z3c rfl k o h)
    have hx : p x = true := by simpa using hc16
    rw [hI1, hd]
    simp only [idxP, hx, if_true]
   refine tSk <| tG <| cV rfl (oB rfl rfl (z03 rfl oM0)) <| sm 1 rfl <| nL ?_
   refine ⟨_, _, ?_, Sub.of (fr' := [(8, iInt (k + 1)), (7, iInt l.length), (0, .pv (arrs l)), (1, .fn (.func fq) [] ws)]) ⟨rfl, rfl, rfl, rfl, trivial⟩, (k + 1), ?_, ?_, rfl, (z1w rfl), rfl⟩
   ·omega
   ·omega
   rw [hI1, hd]
   have hx : p x = false := by simpa using hc16
   simp only [idxP, hx, Bool.false_eq_true, if_false]
   rfl
  refine tEx <| tQ <| tG <| sm 1 rfl <| nL <| tRt <| rOk rfl ?_ (fun _ _ h => h)
  have hge : l.length <= k := by simpa using hc9
  rw [hI1, List.drop_eq_nil_of_le hge]
  rfl
theorem y3o (fq : FuncId) (ws : List IV) (pre : List (Nat × HO)) (hon : z2v (pre.map (·.1)) pre = true) (hent : z06 Tryz.prog fq) (p : Ar -> Bool) (l : List Ar) (h : ∀ x ∈ l, SC Tryz.prog fq ((.pv (.agg x.enc)) :: ws) pre (fun _ => True) (iBool (p x)) pre) : SC Tryz.prog 130 [.pv (arrs l), .fn (.func fq) [] ws] pre (fun _ => True) (iBool (l.any p)) pre := by
  refine SC.of Tryz.func130 rfl (lb rfl) fun F ρ w => ?_
  refine tQ <| tG <| sm 1 rfl <| nL <| tQ <| tG <| sm 2 rfl <| cE rfl (cRr (y3r fq ws pre hon hent p l h) ent133 rfl rfl (sRf _ _) (fun _ _ h => h) (by rfl) (fun k (h : _) => .inr trivial) rfl (by assumption)) <| sm 2 rfl <| nL <| tRt <| rOk rfl ?_ (fun k o h => z3c rfl k o h)
  exact congrArg (fun b => iBool b) (z99 p l 0 (Int.le_refl 0))
theorem y15 (fq : FuncId) (ws : List IV) (pre : List (Nat × HO)) (hon : z2v (pre.map (·.1)) pre = true) (hent : z06 Tryz.prog fq) (p : Fl -> Bool) (l : List Fl) (h : ∀ x ∈ l, SC Tryz.prog fq ((.pv (.agg x.enc)) :: ws) pre (fun _ => True) (iBool (p x)) pre) : SC Tryz.prog 87 [.pv (flws l), .fn (.func fq) [] ws] pre (fun _ => True) (iInt (idxP p l 0)) pre := by
  refine SC.of Tryz.func87 rfl (lb rfl) fun F ρ w => ?_
  refine Tr.lenOf (t := 0) rfl (fun hl => ?_)
  simp only [List.length_map] at hl
  refine tQ <| tG <| sm 1 rfl <| nL <| tQ <| tQ <| tG <| sm 1 rfl <| cV rfl (oSm uT23 rfl) <| sm 1 rfl <| nL <| tBk ?_
  refine Tr.sub (Sub.of (fr' := [(8, iInt 0), (7, iInt l.length), (0, .pv (flws l)), (1, .fn (.func fq) [] ws)]) ⟨rfl, rfl, rfl, rfl, trivial⟩) ?_
  refine Tr.loop (fun fr σ m => ∃ (k : Nat), (k <= l.length) /\ (idxP p l 0 = idxP p (l.drop k) k) /\ fr = [(8, iInt k), (7, iInt l.length), (0, .pv (flws l)), (1, .fn (.func fq) [] ws)] /\ σ = look (up pre) /\ m = l.length - k) (n := l.length - 0) ?_ ?_
  ·exact ⟨0, Nat.zero_le _, rfl, rfl, rfl, rfl⟩
  rintro fr σ m ⟨k, hI0, hI1, rfl, rfl, rfl⟩
  refine tQ <| tG <| sm 1 rfl <| nL <| tQ ?_
  refine tC rfl (fun hc9 => ?_) fun hc9 => ?_
  ·have hlt : k < l.length := by simpa using hc9
   have hd := List.drop_eq_getElem_cons hlt
   have hm := List.getElem_mem hlt
   have hi := z0a (f := Fl.enc) (List.getElem?_eq_getElem hlt)
   generalize l[k] = x at hd hm hi
   refine tSk <| tQ <| tBk <| tQ <| tG <| sm 2 rfl <| nL <| tQ <| tG <| sm 3 rfl <| cV rfl (iSq rfl rfl rfl uT23 hi tS51 rfl (by rfl)) <| cV rfl (lEA rfl rfl Tryz.underlying51 rfl tS51 (lb rfl)) ?_
   refine cE rfl (z6m (h x hm) hent rfl rfl rfl (sRf _ _) (fun _ _ h => h) (by rfl) (fun k (h : _) => trivial) rfl (by assumption)) <| nL ?_
   refine tC rfl (fun hc16 => ?_) fun hc16 => ?_
   ·refine tQ <| tG <| sm 2 rfl <| nL <| tRt <| rOk rfl ?_ (fun k o h => z3c rfl k o h)
    have hx : p x = true := by simpa using hc16
    rw [hI1, hd]
    simp only [idxP, hx, if_true]
   refine tSk <| tG <| cV rfl (oB rfl rfl (z03 rfl oM0)) <| sm 1 rfl <| nL ?_
   refine ⟨_, _, ?_, Sub.of (fr' := [(8, iInt (k + 1)), (7, iInt l.length), (0, .pv (flws l)), (1, .fn (.func fq) [] ws)]) ⟨rfl, rfl, rfl, rfl, trivial⟩, (k + 1), ?_, ?_, rfl, (z1w rfl), rfl⟩
   ·omega
   ·omega
   rw [hI1, hd]
   have hx : p x = false := by simpa using hc16
   simp only [idxP, hx, Bool.false_eq_true, if_false]
   rfl
  refine tEx <| tQ <| tG <| sm 1 rfl <| nL <| tRt <| rOk rfl ?_ (fun _ _ h => h)
  have hge : l.length <= k := by simpa using hc9
  rw [hI1, List.drop_eq_nil_of_le hge]
  rfl
theorem sc_eqf (fq : FuncId) (ws : List IV) (S : Type) (H : S -> List (Nat × HO)) (ks : List Nat) (hks : ∀ s, (H s).map (·.1) = ks) (hon : ∀ s, z2v ((H s).map (·.1)) (H s) = true) (hent : z06 Tryz.prog fq) (p : S -> Int -> Int -> Bool × S) (R : Nat -> Prop) (G : S -> Prop) (hG : ∀ s x y, G s -> G (p s x y).2) (h : ∀ s x y, G s -> SC Tryz.prog fq (iInt x :: iInt y :: ws) (H s) R (iBool (p s x y).1) (H (p s x y).2)) (s : S) (hs : G s) (a b : List Int) : SC Tryz.prog 125 [.pv (ints a), .pv (ints b), .fn (.func fq) [] ws] (H s) (R) (iBool (eqf p s a b).1) (H (eqf p s a b).2) := by
  refine SC.of Tryz.func125 rfl (lb rfl) fun F ρ w => ?_
  refine Tr.lenOf (t := 0) rfl (fun hl => ?_)
  simp only [List.length_map] at hl
  refine Tr.lenOf (t := 1) rfl (fun hl2 => ?_)
  simp only [List.length_map] at hl2
  refine tQ <| tG <| sm 1 rfl <| nL <| tQ <| tQ <| tG <| sm 1 rfl <| cV rfl (oSm uT35 rfl) <| sm 1 rfl <| cV rfl (oSm uT35 rfl) <| sm 1 rfl ?_
  refine nL ?_
  refine tC rfl (fun hc14 => ?_) fun hc14 => ?_
  ·refine tQ <| tG <| sm 1 rfl <| nL <| tRt ?_
   have hne : ¬ (a.length : Int) = b.length := by simpa using hc14
   have he : eqf p s a b = (false, s) := by simp only [eqf, hne, if_false]
   rw [he]
   exact rOk rfl rfl (fun _ _ h => h)
  have hlen : a.length = b.length := by simp at hc14; omega
  have hlz : (a.length : Int) = b.length := by omega
  refine tSk <| tQ <| tQ <| tG <| sm 1 rfl <| cV rfl (oSm uT35 rfl) <| sm 1 rfl <| nL <| tBk <| Tr.sub (Sub.of (fr' := [(17, iInt 0), (16, iInt a.length), (15, .pv (ints a)), (0, .pv (ints a)), (1, .pv (ints b)), (2, .fn (.func fq) [] ws)]) ⟨rfl, rfl, rfl, rfl, rfl, rfl, trivial⟩) ?_
  refine Tr.loop (fun fr σ m => ∃ (k : Nat) (st : S), (k <= a.length) /\ (eqGo p s a b = eqGo p st (a.drop k) (b.drop k)) /\ (G st) /\ fr = [(17, iInt k), (16, iInt a.length), (15, .pv (ints a)), (0, .pv (ints a)), (1, .pv (ints b)), (2, .fn (.func fq) [] ws)] /\ σ = look (up (H st)) /\ m = a.length - k) (n := a.length - 0) ?_ ?_
  ·exact ⟨0, s, Nat.zero_le _, rfl, hs, rfl, rfl, rfl⟩
  rintro fr σ m ⟨k, st, hI0, hI1, hI2, rfl, rfl, rfl⟩
  refine tQ <| tG <| sm 1 rfl <| nL <| tQ ?_
  refine tC rfl (fun hc18 => ?_) fun hc18 => ?_
  ·have hlt : k < a.length := by simpa using hc18
   have hd := List.drop_eq_getElem_cons hlt
   have hm := List.getElem_mem hlt
   have hi := z0a (f := eInt) (List.getElem?_eq_getElem hlt)
   generalize a[k] = x at hd hm hi
   have hltw : k < b.length := by omega
   have hdw := List.drop_eq_getElem_cons hltw
   have hw := z0a (f := eInt) (List.getElem?_eq_getElem hltw)
   generalize b[k] = y at hdw hw
   have hdom := (hks st).trans (hks (p st x y).2).symm
   have hon2 := hon (p st x y).2
   refine tSk <| tQ <| tBk <| tQ <| tG <| sm 1 rfl <| cV rfl (iSq rfl rfl rfl uT35 hi tS3 rfl (by rfl)) <| sm 3 rfl <| nL <| tQ <| tG <| sm 2 rfl ?_
   refine cV rfl (iSq rfl rfl rfl uT35 hw tS3 rfl (by rfl)) <| sm 2 rfl <| nL <| tQ <| tG <| sm 3 rfl <| cE rfl (z6m (h st x y hI2) hent rfl rfl rfl (sRf _ _) (fun _ _ h => h) (by assumption) (fun k (h : _) => h) rfl (by assumption)) <| sm 1 rfl <| nL ?_
   refine tC rfl (fun hc30 => ?_) fun hc30 => ?_
   ·refine tQ <| tG <| sm 1 rfl <| nL <| tRt ?_
    have hx : (p st x y).1 = false := by simpa using hc30
    have he : eqf p s a b = (false, (p st x y).2) := by simp only [eqf, hlz, if_true, hI1, hd, hdw, eqGo, hx, Bool.false_eq_true, if_false]
    rw [he]
    exact rOk rfl rfl (fun k o h => z3c ((hks _).trans (hks _).symm) k o h)
   refine tSk <| tG <| cV rfl (oB rfl rfl (z03 rfl oM0)) <| sm 1 rfl <| nL ?_
   refine ⟨_, _, ?_, Sub.of (fr' := [(17, iInt (k + 1)), (16, iInt a.length), (15, .pv (ints a)), (0, .pv (ints a)), (1, .pv (ints b)), (2, .fn (.func fq) [] ws)]) ⟨rfl, rfl, rfl, rfl, rfl, rfl, trivial⟩, (k + 1), (p st x y).2, ?_, ?_, ?_, rfl, (z1w ((hks _).trans (hks _).symm)), rfl⟩
   ·omega
   ·omega
   ·rw [hI1, hd, hdw]
    have hx : (p st x y).1 = true := by simpa using hc30
    simp only [eqGo, hx, if_true]
   exact hG _ _ _ hI2
  refine tEx <| tQ <| tG <| sm 1 rfl <| nL <| tRt ?_
  have hge : a.length <= k := by simpa using hc18
  have he : eqf p s a b = (true, st) := by simp only [eqf, hlz, if_true, hI1, List.drop_eq_nil_of_le hge, eqGo]
  rw [he]
  exact rOk rfl rfl (fun _ _ h => h)
theorem y6c (t : Int) : SC Tryz.prog 60 [iInt t] [] (fun _ => False) (iBool (isTy t)) [] := by
  refine SC.of Tryz.func60 rfl (lb rfl) fun F ρ w => ?_
  refine tQ <| tG <| sm 1 rfl <| nL <| tQ <| tG <| sm 3 rfl ?_
  refine wS 5 rfl (fun hb5 => ?_) fun hb5 => ?_
  ·refine sm 4 rfl <| nL <| tRt <| rOk rfl ?_ nPo
   simp_all [isTy]
  refine sm 4 rfl <| nL <| tRt <| rOk rfl ?_ nPo
  simp_all [isTy]
theorem sc_flow1 (t : Int) : SC Tryz.prog 63 [iInt t] [] (fun _ => False) (iBool (!isTy t)) [] := by
  refine SC.of Tryz.func63 rfl (lb rfl) fun F ρ w => ?_
  refine tQ <| tG <| sm 1 rfl <| nL <| tQ <| tG <| sm 1 rfl <| cE rfl (ocq (y6c _) ent60 rfl rfl) <| sm 2 rfl <| nL <| tRt <| rOk rfl ?_ nPo
  rfl
theorem z7r (x : Nd) : SC Tryz.prog 70 [.pv (ndv x)] [] (fun _ => False) (iBool (z16 x.kind)) [] := by
  refine SC.of Tryz.func70 rfl (lb rfl) fun F ρ w => ?_
  refine tQ <| tG <| cE rfl (z1c rfl rfl) <| sm 1 rfl <| nL <| tQ <| tG <| sm 4 rfl ?_
  refine wS 6 rfl (fun hb6 => ?_) fun hb6 => ?_
  ·refine sm 5 rfl <| nL <| tRt <| rOk rfl ?_ nPo
   unfold z16
   simp_all <;> omega
  refine sm 5 rfl <| nL <| tRt <| rOk rfl ?_ nPo
  unfold z16
  simp_all <;> omega
theorem zj8 (l : List Nd) : SC Tryz.prog 68 [.pv (z09 l)] [] (fun _ => False) (iBool (ze3 l)) [] := by
  refine SC.of Tryz.func68 rfl (lb rfl) fun F ρ w => ?_
  refine Tr.lenOf (t := 0) rfl (fun hl => ?_)
  simp only [List.length_map] at hl
  refine tQ <| tG <| sm 1 rfl <| nL <| tQ <| tG <| sm 1 rfl <| cV rfl (oSm uT43 rfl) <| sm 2 rfl ?_
  refine wS 6 rfl (fun hb6 => ?_) fun hb6 => ?_
  ·have hpos : 0 < l.length := by simp at hb6; omega
   have hlt : l.length - 1 < l.length := by omega
   have hi := z0p (List.getElem?_eq_getElem hlt)
   have hlast : l.getLast? = some l[l.length - 1] := by rw [List.getLast?_eq_getElem?]; exact List.getElem?_eq_getElem hlt
   generalize l[l.length - 1] = x at hi hlast
   have hsub : (l.length : Int) - 1 = ((l.length - 1 : Nat) : Int) := by omega
   refine sm 2 rfl <| yV rfl rfl (oSm uT43 rfl) <| yV rfl rfl (oB rfl rfl (z63 rfl oM0)) <| WL.sub (Sub.of (fr' := [(10, iInt ((l.length - 1 : Nat) : Int)), (7, .pv (z09 l)), (6, iBool true)]) ⟨by rw [<- hsub]; rfl, rfl, rfl, trivial⟩) <| yV rfl rfl (iSq rfl rfl rfl uT43 (by assumption) tS42 rfl (by rfl)) <| sm 5 rfl <| nL <| tRt <| rOk rfl ?_ nPo
   refine congrArg (fun b => iBool b) ?_
   simp [ze3, hlast]
  refine sm 10 rfl <| nL <| tRt <| rOk rfl ?_ nPo
  refine congrArg (fun b => iBool b) ?_
  (have h0 : l = [] := by cases l <;> simp_all <;> omega
   subst h0; rfl)
theorem zy8 (op : Int) : SC Tryz.prog 128 [iInt op] [] (fun _ => False) (.tup [iInt (z05 op).1, iInt (z05 op).2]) [] := by
  refine SC.of Tryz.func128 rfl (lb rfl) fun F ρ w => ?_
  refine tQ <| tG <| sm 2 rfl <| nL <| tQ <| tQ <| tG <| sm 1 rfl <| nL <| tBk <| tQ <| tG ?_
  refine sm 2 rfl <| nL ?_
  refine tC rfl (fun hc5 => ?_) fun hc5 => ?_
  ·refine tQ <| tG <| sm 2 rfl <| nL <| tRt <| rOk rfl ?_ nPo
   first | (simp_all [z05]; done) | (simp_all [z05]; split <;> first | omega | (simp; done))
  refine tQ <| tQ <| tG <| sm 2 rfl <| nL ?_
  refine tC rfl (fun hc7 => ?_) fun hc7 => ?_
  ·refine tSk ?_
   refine tC rfl (fun hc7 => ?_) fun hc7 => ?_
   ·refine tQ <| tG <| sm 2 rfl <| nL <| tRt <| rOk rfl ?_ nPo
    first | (simp_all [z05]; done) | (simp_all [z05]; split <;> first | omega | (simp; done))
   refine tQ <| tQ <| tG <| sm 2 rfl <| nL ?_
   refine tC rfl (fun hc10 => ?_) fun hc10 => ?_
   ·refine tSk ?_
    refine tC rfl (fun hc10 => ?_) fun hc10 => ?_
    ·refine tQ <| tG <| sm 2 rfl <| nL <| tRt <| rOk rfl ?_ nPo
     first | (simp_all [z05]; done) | (simp_all [z05]; split <;> first | omega | (simp; done))
    refine tSk <| tQ <| tG <| sm 2 rfl <| nL <| tRt <| rOk rfl ?_ nPo
    first | (simp_all [z05]; done) | (simp_all [z05]; split <;> first | omega | (simp; done))
   refine tQ <| tG <| sm 2 rfl <| nL ?_
   refine tC rfl (fun hc10 => ?_) fun hc10 => ?_
   ·refine tSk ?_
    refine tC rfl (fun hc10 => ?_) fun hc10 => ?_
    ·refine tQ <| tG <| sm 2 rfl <| nL <| tRt <| rOk rfl ?_ nPo
     first | (simp_all [z05]; done) | (simp_all [z05]; split <;> first | omega | (simp; done))
    refine tSk <| tQ <| tG <| sm 2 rfl <| nL <| tRt <| rOk rfl ?_ nPo
    first | (simp_all [z05]; done) | (simp_all [z05]; split <;> first | omega | (simp; done))
   refine tQ <| tG <| sm 2 rfl <| nL ?_
   refine tC rfl (fun hc10 => ?_) fun hc10 => ?_
   ·refine tSk ?_
    refine tC rfl (fun hc10 => ?_) fun hc10 => ?_
    ·refine tQ <| tG <| sm 2 rfl <| nL <| tRt <| rOk rfl ?_ nPo
     first | (simp_all [z05]; done) | (simp_all [z05]; split <;> first | omega | (simp; done))
    refine tSk <| tQ <| tG <| sm 2 rfl <| nL <| tRt <| rOk rfl ?_ nPo
    first | (simp_all [z05]; done) | (simp_all [z05]; split <;> first | omega | (simp; done))
   refine tG <| sm 2 rfl <| nL ?_
   refine tC rfl (fun hc10 => ?_) fun hc10 => ?_
   ·refine tQ <| tG <| sm 2 rfl <| nL <| tRt <| rOk rfl ?_ nPo
    first | (simp_all [z05]; done) | (simp_all [z05]; split <;> first | omega | (simp; done))
   refine tSk <| tQ <| tG <| sm 2 rfl <| nL <| tRt <| rOk rfl ?_ nPo
   first | (simp_all [z05]; done) | (simp_all [z05]; split <;> first | omega | (simp; done))
  refine tG <| sm 2 rfl <| nL ?_
  refine tC rfl (fun hc7 => ?_) fun hc7 => ?_
  ·refine tQ <| tG <| sm 2 rfl <| nL <| tRt <| rOk rfl ?_ nPo
   first | (simp_all [z05]; done) | (simp_all [z05]; split <;> first | omega | (simp; done))
  refine tQ <| tQ <| tG <| sm 2 rfl <| nL ?_
  refine tC rfl (fun hc10 => ?_) fun hc10 => ?_
  ·refine tSk ?_
   refine tC rfl (fun hc10 => ?_) fun hc10 => ?_
   ·refine tQ <| tG <| sm 2 rfl <| nL <| tRt <| rOk rfl ?_ nPo
    first | (simp_all [z05]; done) | (simp_all [z05]; split <;> first | omega | (simp; done))
   refine tSk <| tQ <| tG <| sm 2 rfl <| nL <| tRt <| rOk rfl ?_ nPo
   first | (simp_all [z05]; done) | (simp_all [z05]; split <;> first | omega | (simp; done))
  refine tQ <| tG <| sm 2 rfl <| nL ?_
  refine tC rfl (fun hc10 => ?_) fun hc10 => ?_
  ·refine tSk ?_
   refine tC rfl (fun hc10 => ?_) fun hc10 => ?_
   ·refine tQ <| tG <| sm 2 rfl <| nL <| tRt <| rOk rfl ?_ nPo
    first | (simp_all [z05]; done) | (simp_all [z05]; split <;> first | omega | (simp; done))
   refine tSk <| tQ <| tG <| sm 2 rfl <| nL <| tRt <| rOk rfl ?_ nPo
   first | (simp_all [z05]; done) | (simp_all [z05]; split <;> first | omega | (simp; done))
  refine tQ <| tG <| sm 2 rfl <| nL ?_
  refine tC rfl (fun hc10 => ?_) fun hc10 => ?_
  ·refine tSk ?_
   refine tC rfl (fun hc10 => ?_) fun hc10 => ?_
   ·refine tQ <| tG <| sm 2 rfl <| nL <| tRt <| rOk rfl ?_ nPo
    first | (simp_all [z05]; done) | (simp_all [z05]; split <;> first | omega | (simp; done))
   refine tSk <| tQ <| tG <| sm 2 rfl <| nL <| tRt <| rOk rfl ?_ nPo
   first | (simp_all [z05]; done) | (simp_all [z05]; split <;> first | omega | (simp; done))
  refine tG <| sm 2 rfl <| nL ?_
  refine tC rfl (fun hc10 => ?_) fun hc10 => ?_
  ·refine tQ <| tG <| sm 2 rfl <| nL <| tRt <| rOk rfl ?_ nPo
   first | (simp_all [z05]; done) | (simp_all [z05]; split <;> first | omega | (simp; done))
  refine tSk <| tQ <| tG <| sm 2 rfl <| nL <| tRt <| rOk rfl ?_ nPo
  first | (simp_all [z05]; done) | (simp_all [z05]; split <;> first | omega | (simp; done))
theorem zy7 (x : Nd) (ih : ∀ q ∈ x.kids, SC Tryz.prog 69 [.pv (z09 q)] [] (fun _ => False) (iBool (z1g q)) []) : SC Tryz.prog 95 [.pv (ndv x)] [] (fun _ => False) (iBool (z4h x)) [] := by
  refine SC.of Tryz.func95 rfl (lb rfl) fun F ρ w => ?_
  refine tQ <| tG <| cE rfl (z1c rfl rfl) <| sm 1 rfl <| nL <| tQ <| tG <| sm 4 rfl ?_
  refine wS 6 rfl (fun hb6 => ?_) fun hb6 => ?_
  ·refine sm 4 rfl <| nUu rfl rfl rfl rfl rfl rfl <| nUu rfl rfl rfl rfl rfl rfl <| nUu rfl rfl rfl rfl rfl rfl <| sm 3 rfl <| nL <| tRt <| rOk rfl ?_ nPo
   rw [z4i, z4w]
   simp_all
  refine sm 4 rfl ?_
  refine wS 10 rfl (fun hb10 => ?_) fun hb10 => ?_
  ·refine sm 2 rfl <| WL.yes rfl rfl rfl rfl rfl rfl (z1f (y3q 69 [] [] rfl ent69 z1g x.kids (fun q hq => (ih q hq).anyR)) ent96 rfl rfl (sSm rfl (Subs.cons (fun _ _ _ _ h => zs0 h) Subs.nil)) rfl) <| sm 3 rfl <| nL <| tRt <| rOk rfl ?_ nPo
   rw [z4i, z4w]
   simp_all
  refine sm 6 rfl <| nL <| tRt <| rOk rfl ?_ nPo
  rw [z4i, z4w]
  simp_all
theorem zj7 (N : Nat) : ∀ (l : List Nd), SizeOf.sizeOf l < N -> SC Tryz.prog 69 [.pv (z09 l)] [] (fun _ => False) (iBool (z1g l)) [] := by
  induction N with
  | zero => intro l hN; exact absurd hN (Nat.not_lt_zero _)
  | succ N ih =>
    intro l hN
    refine SC.of Tryz.func69 rfl (lb rfl) fun F ρ w => ?_
    refine tQ <| tG <| sm 1 rfl <| nL <| tQ <| tG <| sm 1 rfl <| cE rfl (z1f (y14 95 [] [] rfl ent95 z4h l (fun x hm => (zy7 x (fun q hq => ih q (Nat.lt_of_lt_of_le (z4s hm rfl hq) (Nat.le_of_lt_succ hN)))).anyR)) ent94 rfl rfl (sSm rfl (Subs.cons (fun _ _ _ _ h => zs0 h) Subs.nil)) rfl) <| sm 1 rfl <| nL <| tRt <| rOk rfl ?_ nPo
    rw [zc4]
theorem zj6 (l : List Nd) : SC Tryz.prog 69 [.pv (z09 l)] [] (fun _ => False) (iBool (z1g l)) [] := zj7 _ l (Nat.lt_succ_self _)
theorem z5h (x : Nd) : SC Tryz.prog 42 [.pv (ndv x)] [] (fun _ => False) (iBool (z04 x)) [] := by
  refine SC.of Tryz.func42 rfl (lb rfl) fun F ρ w => ?_
  refine tQ <| tG <| cE rfl (z1c rfl rfl) <| sm 1 rfl <| nL <| tQ <| tBk <| tQ <| tG <| sm 4 rfl ?_
  refine wS 7 rfl (fun hb7 => ?_) fun hb7 => ?_
  ·refine sm 2 rfl <| yV rfl rfl (oSm uT40 rfl) <| sm 3 rfl <| nL ?_
   refine tC rfl (fun hc3 => ?_) fun hc3 => ?_
   ·have hl : x.kids.length = 2 := by first | (simp_all; done) | (simp_all; omega)
    have h10 : x.kind = 10 := by simp_all
    have hi0 : (x.kids.map eKid)[0]? = some [z09 (kid0 x.kids)] := by rw [List.getElem?_map]; simp [kid0, eKid, hl]
    have hi1 : (x.kids.map eKid)[1]? = some [z09 (kid1 x.kids)] := by rw [List.getElem?_map]; simp [kid1, eKid, hl]
    refine tQ <| tG <| sm 2 rfl <| cV rfl (iSq rfl rfl rfl uT40 hi0 tS43 rfl (by rfl)) <| sm 1 rfl <| cE rfl (ocq (zj8 _) ent68 rfl rfl) <| sm 2 rfl ?_
    refine wS 19 rfl (fun hb19 => ?_) fun hb19 => ?_
    ·refine sm 2 rfl <| yV rfl rfl (iSq rfl rfl rfl uT40 hi1 tS43 rfl (by rfl)) <| sm 1 rfl <| WL.yes rfl rfl rfl rfl rfl rfl (z1f (zj8 _) ent68 rfl rfl (sRf _ _) rfl) <| sm 3 rfl <| nL <| tRt <| rOk rfl ?_ nPo
     simp_all [z04, z33]
    refine sm 8 rfl <| nL <| tRt <| rOk rfl ?_ nPo
    simp_all [z04, z33]
   refine tQ <| tG <| sm 4 rfl ?_
   refine wS 31 rfl (fun hb31 => ?_) fun hb31 => ?_
   ·refine sm 2 rfl <| yV rfl rfl (oSm uT40 rfl) <| sm 3 rfl <| nL ?_
    refine tC rfl (fun hc27 => ?_) fun hc27 => ?_
    ·have hl : x.kids.length = 1 := by first | (simp_all; done) | (simp_all; omega)
     have h11 : x.kind = 11 := by simp_all
     have hi0 : (x.kids.map eKid)[0]? = some [z09 (kid0 x.kids)] := by rw [List.getElem?_map]; simp [kid0, eKid, hl]
     refine tQ <| tG <| sm 2 rfl <| cV rfl (iSq rfl rfl rfl uT40 hi0 tS43 rfl (by rfl)) <| sm 1 rfl <| cE rfl (ocq (zj6 _) ent69 rfl rfl) <| sm 2 rfl <| nL <| tRt <| rOk rfl ?_ nPo
     simp_all [z04, z33]
    refine tSk <| tQ <| tG <| cV rfl (lEA rfl rfl uT42 rfl tS42 (lb rfl)) <| cE rfl (ocq (z7r x) y52 rfl rfl) <| sm 1 rfl <| nL <| tRt <| rOk rfl ?_ nPo
    simp_all [z04, z33]
   refine sm 6 rfl <| nL <| Tr.condF rfl <| tSk <| tQ <| tG <| cV rfl (lEA rfl rfl uT42 rfl tS42 (lb rfl)) <| cE rfl (ocq (z7r x) y52 rfl rfl) <| sm 1 rfl <| nL <| tRt <| rOk rfl ?_ nPo
   simp_all [z04, z33]
  refine sm 6 rfl <| nL <| Tr.condF rfl <| tQ <| tG <| sm 4 rfl ?_
  refine wS 31 rfl (fun hb31 => ?_) fun hb31 => ?_
  ·refine sm 2 rfl <| yV rfl rfl (oSm uT40 rfl) <| sm 3 rfl <| nL ?_
   refine tC rfl (fun hc27 => ?_) fun hc27 => ?_
   ·have hl : x.kids.length = 1 := by first | (simp_all; done) | (simp_all; omega)
    have h11 : x.kind = 11 := by simp_all
    have hi0 : (x.kids.map eKid)[0]? = some [z09 (kid0 x.kids)] := by rw [List.getElem?_map]; simp [kid0, eKid, hl]
    refine tQ <| tG <| sm 2 rfl <| cV rfl (iSq rfl rfl rfl uT40 hi0 tS43 rfl (by rfl)) <| sm 1 rfl <| cE rfl (ocq (zj6 _) ent69 rfl rfl) <| sm 2 rfl <| nL <| tRt <| rOk rfl ?_ nPo
    simp_all [z04, z33]
   refine tSk <| tQ <| tG <| cV rfl (lEA rfl rfl uT42 rfl tS42 (lb rfl)) <| cE rfl (ocq (z7r x) y52 rfl rfl) <| sm 1 rfl <| nL <| tRt <| rOk rfl ?_ nPo
   simp_all [z04, z33]
  refine sm 6 rfl <| nL <| Tr.condF rfl <| tSk <| tQ <| tG <| cV rfl (lEA rfl rfl uT42 rfl tS42 (lb rfl)) <| cE rfl (ocq (z7r x) y52 rfl rfl) <| sm 1 rfl <| nL <| tRt <| rOk rfl ?_ nPo
  simp_all [z04, z33]
theorem y1a (x : Fl) (s : ByteArray) : SC Tryz.prog 88 [.pv (.agg x.enc), .pv (.ept [vStr s] 0)] [] (fun _ => False) (iBool (x.name.toList == s.toList)) [] := by
  refine SC.of Tryz.func88 rfl (lb rfl) fun F ρ w => ?_
  refine tQ <| tG <| cE rfl (z1c rfl rfl) <| sm 1 rfl <| nL <| tQ <| tG <| sm 3 rfl <| cV rfl (bSt rfl rfl rfl rfl) <| sm 1 rfl <| nL <| tRt <| rOk rfl ?_ nPo
  rfl
theorem zb1 (u : Un) (s : ByteArray) : SC Tryz.prog 61 [.pv u.enc, iStr s] [] (fun _ => False) (iInt (z07 s u.flows 0)) [] := by
  refine SC.of Tryz.func61 rfl (lb rfl) fun F ρ w => ?_
  refine tQ <| tG <| cE rfl (z1c rfl rfl) <| cE rfl (y0u rfl rfl rfl) <| sm 1 rfl <| nL <| tQ <| tG <| sm 2 rfl <| cV rfl (z5a rfl rfl rfl) <| cE rfl (ocq (y15 88 [.pv (.ept [vStr s] 0)] [] rfl ent88 (fun f : Fl => f.name.toList == s.toList) u.flows (fun x hm => (y1a x s).anyR)) ent87 rfl rfl) <| sm 1 rfl ?_
  refine nL <| tRt <| rOk rfl ?_ nPo
  rw [zn2]
theorem y6l (x : Ar) (s : ByteArray) : SC Tryz.prog 131 [.pv (.agg x.enc), .pv (.ept [vStr s] 0)] [] (fun _ => False) (iBool (x.name.toList == s.toList)) [] := by
  refine SC.of Tryz.func131 rfl (lb rfl) fun F ρ w => ?_
  refine tQ <| tG <| cE rfl (z1c rfl rfl) <| sm 1 rfl <| nL <| tQ <| tG <| sm 3 rfl <| cV rfl (bSt rfl rfl rfl rfl) <| sm 1 rfl <| nL <| tRt <| rOk rfl ?_ nPo
  rfl
theorem ze2 (u : Un) (s : ByteArray) : SC Tryz.prog 123 [.pv u.enc, iStr s] [] (fun _ => False) (iBool (decide (z1p s u.arrays 0 ≥ 0))) [] := by
  refine SC.of Tryz.func123 rfl (lb rfl) fun F ρ w => ?_
  refine tQ <| tG <| cE rfl (z1c rfl rfl) <| cE rfl (y0u rfl rfl rfl) <| sm 1 rfl <| nL <| tQ <| tG <| sm 2 rfl <| cV rfl (z5a rfl rfl rfl) <| cE rfl (ocq (y3o 131 [.pv (.ept [vStr s] 0)] [] rfl ent131 (fun f : Ar => f.name.toList == s.toList) u.arrays (fun x hm => (y6l x s).anyR)) ent130 rfl rfl) <| sm 1 rfl ?_
  refine nL <| tRt <| rOk rfl ?_ nPo
  rw [zi3 _ _ _ (Int.le_refl 0)]
theorem zr4 (u : Un) (f : Fl) (st : List Int) (v t : Int) : SC Tryz.prog 124 [.ptr 3 0, iInt v, iInt t] (ckS u f 3 st) (fun _ => True) (iBool (z5u f.types v t)) (ckS u f 3 st) := by
  refine SC.of Tryz.func124 rfl (lb rfl) fun F ρ w => ?_
  refine tQ <| tG <| sm 1 rfl <| nL <| tQ <| tG <| sm 3 rfl ?_
  refine wS 9 rfl (fun hb9 => ?_) fun hb9 => ?_
  ·refine sm 2 rfl <| yV rfl rfl (nCk rfl rfl rfl) <| sm 3 rfl <| yV rfl rfl (oSm uT35 rfl) <| sm 3 rfl ?_
   refine wS 19 rfl (fun hb19 => ?_) fun hb19 => ?_
   ·refine sm 3 rfl ?_
    refine wS 22 rfl (fun hb22 => ?_) fun hb22 => ?_
    ·refine sm 13 rfl <| nL <| tRt <| rOk rfl ?_ (fun _ _ h => h)
     refine congrArg (fun b => iBool b) ?_
     try clear hvx
     simp_all [z5u]
    have hv0 : v.toNat < f.types.length := by simp at hb9 hb19; omega
    have hvx : v = ((v.toNat : Nat) : Int) := by simp at hb9; omega
    have hty : (f.types.map eInt)[v.toNat]? = some [vInt (f.types.getD v.toNat 0)] := by rw [List.getElem?_map]; simp [eInt, List.getD, hv0]
    refine sm 1 rfl <| yV rfl rfl (nCk rfl rfl rfl) <| sm 4 rfl <| yV rfl rfl (iSq rfl rfl rfl uT35 hty tS3 rfl oM0) <| sm 6 rfl <| nL <| tRt <| rOk rfl ?_ (fun _ _ h => h)
    refine congrArg (fun b => iBool b) ?_
    try clear hvx
    simp_all [z5u]
   refine sm 3 rfl <| nUu rfl rfl rfl rfl rfl rfl <| nUu rfl rfl rfl rfl rfl rfl <| nUu rfl rfl rfl rfl rfl rfl <| nUu rfl rfl rfl rfl rfl rfl <| nUu rfl rfl rfl rfl rfl rfl <| nUu rfl rfl rfl rfl rfl rfl <| nUu rfl rfl rfl rfl rfl rfl <| nUu rfl rfl rfl rfl rfl rfl <| nUu rfl rfl rfl rfl rfl rfl <| nUu rfl rfl rfl rfl rfl rfl <| sm 3 rfl ?_
   refine nL <| tRt <| rOk rfl ?_ (fun _ _ h => h)
   refine congrArg (fun b => iBool b) ?_
   try clear hvx
   (simp_all [z5u] <;> omega)
  refine sm 13 rfl <| nUu rfl rfl rfl rfl rfl rfl <| nUu rfl rfl rfl rfl rfl rfl <| nUu rfl rfl rfl rfl rfl rfl <| nUu rfl rfl rfl rfl rfl rfl <| nUu rfl rfl rfl rfl rfl rfl <| nUu rfl rfl rfl rfl rfl rfl <| nUu rfl rfl rfl rfl rfl rfl <| nUu rfl rfl rfl rfl rfl rfl <| nUu rfl rfl rfl rfl rfl rfl <| nUu rfl rfl rfl rfl rfl rfl <| sm 3 rfl ?_
  refine nL <| tRt <| rOk rfl ?_ (fun _ _ h => h)
  refine congrArg (fun b => iBool b) ?_
  try clear hvx
  (simp_all [z5u] <;> omega)
theorem y6r (u : Un) (f : Fl) (st : List Int) (hs : st.length = f.types.length) (v t : Int) : SC Tryz.prog 126 [iInt v, iInt t, .ptr 5 0] (ckSp u f 3 5 st) (fun _ => True) (iBool (zb3 f.types st v t).1) (ckSp u f 3 5 st) := by
  refine SC.of Tryz.func126 rfl (lb rfl) fun F ρ w => ?_
  refine tQ <| tG <| sm 1 rfl <| nL <| tQ <| tG <| sm 3 rfl <| cE rfl (ocr (zr4 u f st v t) y51 rfl (po2 rfl rfl) rfl (fun k (h : _) => .inr trivial) rfl rfl) <| sm 1 rfl ?_
  refine wS 10 rfl (fun hb10 => ?_) fun hb10 => ?_
  ·have hrg : 0 <= v /\ v < f.types.length := by
     have hvv : z5u f.types v t = true := by simpa using hb10
     simp only [z5u, Bool.and_eq_true, decide_eq_true_eq] at hvv
     exact ⟨hvv.1.1, hvv.1.2⟩
   have hv0 : v.toNat < f.types.length := by omega
   have hvx : v = ((v.toNat : Nat) : Int) := by omega
   have hst : (st.map eInt)[v.toNat]? = some [vInt (st.getD v.toNat 0)] := by rw [List.getElem?_map]; simp [eInt, List.getD, hs, hv0]
   have hstl : v.toNat < (st.map eInt).length := by simpa [hs] using hv0
   refine sm 1 rfl <| yV rfl rfl (nCk rfl rfl rfl) <| sm 3 rfl <| yV rfl rfl (iRw rfl rfl rfl rfl rfl uT35 tS3 (by assumption) oM0) <| yV rfl rfl (lRw rfl rfl rfl rfl (Nat.add_zero _).symm (by assumption) rfl uT3 rfl trivial) <| sm 3 rfl <| nL <| tRt <| rOk rfl ?_ (z20 (And.intro rfl (And.intro rfl (And.intro rfl (trivial)))))
   refine congrArg (fun b => iBool b) ?_
   try clear hvx
   simp_all [zb3]
  refine sm 10 rfl <| nL <| tRt <| rOk rfl ?_ (z20 (And.intro rfl (And.intro rfl (And.intro rfl (trivial)))))
  refine congrArg (fun b => iBool b) ?_
  try clear hvx
  simp_all [zb3]
theorem z1e (u : Un) (f : Fl) (st : List Int) (hs : st.length = f.types.length) (l want : List Int) : SC Tryz.prog 119 [.ptr 3 0, .pv (ints l), .pv (ints want)] (ckS u f 3 st) (fun _ => True) (iBool (z0y f.types st l want)) (ckS u f 3 st) := by
  refine SC.of Tryz.func119 rfl (lb rfl) fun F ρ w => ?_
  refine tQ <| tG <| cE rfl (za3 (k := 5) rfl rfl ⟨_, rfl⟩ rfl rfl rfl rfl rfl) <| sm 1 rfl <| nL <| tQ <| tG <| sm 2 rfl <| cV rfl (z5a rfl rfl rfl) <| cE rfl (ocr (sc_eqf 126 [.ptr 5 0] (List Int) (fun s => ckSp u f 3 5 s) [5, 3, 4] (fun _ => rfl) (fun _ => rfl) ent126 (zb3 f.types) (fun _ => True) (fun s => s.length = f.types.length) (fun s x y h => h) (fun s x y h => y6r u f s h x y) st hs l want) ent125 rfl (po3 rfl rfl rfl) rfl (fun k (h : _) => .inr trivial) rfl rfl) <| sm 1 rfl <| nL ?_
  refine tRt ?_
  have h2 := y42 f.types st l want
  rw [h2]
  exact rOk rfl rfl (po2 rfl rfl)
theorem y6q (u : Un) (f : Fl) (st : List Int) (hs : st.length = f.types.length) (v t : Int) : SC Tryz.prog 127 [iInt v, iInt t, .ptr 5 0] (ckSp u f 3 5 st) (fun k => k = 3 ∨ k = 5) (iBool (z32 f.types st v t).1) (ckSp u f 3 5 (z32 f.types st v t).2) := by
  refine SC.of Tryz.func127 rfl (lb rfl) fun F ρ w => ?_
  refine tQ <| tG <| sm 1 rfl <| nL <| tQ <| tQ <| tG <| sm 3 rfl <| cE rfl (ocr (zr4 u f st v t) y51 rfl (po2 rfl rfl) rfl (fun k (h : _) => .inr trivial) rfl rfl) <| sm 2 rfl ?_
  refine wS 11 rfl (fun hb11 => ?_) fun hb11 => ?_
  ·refine sm 9 rfl <| nL <| Tr.condT rfl <| tQ <| tG <| sm 1 rfl <| nL <| tRt ?_
   have h2 : z32 f.types st v t = (false, st) := by
     try clear hvx
     simp_all [z32]
   rw [h2]
   exact rOk rfl rfl (po3 rfl rfl rfl)
  have hrg : 0 <= v /\ v < f.types.length := by
    have hvv : z5u f.types v t = true := by simpa using hb11
    simp only [z5u, Bool.and_eq_true, decide_eq_true_eq] at hvv
    exact ⟨hvv.1.1, hvv.1.2⟩
  have hv0 : v.toNat < f.types.length := by omega
  have hvx : v = ((v.toNat : Nat) : Int) := by omega
  have hst : (st.map eInt)[v.toNat]? = some [vInt (st.getD v.toNat 0)] := by rw [List.getElem?_map]; simp [eInt, List.getD, hs, hv0]
  have hstl : v.toNat < (st.map eInt).length := by simpa [hs] using hv0
  refine sm 1 rfl <| yV rfl rfl (nCk rfl rfl rfl) <| sm 3 rfl <| yV rfl rfl (iRw rfl rfl rfl rfl rfl uT35 tS3 (by assumption) oM0) <| yV rfl rfl (lRw rfl rfl rfl rfl (Nat.add_zero _).symm (by assumption) rfl uT3 rfl trivial) <| sm 2 rfl <| nL ?_
  refine tC rfl (fun hc20 => ?_) fun hc20 => ?_
  ·refine tQ <| tG <| sm 1 rfl <| nL <| tRt ?_
   have h2 : z32 f.types st v t = (false, st) := by
     try clear hvx
     simp_all [z32]
   rw [h2]
   exact rOk rfl rfl (po3 rfl rfl rfl)
  refine tSk <| tQ <| tG <| sm 1 rfl <| cV rfl (nCk rfl rfl rfl) <| sm 3 rfl <| cV rfl (iRw rfl rfl rfl rfl rfl uT35 tS3 (by assumption) oM0) <| c0 (z1n rfl rfl rfl rfl rfl (Nat.add_zero _).symm (by assumption) sI0 tS3 rfl sI0) <| nL <| tQ <| tG <| sm 1 rfl ?_
  refine nL <| tRt ?_
  have h2 : z32 f.types st v t = (true, st.set v.toNat 1) := by
    try clear hvx
    simp_all [z32]
  rw [h2]
  exact rOk rfl rfl (z20 (And.intro rfl (And.intro (set3 rfl) (And.intro (set4 rfl) trivial))))
theorem z1v (u : Un) (f : Fl) (st : List Int) (hs : st.length = f.types.length) (l want : List Int) : SC Tryz.prog 121 [.ptr 3 0, .pv (ints l), .pv (ints want)] (ckS u f 3 st) (fun k => k = 3) (iBool (z0l f.types st l want).1) (ckS u f 3 (z0l f.types st l want).2) := by
  refine SC.of Tryz.func121 rfl (lb rfl) fun F ρ w => ?_
  refine tQ <| tG <| cE rfl (za3 (k := 5) rfl rfl ⟨_, rfl⟩ rfl rfl rfl rfl rfl) <| sm 1 rfl <| nL <| tQ <| tG <| sm 2 rfl <| cV rfl (z5a rfl rfl rfl) <| cE rfl (ocr (sc_eqf 127 [.ptr 5 0] (List Int) (fun s => ckSp u f 3 5 s) [5, 3, 4] (fun _ => rfl) (fun _ => rfl) ent127 (z32 f.types) (fun k => k = 3 ∨ k = 5) (fun s => s.length = f.types.length) (fun s x y h => (z6u f.types s x y).trans h) (fun s x y h => y6q u f s h x y) st hs l want) ent125 rfl (po3 rfl rfl rfl) rfl (fun k (h : _) => by (subst h; first | exact .inl rfl | exact .inr rfl | exact .inr dC0)) rfl rfl) <| sm 1 rfl <| nL ?_
  refine tRt <| rOk rfl ?_ (z20 (And.intro rfl (And.intro rfl (trivial))))
  rfl
theorem z9n (u : Un) (f : Fl) (st : List Int) (hs : st.length = f.types.length) (l : List Int) (hb : l.length <= 1073741824) : SC Tryz.prog 120 [.ptr 3 0, .pv (ints l)] (ckS u f 3 st) (fun k => k = 3) (iBool (z0l f.types st l (List.replicate l.length 0)).1) (ckS u f 3 (z0l f.types st l (List.replicate l.length 0)).2) := by
  refine SC.of Tryz.func120 rfl (lb rfl) fun F ρ w => ?_
  refine tQ <| tG <| sm 1 rfl <| nL <| tQ <| tG <| sm 3 rfl <| cV rfl (oSm uT35 rfl) <| cE rfl (z0u (k := 109) (s := ⟨3, 1⟩) rfl rfl rfl uT35 tZ3 tC3 rfl dC0 oM0 oM0 rfl rfl rfl rfl) <| cE rfl (z2o (fun k => k = 109) (z1v u f st hs l (List.replicate l.length 0)) z4r rfl rfl (sRf _ _) (And.intro LendOf.same (And.intro LendOf.same (And.intro (LendOf.row rfl rfl (by (simp; done)) (by (simp only [List.map_replicate]; rfl))) (trivial)))) (fun k h => by subst h; rfl) (po2 rfl rfl) rfl (fun k (h : _) => .inr h) ⟨_, rfl⟩ (ckS_lend (z2r ..))) <| sm 1 rfl <| nL ?_
  refine tRt <| rOk rfl ?_ (z20 (And.intro rfl (And.intro rfl (trivial))))
  rfl
theorem zy6 (u : Un) (f : Fl) (st : List Int) (hs : st.length = f.types.length) (l : List Int) (hin : ∀ v ∈ l, 0 <= v /\ v < f.types.length) : SC Tryz.prog 91 [.ptr 3 0, .pv (ints l)] (ckS u f 3 st) (fun k => k = 3) (.tup []) (ckS u f 3 (z22 st l)) := by
  refine SC.of Tryz.func91 rfl (lb rfl) fun F ρ w => ?_
  refine Tr.lenOf (t := 1) rfl (fun hl => ?_)
  simp only [List.length_map] at hl
  refine tQ <| tG <| sm 1 rfl <| cV rfl (oSm uT35 rfl) <| sm 1 rfl <| nL <| tBk <| Tr.sub (Sub.of (fr' := [(8, iInt 0), (7, iInt l.length), (6, .pv (ints l)), (0, .ptr 3 0)]) ⟨rfl, rfl, rfl, rfl, trivial⟩) ?_
  refine Tr.loop (fun fr σ m => ∃ (k : Nat) (s : List Int), (k <= l.length) /\ (z22 st l = z22 s (l.drop k)) /\ (s.length = f.types.length) /\ fr = [(8, iInt k), (7, iInt l.length), (6, .pv (ints l)), (0, .ptr 3 0)] /\ σ = look (up (ckS u f 3 s)) /\ m = l.length - k) (n := l.length - 0) ?_ ?_
  ·exact ⟨0, st, Nat.zero_le _, rfl, hs, rfl, rfl, rfl⟩
  rintro fr σ m ⟨k, s, hI0, hI1, hI2, rfl, rfl, rfl⟩
  refine tQ <| tG <| sm 1 rfl <| nL <| tQ ?_
  refine tC rfl (fun hc9 => ?_) fun hc9 => ?_
  ·have hlt : k < l.length := by simpa using hc9
   have hd := List.drop_eq_getElem_cons hlt
   have hm := List.getElem_mem hlt
   have hi := z0a (f := eInt) (List.getElem?_eq_getElem hlt)
   generalize l[k] = x at hd hm hi
   obtain ⟨hx0, hx1⟩ := hin x hm
   have hv0 : x.toNat < f.types.length := by omega
   have hvx : x = ((x.toNat : Nat) : Int) := by omega
   have hst : (s.map eInt)[x.toNat]? = some [vInt (s.getD x.toNat 0)] := by rw [List.getElem?_map]; simp [eInt, List.getD, hI2, hv0]
   have hstl : x.toNat < (s.map eInt).length := by simpa [hI2] using hv0
   refine tSk <| tQ <| tBk <| tQ <| tG <| cV rfl (iSq rfl rfl rfl uT35 hi tS3 rfl (by rfl)) <| sm 2 rfl <| nL <| tG <| sm 1 rfl <| cV rfl (nCk rfl rfl rfl) <| sm 3 rfl ?_
   refine cV rfl (iRw rfl rfl rfl rfl rfl uT35 tS3 (by assumption) oM0) <| c0 (z1n rfl rfl rfl rfl rfl (Nat.add_zero _).symm (by assumption) sI0 tS3 rfl sI0) <| nL <| tG <| cV rfl (oB rfl rfl (z03 rfl oM0)) <| sm 1 rfl <| nL ?_
   refine ⟨_, _, ?_, Sub.of (fr' := [(8, iInt (k + 1)), (7, iInt l.length), (6, .pv (ints l)), (0, .ptr 3 0)]) ⟨rfl, rfl, rfl, rfl, trivial⟩, (k + 1), (s.set x.toNat 2), ?_, ?_, ?_, rfl, (funext y4r), rfl⟩
   ·omega
   ·omega
   ·rw [hI1, hd]; rfl
   simpa using hI2
  refine tEx ?_
  have hge : l.length <= k := by simpa using hc9
  have h2 : z22 st l = s := by rw [hI1, List.drop_eq_nil_of_le hge]; rfl
  rw [h2]
  exact end_ok rfl rfl (fun _ _ h => h)
theorem tZ145 : ((Tryz.prog.info? 145).bind (·.zero)) = some (.agg #[.string ⟨#[]⟩, .int .i64 0, .string ⟨#[]⟩, .int .i64 0, .string ⟨#[]⟩, .int .i64 0, .string ⟨#[]⟩, .int .i64 0, .string ⟨#[]⟩, .int .i64 0, .string ⟨#[]⟩, .int .i64 0, .string ⟨#[]⟩, .int .i64 0, .string ⟨#[]⟩, .int .i64 0, .string ⟨#[]⟩, .int .i64 0, .string ⟨#[]⟩, .int .i64 0, .string ⟨#[]⟩, .int .i64 0, .string ⟨#[]⟩, .int .i64 0, .string ⟨#[]⟩, .int .i64 0, .string ⟨#[]⟩, .int .i64 0, .string ⟨#[]⟩, .int .i64 0, .string ⟨#[]⟩, .int .i64 0, .string ⟨#[]⟩, .int .i64 0, .string ⟨#[]⟩, .int .i64 0, .string ⟨#[]⟩, .int .i64 0, .string ⟨#[]⟩, .int .i64 0, .string ⟨#[]⟩, .int .i64 0, .string ⟨#[]⟩, .int .i64 0, .string ⟨#[]⟩, .int .i64 0, .string ⟨#[]⟩, .int .i64 0, .string ⟨#[]⟩, .int .i64 0, .string ⟨#[]⟩, .int .i64 0, .string ⟨#[]⟩, .int .i64 0, .string ⟨#[]⟩, .int .i64 0, .string ⟨#[]⟩, .int .i64 0]) := by kernel_rfl
theorem tS145 : (Tryz.prog.info? 145).map (·.size) = some 58 := by kernel_rfl
theorem sc_rowOf (op : Int) : SC Tryz.prog 132 [iInt op] [] (fun _ => False) (.pv (.agg [vStr (wSign op), vInt (z8m op)])) [] := by
  refine SC.ofC Tryz.func132 rfl (lb rfl) rfl fun F ρ w => ?_
  refine tQ ?_
  refine tG ?_
  refine cE rfl (aLc (k := 102) rfl z3j rfl rfl rfl rfl) ?_
  refine nL ?_
  refine tQ ?_
  refine tG ?_
  refine cV rfl (bPu rfl rfl z3j z3m rfl (fbk rfl) rfl) ?_
  refine cV rfl (bPu rfl rfl z3j z3m rfl (fbk rfl) rfl) ?_
  refine cV rfl (bPu rfl rfl z3j z3m rfl (fbk rfl) rfl) ?_
  refine cV rfl (bPu rfl rfl z3j z3m rfl (fbk rfl) rfl) ?_
  refine cV rfl (bPu rfl rfl z3j z3m rfl (fbk rfl) rfl) ?_
  refine cV rfl (bPu rfl rfl z3j z3m rfl (fbk rfl) rfl) ?_
  refine cV rfl (bPu rfl rfl z3j z3m rfl (fbk rfl) rfl) ?_
  refine cV rfl (bPu rfl rfl z3j z3m rfl (fbk rfl) rfl) ?_
  refine cV rfl (bPu rfl rfl z3j z3m rfl (fbk rfl) rfl) ?_
  refine cV rfl (bPu rfl rfl z3j z3m rfl (fbk rfl) rfl) ?_
  refine cV rfl (bPu rfl rfl z3j z3m rfl (fbk rfl) rfl) ?_
  refine cV rfl (bPu rfl rfl z3j z3m rfl (fbk rfl) rfl) ?_
  refine cV rfl (bPu rfl rfl z3j z3m rfl (fbk rfl) rfl) ?_
  refine cV rfl (bPu rfl rfl z3j z3m rfl (fbk rfl) rfl) ?_
  refine cV rfl (bPu rfl rfl z3j z3m rfl (fbk rfl) rfl) ?_
  refine cV rfl (bPu rfl rfl z3j z3m rfl (fbk rfl) rfl) ?_
  refine cV rfl (bPu rfl rfl z3j z3m rfl (fbk rfl) rfl) ?_
  refine cV rfl (bPu rfl rfl z3j z3m rfl (fbk rfl) rfl) ?_
  refine cV rfl (bPu rfl rfl z3j z3m rfl (fbk rfl) rfl) ?_
  refine cV rfl (bPu rfl rfl z3j z3m rfl (fbk rfl) rfl) ?_
  refine cV rfl (bPu rfl rfl z3j z3m rfl (fbk rfl) rfl) ?_
  refine cV rfl (bPu rfl rfl z3j z3m rfl (fbk rfl) rfl) ?_
  refine cV rfl (bPu rfl rfl z3j z3m rfl (fbk rfl) rfl) ?_
  refine cV rfl (bPu rfl rfl z3j z3m rfl (fbk rfl) rfl) ?_
  refine cV rfl (bPu rfl rfl z3j z3m rfl (fbk rfl) rfl) ?_
  refine cV rfl (bPu rfl rfl z3j z3m rfl (fbk rfl) rfl) ?_
  refine cV rfl (bPu rfl rfl z3j z3m rfl (fbk rfl) rfl) ?_
  refine cV rfl (bPu rfl rfl z3j z3m rfl (fbk rfl) rfl) ?_
  refine cV rfl (zc1 rfl rfl tZ145 Tryz.underlying145 zs2 rfl (fbk rfl)) ?_
  refine cE rfl (aLc (k := 103) rfl tZ145 rfl rfl rfl rfl) ?_
  refine c0 (sBA rfl rfl rfl rfl rfl ((fun h => h)) tS145 (flk rfl) (lb rfl)) ?_
  refine nL ?_
  refine tQ ?_
  refine tQ ?_
  refine tG ?_
  refine sm 3 rfl ?_
  refine wS 35 rfl (fun hb35 => ?_) fun hb35 => ?_
  ·refine sm 3 rfl ?_
   refine nL ?_
   refine Tr.condT rfl ?_
   refine tQ ?_
   refine tG ?_
   refine cV rfl (bPu rfl rfl z3j z3m rfl (fbk rfl) rfl) ?_
   refine c0 (sBA rfl rfl rfl rfl rfl ((fun h => h)) zs2 (flk rfl) (lb rfl)) ?_
   refine nL ?_
   refine tRt ?_
   have hop : op < 0 ∨ op ≥ 29 := by
     simp_all
   refine rCk (.inl rfl) (fun _ _ ho => lBP ho rfl rfl Tryz.underlying142 rfl zs2 (lb rfl) rfl trivial) ?_ nPo
   rcases hop with h | h <;> simp [wSign, z8m, h] <;> rfl
  refine sm 3 rfl ?_
  refine nL ?_
  refine tC rfl (fun hc38 => ?_) fun hc38 => ?_
  ·refine tQ ?_
   refine tG ?_
   refine cV rfl (bPu rfl rfl z3j z3m rfl (fbk rfl) rfl) ?_
   refine c0 (sBA rfl rfl rfl rfl rfl ((fun h => h)) zs2 (flk rfl) (lb rfl)) ?_
   refine nL ?_
   refine tRt ?_
   have hop : op < 0 ∨ op ≥ 29 := by
     simp_all
   refine rCk (.inl rfl) (fun _ _ ho => lBP ho rfl rfl Tryz.underlying142 rfl zs2 (lb rfl) rfl trivial) ?_ nPo
   rcases hop with h | h <;> simp [wSign, z8m, h] <;> rfl
  refine tSk ?_
  refine tQ ?_
  have hop : 0 <= op /\ op < 29 := by
    simp_all
  rcases y4n hop.1 hop.2 with rfl | rfl | rfl | rfl | rfl | rfl | rfl | rfl | rfl | rfl | rfl | rfl | rfl | rfl | rfl | rfl | rfl | rfl | rfl | rfl | rfl | rfl | rfl | rfl | rfl | rfl | rfl | rfl | rfl
  all_goals
    refine tG ?_
    refine sm 1 rfl ?_
    refine cV rfl (zc2 rfl rfl rfl rfl Tryz.underlying145 zs2 (by rfl) dC0) ?_
    refine cV rfl (lBP rfl rfl rfl Tryz.underlying142 rfl zs2 (lb rfl) rfl trivial) ?_
    refine c0 (sBA rfl rfl rfl rfl rfl ((fun h => h)) zs2 (flk rfl) (lb rfl)) ?_
    refine nL ?_
    refine tRt <| rCk (.inl rfl) (fun _ _ ho => lBP ho rfl rfl Tryz.underlying142 rfl zs2 (lb rfl) rfl trivial) ?_ nPo
    rfl
theorem y6x (op : Int) : SC Tryz.prog 129 [iInt op] [] (fun _ => False) (iInt (z8m op)) [] := by
  refine SC.of Tryz.func129 rfl (lb rfl) fun F ρ w => ?_
  refine tQ ?_
  refine tG ?_
  refine sm 1 rfl ?_
  refine nL ?_
  refine tQ ?_
  refine tG ?_
  refine sm 1 rfl ?_
  refine cE rfl (ocq (sc_rowOf op) ent132 rfl rfl) ?_
  refine cV rfl (z9i rfl rfl Tryz.underlying142 rfl uT3 rfl rfl) ?_
  refine sm 1 rfl ?_
  refine nL ?_
  refine tRt <| rOk rfl ?_ nPo
  rfl
theorem y6j (x : Nd) : SC Tryz.prog 106 [.pv (ndv x)] [] (fun _ => False) (iBool (z0k x)) [] := by
  refine SC.of Tryz.func106 rfl (lb rfl) fun F ρ w => ?_
  refine tQ <| tG <| cE rfl (z81 (k := 101) rfl rfl rfl rfl rfl rfl) <| sm 1 rfl <| nL <| tQ <| tG <| cE rfl (za5 (k := 104) rfl rfl rfl rfl rfl) <| c0 (zh6 rfl rfl rfl rfl rfl ((fun h => h)) Tryz.underlying59 uT3 rfl dC0) <| c0 (zh6 rfl rfl rfl rfl rfl ((fun h => h)) Tryz.underlying59 uT3 rfl dC0) <| sm 3 rfl <| cV rfl (z9j rfl rfl rfl rfl Tryz.underlying59 uT3 rfl dC0 tZ3 trivial) ?_
  have hkn : ((z41 (.int .i64 x.kind) (mput (.int .i64 11) (vInt 1) (mput (.int .i64 10) (vInt 2) []))).getD (.val (.int .i64 0))) = vInt (r8kn x) := by
    by_cases h10 : x.kind = 10
    ·simp [h10, mput, keyB, z41, r8kn]
    by_cases h11 : x.kind = 11
    ·simp [h11, mput, keyB, z41, r8kn]
    simp [h10, h11, mput, keyB, z41, r8kn]
  refine WL.sub (Sub.of (fr' := [(8, iInt (r8kn x)), (1, .ptr 101 0)]) ⟨congrArg (fun p => some (IV.pv p)) hkn, rfl, trivial⟩) <| sm 1 rfl <| nL <| tQ <| tQ <| Tr.drop (k := 104) <| tG <| sm 2 rfl <| nL ?_
  refine Tr.cut (fr' := [(3, iInt (r8kn x)), (1, .ptr 101 0)]) (σ' := look [(101, some (.box [.pv (vInt x.kind), .pv (vInt (if r8op x then 0 else x.op)), .pv (vInt (if z1r x then 0 else x.n)), .pv (vStr (if z0w x then ⟨#[]⟩ else x.name)), .pv (ints x.args), .pv (ints x.outs), .pv (if x.kind == 11 then .val (.slice none 0 0) else ints x.params), .pv (kids x.kids)]))]) ?_ ?_
  ·refine tBk <| tQ <| tQ <| tG <| sm 2 rfl <| nL ?_
   refine tC rfl (fun hc11 => ?_) fun hc11 => ?_
   ·refine tSk ?_
    refine tC rfl (fun hc11 => ?_) fun hc11 => ?_
    ·refine tG <| sm 1 rfl <| c0 (sBx rfl rfl rfl rfl ((fun h => h)) tS3 (rfl) (lb rfl)) <| nL ?_
     refine ⟨rfl, Sub.of ⟨rfl, rfl, trivial⟩, funext fun j => ?_⟩
     by_cases h101 : 101 = j
     ·subst h101; exact congrArg (fun z => some (HO.box z)) (by simp_all [r8op, z1r, z0w])
     by_cases h104 : 104 = j
     ·subst h104; rfl
     simp [look, up, z02 h101, z02 h104]
    refine tQ <| tQ <| tG <| sm 2 rfl <| nL ?_
    refine tC rfl (fun hc15 => ?_) fun hc15 => ?_
    ·refine tSk ?_
     refine tC rfl (fun hc15 => ?_) fun hc15 => ?_
     ·refine tG <| sm 1 rfl <| c0 (sBx rfl rfl rfl rfl ((fun h => h)) tS3 (rfl) (lb rfl)) <| nL ?_
      refine ⟨rfl, Sub.of ⟨rfl, rfl, trivial⟩, funext fun j => ?_⟩
      by_cases h101 : 101 = j
      ·subst h101; exact congrArg (fun z => some (HO.box z)) (by simp_all [r8op, z1r, z0w])
      by_cases h104 : 104 = j
      ·subst h104; rfl
      simp [look, up, z02 h101, z02 h104]
     refine tQ <| tQ <| tG <| sm 2 rfl <| nL ?_
     refine tC rfl (fun hc19 => ?_) fun hc19 => ?_
     ·refine tSk ?_
      refine tC rfl (fun hc19 => ?_) fun hc19 => ?_
      ·refine tG <| sm 1 rfl <| c0 (sBx rfl rfl rfl rfl ((fun h => h)) tS9 (rfl) (lb rfl)) <| nL ?_
       refine ⟨rfl, Sub.of ⟨rfl, rfl, trivial⟩, funext fun j => ?_⟩
       by_cases h101 : 101 = j
       ·subst h101; exact congrArg (fun z => some (HO.box z)) (by simp_all [r8op, z1r, z0w])
       by_cases h104 : 104 = j
       ·subst h104; rfl
       simp [look, up, z02 h101, z02 h104]
      refine tQ <| tG <| sm 2 rfl <| nL ?_
      refine tC rfl (fun hc24 => ?_) fun hc24 => ?_
      ·refine tG <| sm 1 rfl <| c0 (sBx rfl rfl rfl rfl ((fun h => h)) tS35 (rfl) (lb rfl)) <| nL ?_
       refine ⟨rfl, Sub.of ⟨rfl, rfl, trivial⟩, funext fun j => ?_⟩
       by_cases h101 : 101 = j
       ·subst h101; exact congrArg (fun z => some (HO.box z)) (by simp_all [r8op, z1r, z0w])
       by_cases h104 : 104 = j
       ·subst h104; rfl
       simp [look, up, z02 h101, z02 h104]
      refine tSk ?_
      refine ⟨rfl, Sub.of ⟨rfl, rfl, trivial⟩, funext fun j => ?_⟩
      by_cases h101 : 101 = j
      ·subst h101; exact congrArg (fun z => some (HO.box z)) (by simp_all [r8op, z1r, z0w])
      by_cases h104 : 104 = j
      ·subst h104; rfl
      simp [look, up, z02 h101, z02 h104]
     refine tQ <| tG <| sm 2 rfl <| nL ?_
     refine tC rfl (fun hc19 => ?_) fun hc19 => ?_
     ·refine tSk ?_
      refine tC rfl (fun hc19 => ?_) fun hc19 => ?_
      ·refine tG <| sm 1 rfl <| c0 (sBx rfl rfl rfl rfl ((fun h => h)) tS9 (rfl) (lb rfl)) <| nL ?_
       refine ⟨rfl, Sub.of ⟨rfl, rfl, trivial⟩, funext fun j => ?_⟩
       by_cases h101 : 101 = j
       ·subst h101; exact congrArg (fun z => some (HO.box z)) (by simp_all [r8op, z1r, z0w])
       by_cases h104 : 104 = j
       ·subst h104; rfl
       simp [look, up, z02 h101, z02 h104]
      refine tQ <| tG <| sm 2 rfl <| nL ?_
      refine tC rfl (fun hc24 => ?_) fun hc24 => ?_
      ·refine tG <| sm 1 rfl <| c0 (sBx rfl rfl rfl rfl ((fun h => h)) tS35 (rfl) (lb rfl)) <| nL ?_
       refine ⟨rfl, Sub.of ⟨rfl, rfl, trivial⟩, funext fun j => ?_⟩
       by_cases h101 : 101 = j
       ·subst h101; exact congrArg (fun z => some (HO.box z)) (by simp_all [r8op, z1r, z0w])
       by_cases h104 : 104 = j
       ·subst h104; rfl
       simp [look, up, z02 h101, z02 h104]
      refine tSk ?_
      refine ⟨rfl, Sub.of ⟨rfl, rfl, trivial⟩, funext fun j => ?_⟩
      by_cases h101 : 101 = j
      ·subst h101; exact congrArg (fun z => some (HO.box z)) (by simp_all [r8op, z1r, z0w])
      by_cases h104 : 104 = j
      ·subst h104; rfl
      simp [look, up, z02 h101, z02 h104]
     refine tG <| sm 2 rfl <| nL ?_
     refine tC rfl (fun hc19 => ?_) fun hc19 => ?_
     ·refine tG <| sm 1 rfl <| c0 (sBx rfl rfl rfl rfl ((fun h => h)) tS9 (rfl) (lb rfl)) <| nL ?_
      refine ⟨rfl, Sub.of ⟨rfl, rfl, trivial⟩, funext fun j => ?_⟩
      by_cases h101 : 101 = j
      ·subst h101; exact congrArg (fun z => some (HO.box z)) (by simp_all [r8op, z1r, z0w])
      by_cases h104 : 104 = j
      ·subst h104; rfl
      simp [look, up, z02 h101, z02 h104]
     refine tQ <| tG <| sm 2 rfl <| nL ?_
     refine tC rfl (fun hc24 => ?_) fun hc24 => ?_
     ·refine tG <| sm 1 rfl <| c0 (sBx rfl rfl rfl rfl ((fun h => h)) tS35 (rfl) (lb rfl)) <| nL ?_
      refine ⟨rfl, Sub.of ⟨rfl, rfl, trivial⟩, funext fun j => ?_⟩
      by_cases h101 : 101 = j
      ·subst h101; exact congrArg (fun z => some (HO.box z)) (by simp_all [r8op, z1r, z0w])
      by_cases h104 : 104 = j
      ·subst h104; rfl
      simp [look, up, z02 h101, z02 h104]
     refine tSk ?_
     refine ⟨rfl, Sub.of ⟨rfl, rfl, trivial⟩, funext fun j => ?_⟩
     by_cases h101 : 101 = j
     ·subst h101; exact congrArg (fun z => some (HO.box z)) (by simp_all [r8op, z1r, z0w])
     by_cases h104 : 104 = j
     ·subst h104; rfl
     simp [look, up, z02 h101, z02 h104]
    refine tG <| sm 2 rfl <| nL ?_
    refine tC rfl (fun hc15 => ?_) fun hc15 => ?_
    ·refine tG <| sm 1 rfl <| c0 (sBx rfl rfl rfl rfl ((fun h => h)) tS3 (rfl) (lb rfl)) <| nL ?_
     refine ⟨rfl, Sub.of ⟨rfl, rfl, trivial⟩, funext fun j => ?_⟩
     by_cases h101 : 101 = j
     ·subst h101; exact congrArg (fun z => some (HO.box z)) (by simp_all [r8op, z1r, z0w])
     by_cases h104 : 104 = j
     ·subst h104; rfl
     simp [look, up, z02 h101, z02 h104]
    refine tQ <| tQ <| tG <| sm 2 rfl <| nL ?_
    refine tC rfl (fun hc19 => ?_) fun hc19 => ?_
    ·refine tSk ?_
     refine tC rfl (fun hc19 => ?_) fun hc19 => ?_
     ·refine tG <| sm 1 rfl <| c0 (sBx rfl rfl rfl rfl ((fun h => h)) tS9 (rfl) (lb rfl)) <| nL ?_
      refine ⟨rfl, Sub.of ⟨rfl, rfl, trivial⟩, funext fun j => ?_⟩
      by_cases h101 : 101 = j
      ·subst h101; exact congrArg (fun z => some (HO.box z)) (by simp_all [r8op, z1r, z0w])
      by_cases h104 : 104 = j
      ·subst h104; rfl
      simp [look, up, z02 h101, z02 h104]
     refine tQ <| tG <| sm 2 rfl <| nL ?_
     refine tC rfl (fun hc24 => ?_) fun hc24 => ?_
     ·refine tG <| sm 1 rfl <| c0 (sBx rfl rfl rfl rfl ((fun h => h)) tS35 (rfl) (lb rfl)) <| nL ?_
      refine ⟨rfl, Sub.of ⟨rfl, rfl, trivial⟩, funext fun j => ?_⟩
      by_cases h101 : 101 = j
      ·subst h101; exact congrArg (fun z => some (HO.box z)) (by simp_all [r8op, z1r, z0w])
      by_cases h104 : 104 = j
      ·subst h104; rfl
      simp [look, up, z02 h101, z02 h104]
     refine tSk ?_
     refine ⟨rfl, Sub.of ⟨rfl, rfl, trivial⟩, funext fun j => ?_⟩
     by_cases h101 : 101 = j
     ·subst h101; exact congrArg (fun z => some (HO.box z)) (by simp_all [r8op, z1r, z0w])
     by_cases h104 : 104 = j
     ·subst h104; rfl
     simp [look, up, z02 h101, z02 h104]
    refine tQ <| tG <| sm 2 rfl <| nL ?_
    refine tC rfl (fun hc19 => ?_) fun hc19 => ?_
    ·refine tSk ?_
     refine tC rfl (fun hc19 => ?_) fun hc19 => ?_
     ·refine tG <| sm 1 rfl <| c0 (sBx rfl rfl rfl rfl ((fun h => h)) tS9 (rfl) (lb rfl)) <| nL ?_
      refine ⟨rfl, Sub.of ⟨rfl, rfl, trivial⟩, funext fun j => ?_⟩
      by_cases h101 : 101 = j
      ·subst h101; exact congrArg (fun z => some (HO.box z)) (by simp_all [r8op, z1r, z0w])
      by_cases h104 : 104 = j
      ·subst h104; rfl
      simp [look, up, z02 h101, z02 h104]
     refine tQ <| tG <| sm 2 rfl <| nL ?_
     refine tC rfl (fun hc24 => ?_) fun hc24 => ?_
     ·refine tG <| sm 1 rfl <| c0 (sBx rfl rfl rfl rfl ((fun h => h)) tS35 (rfl) (lb rfl)) <| nL ?_
      refine ⟨rfl, Sub.of ⟨rfl, rfl, trivial⟩, funext fun j => ?_⟩
      by_cases h101 : 101 = j
      ·subst h101; exact congrArg (fun z => some (HO.box z)) (by simp_all [r8op, z1r, z0w])
      by_cases h104 : 104 = j
      ·subst h104; rfl
      simp [look, up, z02 h101, z02 h104]
     refine tSk ?_
     refine ⟨rfl, Sub.of ⟨rfl, rfl, trivial⟩, funext fun j => ?_⟩
     by_cases h101 : 101 = j
     ·subst h101; exact congrArg (fun z => some (HO.box z)) (by simp_all [r8op, z1r, z0w])
     by_cases h104 : 104 = j
     ·subst h104; rfl
     simp [look, up, z02 h101, z02 h104]
    refine tG <| sm 2 rfl <| nL ?_
    refine tC rfl (fun hc19 => ?_) fun hc19 => ?_
    ·refine tG <| sm 1 rfl <| c0 (sBx rfl rfl rfl rfl ((fun h => h)) tS9 (rfl) (lb rfl)) <| nL ?_
     refine ⟨rfl, Sub.of ⟨rfl, rfl, trivial⟩, funext fun j => ?_⟩
     by_cases h101 : 101 = j
     ·subst h101; exact congrArg (fun z => some (HO.box z)) (by simp_all [r8op, z1r, z0w])
     by_cases h104 : 104 = j
     ·subst h104; rfl
     simp [look, up, z02 h101, z02 h104]
    refine tQ <| tG <| sm 2 rfl <| nL ?_
    refine tC rfl (fun hc24 => ?_) fun hc24 => ?_
    ·refine tG <| sm 1 rfl <| c0 (sBx rfl rfl rfl rfl ((fun h => h)) tS35 (rfl) (lb rfl)) <| nL ?_
     refine ⟨rfl, Sub.of ⟨rfl, rfl, trivial⟩, funext fun j => ?_⟩
     by_cases h101 : 101 = j
     ·subst h101; exact congrArg (fun z => some (HO.box z)) (by simp_all [r8op, z1r, z0w])
     by_cases h104 : 104 = j
     ·subst h104; rfl
     simp [look, up, z02 h101, z02 h104]
    refine tSk ?_
    refine ⟨rfl, Sub.of ⟨rfl, rfl, trivial⟩, funext fun j => ?_⟩
    by_cases h101 : 101 = j
    ·subst h101; exact congrArg (fun z => some (HO.box z)) (by simp_all [r8op, z1r, z0w])
    by_cases h104 : 104 = j
    ·subst h104; rfl
    simp [look, up, z02 h101, z02 h104]
   refine tG <| sm 2 rfl <| nL ?_
   refine tC rfl (fun hc11 => ?_) fun hc11 => ?_
   ·refine tG <| sm 1 rfl <| c0 (sBx rfl rfl rfl rfl ((fun h => h)) tS3 (rfl) (lb rfl)) <| nL ?_
    refine ⟨rfl, Sub.of ⟨rfl, rfl, trivial⟩, funext fun j => ?_⟩
    by_cases h101 : 101 = j
    ·subst h101; exact congrArg (fun z => some (HO.box z)) (by simp_all [r8op, z1r, z0w])
    by_cases h104 : 104 = j
    ·subst h104; rfl
    simp [look, up, z02 h101, z02 h104]
   refine tQ <| tQ <| tG <| sm 2 rfl <| nL ?_
   refine tC rfl (fun hc15 => ?_) fun hc15 => ?_
   ·refine tSk ?_
    refine tC rfl (fun hc15 => ?_) fun hc15 => ?_
    ·refine tG <| sm 1 rfl <| c0 (sBx rfl rfl rfl rfl ((fun h => h)) tS3 (rfl) (lb rfl)) <| nL ?_
     refine ⟨rfl, Sub.of ⟨rfl, rfl, trivial⟩, funext fun j => ?_⟩
     by_cases h101 : 101 = j
     ·subst h101; exact congrArg (fun z => some (HO.box z)) (by simp_all [r8op, z1r, z0w])
     by_cases h104 : 104 = j
     ·subst h104; rfl
     simp [look, up, z02 h101, z02 h104]
    refine tQ <| tQ <| tG <| sm 2 rfl <| nL ?_
    refine tC rfl (fun hc19 => ?_) fun hc19 => ?_
    ·refine tSk ?_
     refine tC rfl (fun hc19 => ?_) fun hc19 => ?_
     ·refine tG <| sm 1 rfl <| c0 (sBx rfl rfl rfl rfl ((fun h => h)) tS9 (rfl) (lb rfl)) <| nL ?_
      refine ⟨rfl, Sub.of ⟨rfl, rfl, trivial⟩, funext fun j => ?_⟩
      by_cases h101 : 101 = j
      ·subst h101; exact congrArg (fun z => some (HO.box z)) (by simp_all [r8op, z1r, z0w])
      by_cases h104 : 104 = j
      ·subst h104; rfl
      simp [look, up, z02 h101, z02 h104]
     refine tQ <| tG <| sm 2 rfl <| nL ?_
     refine tC rfl (fun hc24 => ?_) fun hc24 => ?_
     ·refine tG <| sm 1 rfl <| c0 (sBx rfl rfl rfl rfl ((fun h => h)) tS35 (rfl) (lb rfl)) <| nL ?_
      refine ⟨rfl, Sub.of ⟨rfl, rfl, trivial⟩, funext fun j => ?_⟩
      by_cases h101 : 101 = j
      ·subst h101; exact congrArg (fun z => some (HO.box z)) (by simp_all [r8op, z1r, z0w])
      by_cases h104 : 104 = j
      ·subst h104; rfl
      simp [look, up, z02 h101, z02 h104]
     refine tSk ?_
     refine ⟨rfl, Sub.of ⟨rfl, rfl, trivial⟩, funext fun j => ?_⟩
     by_cases h101 : 101 = j
     ·subst h101; exact congrArg (fun z => some (HO.box z)) (by simp_all [r8op, z1r, z0w])
     by_cases h104 : 104 = j
     ·subst h104; rfl
     simp [look, up, z02 h101, z02 h104]
    refine tQ <| tG <| sm 2 rfl <| nL ?_
    refine tC rfl (fun hc19 => ?_) fun hc19 => ?_
    ·refine tSk ?_
     refine tC rfl (fun hc19 => ?_) fun hc19 => ?_
     ·refine tG <| sm 1 rfl <| c0 (sBx rfl rfl rfl rfl ((fun h => h)) tS9 (rfl) (lb rfl)) <| nL ?_
      refine ⟨rfl, Sub.of ⟨rfl, rfl, trivial⟩, funext fun j => ?_⟩
      by_cases h101 : 101 = j
      ·subst h101; exact congrArg (fun z => some (HO.box z)) (by simp_all [r8op, z1r, z0w])
      by_cases h104 : 104 = j
      ·subst h104; rfl
      simp [look, up, z02 h101, z02 h104]
     refine tQ <| tG <| sm 2 rfl <| nL ?_
     refine tC rfl (fun hc24 => ?_) fun hc24 => ?_
     ·refine tG <| sm 1 rfl <| c0 (sBx rfl rfl rfl rfl ((fun h => h)) tS35 (rfl) (lb rfl)) <| nL ?_
      refine ⟨rfl, Sub.of ⟨rfl, rfl, trivial⟩, funext fun j => ?_⟩
      by_cases h101 : 101 = j
      ·subst h101; exact congrArg (fun z => some (HO.box z)) (by simp_all [r8op, z1r, z0w])
      by_cases h104 : 104 = j
      ·subst h104; rfl
      simp [look, up, z02 h101, z02 h104]
     refine tSk ?_
     refine ⟨rfl, Sub.of ⟨rfl, rfl, trivial⟩, funext fun j => ?_⟩
     by_cases h101 : 101 = j
     ·subst h101; exact congrArg (fun z => some (HO.box z)) (by simp_all [r8op, z1r, z0w])
     by_cases h104 : 104 = j
     ·subst h104; rfl
     simp [look, up, z02 h101, z02 h104]
    refine tG <| sm 2 rfl <| nL ?_
    refine tC rfl (fun hc19 => ?_) fun hc19 => ?_
    ·refine tG <| sm 1 rfl <| c0 (sBx rfl rfl rfl rfl ((fun h => h)) tS9 (rfl) (lb rfl)) <| nL ?_
     refine ⟨rfl, Sub.of ⟨rfl, rfl, trivial⟩, funext fun j => ?_⟩
     by_cases h101 : 101 = j
     ·subst h101; exact congrArg (fun z => some (HO.box z)) (by simp_all [r8op, z1r, z0w])
     by_cases h104 : 104 = j
     ·subst h104; rfl
     simp [look, up, z02 h101, z02 h104]
    refine tQ <| tG <| sm 2 rfl <| nL ?_
    refine tC rfl (fun hc24 => ?_) fun hc24 => ?_
    ·refine tG <| sm 1 rfl <| c0 (sBx rfl rfl rfl rfl ((fun h => h)) tS35 (rfl) (lb rfl)) <| nL ?_
     refine ⟨rfl, Sub.of ⟨rfl, rfl, trivial⟩, funext fun j => ?_⟩
     by_cases h101 : 101 = j
     ·subst h101; exact congrArg (fun z => some (HO.box z)) (by simp_all [r8op, z1r, z0w])
     by_cases h104 : 104 = j
     ·subst h104; rfl
     simp [look, up, z02 h101, z02 h104]
    refine tSk ?_
    refine ⟨rfl, Sub.of ⟨rfl, rfl, trivial⟩, funext fun j => ?_⟩
    by_cases h101 : 101 = j
    ·subst h101; exact congrArg (fun z => some (HO.box z)) (by simp_all [r8op, z1r, z0w])
    by_cases h104 : 104 = j
    ·subst h104; rfl
    simp [look, up, z02 h101, z02 h104]
   refine tG <| sm 2 rfl <| nL ?_
   refine tC rfl (fun hc15 => ?_) fun hc15 => ?_
   ·refine tG <| sm 1 rfl <| c0 (sBx rfl rfl rfl rfl ((fun h => h)) tS3 (rfl) (lb rfl)) <| nL ?_
    refine ⟨rfl, Sub.of ⟨rfl, rfl, trivial⟩, funext fun j => ?_⟩
    by_cases h101 : 101 = j
    ·subst h101; exact congrArg (fun z => some (HO.box z)) (by simp_all [r8op, z1r, z0w])
    by_cases h104 : 104 = j
    ·subst h104; rfl
    simp [look, up, z02 h101, z02 h104]
   refine tQ <| tQ <| tG <| sm 2 rfl <| nL ?_
   refine tC rfl (fun hc19 => ?_) fun hc19 => ?_
   ·refine tSk ?_
    refine tC rfl (fun hc19 => ?_) fun hc19 => ?_
    ·refine tG <| sm 1 rfl <| c0 (sBx rfl rfl rfl rfl ((fun h => h)) tS9 (rfl) (lb rfl)) <| nL ?_
     refine ⟨rfl, Sub.of ⟨rfl, rfl, trivial⟩, funext fun j => ?_⟩
     by_cases h101 : 101 = j
     ·subst h101; exact congrArg (fun z => some (HO.box z)) (by simp_all [r8op, z1r, z0w])
     by_cases h104 : 104 = j
     ·subst h104; rfl
     simp [look, up, z02 h101, z02 h104]
    refine tQ <| tG <| sm 2 rfl <| nL ?_
    refine tC rfl (fun hc24 => ?_) fun hc24 => ?_
    ·refine tG <| sm 1 rfl <| c0 (sBx rfl rfl rfl rfl ((fun h => h)) tS35 (rfl) (lb rfl)) <| nL ?_
     refine ⟨rfl, Sub.of ⟨rfl, rfl, trivial⟩, funext fun j => ?_⟩
     by_cases h101 : 101 = j
     ·subst h101; exact congrArg (fun z => some (HO.box z)) (by simp_all [r8op, z1r, z0w])
     by_cases h104 : 104 = j
     ·subst h104; rfl
     simp [look, up, z02 h101, z02 h104]
    refine tSk ?_
    refine ⟨rfl, Sub.of ⟨rfl, rfl, trivial⟩, funext fun j => ?_⟩
    by_cases h101 : 101 = j
    ·subst h101; exact congrArg (fun z => some (HO.box z)) (by simp_all [r8op, z1r, z0w])
    by_cases h104 : 104 = j
    ·subst h104; rfl
    simp [look, up, z02 h101, z02 h104]
   refine tQ <| tG <| sm 2 rfl <| nL ?_
   refine tC rfl (fun hc19 => ?_) fun hc19 => ?_
   ·refine tSk ?_
    refine tC rfl (fun hc19 => ?_) fun hc19 => ?_
    ·refine tG <| sm 1 rfl <| c0 (sBx rfl rfl rfl rfl ((fun h => h)) tS9 (rfl) (lb rfl)) <| nL ?_
     refine ⟨rfl, Sub.of ⟨rfl, rfl, trivial⟩, funext fun j => ?_⟩
     by_cases h101 : 101 = j
     ·subst h101; exact congrArg (fun z => some (HO.box z)) (by simp_all [r8op, z1r, z0w])
     by_cases h104 : 104 = j
     ·subst h104; rfl
     simp [look, up, z02 h101, z02 h104]
    refine tQ <| tG <| sm 2 rfl <| nL ?_
    refine tC rfl (fun hc24 => ?_) fun hc24 => ?_
    ·refine tG <| sm 1 rfl <| c0 (sBx rfl rfl rfl rfl ((fun h => h)) tS35 (rfl) (lb rfl)) <| nL ?_
     refine ⟨rfl, Sub.of ⟨rfl, rfl, trivial⟩, funext fun j => ?_⟩
     by_cases h101 : 101 = j
     ·subst h101; exact congrArg (fun z => some (HO.box z)) (by simp_all [r8op, z1r, z0w])
     by_cases h104 : 104 = j
     ·subst h104; rfl
     simp [look, up, z02 h101, z02 h104]
    refine tSk ?_
    refine ⟨rfl, Sub.of ⟨rfl, rfl, trivial⟩, funext fun j => ?_⟩
    by_cases h101 : 101 = j
    ·subst h101; exact congrArg (fun z => some (HO.box z)) (by simp_all [r8op, z1r, z0w])
    by_cases h104 : 104 = j
    ·subst h104; rfl
    simp [look, up, z02 h101, z02 h104]
   refine tG <| sm 2 rfl <| nL ?_
   refine tC rfl (fun hc19 => ?_) fun hc19 => ?_
   ·refine tG <| sm 1 rfl <| c0 (sBx rfl rfl rfl rfl ((fun h => h)) tS9 (rfl) (lb rfl)) <| nL ?_
    refine ⟨rfl, Sub.of ⟨rfl, rfl, trivial⟩, funext fun j => ?_⟩
    by_cases h101 : 101 = j
    ·subst h101; exact congrArg (fun z => some (HO.box z)) (by simp_all [r8op, z1r, z0w])
    by_cases h104 : 104 = j
    ·subst h104; rfl
    simp [look, up, z02 h101, z02 h104]
   refine tQ <| tG <| sm 2 rfl <| nL ?_
   refine tC rfl (fun hc24 => ?_) fun hc24 => ?_
   ·refine tG <| sm 1 rfl <| c0 (sBx rfl rfl rfl rfl ((fun h => h)) tS35 (rfl) (lb rfl)) <| nL ?_
    refine ⟨rfl, Sub.of ⟨rfl, rfl, trivial⟩, funext fun j => ?_⟩
    by_cases h101 : 101 = j
    ·subst h101; exact congrArg (fun z => some (HO.box z)) (by simp_all [r8op, z1r, z0w])
    by_cases h104 : 104 = j
    ·subst h104; rfl
    simp [look, up, z02 h101, z02 h104]
   refine tSk ?_
   refine ⟨rfl, Sub.of ⟨rfl, rfl, trivial⟩, funext fun j => ?_⟩
   by_cases h101 : 101 = j
   ·subst h101; exact congrArg (fun z => some (HO.box z)) (by simp_all [r8op, z1r, z0w])
   by_cases h104 : 104 = j
   ·subst h104; rfl
   simp [look, up, z02 h101, z02 h104]
  refine Tr.subBox (k := 101) [.pv (vInt x.kind), .pv (vInt (if r8op x then 0 else x.op)), .pv (vInt (if z1r x then 0 else x.n)), .pv (vStr (if z0w x then ⟨#[]⟩ else x.name)), .pv (ints x.args), .pv (ints x.outs), .pv (ints (if x.kind == 11 then [] else x.params)), .pv (kids x.kids)] rfl ⟨ISub.refl _, ISub.refl _, ISub.refl _, ISub.refl _, ISub.refl _, ISub.refl _, ISub.pv (by cases x.kind == 11 <;> first | exact PSub.nil | exact PSub.refl _), ISub.refl _, trivial⟩ (fun h => h) ?_
  have e1 : ((if r8op x then 0 else x.op) == 0) = (r8op x || x.op == 0) := by cases r8op x <;> rfl
  have e2 : ((if z1r x then 0 else x.n) == 0) = (z1r x || x.n == 0) := by cases z1r x <;> rfl
  have e3 : ((if z0w x then (⟨#[]⟩ : ByteArray) else x.name).toList == (⟨#[]⟩ : ByteArray).toList) = (z0w x || x.name.toList == []) := by
    have e0 : (⟨#[]⟩ : ByteArray).toList = [] := zf0 _
    rw [e0]
    cases z0w x
    ·rfl
    rw [if_pos rfl, e0]; rfl
  have e4 : (((if x.kind == 11 then [] else x.params).length : Int) == 0) = (x.kind == 11 || (x.params.length : Int) == 0) := by cases x.kind == 11 <;> rfl
  refine tQ <| tG <| sm 4 rfl ?_
  refine wS 30 rfl (fun hb30 => ?_) fun hb30 => ?_
  ·refine sm 5 rfl ?_
   refine wS 35 rfl (fun hb35 => ?_) fun hb35 => ?_
   ·refine sm 2 rfl <| yV rfl rfl (bSt rfl rfl rfl rfl) <| sm 2 rfl ?_
    refine wS 40 rfl (fun hb40 => ?_) fun hb40 => ?_
    ·refine sm 2 rfl <| yV rfl rfl (oSm uT35 rfl) <| sm 3 rfl ?_
     refine wS 46 rfl (fun hb46 => ?_) fun hb46 => ?_
     ·refine sm 2 rfl <| yV rfl rfl (oSm uT40 rfl) <| sm 4 rfl <| nL <| tRt <| rOk rfl ?_ nPo
      refine congrArg (fun b => iBool b) ?_
      unfold z0k
      rw [<- e1, <- e2, <- e3, <- e4]
      clear e1 e2 e3 e4 hkn
      simp only [*, Bool.true_and, Bool.false_and, Bool.and_true, Bool.and_false]
     refine sm 7 rfl <| nL <| tRt <| rOk rfl ?_ nPo
     refine congrArg (fun b => iBool b) ?_
     unfold z0k
     rw [<- e1, <- e2, <- e3, <- e4]
     clear e1 e2 e3 e4 hkn
     simp only [*, Bool.true_and, Bool.false_and, Bool.and_true, Bool.and_false]
    refine sm 13 rfl <| nL <| tRt <| rOk rfl ?_ nPo
    refine congrArg (fun b => iBool b) ?_
    unfold z0k
    rw [<- e1, <- e2, <- e3, <- e4]
    clear e1 e2 e3 e4 hkn
    simp only [*, Bool.true_and, Bool.false_and, Bool.and_true, Bool.and_false]
   refine sm 18 rfl <| nL <| tRt <| rOk rfl ?_ nPo
   refine congrArg (fun b => iBool b) ?_
   unfold z0k
   rw [<- e1, <- e2, <- e3, <- e4]
   clear e1 e2 e3 e4 hkn
   simp only [*, Bool.true_and, Bool.false_and, Bool.and_true, Bool.and_false]
  refine sm 23 rfl <| nL <| tRt <| rOk rfl ?_ nPo
  refine congrArg (fun b => iBool b) ?_
  unfold z0k
  rw [<- e1, <- e2, <- e3, <- e4]
  clear e1 e2 e3 e4 hkn
  simp only [*, Bool.true_and, Bool.false_and, Bool.and_true, Bool.and_false]
theorem z54 (u : Un) (f : Fl) (st : List Int) (hs : st.length = f.types.length) (l : List Int) (hb : l.length <= 1073741824) : SC Tryz.prog 118 [.ptr 3 0, .pv (ints l)] (ckS u f 3 st) (fun k => k < 100) (.pv (ints (r8of f.types l))) (ckS u f 3 st) := by
  refine SC.of Tryz.func118 rfl (lb rfl) fun F ρ w => ?_
  refine Tr.lenOf (t := 1) rfl (fun hl => ?_)
  simp only [List.length_map] at hl
  rw [y63]
  refine tQ <| tG <| sm 1 rfl <| nL <| tQ <| tQ <| Tr.grow (t := 4) (k := 104) ⟨3, 1⟩ rfl rfl rfl rfl rfl <| tG <| sm 1 rfl <| cV rfl (oSm uT35 rfl) <| sm 1 rfl <| nL ?_
  refine tBk <| Tr.sub (Sub.of (fr' := [(9, iInt 0), (8, iInt l.length), (7, .pv (ints l)), (4, .sl 104 0), (0, .ptr 3 0)]) ⟨rfl, rfl, rfl, rfl, rfl, trivial⟩) ?_
  refine Tr.loop (fun fr σ m => ∃ (k : Nat) (acc : List Int), (k <= l.length) /\ (acc.length = k) /\ (z60 f.types [] l = z60 f.types acc (l.drop k)) /\ fr = [(9, iInt k), (8, iInt l.length), (7, .pv (ints l)), (4, .sl 104 k), (0, .ptr 3 0)] /\ σ = look ((104, some (.row ⟨3, 1⟩ (acc.map eInt))) :: up (ckS u f 3 st)) /\ m = l.length - k) (n := l.length - 0) ?_ ?_
  ·exact ⟨0, [], Nat.zero_le _, rfl, rfl, rfl, rfl, rfl⟩
  rintro fr σ m ⟨k, acc, hI0, hI1, hI2, rfl, rfl, rfl⟩
  refine tQ <| tG <| sm 1 rfl <| nL <| tQ ?_
  refine tC rfl (fun hc10 => ?_) fun hc10 => ?_
  ·have hlt : k < l.length := by simpa using hc10
   have hd := List.drop_eq_getElem_cons hlt
   have hm := List.getElem_mem hlt
   have hi := z0a (f := eInt) (List.getElem?_eq_getElem hlt)
   generalize l[k] = x at hd hm hi
   refine tSk <| tQ <| tBk <| tQ <| tG <| cV rfl (iSq rfl rfl rfl uT35 hi tS3 rfl (by rfl)) <| sm 2 rfl <| nL <| tQ <| tQ <| tG <| sm 2 rfl ?_
   refine cE rfl (ocr (zr4 u f st x 0) y51 rfl (po2 rfl rfl) rfl (fun k (h : _) => .inr trivial) rfl rfl) <| sm 1 rfl <| nL ?_
   refine tC rfl (fun hc16 => ?_) fun hc16 => ?_
   ·refine tQ <| tG <| sm 1 rfl <| nL <| tRt ?_
    have hin : z76 f.types x = false := by
      cases hr : z76 f.types x with
      | false => rfl
      | true => simp [z76] at hr; simp [z5u] at hc16; omega
    rw [hI2, hd]
    simp only [z60, hin]
    exact ⟨⟨_, rfl, fun _ _ _ _ h => z3i h⟩, (po2 rfl rfl)⟩
   have hin : z76 f.types x = true := by simp [z5u] at hc16; simp [z76]; omega
   have hv0 : x.toNat < f.types.length := by simp [z76] at hin; omega
   have hvx : x = ((x.toNat : Nat) : Int) := by simp [z76] at hin; omega
   have hty : (f.types.map eInt)[x.toNat]? = some [vInt (f.types.getD x.toNat 0)] := by rw [List.getElem?_map]; simp [eInt, List.getD, hv0]
   refine tSk <| tG <| sm 2 rfl <| cV rfl (nCk rfl rfl rfl) <| sm 4 rfl <| cV rfl (iSq rfl rfl rfl uT35 hty tS3 rfl oM0) <| sm 1 rfl <| cE rfl (bSl rfl rfl uT35 tZ3 tS3 rfl rfl rfl rfl (fbk rfl) rfl) ?_
   refine cE rfl (aPp rfl rfl rfl rfl (by (simp; omega)) sI0 uT35 tB3 dC0 (by (simp [z0o]; done)) (by (simp [z0o, PV.one]; rfl)) (by simp [maxLen, z0o]; omega) (by simp [z0o]; omega)) ?_
   refine sm 1 rfl <| nL <| tG <| cV rfl (oB rfl rfl (z03 rfl oM0)) <| sm 1 rfl <| nL ?_
   refine ⟨_, _, ?_, Sub.of (fr' := [(9, iInt (k + 1)), (8, iInt l.length), (7, .pv (ints l)), (4, .sl 104 (k + 1)), (0, .ptr 3 0)]) ⟨rfl, rfl, rfl, rfl, rfl, trivial⟩, (k + 1), (acc ++ [f.types.getD x.toNat 0]), ?_, ?_, ?_, rfl, zl6, rfl⟩
   ·omega
   ·omega
   ·simp [hI1]
   rw [hI2, hd]
   simp [z60, hin]
  refine tEx <| tQ ?_
  refine Tr.freeze (t := 4) (k := 104) rfl rfl (by simpa using hI1) ?_
  refine tG <| sm 2 rfl <| nL <| tRt <| rOk rfl ?_ (po2 rfl rfl)
  have hge : l.length <= k := by simpa using hc10
  rw [hI2, List.drop_eq_nil_of_le hge]
  rfl
theorem y2h (u : Un) (f : Fl) (st : List Int) (hs : st.length = f.types.length) (x : Nd) : SC Tryz.prog 122 [.ptr 3 0, .pv (ndv x)] (ckS u f 3 st) (fun k => k = 3) (iBool (z2w f st x).1) (ckS u f 3 (z2w f st x).2) := by
  refine SC.of Tryz.func122 rfl (lb rfl) fun F ρ w => ?_
  refine tQ <| tG <| cE rfl (z1c rfl rfl) <| sm 1 rfl <| nL <| tQ <| tG <| sm 2 rfl <| cE rfl (ocq (zy8 _) ent128 rfl rfl) <| sm 1 rfl <| cV rfl (z1o rfl rfl rfl) <| cV rfl (z1o rfl rfl rfl) ?_
  refine sm 2 rfl <| nL <| tQ <| tQ <| tG <| sm 3 rfl <| nL ?_
  refine tC rfl (fun hc16 => ?_) fun hc16 => ?_
  ·refine tQ <| tG <| sm 4 rfl ?_
   refine wS 20 rfl (fun hb20 => ?_) fun hb20 => ?_
   ·refine sm 5 rfl ?_
    refine wS 25 rfl (fun hb25 => ?_) fun hb25 => ?_
    ·refine sm 4 rfl <| WL.yes rfl rfl rfl rfl rfl rfl (bSl rfl rfl uT35 tZ3 tS3 rfl rfl rfl rfl (fbk rfl) rfl) <| WL.yes rfl rfl rfl rfl rfl rfl (cRr (z1e u f st hs x.args [(z05 x.op).1]) z3b rfl rfl (sRf _ _) (po2 rfl rfl) (by rfl) (fun k (h : _) => .inr trivial) rfl (by rfl)) <| sm 2 rfl ?_
     refine wS 33 rfl (fun hb33 => ?_) fun hb33 => ?_
     ·refine sm 4 rfl <| WL.yes rfl rfl rfl rfl rfl rfl (bSl rfl rfl uT35 tZ3 tS3 rfl rfl rfl rfl (fbk rfl) rfl) <| WL.yes rfl rfl rfl rfl rfl rfl (cRr (z1v u f st hs x.outs [(z05 x.op).2]) z4r rfl rfl (sRf _ _) (po2 rfl rfl) (by rfl) (fun k (h : _) => .inr h) rfl (by rfl)) <| sm 2 rfl <| nL <| tRt ?_
      (have h2 : (z2w f st x).2 = (z0l f.types st x.outs [(z05 x.op).2]).2 := (by simp_all [z2w, z2p, andP]; done)
       rw [h2]
       refine rOk rfl ?_ (po2 rfl rfl)
       clear h2
       skip
       simp_all [z2w, z2p, andP]
       done)
     refine sm 8 rfl <| nL <| tRt ?_
     (have h2 : (z2w f st x).2 = st := (by simp_all [z2w, z2p, andP]; done)
      rw [h2]
      refine rOk rfl ?_ (po2 rfl rfl)
      clear h2
      skip
      simp_all [z2w, z2p, andP]
      done)
    refine sm 16 rfl <| nL <| tRt ?_
    (have h2 : z2w f st x = (false, st) := (by (first | (simp_all [z2w, z2p, andP]; done) | (simp_all [z2w, z2p, andP] <;> omega)))
     rw [h2]
     exact rOk rfl rfl (po2 rfl rfl))
   refine sm 21 rfl <| nL <| tRt ?_
   (have h2 : z2w f st x = (false, st) := (by (first | (simp_all [z2w, z2p, andP]; done) | (simp_all [z2w, z2p, andP] <;> omega)))
    rw [h2]
    exact rOk rfl rfl (po2 rfl rfl))
  refine tSk <| tQ <| tG <| sm 2 rfl <| cE rfl (ocq (y6x _) ent129 rfl rfl) <| sm 2 rfl ?_
  refine wS 45 rfl (fun hb45 => ?_) fun hb45 => ?_
  ·refine sm 5 rfl ?_
   refine wS 50 rfl (fun hb50 => ?_) fun hb50 => ?_
   ·refine sm 5 rfl <| WL.yes rfl rfl rfl rfl rfl rfl (bSl rfl rfl uT35 tZ3 tS3 rfl rfl rfl rfl (fbk rfl) rfl) <| WL.yes rfl rfl rfl rfl rfl rfl (cRr (z1e u f st hs x.args [(z05 x.op).1, (z05 x.op).1]) z3b rfl rfl (sRf _ _) (po2 rfl rfl) (by rfl) (fun k (h : _) => .inr trivial) rfl (by rfl)) <| sm 2 rfl <| nL <| tQ <| tDr z1b (fun k => k ∈ ([3] : List Nat)) <| wR 4 [0, 1, 2, 3, 4, 5, 6, 7, 8, 9, 10, 11, 12, 13, 14, 15, 16, 17, 18, 19, 20, 21, 22, 23, 24, 25, 26, 27, 28, 29, 30] kR0 h30 <| smR 2 rfl ?_
    refine WR.split (t := 60) rfl (fun hb60 => ?_) (fun hb60 => ?_)
    ·obtain ⟨a, b, hab, ha0, hal, hb0, hbl⟩ := y43 (by simpa using hb60)
     have hi0 : (x.args.map eInt)[0]? = some [vInt a] := by rw [hab]; rfl
     have hi1 : (x.args.map eInt)[1]? = some [vInt b] := by rw [hab]; rfl
     have hta : (f.types.map eInt)[a.toNat]? = some [vInt (f.types.getD a.toNat 0)] := by rw [List.getElem?_map]; simp [eInt, List.getD, hal]
     have htb : (f.types.map eInt)[b.toNat]? = some [vInt (f.types.getD b.toNat 0)] := by rw [List.getElem?_map]; simp [eInt, List.getD, hbl]
     refine smR 1 rfl <| ryV rfl rfl rfl (nCk rfl rfl rfl) <| smR 2 rfl <| ryV rfl rfl rfl (oLb uT35 rfl rfl rfl dC0) <| smR 2 rfl <| ryV rfl rfl rfl (iSq rfl rfl rfl uT35 hi0 tS3 rfl (by rfl)) <| smR 1 rfl <| ryV rfl rfl rfl (iSq rfl rfl rfl uT35 hta tS3 rfl oM0) <| smR 2 rfl <| ryV rfl rfl rfl (nCk rfl rfl rfl) <| smR 2 rfl <| ryV rfl rfl rfl (oLb uT35 rfl rfl rfl dC0) ?_
     refine smR 2 rfl <| ryV rfl rfl rfl (iSq rfl rfl rfl uT35 hi1 tS3 rfl (by rfl)) <| smR 1 rfl <| ryV rfl rfl rfl (iSq rfl rfl rfl uT35 htb tS3 rfl oM0) <| smR 4 rfl ?_
     refine WR.split (t := 85) rfl (fun hb85 => ?_) (fun hb85 => ?_)
     ·refine smR 4 rfl <| nR <| wO 31 kR0 <| wY rfl rfl rfl (fun k (h : _) => by (simp at h ⊢; omega)) nw (fun _ _ => bSl rfl rfl uT35 tZ3 tS3 rfl rfl rfl rfl (fbk rfl) rfl) <| wO 32 kR0 <| wY rfl rfl rfl (fun k (h : _) => by (simp at h ⊢; omega)) (nAp rfl) (fun _ _ => ocr (z1v u f st hs x.outs [(z05 x.op).2]) z4r rfl (po2 rfl rfl) rfl (fun k (h : _) => by (simp only [List.mem_cons, List.not_mem_nil, or_false] at h; rcases h with rfl <;> first | exact .inl rfl | exact .inr rfl | exact .inr dC0)) rfl rfl) <| wR 0 [33, 34] kR0 h30 <| smR 2 rfl <| nR <| wDn kR0 <| tRt ?_
      (have h2 : (z2w f st x).2 = (z0l f.types st x.outs [(z05 x.op).2]).2 := (by (try (clear ha0 hb0)); simp_all [z2w, andP]; done)
       rw [h2]
       refine rOk rfl ?_ (po2 rfl rfl)
       clear h2
       try (clear ha0 hb0)
       simp_all [z2w, andP]
       done)
     refine smR 4 rfl <| nR <| wN 31 kR0 h30 rfl rfl rfl <| wN 32 kR0 h30 rfl rfl rfl <| wR 0 [33, 34] kR0 h30 <| smR 2 rfl <| nR <| wDn kR0 <| tRt ?_
     (have h2 : (z2w f st x).2 = st := (by (try (clear ha0 hb0)); simp_all [z2w, andP]; done)
      rw [h2]
      refine rOk rfl ?_ (po2 rfl rfl)
      clear h2
      try (clear ha0 hb0)
      simp_all [z2w, andP]
      done)
    refine smR 29 rfl <| nR <| wN 31 kR0 h30 rfl rfl rfl <| wN 32 kR0 h30 rfl rfl rfl <| wR 0 [33, 34] kR0 h30 <| smR 2 rfl <| nR <| wDn kR0 <| tRt ?_
    (have h2 : (z2w f st x).2 = st := (by (try (clear ha0 hb0)); simp_all [z2w, andP]; done)
     rw [h2]
     refine rOk rfl ?_ (po2 rfl rfl)
     clear h2
     try (clear ha0 hb0)
     simp_all [z2w, andP]
     done)
   refine sm 9 rfl <| nL <| tQ <| tDr z1b (fun k => k ∈ ([3] : List Nat)) <| wR 4 [0, 1, 2, 3, 4, 5, 6, 7, 8, 9, 10, 11, 12, 13, 14, 15, 16, 17, 18, 19, 20, 21, 22, 23, 24, 25, 26, 27, 28, 29, 30] kR0 h30 <| smR 31 rfl <| nR <| wN 31 kR0 h30 rfl rfl rfl <| wN 32 kR0 h30 rfl rfl rfl <| wR 0 [33, 34] kR0 h30 <| smR 2 rfl <| nR ?_
   refine wDn kR0 <| tRt ?_
   (have h2 : z2w f st x = (false, st) := (by (try (clear ha0 hb0)); (first | (simp_all [z2w, andP]; done) | (simp_all [z2w, andP] <;> omega)))
    rw [h2]
    exact rOk rfl rfl (po2 rfl rfl))
  refine sm 14 rfl <| nL <| tQ <| tDr z1b (fun k => k ∈ ([3] : List Nat)) <| wR 4 [0, 1, 2, 3, 4, 5, 6, 7, 8, 9, 10, 11, 12, 13, 14, 15, 16, 17, 18, 19, 20, 21, 22, 23, 24, 25, 26, 27, 28, 29, 30] kR0 h30 <| smR 31 rfl <| nR <| wN 31 kR0 h30 rfl rfl rfl <| wN 32 kR0 h30 rfl rfl rfl <| wR 0 [33, 34] kR0 h30 <| smR 2 rfl <| nR ?_
  refine wDn kR0 <| tRt ?_
  (have h2 : z2w f st x = (false, st) := (by (try (clear ha0 hb0)); (first | (simp_all [z2w, andP]; done) | (simp_all [z2w, andP] <;> omega)))
   rw [h2]
   exact rOk rfl rfl (po2 rfl rfl))
theorem sc_shEnd (u : Un) (f : Fl) (st : List Int) (hs : st.length = f.types.length) (x : Nd) (wh : Wh) : SC Tryz.prog 109 [.ptr 3 0, .pv (ndv x), .pv (whv wh)] (ckS u f 3 st) (fun k => k = 3) (iBool (z79 f st x wh)) (ckS u f 3 st) := by
  refine SC.of Tryz.func109 rfl (lb rfl) fun F ρ w => ?_
  refine tQ <| tG <| cE rfl (z1c rfl rfl) <| cE rfl (z1c rfl rfl) <| sm 1 rfl <| nL <| tQ <| tG <| sm 2 rfl <| cV rfl (oSm uT35 rfl) <| sm 2 rfl <| nL ?_
  refine tQ <| tQ <| tG <| sm 2 rfl <| nL <| tBk <| tQ <| tG <| sm 2 rfl <| nL ?_
  refine tC rfl (fun hc14 => ?_) fun hc14 => ?_
  ·refine tQ <| tG <| sm 2 rfl ?_
   refine wS 17 rfl (fun hb17 => ?_) fun hb17 => ?_
   ·refine sm 4 rfl ?_
    refine wS 21 rfl (fun hb21 => ?_) fun hb21 => ?_
    ·refine sm 5 rfl <| WL.yes rfl rfl rfl rfl rfl rfl (cRr (z1e u f st hs x.args wh.Yield) z3b rfl rfl (sRf _ _) (po2 rfl rfl) (by rfl) (fun k (h : _) => .inr trivial) rfl (by rfl)) <| sm 2 rfl <| nL <| tRt <| rOk rfl ?_ (z20 (And.intro rfl (And.intro rfl (trivial))))
     refine congrArg (fun b => iBool b) ?_
     simp_all [z79]
    refine sm 8 rfl <| nL <| tRt <| rOk rfl ?_ (z20 (And.intro rfl (And.intro rfl (trivial))))
    refine congrArg (fun b => iBool b) ?_
    simp_all [z79]
   refine sm 12 rfl <| nL <| tRt <| rOk rfl ?_ (z20 (And.intro rfl (And.intro rfl (trivial))))
   refine congrArg (fun b => iBool b) ?_
   simp_all [z79]
  refine tQ <| tG <| sm 2 rfl <| nL ?_
  refine tC rfl (fun hc29 => ?_) fun hc29 => ?_
  ·refine tQ <| tG <| sm 2 rfl ?_
   refine wS 32 rfl (fun hb32 => ?_) fun hb32 => ?_
   ·refine sm 4 rfl ?_
    refine wS 36 rfl (fun hb36 => ?_) fun hb36 => ?_
    ·refine sm 5 rfl <| WL.yes rfl rfl rfl rfl rfl rfl (cRr (z1e u f st hs x.args wh.Next) z3b rfl rfl (sRf _ _) (po2 rfl rfl) (by rfl) (fun k (h : _) => .inr trivial) rfl (by rfl)) <| sm 2 rfl <| nL <| tRt <| rOk rfl ?_ (z20 (And.intro rfl (And.intro rfl (trivial))))
     refine congrArg (fun b => iBool b) ?_
     simp_all [z79]
    refine sm 8 rfl <| nL <| tRt <| rOk rfl ?_ (z20 (And.intro rfl (And.intro rfl (trivial))))
    refine congrArg (fun b => iBool b) ?_
    simp_all [z79]
   refine sm 12 rfl <| nL <| tRt <| rOk rfl ?_ (z20 (And.intro rfl (And.intro rfl (trivial))))
   refine congrArg (fun b => iBool b) ?_
   simp_all [z79]
  refine tQ <| tG <| sm 2 rfl <| nL ?_
  refine tC rfl (fun hc44 => ?_) fun hc44 => ?_
  ·refine tQ <| tG <| sm 2 rfl ?_
   refine wS 47 rfl (fun hb47 => ?_) fun hb47 => ?_
   ·refine sm 4 rfl ?_
    refine wS 51 rfl (fun hb51 => ?_) fun hb51 => ?_
    ·refine sm 5 rfl <| WL.yes rfl rfl rfl rfl rfl rfl (cRr (z1e u f st hs x.args wh.Left) z3b rfl rfl (sRf _ _) (po2 rfl rfl) (by rfl) (fun k (h : _) => .inr trivial) rfl (by rfl)) <| sm 2 rfl <| nL <| tRt <| rOk rfl ?_ (z20 (And.intro rfl (And.intro rfl (trivial))))
     refine congrArg (fun b => iBool b) ?_
     simp_all [z79]
    refine sm 8 rfl <| nL <| tRt <| rOk rfl ?_ (z20 (And.intro rfl (And.intro rfl (trivial))))
    refine congrArg (fun b => iBool b) ?_
    simp_all [z79]
   refine sm 12 rfl <| nL <| tRt <| rOk rfl ?_ (z20 (And.intro rfl (And.intro rfl (trivial))))
   refine congrArg (fun b => iBool b) ?_
   simp_all [z79]
  refine tSk <| tQ <| tDr z1b (fun k => k ∈ ([3, 4] : List Nat)) <| wR 4 [0, 1, 2, 3, 4, 5, 6, 7, 8, 9] kR0 h30 <| smR 2 rfl ?_
  refine WR.split (t := 60) rfl (fun hb60 => ?_) (fun hb60 => ?_)
  ·refine smR 4 rfl <| ryV rfl rfl rfl (nCk rfl rfl rfl) <| smR 2 rfl <| ryV rfl rfl rfl (oLb uT3 rfl rfl rfl dC0) <| nR <| wO 10 kR0 <| wY rfl rfl rfl (fun k (h : _) => by (simp at h ⊢; omega)) nw (fun _ _ => bSl rfl rfl uT35 tZ3 tS3 rfl rfl rfl rfl (fbk rfl) rfl) <| wO 11 kR0 <| wY rfl rfl rfl (fun k (h : _) => by (simp at h ⊢; omega)) (nAp rfl) (fun _ _ => ocr (z1e u f st hs x.args [f.ty]) z3b rfl (po2 rfl rfl) rfl (fun k (h : _) => .inr trivial) rfl rfl) <| wR 0 [12, 13] kR0 h30 <| smR 2 rfl <| nR ?_
   refine wDn kR0 <| tRt <| rOk rfl ?_ (z20 (And.intro rfl (And.intro rfl (trivial))))
   refine congrArg (fun b => iBool b) ?_
   simp_all [z79]
  refine smR 8 rfl <| nR <| wN 10 kR0 h30 rfl rfl rfl <| wN 11 kR0 h30 rfl rfl rfl <| wR 0 [12, 13] kR0 h30 <| smR 2 rfl <| nR <| wDn kR0 <| tRt <| rOk rfl ?_ (z20 (And.intro rfl (And.intro rfl (trivial))))
  refine congrArg (fun b => iBool b) ?_
  simp_all [z79]
theorem y1b (u : Un) (f : Fl) (st : List Int) (hs : st.length = f.types.length) (hg : ∀ g ∈ u.flows, 0 <= g.params /\ g.params <= g.types.length) (x : Nd) : SC Tryz.prog 110 [.ptr 3 0, .pv (ndv x)] (ckS u f 3 st) (fun k => k = 3) (iBool (z01 u f st x).1) (ckS u f 3 (z01 u f st x).2) := by
  refine SC.of Tryz.func110 rfl (lb rfl) fun F ρ w => ?_
  refine tQ <| tG <| cE rfl (z1c rfl rfl) <| sm 1 rfl <| nL <| tQ <| tQ <| tG <| sm 2 rfl <| nL <| tBk <| tQ ?_
  refine tG <| sm 2 rfl <| nL ?_
  refine tC rfl (fun hc9 => ?_) fun hc9 => ?_
  ·refine tQ <| tG <| sm 3 rfl <| cE rfl (cRr (z1e u f st hs x.args []) z3b rfl rfl (sSm rfl (sSm rfl (Subs.cons (fun _ _ _ _ h => z3i h) Subs.nil))) (po2 rfl rfl) (by rfl) (fun k (h : _) => .inr trivial) rfl (by rfl)) <| sm 1 rfl ?_
   refine wS 15 rfl (fun hb15 => ?_) fun hb15 => ?_
   ·refine sm 3 rfl <| WL.yes rfl rfl rfl rfl rfl rfl (bSl rfl rfl uT35 tZ3 tS3 rfl rfl rfl rfl (fbk rfl) rfl) <| WL.yes rfl rfl rfl rfl rfl rfl (cRr (z1v u f st hs x.outs [1]) z4r rfl rfl (sRf _ _) (po2 rfl rfl) (by rfl) (fun k (h : _) => .inr h) rfl (by rfl)) <| sm 2 rfl <| nL <| tRt ?_
    (have h2 : (z01 u f st x).2 = (z0l f.types st x.outs [1]).2 := (by simp_all [z01, andP]; done)
     rw [h2]
     refine rOk rfl ?_ (po2 rfl rfl)
     clear h2
     skip
     simp_all [z01, andP]
     done)
   refine sm 7 rfl <| nL <| tRt ?_
   (have h2 : (z01 u f st x).2 = st := (by simp_all [z01, andP]; done)
    rw [h2]
    refine rOk rfl ?_ (po2 rfl rfl)
    clear h2
    skip
    simp_all [z01, andP]
    done)
  refine tQ <| tG <| sm 2 rfl <| nL ?_
  refine tC rfl (fun hc22 => ?_) fun hc22 => ?_
  ·refine tQ <| tG <| sm 4 rfl ?_
   refine wS 27 rfl (fun hb27 => ?_) fun hb27 => ?_
   ·refine sm 8 rfl <| WL.yes rfl rfl rfl rfl rfl rfl (cRr (z1e u f st hs x.args []) z3b rfl rfl (sSm rfl (sSm rfl (Subs.cons (fun _ _ _ _ h => z3i h) Subs.nil))) (po2 rfl rfl) (by rfl) (fun k (h : _) => .inr trivial) rfl (by rfl)) <| sm 2 rfl ?_
    refine wS 38 rfl (fun hb38 => ?_) fun hb38 => ?_
    ·refine sm 3 rfl <| WL.yes rfl rfl rfl rfl rfl rfl (bSl rfl rfl uT35 tZ3 tS3 rfl rfl rfl rfl (fbk rfl) rfl) <| WL.yes rfl rfl rfl rfl rfl rfl (cRr (z1v u f st hs x.outs [2]) z4r rfl rfl (sRf _ _) (po2 rfl rfl) (by rfl) (fun k (h : _) => .inr h) rfl (by rfl)) <| sm 2 rfl <| nL <| tRt ?_
     (have h2 : (z01 u f st x).2 = (z0l f.types st x.outs [2]).2 := (by simp_all [z01, andP]; done)
      rw [h2]
      refine rOk rfl ?_ (po2 rfl rfl)
      clear h2
      skip
      simp_all [z01, andP]
      done)
    refine sm 7 rfl <| nL <| tRt ?_
    (have h2 : (z01 u f st x).2 = st := (by simp_all [z01, andP]; done)
     rw [h2]
     refine rOk rfl ?_ (po2 rfl rfl)
     clear h2
     skip
     simp_all [z01, andP]
     done)
   refine sm 5 rfl ?_
   refine wS 32 rfl (fun hb32 => ?_) fun hb32 => ?_
   ·refine sm 3 rfl <| WL.yes rfl rfl rfl rfl rfl rfl (cRr (z1e u f st hs x.args []) z3b rfl rfl (sSm rfl (sSm rfl (Subs.cons (fun _ _ _ _ h => z3i h) Subs.nil))) (po2 rfl rfl) (by rfl) (fun k (h : _) => .inr trivial) rfl (by rfl)) <| sm 2 rfl ?_
    refine wS 38 rfl (fun hb38 => ?_) fun hb38 => ?_
    ·refine sm 3 rfl <| WL.yes rfl rfl rfl rfl rfl rfl (bSl rfl rfl uT35 tZ3 tS3 rfl rfl rfl rfl (fbk rfl) rfl) <| WL.yes rfl rfl rfl rfl rfl rfl (cRr (z1v u f st hs x.outs [2]) z4r rfl rfl (sRf _ _) (po2 rfl rfl) (by rfl) (fun k (h : _) => .inr h) rfl (by rfl)) <| sm 2 rfl <| nL <| tRt ?_
     (have h2 : (z01 u f st x).2 = (z0l f.types st x.outs [2]).2 := (by simp_all [z01, andP]; done)
      rw [h2]
      refine rOk rfl ?_ (po2 rfl rfl)
      clear h2
      skip
      simp_all [z01, andP]
      done)
    refine sm 7 rfl <| nL <| tRt ?_
    (have h2 : (z01 u f st x).2 = st := (by simp_all [z01, andP]; done)
     rw [h2]
     refine rOk rfl ?_ (po2 rfl rfl)
     clear h2
     skip
     simp_all [z01, andP]
     done)
   refine sm 13 rfl <| nL <| tRt ?_
   (have h2 : (z01 u f st x).2 = st := (by simp_all [z01, andP]; done)
    rw [h2]
    refine rOk rfl ?_ (po2 rfl rfl)
    clear h2
    skip
    simp_all [z01, andP]
    done)
  refine tQ <| tQ <| tG <| sm 2 rfl <| nL ?_
  refine tC rfl (fun hc45 => ?_) fun hc45 => ?_
  ·refine tSk ?_
   refine tC rfl (fun hc45 => ?_) fun hc45 => ?_
   ·refine tQ <| tG <| sm 1 rfl <| cV rfl (lEA rfl rfl uT42 rfl tS42 (lb rfl)) <| cE rfl (ocr (y2h u f st hs x) ent122 rfl (po2 rfl rfl) rfl (fun k (h : _) => .inr h) rfl rfl) <| sm 1 rfl <| nL <| tRt ?_
    have h2 : z01 u f st x = z2w f st x := by simp_all [z01]
    rw [h2]
    exact rOk rfl rfl (po2 rfl rfl)
   refine tQ <| tG <| sm 2 rfl <| nL ?_
   refine tC rfl (fun hc51 => ?_) fun hc51 => ?_
   ·refine tQ <| tDr z1b (fun k => k ∈ ([3] : List Nat)) <| wR 16 [0, 1, 2, 3, 4, 5] kR0 h30 <| smR 1 rfl <| rV rfl rfl (nCk rfl rfl rfl) <| smR 1 rfl <| rV rfl rfl (lBP rfl rfl rfl uT25 rfl tS25 (lb rfl) rfl dC0) <| smR 2 rfl <| nR <| wO 6 kR0 <| wI rfl rfl (fun k (h : _) => by (simp at h ⊢; omega)) nw (fun _ _ => ocq (ze2 _ _) y1w rfl rfl) <| wR 11 [7, 8, 9, 10] kR0 h30 ?_
    refine smR 1 rfl ?_
    refine WR.split (t := 60) rfl (fun hb60 => ?_) (fun hb60 => ?_)
    ·refine smR 3 rfl <| nR <| wO 11 kR0 <| wY rfl rfl rfl (fun k (h : _) => by (simp at h ⊢; omega)) nw (fun _ _ => bSl rfl rfl uT35 tZ3 tS3 rfl rfl rfl rfl (fbk rfl) rfl) <| wO 12 kR0 <| wY rfl rfl rfl (fun k (h : _) => by (simp at h ⊢; omega)) (nAp rfl) (fun _ _ => ocr (z1e u f st hs x.args [1]) z3b rfl (po2 rfl rfl) rfl (fun k (h : _) => .inr trivial) rfl rfl) <| wR 4 [13, 14, 15, 16, 17] kR0 h30 <| smR 2 rfl ?_
     refine WR.split (t := 67) rfl (fun hb67 => ?_) (fun hb67 => ?_)
     ·refine smR 3 rfl <| nR <| wO 18 kR0 <| wY rfl rfl rfl (fun k (h : _) => by (simp at h ⊢; omega)) nw (fun _ _ => bSl rfl rfl uT35 tZ3 tS3 rfl rfl rfl rfl (fbk rfl) rfl) <| wO 19 kR0 <| wY rfl rfl rfl (fun k (h : _) => by (simp at h ⊢; omega)) (nAp rfl) (fun _ _ => ocr (z1v u f st hs x.outs [1]) z4r rfl (po2 rfl rfl) rfl (fun k (h : _) => by (simp only [List.mem_cons, List.not_mem_nil, or_false] at h; rcases h with rfl <;> first | exact .inl rfl | exact .inr rfl | exact .inr dC0)) rfl rfl) <| wR 0 [20, 21] kR0 h30 <| smR 2 rfl <| nR <| wDn kR0 <| tRt ?_
      (have h2 : (z01 u f st x).2 = (z0l f.types st x.outs [1]).2 := (by simp_all [z01, andP]; done)
       rw [h2]
       refine rOk rfl ?_ (po2 rfl rfl)
       clear h2
       skip
       simp_all [z01, andP]
       done)
     refine smR 3 rfl <| nR <| wN 18 kR0 h30 rfl rfl rfl <| wN 19 kR0 h30 rfl rfl rfl <| wR 0 [20, 21] kR0 h30 <| smR 2 rfl <| nR <| wDn kR0 <| tRt ?_
     (have h2 : (z01 u f st x).2 = st := (by simp_all [z01, andP]; done)
      rw [h2]
      refine rOk rfl ?_ (po2 rfl rfl)
      clear h2
      skip
      simp_all [z01, andP]
      done)
    refine smR 3 rfl <| nR <| wN 11 kR0 h30 rfl rfl rfl <| wN 12 kR0 h30 rfl rfl rfl <| wR 4 [13, 14, 15, 16, 17] kR0 h30 <| smR 5 rfl <| nR <| wN 18 kR0 h30 rfl rfl rfl <| wN 19 kR0 h30 rfl rfl rfl <| wR 0 [20, 21] kR0 h30 <| smR 2 rfl <| nR ?_
    refine wDn kR0 <| tRt ?_
    (have h2 : (z01 u f st x).2 = st := (by simp_all [z01, andP]; done)
     rw [h2]
     refine rOk rfl ?_ (po2 rfl rfl)
     clear h2
     skip
     simp_all [z01, andP]
     done)
   refine tQ <| tG <| sm 2 rfl <| nL ?_
   refine tC rfl (fun hc74 => ?_) fun hc74 => ?_
   ·refine tQ <| tDr z1b (fun k => k ∈ ([3] : List Nat)) <| wR 15 [0, 1, 2, 3, 4, 5] kR0 h30 <| smR 1 rfl <| rV rfl rfl (nCk rfl rfl rfl) <| smR 1 rfl <| rV rfl rfl (lBP rfl rfl rfl uT25 rfl tS25 (lb rfl) rfl dC0) <| smR 2 rfl <| nR <| wO 6 kR0 <| wI rfl rfl (fun k (h : _) => by (simp at h ⊢; omega)) nw (fun _ _ => ocq (ze2 _ _) y1w rfl rfl) <| wR 10 [7, 8, 9, 10] kR0 h30 ?_
    refine smR 1 rfl ?_
    refine WR.split (t := 83) rfl (fun hb83 => ?_) (fun hb83 => ?_)
    ·refine smR 3 rfl <| nR <| wO 11 kR0 <| wY rfl rfl rfl (fun k (h : _) => by (simp at h ⊢; omega)) nw (fun _ _ => bSl rfl rfl uT35 tZ3 tS3 rfl rfl rfl rfl (fbk rfl) rfl) <| wO 12 kR0 <| wY rfl rfl rfl (fun k (h : _) => by (simp at h ⊢; omega)) (nAp rfl) (fun _ _ => ocr (z1e u f st hs x.args [1, 1]) z3b rfl (po2 rfl rfl) rfl (fun k (h : _) => .inr trivial) rfl rfl) <| wR 3 [13, 14, 15, 16, 17] kR0 h30 <| smR 2 rfl ?_
     refine WR.split (t := 90) rfl (fun hb90 => ?_) (fun hb90 => ?_)
     ·refine smR 3 rfl <| nR <| wO 18 kR0 <| wY rfl rfl rfl (fun k (h : _) => by (simp at h ⊢; omega)) (nAp rfl) (fun _ _ => cRr (z1v u f st hs x.outs []) z4r rfl rfl (sSm rfl (sSm rfl (Subs.cons (fun _ _ _ _ h => z3i h) Subs.nil))) (po2 rfl rfl) (by rfl) (fun k (h : _) => by (simp only [List.mem_cons, List.not_mem_nil, or_false] at h; rcases h with rfl <;> first | exact .inl rfl | exact .inr rfl | exact .inr dC0)) rfl (by rfl)) <| wR 0 [19, 20] kR0 h30 <| smR 2 rfl <| nR <| wDn kR0 <| tRt ?_
      (have h2 : (z01 u f st x).2 = (z0l f.types st x.outs []).2 := (by simp_all [z01, andP]; done)
       rw [h2]
       refine rOk rfl ?_ (po2 rfl rfl)
       clear h2
       skip
       simp_all [z01, andP]
       done)
     refine smR 3 rfl <| nR <| wN 18 kR0 h30 rfl rfl rfl <| wR 0 [19, 20] kR0 h30 <| smR 2 rfl <| nR <| wDn kR0 <| tRt ?_
     (have h2 : (z01 u f st x).2 = st := (by simp_all [z01, andP]; done)
      rw [h2]
      refine rOk rfl ?_ (po2 rfl rfl)
      clear h2
      skip
      simp_all [z01, andP]
      done)
    refine smR 3 rfl <| nR <| wN 11 kR0 h30 rfl rfl rfl <| wN 12 kR0 h30 rfl rfl rfl <| wR 3 [13, 14, 15, 16, 17] kR0 h30 <| smR 5 rfl <| nR <| wN 18 kR0 h30 rfl rfl rfl <| wR 0 [19, 20] kR0 h30 <| smR 2 rfl <| nR <| wDn kR0 ?_
    refine tRt ?_
    (have h2 : (z01 u f st x).2 = st := (by simp_all [z01, andP]; done)
     rw [h2]
     refine rOk rfl ?_ (po2 rfl rfl)
     clear h2
     skip
     simp_all [z01, andP]
     done)
   refine tQ <| tG <| sm 2 rfl <| nL ?_
   refine tC rfl (fun hc96 => ?_) fun hc96 => ?_
   ·refine tQ <| tG <| sm 3 rfl <| cE rfl (cRr (z1e u f st hs x.args []) z3b rfl rfl (sSm rfl (sSm rfl (Subs.cons (fun _ _ _ _ h => z3i h) Subs.nil))) (po2 rfl rfl) (by rfl) (fun k (h : _) => .inr trivial) rfl (by rfl)) <| sm 1 rfl ?_
    refine wS 102 rfl (fun hb102 => ?_) fun hb102 => ?_
    ·refine sm 3 rfl <| WL.yes rfl rfl rfl rfl rfl rfl (bSl rfl rfl uT35 tZ3 tS3 rfl rfl rfl rfl (fbk rfl) rfl) <| WL.yes rfl rfl rfl rfl rfl rfl (cRr (z1v u f st hs x.outs [1]) z4r rfl rfl (sRf _ _) (po2 rfl rfl) (by rfl) (fun k (h : _) => .inr h) rfl (by rfl)) <| sm 2 rfl <| nL <| tRt ?_
     (have h2 : (z01 u f st x).2 = (z0l f.types st x.outs [1]).2 := (by simp_all [z01, andP]; done)
      rw [h2]
      refine rOk rfl ?_ (po2 rfl rfl)
      clear h2
      skip
      simp_all [z01, andP]
      done)
    refine sm 7 rfl <| nL <| tRt ?_
    (have h2 : (z01 u f st x).2 = st := (by simp_all [z01, andP]; done)
     rw [h2]
     refine rOk rfl ?_ (po2 rfl rfl)
     clear h2
     skip
     simp_all [z01, andP]
     done)
   refine tQ <| tG <| sm 2 rfl <| nL ?_
   refine tC rfl (fun hc109 => ?_) fun hc109 => ?_
   ·refine tQ <| tG <| sm 3 rfl <| cE rfl (bSl rfl rfl uT35 tZ3 tS3 rfl rfl rfl rfl (fbk rfl) rfl) <| cE rfl (ocr (z1e u f st hs x.args [1]) z3b rfl (po2 rfl rfl) rfl (fun k (h : _) => .inr trivial) rfl rfl) <| sm 1 rfl ?_
    refine wS 116 rfl (fun hb116 => ?_) fun hb116 => ?_
    ·refine sm 3 rfl <| WL.yes rfl rfl rfl rfl rfl rfl (cRr (z1v u f st hs x.outs []) z4r rfl rfl (sSm rfl (sSm rfl (Subs.cons (fun _ _ _ _ h => z3i h) Subs.nil))) (po2 rfl rfl) (by rfl) (fun k (h : _) => .inr h) rfl (by rfl)) <| sm 2 rfl <| nL <| tRt ?_
     (have h2 : (z01 u f st x).2 = (z0l f.types st x.outs []).2 := (by simp_all [z01, andP]; done)
      rw [h2]
      refine rOk rfl ?_ (po2 rfl rfl)
      clear h2
      skip
      simp_all [z01, andP]
      done)
    refine sm 6 rfl <| nL <| tRt ?_
    (have h2 : (z01 u f st x).2 = st := (by simp_all [z01, andP]; done)
     rw [h2]
     refine rOk rfl ?_ (po2 rfl rfl)
     clear h2
     skip
     simp_all [z01, andP]
     done)
   refine tQ <| tG <| sm 2 rfl <| nL ?_
   refine tC rfl (fun hc122 => ?_) fun hc122 => ?_
   ·refine tQ <| tDr z1b (fun k => k ∈ ([3] : List Nat)) <| wR 2 [0, 1, 2, 3, 4, 5] kR0 h30 <| smR 1 rfl <| rV rfl rfl (nCk rfl rfl rfl) <| smR 1 rfl <| rV rfl rfl (lBP rfl rfl rfl uT25 rfl tS25 (lb rfl) rfl dC0) <| smR 2 rfl <| nR <| wO 6 kR0 <| wI rfl rfl (fun k (h : _) => by (simp at h ⊢; omega)) nw (fun _ _ => ocq (zb1 _ _) ent61 rfl rfl) <| wR 0 [7] kR0 h30 ?_
    refine smR 1 rfl <| nR <| wDn kR0 <| tQ <| tQ <| tG <| sm 2 rfl <| nL ?_
    refine tC rfl (fun hc132 => ?_) fun hc132 => ?_
    ·refine tQ <| tG <| sm 1 rfl <| nL <| tRt ?_
     (have h2 : (z01 u f st x).2 = st := (by simp_all [z01, z4l, andP]; done)
      rw [h2]
      refine rOk rfl ?_ (po2 rfl rfl)
      clear h2
      skip
      simp_all [z01, z4l, andP]
      done)
    have hk0 : z07 x.name u.flows 0 ≥ 0 := by simp at hc132; omega
    obtain ⟨g, hgk, _⟩ := z6c hk0
    obtain ⟨hgp0, hgpl⟩ := hg g (List.mem_of_getElem? hgk)
    have hgp : g.params = (g.params.toNat : Int) := by omega
    have hgi : (u.flows.map Fl.enc)[(z07 x.name u.flows 0).toNat]? = some (Fl.enc g) := by rw [List.getElem?_map, hgk]; rfl
    have hkn : z07 x.name u.flows 0 = ((z07 x.name u.flows 0).toNat : Int) := by omega
    have hnl : ¬ z07 x.name u.flows 0 < 0 := by omega
    have hcall : z4l u f st x = andP (z0y f.types st x.args (g.types.take g.params.toNat)) st (z0l f.types st x.outs [g.ty]) := by
      unfold z4l
      rw [if_neg hnl, hgk]
    refine tSk <| tQ <| tG <| sm 1 rfl <| cV rfl (nCk rfl rfl rfl) <| sm 4 rfl <| cV rfl (iSq rfl rfl rfl uT23 hgi tS51 rfl oM0) <| cV rfl (lEA rfl rfl Tryz.underlying51 rfl tS51 (lb rfl)) <| cE rfl (aLc (k := 106) rfl tZ51 rfl rfl rfl rfl) <| c0 (sBA rfl rfl rfl rfl rfl sI0 tS51 (flk rfl) (lb rfl)) <| nL <| tQ ?_
    refine Tr.freezeBox (t := 6) (k := 106) rfl rfl rfl ?_
    refine Tr.heap (σ' := look (up (ckS u f 3 st))) (fun k => by
      simp only [look]
      by_cases h : 106 = k
      · subst h; rfl
      · simp [z02 h]) ?_
    refine tDr z1b (fun k => k ∈ ([3] : List Nat)) <| wR 11 [0, 1, 2, 3, 4, 5, 6, 7] kR0 h30 <| smR 7 rfl ?_
    refine rV rfl rfl (z4g (j := g.params.toNat) rfl rfl uT35 tS3 (.inl ⟨rfl, rfl⟩) (.inr ⟨_, _, rfl, congrArg (fun z => some (IV.pv (.val (.int .i64 z)))) hgp⟩) (Nat.zero_le _) (by simp; omega) (by simp [eInt])) ?_
    refine nR <| wO 8 kR0 ?_
    refine wI rfl rfl (fun k (h : _) => by (simp at h ⊢; omega)) (nAp rfl) (fun _ _ => cRr (z1e u f st hs x.args (g.types.take g.params.toNat)) z3b rfl rfl (sSm rfl (sSm rfl (sSm (by simp [ints, List.map_take]) Subs.nil))) (po2 rfl rfl) (by rfl) (fun k (h : _) => .inr trivial) rfl (by rfl)) ?_
    refine wR 4 [9, 10, 11, 12, 13, 14] kR0 h30 <| smR 1 rfl ?_
    refine WR.split (t := 150) rfl (fun hb150 => ?_) (fun hb150 => ?_)
    ·refine smR 5 rfl <| nR <| wO 15 kR0 <| wY rfl rfl rfl (fun k (h : _) => by (simp at h ⊢; omega)) nw (fun _ _ => bSl rfl rfl uT35 tZ3 tS3 rfl rfl rfl rfl (fbk rfl) rfl) <| wO 16 kR0 <| wY rfl rfl rfl (fun k (h : _) => by (simp at h ⊢; omega)) (nAp rfl) (fun _ _ => ocr (z1v u f st hs x.outs [g.ty]) z4r rfl (po2 rfl rfl) rfl (fun k (h : _) => by (simp only [List.mem_cons, List.not_mem_nil, or_false] at h; rcases h with rfl <;> first | exact .inl rfl | exact .inr rfl | exact .inr dC0)) rfl rfl) <| wR 0 [17, 18] kR0 h30 <| smR 2 rfl <| nR <| wDn kR0 <| tRt ?_
     have hsim : z01 u f st x = z4l u f st x := by
       clear hkn hgp hcall hnl
       simp_all [z01]
     rw [hsim, hcall]
     clear hsim hcall
     (have h2 : (andP (z0y f.types st x.args (g.types.take g.params.toNat)) st (z0l f.types st x.outs [g.ty])).2 = (z0l f.types st x.outs [g.ty]).2 := (by (try (clear hkn hgp)); simp_all [andP, andP]; done)
      rw [h2]
      refine rOk rfl ?_ (po2 rfl rfl)
      clear h2
      try (clear hkn hgp)
      simp_all [andP, andP]
      done)
    refine smR 5 rfl <| nR <| wN 15 kR0 h30 rfl rfl rfl <| wN 16 kR0 h30 rfl rfl rfl <| wR 0 [17, 18] kR0 h30 <| smR 2 rfl <| nR <| wDn kR0 <| tRt ?_
    have hsim : z01 u f st x = z4l u f st x := by
      clear hkn hgp hcall hnl
      simp_all [z01]
    rw [hsim, hcall]
    clear hsim hcall
    (have h2 : (andP (z0y f.types st x.args (g.types.take g.params.toNat)) st (z0l f.types st x.outs [g.ty])).2 = st := (by (try (clear hkn hgp)); simp_all [andP, andP]; done)
     rw [h2]
     refine rOk rfl ?_ (po2 rfl rfl)
     clear h2
     try (clear hkn hgp)
     simp_all [andP, andP]
     done)
   refine tSk <| tQ <| tG <| sm 1 rfl <| nL <| tRt ?_
   (have h2 : (z01 u f st x).2 = st := (by simp_all [z01, andP]; done)
    rw [h2]
    refine rOk rfl ?_ (po2 rfl rfl)
    clear h2
    skip
    simp_all [z01, andP]
    done)
  refine tG <| sm 2 rfl <| nL ?_
  refine tC rfl (fun hc45 => ?_) fun hc45 => ?_
  ·refine tQ <| tG <| sm 1 rfl <| cV rfl (lEA rfl rfl uT42 rfl tS42 (lb rfl)) <| cE rfl (ocr (y2h u f st hs x) ent122 rfl (po2 rfl rfl) rfl (fun k (h : _) => .inr h) rfl rfl) <| sm 1 rfl <| nL <| tRt ?_
   have h2 : z01 u f st x = z2w f st x := by simp_all [z01]
   rw [h2]
   exact rOk rfl rfl (po2 rfl rfl)
  refine tQ <| tG <| sm 2 rfl <| nL ?_
  refine tC rfl (fun hc51 => ?_) fun hc51 => ?_
  ·refine tQ <| tDr z1b (fun k => k ∈ ([3] : List Nat)) <| wR 16 [0, 1, 2, 3, 4, 5] kR0 h30 <| smR 1 rfl <| rV rfl rfl (nCk rfl rfl rfl) <| smR 1 rfl <| rV rfl rfl (lBP rfl rfl rfl uT25 rfl tS25 (lb rfl) rfl dC0) <| smR 2 rfl <| nR <| wO 6 kR0 <| wI rfl rfl (fun k (h : _) => by (simp at h ⊢; omega)) nw (fun _ _ => ocq (ze2 _ _) y1w rfl rfl) <| wR 11 [7, 8, 9, 10] kR0 h30 ?_
   refine smR 1 rfl ?_
   refine WR.split (t := 60) rfl (fun hb60 => ?_) (fun hb60 => ?_)
   ·refine smR 3 rfl <| nR <| wO 11 kR0 <| wY rfl rfl rfl (fun k (h : _) => by (simp at h ⊢; omega)) nw (fun _ _ => bSl rfl rfl uT35 tZ3 tS3 rfl rfl rfl rfl (fbk rfl) rfl) <| wO 12 kR0 <| wY rfl rfl rfl (fun k (h : _) => by (simp at h ⊢; omega)) (nAp rfl) (fun _ _ => ocr (z1e u f st hs x.args [1]) z3b rfl (po2 rfl rfl) rfl (fun k (h : _) => .inr trivial) rfl rfl) <| wR 4 [13, 14, 15, 16, 17] kR0 h30 <| smR 2 rfl ?_
    refine WR.split (t := 67) rfl (fun hb67 => ?_) (fun hb67 => ?_)
    ·refine smR 3 rfl <| nR <| wO 18 kR0 <| wY rfl rfl rfl (fun k (h : _) => by (simp at h ⊢; omega)) nw (fun _ _ => bSl rfl rfl uT35 tZ3 tS3 rfl rfl rfl rfl (fbk rfl) rfl) <| wO 19 kR0 <| wY rfl rfl rfl (fun k (h : _) => by (simp at h ⊢; omega)) (nAp rfl) (fun _ _ => ocr (z1v u f st hs x.outs [1]) z4r rfl (po2 rfl rfl) rfl (fun k (h : _) => by (simp only [List.mem_cons, List.not_mem_nil, or_false] at h; rcases h with rfl <;> first | exact .inl rfl | exact .inr rfl | exact .inr dC0)) rfl rfl) <| wR 0 [20, 21] kR0 h30 <| smR 2 rfl <| nR <| wDn kR0 <| tRt ?_
     (have h2 : (z01 u f st x).2 = (z0l f.types st x.outs [1]).2 := (by simp_all [z01, andP]; done)
      rw [h2]
      refine rOk rfl ?_ (po2 rfl rfl)
      clear h2
      skip
      simp_all [z01, andP]
      done)
    refine smR 3 rfl <| nR <| wN 18 kR0 h30 rfl rfl rfl <| wN 19 kR0 h30 rfl rfl rfl <| wR 0 [20, 21] kR0 h30 <| smR 2 rfl <| nR <| wDn kR0 <| tRt ?_
    (have h2 : (z01 u f st x).2 = st := (by simp_all [z01, andP]; done)
     rw [h2]
     refine rOk rfl ?_ (po2 rfl rfl)
     clear h2
     skip
     simp_all [z01, andP]
     done)
   refine smR 3 rfl <| nR <| wN 11 kR0 h30 rfl rfl rfl <| wN 12 kR0 h30 rfl rfl rfl <| wR 4 [13, 14, 15, 16, 17] kR0 h30 <| smR 5 rfl <| nR <| wN 18 kR0 h30 rfl rfl rfl <| wN 19 kR0 h30 rfl rfl rfl <| wR 0 [20, 21] kR0 h30 <| smR 2 rfl <| nR ?_
   refine wDn kR0 <| tRt ?_
   (have h2 : z01 u f st x = (false, st) := (by (first | (simp_all [z01, andP]; done) | (simp_all [z01, andP] <;> omega)))
    rw [h2]
    exact rOk rfl rfl (po2 rfl rfl))
  refine tQ <| tG <| sm 2 rfl <| nL ?_
  refine tC rfl (fun hc74 => ?_) fun hc74 => ?_
  ·refine tQ <| tDr z1b (fun k => k ∈ ([3] : List Nat)) <| wR 15 [0, 1, 2, 3, 4, 5] kR0 h30 <| smR 1 rfl <| rV rfl rfl (nCk rfl rfl rfl) <| smR 1 rfl <| rV rfl rfl (lBP rfl rfl rfl uT25 rfl tS25 (lb rfl) rfl dC0) <| smR 2 rfl <| nR <| wO 6 kR0 <| wI rfl rfl (fun k (h : _) => by (simp at h ⊢; omega)) nw (fun _ _ => ocq (ze2 _ _) y1w rfl rfl) <| wR 10 [7, 8, 9, 10] kR0 h30 ?_
   refine smR 1 rfl ?_
   refine WR.split (t := 83) rfl (fun hb83 => ?_) (fun hb83 => ?_)
   ·refine smR 3 rfl <| nR <| wO 11 kR0 <| wY rfl rfl rfl (fun k (h : _) => by (simp at h ⊢; omega)) nw (fun _ _ => bSl rfl rfl uT35 tZ3 tS3 rfl rfl rfl rfl (fbk rfl) rfl) <| wO 12 kR0 <| wY rfl rfl rfl (fun k (h : _) => by (simp at h ⊢; omega)) (nAp rfl) (fun _ _ => ocr (z1e u f st hs x.args [1, 1]) z3b rfl (po2 rfl rfl) rfl (fun k (h : _) => .inr trivial) rfl rfl) <| wR 3 [13, 14, 15, 16, 17] kR0 h30 <| smR 2 rfl ?_
    refine WR.split (t := 90) rfl (fun hb90 => ?_) (fun hb90 => ?_)
    ·refine smR 3 rfl <| nR <| wO 18 kR0 <| wY rfl rfl rfl (fun k (h : _) => by (simp at h ⊢; omega)) (nAp rfl) (fun _ _ => cRr (z1v u f st hs x.outs []) z4r rfl rfl (sSm rfl (sSm rfl (Subs.cons (fun _ _ _ _ h => z3i h) Subs.nil))) (po2 rfl rfl) (by rfl) (fun k (h : _) => by (simp only [List.mem_cons, List.not_mem_nil, or_false] at h; rcases h with rfl <;> first | exact .inl rfl | exact .inr rfl | exact .inr dC0)) rfl (by rfl)) <| wR 0 [19, 20] kR0 h30 <| smR 2 rfl <| nR <| wDn kR0 <| tRt ?_
     (have h2 : (z01 u f st x).2 = (z0l f.types st x.outs []).2 := (by simp_all [z01, andP]; done)
      rw [h2]
      refine rOk rfl ?_ (po2 rfl rfl)
      clear h2
      skip
      simp_all [z01, andP]
      done)
    refine smR 3 rfl <| nR <| wN 18 kR0 h30 rfl rfl rfl <| wR 0 [19, 20] kR0 h30 <| smR 2 rfl <| nR <| wDn kR0 <| tRt ?_
    (have h2 : (z01 u f st x).2 = st := (by simp_all [z01, andP]; done)
     rw [h2]
     refine rOk rfl ?_ (po2 rfl rfl)
     clear h2
     skip
     simp_all [z01, andP]
     done)
   refine smR 3 rfl <| nR <| wN 11 kR0 h30 rfl rfl rfl <| wN 12 kR0 h30 rfl rfl rfl <| wR 3 [13, 14, 15, 16, 17] kR0 h30 <| smR 5 rfl <| nR <| wN 18 kR0 h30 rfl rfl rfl <| wR 0 [19, 20] kR0 h30 <| smR 2 rfl <| nR <| wDn kR0 ?_
   refine tRt ?_
   (have h2 : z01 u f st x = (false, st) := (by (first | (simp_all [z01, andP]; done) | (simp_all [z01, andP] <;> omega)))
    rw [h2]
    exact rOk rfl rfl (po2 rfl rfl))
  refine tQ <| tG <| sm 2 rfl <| nL ?_
  refine tC rfl (fun hc96 => ?_) fun hc96 => ?_
  ·refine tQ <| tG <| sm 3 rfl <| cE rfl (cRr (z1e u f st hs x.args []) z3b rfl rfl (sSm rfl (sSm rfl (Subs.cons (fun _ _ _ _ h => z3i h) Subs.nil))) (po2 rfl rfl) (by rfl) (fun k (h : _) => .inr trivial) rfl (by rfl)) <| sm 1 rfl ?_
   refine wS 102 rfl (fun hb102 => ?_) fun hb102 => ?_
   ·refine sm 3 rfl <| WL.yes rfl rfl rfl rfl rfl rfl (bSl rfl rfl uT35 tZ3 tS3 rfl rfl rfl rfl (fbk rfl) rfl) <| WL.yes rfl rfl rfl rfl rfl rfl (cRr (z1v u f st hs x.outs [1]) z4r rfl rfl (sRf _ _) (po2 rfl rfl) (by rfl) (fun k (h : _) => .inr h) rfl (by rfl)) <| sm 2 rfl <| nL <| tRt ?_
    (have h2 : (z01 u f st x).2 = (z0l f.types st x.outs [1]).2 := (by simp_all [z01, andP]; done)
     rw [h2]
     refine rOk rfl ?_ (po2 rfl rfl)
     clear h2
     skip
     simp_all [z01, andP]
     done)
   refine sm 7 rfl <| nL <| tRt ?_
   (have h2 : (z01 u f st x).2 = st := (by simp_all [z01, andP]; done)
    rw [h2]
    refine rOk rfl ?_ (po2 rfl rfl)
    clear h2
    skip
    simp_all [z01, andP]
    done)
  refine tQ <| tG <| sm 2 rfl <| nL ?_
  refine tC rfl (fun hc109 => ?_) fun hc109 => ?_
  ·refine tQ <| tG <| sm 3 rfl <| cE rfl (bSl rfl rfl uT35 tZ3 tS3 rfl rfl rfl rfl (fbk rfl) rfl) <| cE rfl (ocr (z1e u f st hs x.args [1]) z3b rfl (po2 rfl rfl) rfl (fun k (h : _) => .inr trivial) rfl rfl) <| sm 1 rfl ?_
   refine wS 116 rfl (fun hb116 => ?_) fun hb116 => ?_
   ·refine sm 3 rfl <| WL.yes rfl rfl rfl rfl rfl rfl (cRr (z1v u f st hs x.outs []) z4r rfl rfl (sSm rfl (sSm rfl (Subs.cons (fun _ _ _ _ h => z3i h) Subs.nil))) (po2 rfl rfl) (by rfl) (fun k (h : _) => .inr h) rfl (by rfl)) <| sm 2 rfl <| nL <| tRt ?_
    (have h2 : (z01 u f st x).2 = (z0l f.types st x.outs []).2 := (by simp_all [z01, andP]; done)
     rw [h2]
     refine rOk rfl ?_ (po2 rfl rfl)
     clear h2
     skip
     simp_all [z01, andP]
     done)
   refine sm 6 rfl <| nL <| tRt ?_
   (have h2 : (z01 u f st x).2 = st := (by simp_all [z01, andP]; done)
    rw [h2]
    refine rOk rfl ?_ (po2 rfl rfl)
    clear h2
    skip
    simp_all [z01, andP]
    done)
  refine tQ <| tG <| sm 2 rfl <| nL ?_
  refine tC rfl (fun hc122 => ?_) fun hc122 => ?_
  ·refine tQ <| tDr z1b (fun k => k ∈ ([3] : List Nat)) <| wR 2 [0, 1, 2, 3, 4, 5] kR0 h30 <| smR 1 rfl <| rV rfl rfl (nCk rfl rfl rfl) <| smR 1 rfl <| rV rfl rfl (lBP rfl rfl rfl uT25 rfl tS25 (lb rfl) rfl dC0) <| smR 2 rfl <| nR <| wO 6 kR0 <| wI rfl rfl (fun k (h : _) => by (simp at h ⊢; omega)) nw (fun _ _ => ocq (zb1 _ _) ent61 rfl rfl) <| wR 0 [7] kR0 h30 ?_
   refine smR 1 rfl <| nR <| wDn kR0 <| tQ <| tQ <| tG <| sm 2 rfl <| nL ?_
   refine tC rfl (fun hc132 => ?_) fun hc132 => ?_
   ·refine tQ <| tG <| sm 1 rfl <| nL <| tRt ?_
    (have h2 : (z01 u f st x).2 = st := (by simp_all [z01, z4l, andP]; done)
     rw [h2]
     refine rOk rfl ?_ (po2 rfl rfl)
     clear h2
     skip
     simp_all [z01, z4l, andP]
     done)
   have hk0 : z07 x.name u.flows 0 ≥ 0 := by simp at hc132; omega
   obtain ⟨g, hgk, _⟩ := z6c hk0
   obtain ⟨hgp0, hgpl⟩ := hg g (List.mem_of_getElem? hgk)
   have hgp : g.params = (g.params.toNat : Int) := by omega
   have hgi : (u.flows.map Fl.enc)[(z07 x.name u.flows 0).toNat]? = some (Fl.enc g) := by rw [List.getElem?_map, hgk]; rfl
   have hkn : z07 x.name u.flows 0 = ((z07 x.name u.flows 0).toNat : Int) := by omega
   have hnl : ¬ z07 x.name u.flows 0 < 0 := by omega
   have hcall : z4l u f st x = andP (z0y f.types st x.args (g.types.take g.params.toNat)) st (z0l f.types st x.outs [g.ty]) := by
     unfold z4l
     rw [if_neg hnl, hgk]
   refine tSk <| tQ <| tG <| sm 1 rfl <| cV rfl (nCk rfl rfl rfl) <| sm 4 rfl <| cV rfl (iSq rfl rfl rfl uT23 hgi tS51 rfl oM0) <| cV rfl (lEA rfl rfl Tryz.underlying51 rfl tS51 (lb rfl)) <| cE rfl (aLc (k := 106) rfl tZ51 rfl rfl rfl rfl) <| c0 (sBA rfl rfl rfl rfl rfl sI0 tS51 (flk rfl) (lb rfl)) <| nL <| tQ ?_
   refine Tr.freezeBox (t := 6) (k := 106) rfl rfl rfl ?_
   refine Tr.heap (σ' := look (up (ckS u f 3 st))) (fun k => by
     simp only [look]
     by_cases h : 106 = k
     · subst h; rfl
     · simp [z02 h]) ?_
   refine tDr z1b (fun k => k ∈ ([3] : List Nat)) <| wR 11 [0, 1, 2, 3, 4, 5, 6, 7] kR0 h30 <| smR 7 rfl ?_
   refine rV rfl rfl (z4g (j := g.params.toNat) rfl rfl uT35 tS3 (.inl ⟨rfl, rfl⟩) (.inr ⟨_, _, rfl, congrArg (fun z => some (IV.pv (.val (.int .i64 z)))) hgp⟩) (Nat.zero_le _) (by simp; omega) (by simp [eInt])) ?_
   refine nR <| wO 8 kR0 ?_
   refine wI rfl rfl (fun k (h : _) => by (simp at h ⊢; omega)) (nAp rfl) (fun _ _ => cRr (z1e u f st hs x.args (g.types.take g.params.toNat)) z3b rfl rfl (sSm rfl (sSm rfl (sSm (by simp [ints, List.map_take]) Subs.nil))) (po2 rfl rfl) (by rfl) (fun k (h : _) => .inr trivial) rfl (by rfl)) ?_
   refine wR 4 [9, 10, 11, 12, 13, 14] kR0 h30 <| smR 1 rfl ?_
   refine WR.split (t := 150) rfl (fun hb150 => ?_) (fun hb150 => ?_)
   ·refine smR 5 rfl <| nR <| wO 15 kR0 <| wY rfl rfl rfl (fun k (h : _) => by (simp at h ⊢; omega)) nw (fun _ _ => bSl rfl rfl uT35 tZ3 tS3 rfl rfl rfl rfl (fbk rfl) rfl) <| wO 16 kR0 <| wY rfl rfl rfl (fun k (h : _) => by (simp at h ⊢; omega)) (nAp rfl) (fun _ _ => ocr (z1v u f st hs x.outs [g.ty]) z4r rfl (po2 rfl rfl) rfl (fun k (h : _) => by (simp only [List.mem_cons, List.not_mem_nil, or_false] at h; rcases h with rfl <;> first | exact .inl rfl | exact .inr rfl | exact .inr dC0)) rfl rfl) <| wR 0 [17, 18] kR0 h30 <| smR 2 rfl <| nR <| wDn kR0 <| tRt ?_
    have hsim : z01 u f st x = z4l u f st x := by
      clear hkn hgp hcall hnl
      simp_all [z01]
    rw [hsim, hcall]
    clear hsim hcall
    (have h2 : (andP (z0y f.types st x.args (g.types.take g.params.toNat)) st (z0l f.types st x.outs [g.ty])).2 = (z0l f.types st x.outs [g.ty]).2 := (by (try (clear hkn hgp)); simp_all [andP, andP]; done)
     rw [h2]
     refine rOk rfl ?_ (po2 rfl rfl)
     clear h2
     try (clear hkn hgp)
     simp_all [andP, andP]
     done)
   refine smR 5 rfl <| nR <| wN 15 kR0 h30 rfl rfl rfl <| wN 16 kR0 h30 rfl rfl rfl <| wR 0 [17, 18] kR0 h30 <| smR 2 rfl <| nR <| wDn kR0 <| tRt ?_
   have hsim : z01 u f st x = z4l u f st x := by
     clear hkn hgp hcall hnl
     simp_all [z01]
   rw [hsim, hcall]
   clear hsim hcall
   (have h2 : (andP (z0y f.types st x.args (g.types.take g.params.toNat)) st (z0l f.types st x.outs [g.ty])).2 = st := (by (try (clear hkn hgp)); simp_all [andP, andP]; done)
    rw [h2]
    refine rOk rfl ?_ (po2 rfl rfl)
    clear h2
    try (clear hkn hgp)
    simp_all [andP, andP]
    done)
  refine tSk <| tQ <| tG <| sm 1 rfl <| nL <| tRt ?_
  (have h2 : (z01 u f st x).2 = st := (by simp_all [z01, andP]; done)
   rw [h2]
   refine rOk rfl ?_ (po2 rfl rfl)
   clear h2
   skip
   simp_all [z01, andP]
   done)
theorem y19 (u : Un) (f : Fl) (st : List Int) (hs : st.length = f.types.length) (x : Nd) (ka kb : List Nd) (hkids : x.kids = [ka, kb]) (wh : Wh) (deep : Int) (hbo : x.outs.length <= 1073741824) (ih : ∀ q ∈ x.kids, ∀ (w : Wh) (st : List Int), st.length = f.types.length -> SC Tryz.prog 64 [.ptr 3 0, .pv (z09 q), .pv (whv w), iInt deep] (ckS u f 3 st) (fun k => k = 3) (iBool (z0h u f deep w st q).1) (ckS u f 3 (z0h u f deep w st q).2)) : SC Tryz.prog 107 [.ptr 3 0, .pv (ndv x), .pv (whv wh), iInt deep] (ckS u f 3 st) (fun k => k = 3) (iBool (if z0y f.types st x.args [2] then andQ (z0h u f deep ⟨true, wh.Loop, r8of f.types x.outs, wh.Next, wh.Left⟩ st ka) (fun s1 => andQ (z0h u f deep ⟨true, wh.Loop, r8of f.types x.outs, wh.Next, wh.Left⟩ s1 kb) fun s2 => z18 f x s2) else (false, st)).1) (ckS u f 3 (if z0y f.types st x.args [2] then andQ (z0h u f deep ⟨true, wh.Loop, r8of f.types x.outs, wh.Next, wh.Left⟩ st ka) (fun s1 => andQ (z0h u f deep ⟨true, wh.Loop, r8of f.types x.outs, wh.Next, wh.Left⟩ s1 kb) fun s2 => z18 f x s2) else (false, st)).2) := by
  refine SC.of Tryz.func107 rfl (lb rfl) fun F ρ w => ?_
  have hi0 : (x.kids.map eKid)[0]? = some [z09 ka] := by rw [hkids]; rfl
  have hi1 : (x.kids.map eKid)[1]? = some [z09 kb] := by rw [hkids]; rfl
  have hm0 : ka ∈ x.kids := by rw [hkids]; simp
  have hm1 : kb ∈ x.kids := by rw [hkids]; simp
  have hs1 : (z0h u f deep ⟨true, wh.Loop, r8of f.types x.outs, wh.Next, wh.Left⟩ st ka).2.length = f.types.length := (z6s ..).trans hs
  have hs2 : (z0h u f deep ⟨true, wh.Loop, r8of f.types x.outs, wh.Next, wh.Left⟩ (z0h u f deep ⟨true, wh.Loop, r8of f.types x.outs, wh.Next, wh.Left⟩ st ka).2 kb).2.length = f.types.length := (z6s ..).trans hs1
  refine tQ <| tG <| cE rfl (z1c rfl rfl) <| cE rfl (z81 (k := 106) rfl rfl rfl rfl rfl rfl) <| sm 1 rfl <| nL <| tQ <| tG <| sm 3 rfl <| cE rfl (ocr (z54 u f st hs x.outs hbo) zm6 rfl (po2 rfl rfl) rfl (fun k (h : _) => by (subst h; first | exact .inl rfl | exact .inr rfl | exact .inr dC0)) rfl rfl) <| sm 1 rfl <| c0 (sBx rfl rfl rfl rfl sI0 tS4 (rfl) (lb rfl)) ?_
  refine sm 1 rfl <| c0 (sBx rfl rfl rfl rfl sI0 tS35 (rfl) (lb rfl)) <| nL <| tQ <| tDr z1b (fun k => k ∈ ([3, 106] : List Nat)) <| wR 40 [0, 1, 2] kR0 h30 <| smR 3 rfl <| nR <| wO 3 kR0 <| wI rfl rfl (fun k (h : _) => by (simp at h ⊢; omega)) nw (fun _ _ => bSl rfl rfl uT35 tZ3 tS3 rfl rfl rfl rfl (fbk rfl) rfl) <| wO 4 kR0 <| wI rfl rfl (fun k (h : _) => by (simp at h ⊢; omega)) (nAp rfl) (fun _ _ => ocr (z1e u f st hs x.args [2]) z3b rfl (po2 rfl rfl) rfl (fun k (h : _) => .inr trivial) rfl rfl) ?_
  refine wR 30 [5, 6, 7, 8, 9, 10, 11, 12] kR0 h30 <| smR 1 rfl ?_
  refine WR.split (t := 20) rfl (fun hb20 => ?_) (fun hb20 => ?_)
  ·refine smR 3 rfl <| ryV rfl rfl rfl (iSq rfl rfl rfl uT40 hi0 tS43 rfl (by rfl)) <| smR 1 rfl <| ryV rfl rfl rfl (lBP rfl rfl rfl Tryz.underlying103 rfl zs1 (lb rfl) rfl dC0) <| smR 1 rfl <| nR <| wO 13 kR0 <| wY rfl rfl rfl (fun k (h : _) => by (simp at h ⊢; omega)) (nAp rfl) (fun _ _ => ocr (ih ka hm0 ⟨true, wh.Loop, r8of f.types x.outs, wh.Next, wh.Left⟩ st hs) ent64 rfl (po2 rfl rfl) rfl (fun k (h : _) => by (simp only [List.mem_cons, List.not_mem_nil, or_false] at h; rcases h with rfl | rfl <;> first | exact .inl rfl | exact .inr rfl | exact .inr dC0)) rfl rfl) <| wR 20 [14, 15, 16, 17, 18, 19, 20, 21, 22] kR0 h30 <| smR 2 rfl ?_
   refine WR.split (t := 30) rfl (fun hb30 => ?_) (fun hb30 => ?_)
   ·refine smR 3 rfl <| ryV rfl rfl rfl (iSq rfl rfl rfl uT40 hi1 tS43 rfl (by rfl)) <| smR 1 rfl <| ryV rfl rfl rfl (lBP rfl rfl rfl Tryz.underlying103 rfl zs1 (lb rfl) rfl dC0) <| smR 1 rfl <| nR <| wO 23 kR0 <| wY rfl rfl rfl (fun k (h : _) => by (simp at h ⊢; omega)) (nAp rfl) (fun _ _ => ocr (ih kb hm1 ⟨true, wh.Loop, r8of f.types x.outs, wh.Next, wh.Left⟩ (z0h u f deep ⟨true, wh.Loop, r8of f.types x.outs, wh.Next, wh.Left⟩ st ka).2 hs1) ent64 rfl (po2 rfl rfl) rfl (fun k (h : _) => by (simp only [List.mem_cons, List.not_mem_nil, or_false] at h; rcases h with rfl | rfl <;> first | exact .inl rfl | exact .inr rfl | exact .inr dC0)) rfl rfl) <| wR 11 [24, 25, 26, 27, 28, 29, 30, 31] kR0 h30 <| smR 2 rfl ?_
    refine WR.split (t := 40) rfl (fun hb40 => ?_) (fun hb40 => ?_)
    ·refine smR 2 rfl <| ryV rfl rfl rfl (oSm uT35 rfl) <| smR 2 rfl ?_
     refine WR.split (t := 45) rfl (fun hb45 => ?_) (fun hb45 => ?_)
     ·refine smR 1 rfl <| nR <| wN 32 kR0 h30 rfl rfl rfl <| wR 3 [33, 34, 35, 36, 37, 38, 39] kR0 h30 <| smR 7 rfl <| nR <| wO 40 kR0 <| wY rfl rfl rfl (fun k (h : _) => by (simp at h ⊢; omega)) (nAp rfl) (fun _ _ => ocr (z9n u f (z0h u f deep ⟨true, wh.Loop, r8of f.types x.outs, wh.Next, wh.Left⟩ (z0h u f deep ⟨true, wh.Loop, r8of f.types x.outs, wh.Next, wh.Left⟩ st ka).2 kb).2 hs2 x.outs hbo) zu1 rfl (po2 rfl rfl) rfl (fun k (h : _) => by (simp only [List.mem_cons, List.not_mem_nil, or_false] at h; rcases h with rfl | rfl <;> first | exact .inl rfl | exact .inr rfl | exact .inr dC0)) rfl rfl) <| wR 0 [41, 42] kR0 h30 <| smR 2 rfl <| nR <| wDn kR0 ?_
      refine tRt ?_
      (have h2 : (if z0y f.types st x.args [2] then andQ (z0h u f deep ⟨true, wh.Loop, r8of f.types x.outs, wh.Next, wh.Left⟩ st ka) (fun s1 => andQ (z0h u f deep ⟨true, wh.Loop, r8of f.types x.outs, wh.Next, wh.Left⟩ s1 kb) fun s2 => z18 f x s2) else (false, st)).2 = (z0l f.types (z0h u f deep ⟨true, wh.Loop, r8of f.types x.outs, wh.Next, wh.Left⟩ (z0h u f deep ⟨true, wh.Loop, r8of f.types x.outs, wh.Next, wh.Left⟩ st ka).2 kb).2 x.outs (List.replicate x.outs.length 0)).2 := (by simp_all [andQ, andP, z18]; done)
       rw [h2]
       refine rOk rfl ?_ (po2 rfl rfl)
       clear h2
       simp_all [andQ, andP, z18]
       done)
     refine ryV rfl rfl rfl (lEA rfl rfl uT42 rfl tS42 (lb rfl)) <| nR <| wO 32 kR0 <| wY rfl rfl rfl (fun k (h : _) => by (simp at h ⊢; omega)) nw (fun _ _ => ocq (z5h _) ent42 rfl rfl) <| wR 3 [33, 34, 35, 36, 37, 38, 39] kR0 h30 <| smR 4 rfl ?_
     refine WR.split (t := 51) rfl (fun hb51 => ?_) (fun hb51 => ?_)
     ·refine smR 3 rfl <| nR <| wO 40 kR0 <| wY rfl rfl rfl (fun k (h : _) => by (simp at h ⊢; omega)) (nAp rfl) (fun _ _ => ocr (z9n u f (z0h u f deep ⟨true, wh.Loop, r8of f.types x.outs, wh.Next, wh.Left⟩ (z0h u f deep ⟨true, wh.Loop, r8of f.types x.outs, wh.Next, wh.Left⟩ st ka).2 kb).2 hs2 x.outs hbo) zu1 rfl (po2 rfl rfl) rfl (fun k (h : _) => by (simp only [List.mem_cons, List.not_mem_nil, or_false] at h; rcases h with rfl | rfl <;> first | exact .inl rfl | exact .inr rfl | exact .inr dC0)) rfl rfl) <| wR 0 [41, 42] kR0 h30 <| smR 2 rfl <| nR <| wDn kR0 <| tRt ?_
      (have h2 : (if z0y f.types st x.args [2] then andQ (z0h u f deep ⟨true, wh.Loop, r8of f.types x.outs, wh.Next, wh.Left⟩ st ka) (fun s1 => andQ (z0h u f deep ⟨true, wh.Loop, r8of f.types x.outs, wh.Next, wh.Left⟩ s1 kb) fun s2 => z18 f x s2) else (false, st)).2 = (z0l f.types (z0h u f deep ⟨true, wh.Loop, r8of f.types x.outs, wh.Next, wh.Left⟩ (z0h u f deep ⟨true, wh.Loop, r8of f.types x.outs, wh.Next, wh.Left⟩ st ka).2 kb).2 x.outs (List.replicate x.outs.length 0)).2 := (by simp_all [andQ, andP, z18]; done)
       rw [h2]
       refine rOk rfl ?_ (po2 rfl rfl)
       clear h2
       simp_all [andQ, andP, z18]
       done)
     refine smR 3 rfl <| nR <| wN 40 kR0 h30 rfl rfl rfl <| wR 0 [41, 42] kR0 h30 <| smR 2 rfl <| nR <| wDn kR0 <| tRt ?_
     (have h2 : (if z0y f.types st x.args [2] then andQ (z0h u f deep ⟨true, wh.Loop, r8of f.types x.outs, wh.Next, wh.Left⟩ st ka) (fun s1 => andQ (z0h u f deep ⟨true, wh.Loop, r8of f.types x.outs, wh.Next, wh.Left⟩ s1 kb) fun s2 => z18 f x s2) else (false, st)).2 = (z0h u f deep ⟨true, wh.Loop, r8of f.types x.outs, wh.Next, wh.Left⟩ (z0h u f deep ⟨true, wh.Loop, r8of f.types x.outs, wh.Next, wh.Left⟩ st ka).2 kb).2 := (by simp_all [andQ, andP, z18]; done)
      rw [h2]
      refine rOk rfl ?_ (po2 rfl rfl)
      clear h2
      simp_all [andQ, andP, z18]
      done)
    refine smR 5 rfl <| nUr rfl rfl rfl rfl rfl rfl rfl <| nR <| WA.takeNoU (i := 32) rfl kR0 kR0 kR0 (h30) rfl rfl rfl rfl rfl rfl <| wR 3 [33, 34, 35, 36, 37, 38, 39] kR0 h30 <| nUr rfl rfl rfl rfl rfl rfl rfl <| smR 6 rfl <| nR <| wN 40 kR0 h30 rfl rfl rfl <| wR 0 [41, 42] kR0 h30 <| smR 2 rfl <| nR ?_
    refine wDn kR0 <| tRt ?_
    (have h2 : (if z0y f.types st x.args [2] then andQ (z0h u f deep ⟨true, wh.Loop, r8of f.types x.outs, wh.Next, wh.Left⟩ st ka) (fun s1 => andQ (z0h u f deep ⟨true, wh.Loop, r8of f.types x.outs, wh.Next, wh.Left⟩ s1 kb) fun s2 => z18 f x s2) else (false, st)).2 = (z0h u f deep ⟨true, wh.Loop, r8of f.types x.outs, wh.Next, wh.Left⟩ (z0h u f deep ⟨true, wh.Loop, r8of f.types x.outs, wh.Next, wh.Left⟩ st ka).2 kb).2 := (by simp_all [andQ, andP, z18]; done)
     rw [h2]
     refine rOk rfl ?_ (po2 rfl rfl)
     clear h2
     simp_all [andQ, andP, z18]
     done)
   refine smR 7 rfl <| nR <| wN 23 kR0 h30 rfl rfl rfl <| wR 11 [24, 25, 26, 27, 28, 29, 30, 31] kR0 h30 <| smR 7 rfl <| nUr rfl rfl rfl rfl rfl rfl rfl <| nR <| WA.takeNoU (i := 32) rfl kR0 kR0 kR0 (h30) rfl rfl rfl rfl rfl rfl <| wR 3 [33, 34, 35, 36, 37, 38, 39] kR0 h30 <| nUr rfl rfl rfl rfl rfl rfl rfl <| smR 6 rfl <| nR ?_
   refine wN 40 kR0 h30 rfl rfl rfl <| wR 0 [41, 42] kR0 h30 <| smR 2 rfl <| nR <| wDn kR0 <| tRt ?_
   (have h2 : (if z0y f.types st x.args [2] then andQ (z0h u f deep ⟨true, wh.Loop, r8of f.types x.outs, wh.Next, wh.Left⟩ st ka) (fun s1 => andQ (z0h u f deep ⟨true, wh.Loop, r8of f.types x.outs, wh.Next, wh.Left⟩ s1 kb) fun s2 => z18 f x s2) else (false, st)).2 = (z0h u f deep ⟨true, wh.Loop, r8of f.types x.outs, wh.Next, wh.Left⟩ st ka).2 := (by simp_all [andQ, andP, z18]; done)
    rw [h2]
    refine rOk rfl ?_ (po2 rfl rfl)
    clear h2
    simp_all [andQ, andP, z18]
    done)
  refine smR 7 rfl <| nR <| wN 13 kR0 h30 rfl rfl rfl <| wR 20 [14, 15, 16, 17, 18, 19, 20, 21, 22] kR0 h30 <| smR 9 rfl <| nR <| wN 23 kR0 h30 rfl rfl rfl <| wR 11 [24, 25, 26, 27, 28, 29, 30, 31] kR0 h30 <| smR 7 rfl <| nUr rfl rfl rfl rfl rfl rfl rfl <| nR <| WA.takeNoU (i := 32) rfl kR0 kR0 kR0 (h30) rfl rfl rfl rfl rfl rfl ?_
  refine wR 3 [33, 34, 35, 36, 37, 38, 39] kR0 h30 <| nUr rfl rfl rfl rfl rfl rfl rfl <| smR 6 rfl <| nR <| wN 40 kR0 h30 rfl rfl rfl <| wR 0 [41, 42] kR0 h30 <| smR 2 rfl <| nR <| wDn kR0 <| tRt ?_
  (have h2 : (if z0y f.types st x.args [2] then andQ (z0h u f deep ⟨true, wh.Loop, r8of f.types x.outs, wh.Next, wh.Left⟩ st ka) (fun s1 => andQ (z0h u f deep ⟨true, wh.Loop, r8of f.types x.outs, wh.Next, wh.Left⟩ s1 kb) fun s2 => z18 f x s2) else (false, st)).2 = st := (by simp_all [andQ, andP, z18]; done)
   rw [h2]
   refine rOk rfl ?_ (po2 rfl rfl)
   clear h2
   simp_all [andQ, andP, z18]
   done)
theorem y6o (u : Un) (f : Fl) (st : List Int) (hs : st.length = f.types.length) (x : Nd) (ka : List Nd) (hkids : x.kids = [ka]) (deep : Int) (hbo : x.outs.length <= 1073741824) (hbp : x.params.length <= 1073741824) (ih : ∀ q ∈ x.kids, ∀ (w : Wh) (st : List Int), st.length = f.types.length -> SC Tryz.prog 64 [.ptr 3 0, .pv (z09 q), .pv (whv w), iInt deep] (ckS u f 3 st) (fun k => k = 3) (iBool (z0h u f deep w st q).1) (ckS u f 3 (z0h u f deep w st q).2)) : SC Tryz.prog 108 [.ptr 3 0, .pv (ndv x), iInt deep] (ckS u f 3 st) (fun k => k = 3) (iBool (if z0y f.types st x.args (r8of f.types x.params) then andQ (z0l f.types st x.params (List.replicate x.params.length 0)) (fun s1 => andQ (z0h u f deep ⟨false, true, [], r8of f.types x.params, r8of f.types x.outs⟩ s1 ka) fun s2 => z18 f x (z22 s2 x.params)) else (false, st)).1) (ckS u f 3 (if z0y f.types st x.args (r8of f.types x.params) then andQ (z0l f.types st x.params (List.replicate x.params.length 0)) (fun s1 => andQ (z0h u f deep ⟨false, true, [], r8of f.types x.params, r8of f.types x.outs⟩ s1 ka) fun s2 => z18 f x (z22 s2 x.params)) else (false, st)).2) := by
  refine SC.of Tryz.func108 rfl (lb rfl) fun F ρ w => ?_
  have hi0 : (x.kids.map eKid)[0]? = some [z09 ka] := by rw [hkids]; rfl
  have hm0 : ka ∈ x.kids := by rw [hkids]; simp
  have hs1 : (z0l f.types st x.params (List.replicate x.params.length 0)).2.length = f.types.length := (z2r ..).trans hs
  have hs2 : (z0h u f deep ⟨false, true, [], r8of f.types x.params, r8of f.types x.outs⟩ (z0l f.types st x.params (List.replicate x.params.length 0)).2 ka).2.length = f.types.length := (z6s ..).trans hs1
  have hs3 : (z22 (z0h u f deep ⟨false, true, [], r8of f.types x.params, r8of f.types x.outs⟩ (z0l f.types st x.params (List.replicate x.params.length 0)).2 ka).2 x.params).length = f.types.length := (z3y ..).trans hs2
  refine tQ <| tG <| cE rfl (z1c rfl rfl) <| sm 1 rfl <| nL <| tQ ?_
  refine Tr.cut (fr' := [(7, .ptr 107 0), (4, .pv (.ept [vInt x.kind, vInt x.op, vInt x.n, vStr x.name, ints x.args, ints x.outs, ints x.params, kids x.kids] 0)), (0, .ptr 3 0), (2, iInt deep)]) (σ' := look ((107, some (.box [iBool false, iBool true, .pv (.val (.slice none 0 0)), .pv (ints (r8of f.types x.params)), .pv (ints (r8of f.types x.outs))])) :: up (ckS u f 3 st))) ?_ ?_
  ·refine tDr z1b (fun k => k ∈ ([3] : List Nat)) <| wR 5 [0, 1, 2, 4, 5, 6] kR0 (fun _ _ _ h => pn h.1) <| smR 6 rfl <| nR <| WA.all (rs := [3, 9]) kR0 sI0 ?_
   refine fmc ⟨?_, fmc ⟨?_, by simp⟩⟩
   ·refine wI rfl rfl (fun k (h : _) => by (simp at h ⊢; omega)) (nAp rfl) (fun _ _ => ocr (z54 u f st hs x.params hbp) zm6 rfl (po2 rfl rfl) rfl (fun k (h : _) => by (simp only [List.mem_cons, List.not_mem_nil, or_false] at h; rcases h with rfl <;> first | exact .inl rfl | exact .inr rfl | exact .inr dC0)) rfl rfl) <| WA.all (rs := [7, 9]) kR0 sI0 ?_
    refine fmc ⟨?_, fmc ⟨?_, by simp⟩⟩
    ·refine wI rfl rfl (fun k (h : _) => by (simp at h ⊢; omega)) (nAp rfl) (fun _ _ => ocr (z54 u f st hs x.outs hbo) zm6 rfl (po2 rfl rfl) rfl (fun k (h : _) => by (simp only [List.mem_cons, List.not_mem_nil, or_false] at h; rcases h with rfl <;> first | exact .inl rfl | exact .inr rfl | exact .inr dC0)) rfl rfl) <| wR 2 [8] kR0 (fun _ _ _ h => pn h.1) <| rV rfl rfl (bPu rfl rfl y1h tP103 rfl (fbk rfl) rfl) <| nR <| wO 9 kR0 <| wI rfl rfl (fun k (h : _) => by (simp at h ⊢; omega)) (z11 rfl) (fun _ _ => aLc (k := 107) rfl y1h rfl rfl rfl rfl) <| wO 10 kR0 <| wI rfl rfl (fun k (h : _) => by (simp at h ⊢; omega)) (nOl rfl) (fun _ _ => sBA rfl rfl rfl rfl rfl sI0 zs1 (flk rfl) (lb rfl)) <| wDn kR0 ?_
     refine ⟨rfl, Sub.of ⟨rfl, rfl, rfl, rfl, trivial⟩, ?_⟩
     funext k
     by_cases h7 : 107 = k
     ·subst h7; rfl
     simp [look, z9b, z02 h7]
    refine wI rfl rfl (fun k (h : _) => by (simp at h ⊢; omega)) (z11 rfl) (fun _ _ => aLc (k := 107) rfl y1h rfl rfl rfl rfl) <| wO 7 kR0 <| wI rfl rfl (fun k (h : _) => by (simp at h ⊢; omega)) (nAp rfl) (fun _ _ => ocr (z54 u f st hs x.outs hbo) zm6 rfl (po2 rfl rfl) rfl (fun k (h : _) => by (simp only [List.mem_cons, List.not_mem_nil, or_false] at h; rcases h with rfl <;> first | exact .inl rfl | exact .inr rfl | exact .inr dC0)) rfl rfl) <| wR 1 [8] kR0 (fun _ _ _ h => pn h.1) <| rV rfl rfl (bPu rfl rfl y1h tP103 rfl (fbk rfl) rfl) <| nR <| wO 10 kR0 <| wI rfl rfl (fun k (h : _) => by (simp at h ⊢; omega)) (nOl rfl) (fun _ _ => sBA rfl rfl rfl rfl rfl sI0 zs1 (flk rfl) (lb rfl)) <| wDn kR0 ?_
    refine ⟨rfl, Sub.of ⟨rfl, rfl, rfl, rfl, trivial⟩, ?_⟩
    funext k
    by_cases h7 : 107 = k
    ·subst h7; rfl
    simp [look, z9b, z02 h7]
   refine wI rfl rfl (fun k (h : _) => by (simp at h ⊢; omega)) (z11 rfl) (fun _ _ => aLc (k := 107) rfl y1h rfl rfl rfl rfl) <| wO 3 kR0 <| wI rfl rfl (fun k (h : _) => by (simp at h ⊢; omega)) (nAp rfl) (fun _ _ => ocr (z54 u f st hs x.params hbp) zm6 rfl (po2 rfl rfl) rfl (fun k (h : _) => by (simp only [List.mem_cons, List.not_mem_nil, or_false] at h; rcases h with rfl <;> first | exact .inl rfl | exact .inr rfl | exact .inr dC0)) rfl rfl) <| wO 7 kR0 <| wI rfl rfl (fun k (h : _) => by (simp at h ⊢; omega)) (nAp rfl) (fun _ _ => ocr (z54 u f st hs x.outs hbo) zm6 rfl (po2 rfl rfl) rfl (fun k (h : _) => by (simp only [List.mem_cons, List.not_mem_nil, or_false] at h; rcases h with rfl <;> first | exact .inl rfl | exact .inr rfl | exact .inr dC0)) rfl rfl) <| wR 1 [8] kR0 (fun _ _ _ h => pn h.1) <| rV rfl rfl (bPu rfl rfl y1h tP103 rfl (fbk rfl) rfl) <| nR <| wO 10 kR0 <| wI rfl rfl (fun k (h : _) => by (simp at h ⊢; omega)) (nOl rfl) (fun _ _ => sBA rfl rfl rfl rfl rfl sI0 zs1 (flk rfl) (lb rfl)) <| wDn kR0 ?_
   refine ⟨rfl, Sub.of ⟨rfl, rfl, rfl, rfl, trivial⟩, ?_⟩
   funext k
   by_cases h7 : 107 = k
   ·subst h7; rfl
   simp [look, z9b, z02 h7]
  refine tQ <| tQ <| tDr z1b (fun k => k ∈ ([3, 107] : List Nat)) <| wR 20 [0, 1, 2, 3, 4] kR0 h30 <| smR 4 rfl <| rV rfl rfl (oLb uT35 rfl rfl rfl dC0) <| nR <| wO 5 kR0 <| wI rfl rfl (fun k (h : _) => by (simp at h ⊢; omega)) (nAp rfl) (fun _ _ => ocr (z1e u f st hs x.args (r8of f.types x.params)) z3b rfl (po2 rfl rfl) rfl (fun k (h : _) => .inr trivial) rfl rfl) <| wR 14 [6, 7, 8, 9, 10] kR0 h30 <| smR 2 rfl ?_
  refine WR.split (t := 24) rfl (fun hb24 => ?_) (fun hb24 => ?_)
  ·refine smR 3 rfl <| nR <| wN 11 kR0 h30 rfl rfl rfl <| wR 3 [12, 13, 14, 15, 16, 17, 18, 19, 20, 21] kR0 h30 <| smR 10 rfl <| nR <| wN 22 kR0 h30 rfl rfl rfl <| wR 0 [23, 24] kR0 h30 <| smR 2 rfl <| nR <| wDn kR0 <| Tr.condT rfl ?_
   refine tQ <| tG <| sm 1 rfl <| nL <| tRt ?_
   (have h2 : (if z0y f.types st x.args (r8of f.types x.params) then andQ (z0l f.types st x.params (List.replicate x.params.length 0)) (fun s1 => andQ (z0h u f deep ⟨false, true, [], r8of f.types x.params, r8of f.types x.outs⟩ s1 ka) fun s2 => z18 f x (z22 s2 x.params)) else (false, st)).2 = st := (by simp_all [andQ, andP, z18]; done)
    rw [h2]
    refine rOk rfl ?_ (po2 rfl rfl)
    clear h2
    simp_all [andQ, andP, z18]
    done)
  refine smR 3 rfl <| nR <| wO 11 kR0 <| wY rfl rfl rfl (fun k (h : _) => by (simp at h ⊢; omega)) (nAp rfl) (fun _ _ => ocr (z9n u f st hs x.params hbp) zu1 rfl (po2 rfl rfl) rfl (fun k (h : _) => by (simp only [List.mem_cons, List.not_mem_nil, or_false] at h; rcases h with rfl | rfl <;> first | exact .inl rfl | exact .inr rfl | exact .inr dC0)) rfl rfl) <| wR 3 [12, 13, 14, 15, 16, 17, 18, 19, 20, 21] kR0 h30 <| smR 3 rfl ?_
  refine WR.split (t := 31) rfl (fun hb31 => ?_) (fun hb31 => ?_)
  ·refine smR 7 rfl <| nR <| wN 22 kR0 h30 rfl rfl rfl <| wR 0 [23, 24] kR0 h30 <| smR 2 rfl <| nR <| wDn kR0 <| Tr.condT rfl <| tQ <| tG <| sm 1 rfl <| nL ?_
   refine tRt ?_
   (have h2 : (if z0y f.types st x.args (r8of f.types x.params) then andQ (z0l f.types st x.params (List.replicate x.params.length 0)) (fun s1 => andQ (z0h u f deep ⟨false, true, [], r8of f.types x.params, r8of f.types x.outs⟩ s1 ka) fun s2 => z18 f x (z22 s2 x.params)) else (false, st)).2 = (z0l f.types st x.params (List.replicate x.params.length 0)).2 := (by simp_all [andQ, andP, z18]; done)
    rw [h2]
    refine rOk rfl ?_ (po2 rfl rfl)
    clear h2
    simp_all [andQ, andP, z18]
    done)
  refine smR 3 rfl <| ryV rfl rfl rfl (iSq rfl rfl rfl uT40 hi0 tS43 rfl (by rfl)) <| smR 1 rfl <| ryV rfl rfl rfl (lBP rfl rfl rfl Tryz.underlying103 rfl zs1 (lb rfl) rfl dC0) <| smR 1 rfl <| nR <| wO 22 kR0 <| wY rfl rfl rfl (fun k (h : _) => by (simp at h ⊢; omega)) (nAp rfl) (fun _ _ => cRr (ih ka hm0 ⟨false, true, [], r8of f.types x.params, r8of f.types x.outs⟩ (z0l f.types st x.params (List.replicate x.params.length 0)).2 hs1) ent64 rfl rfl (sSm rfl (sSm rfl (Subs.cons (fun _ _ _ _ h => z4v (q := whv ⟨false, true, [], r8of f.types x.params, r8of f.types x.outs⟩) (PSub.agg (ps := [vBool false, vBool true, .val (.slice none 0 0), ints (r8of f.types x.params), ints (r8of f.types x.outs)]) (And.intro (PSub.refl _) (And.intro (PSub.refl _) (And.intro PSub.nil (And.intro (PSub.refl _) (And.intro (PSub.refl _) trivial)))))) h) (sSm rfl Subs.nil)))) (po2 rfl rfl) (by rfl) (fun k (h : _) => by (simp only [List.mem_cons, List.not_mem_nil, or_false] at h; rcases h with rfl | rfl <;> first | exact .inl rfl | exact .inr rfl | exact .inr dC0)) rfl (by rfl)) <| wR 0 [23, 24] kR0 h30 <| smR 2 rfl <| nR <| wDn kR0 ?_
  refine tC rfl (fun hc41 => ?_) fun hc41 => ?_
  ·refine tQ <| tG <| sm 1 rfl <| nL <| tRt ?_
   (have h2 : (if z0y f.types st x.args (r8of f.types x.params) then andQ (z0l f.types st x.params (List.replicate x.params.length 0)) (fun s1 => andQ (z0h u f deep ⟨false, true, [], r8of f.types x.params, r8of f.types x.outs⟩ s1 ka) fun s2 => z18 f x (z22 s2 x.params)) else (false, st)).2 = (z0h u f deep ⟨false, true, [], r8of f.types x.params, r8of f.types x.outs⟩ (z0l f.types st x.params (List.replicate x.params.length 0)).2 ka).2 := (by simp_all [andQ, andP, z18]; done)
    rw [h2]
    refine rOk rfl ?_ (po2 rfl rfl)
    clear h2
    simp_all [andQ, andP, z18]
    done)
  refine tSk <| tQ ?_
  have hpin : ∀ v ∈ x.params, 0 <= v /\ v < f.types.length := by
    have hp1 : (z0l f.types st x.params (List.replicate x.params.length 0)).1 = true := by simp_all
    exact zk1 hp1
  refine tG <| sm 3 rfl <| cE rfl (ocr (zy6 u f (z0h u f deep ⟨false, true, [], r8of f.types x.params, r8of f.types x.outs⟩ (z0l f.types st x.params (List.replicate x.params.length 0)).2 ka).2 hs2 x.params hpin) ent91 rfl (po2 rfl rfl) rfl (fun k (h : _) => .inr h) rfl rfl) <| nL <| tQ <| tG <| sm 2 rfl <| cV rfl (oSm uT35 rfl) <| sm 2 rfl ?_
  refine wS 50 rfl (fun hb50 => ?_) fun hb50 => ?_
  ·refine sm 8 rfl <| WL.yes rfl rfl rfl rfl rfl rfl (cRr (z9n u f (z22 (z0h u f deep ⟨false, true, [], r8of f.types x.params, r8of f.types x.outs⟩ (z0l f.types st x.params (List.replicate x.params.length 0)).2 ka).2 x.params) hs3 x.outs hbo) zu1 rfl rfl (sRf _ _) (po2 rfl rfl) (by rfl) (fun k (h : _) => .inr h) rfl (by rfl)) <| sm 2 rfl <| nL <| tRt ?_
   (have h2 : (if z0y f.types st x.args (r8of f.types x.params) then andQ (z0l f.types st x.params (List.replicate x.params.length 0)) (fun s1 => andQ (z0h u f deep ⟨false, true, [], r8of f.types x.params, r8of f.types x.outs⟩ s1 ka) fun s2 => z18 f x (z22 s2 x.params)) else (false, st)).2 = (z0l f.types (z22 (z0h u f deep ⟨false, true, [], r8of f.types x.params, r8of f.types x.outs⟩ (z0l f.types st x.params (List.replicate x.params.length 0)).2 ka).2 x.params) x.outs (List.replicate x.outs.length 0)).2 := (by simp_all [andQ, andP, z18]; done)
    rw [h2]
    refine rOk rfl ?_ (po2 rfl rfl)
    clear h2
    simp_all [andQ, andP, z18]
    done)
  refine yV rfl rfl (lEA rfl rfl uT42 rfl tS42 (lb rfl)) <| WL.yes rfl rfl rfl rfl rfl rfl (z1f (z5h _) ent42 rfl rfl (sRf _ _) rfl) <| sm 3 rfl ?_
  refine wS 55 rfl (fun hb55 => ?_) fun hb55 => ?_
  ·refine sm 3 rfl <| WL.yes rfl rfl rfl rfl rfl rfl (cRr (z9n u f (z22 (z0h u f deep ⟨false, true, [], r8of f.types x.params, r8of f.types x.outs⟩ (z0l f.types st x.params (List.replicate x.params.length 0)).2 ka).2 x.params) hs3 x.outs hbo) zu1 rfl rfl (sRf _ _) (po2 rfl rfl) (by rfl) (fun k (h : _) => .inr h) rfl (by rfl)) <| sm 2 rfl <| nL <| tRt ?_
   (have h2 : (if z0y f.types st x.args (r8of f.types x.params) then andQ (z0l f.types st x.params (List.replicate x.params.length 0)) (fun s1 => andQ (z0h u f deep ⟨false, true, [], r8of f.types x.params, r8of f.types x.outs⟩ s1 ka) fun s2 => z18 f x (z22 s2 x.params)) else (false, st)).2 = (z0l f.types (z22 (z0h u f deep ⟨false, true, [], r8of f.types x.params, r8of f.types x.outs⟩ (z0l f.types st x.params (List.replicate x.params.length 0)).2 ka).2 x.params) x.outs (List.replicate x.outs.length 0)).2 := (by simp_all [andQ, andP, z18]; done)
    rw [h2]
    refine rOk rfl ?_ (po2 rfl rfl)
    clear h2
    simp_all [andQ, andP, z18]
    done)
  refine sm 6 rfl <| nL <| tRt ?_
  (have h2 : (if z0y f.types st x.args (r8of f.types x.params) then andQ (z0l f.types st x.params (List.replicate x.params.length 0)) (fun s1 => andQ (z0h u f deep ⟨false, true, [], r8of f.types x.params, r8of f.types x.outs⟩ s1 ka) fun s2 => z18 f x (z22 s2 x.params)) else (false, st)).2 = (z22 (z0h u f deep ⟨false, true, [], r8of f.types x.params, r8of f.types x.outs⟩ (z0l f.types st x.params (List.replicate x.params.length 0)).2 ka).2 x.params) := (by simp_all [andQ, andP, z18]; done)
   rw [h2]
   refine rOk rfl ?_ (po2 rfl rfl)
   clear h2
   simp_all [andQ, andP, z18]
   done)
theorem y6p (u : Un) (f : Fl) (hg : ∀ g ∈ u.flows, 0 <= g.params /\ g.params <= g.types.length) (x : Nd) (deep : Int) (hd : 0 <= deep /\ deep <= 100) (wh : Wh) (st : List Int) (hs : st.length = f.types.length) (hbo : x.outs.length <= 1073741824) (hbp : x.params.length <= 1073741824) (ih : ∀ q ∈ x.kids, ∀ (w : Wh) (st : List Int), st.length = f.types.length -> SC Tryz.prog 64 [.ptr 3 0, .pv (z09 q), .pv (whv w), iInt (deep + 1)] (ckS u f 3 st) (fun k => k = 3) (iBool (z0h u f (deep + 1) w st q).1) (ckS u f 3 (z0h u f (deep + 1) w st q).2)) : SC Tryz.prog 90 [.ptr 3 0, .pv (ndv x), .pv (whv wh), iInt deep] (ckS u f 3 st) (fun k => k = 3) (iBool (z31 u f deep wh st x).1) (ckS u f 3 (z31 u f deep wh st x).2) := by
  refine SC.of Tryz.func90 rfl (lb rfl) fun F ρ w => ?_
  refine tQ <| tG <| cE rfl (z1c rfl rfl) <| cE rfl (z1c rfl rfl) <| sm 1 rfl <| nL <| tQ <| tBk <| tQ <| tG <| cV rfl (lEA rfl rfl uT42 rfl tS42 (lb rfl)) <| cE rfl (ocq (y6j _) ent106 rfl rfl) ?_
  refine sm 2 rfl <| nL ?_
  refine tC rfl (fun hc9 => ?_) fun hc9 => ?_
  ·refine tQ <| tG <| sm 1 rfl <| nL <| tRt ?_
   have hbare : z0k x = false := by simpa using hc9
   rw [z8y _ _ _ _ _ hbare]
   exact rOk rfl rfl (po2 rfl rfl)
  have hbare : z0k x = true := by simpa using hc9
  refine tQ <| tG <| sm 4 rfl <| nL ?_
  refine tC rfl (fun hc13 => ?_) fun hc13 => ?_
  ·have hk10 : x.kind = 10 := by simpa using hc13
   obtain ⟨ka, kb, hkids⟩ := z30 hbare hk10
   refine tQ <| tG <| sm 1 rfl <| cV rfl (lEA rfl rfl uT42 rfl tS42 (lb rfl)) <| cV rfl (lEA rfl rfl Tryz.underlying103 rfl zs1 (lb rfl)) <| sm 1 rfl <| cV rfl (oB rfl rfl (z03 rfl oM0)) <| cE rfl (ocr (y19 u f st hs x ka kb hkids wh (deep + 1) hbo ih) ent107 rfl (po2 rfl rfl) rfl (fun k (h : _) => .inr h) rfl rfl) <| sm 1 rfl <| nL <| tRt ?_
   rw [zk0 _ _ _ _ _ hbare hk10 hkids]
   exact rOk rfl rfl (po2 rfl rfl)
  refine tQ <| tG <| sm 4 rfl <| nL ?_
  refine tC rfl (fun hc23 => ?_) fun hc23 => ?_
  ·have hk11 : x.kind = 11 := by simpa using hc23
   obtain ⟨ka, hkids⟩ := z21 hbare hk11
   refine tQ <| tG <| sm 1 rfl <| cV rfl (lEA rfl rfl uT42 rfl tS42 (lb rfl)) <| sm 1 rfl <| cV rfl (oB rfl rfl (z03 rfl oM0)) <| cE rfl (ocr (y6o u f st hs x ka hkids (deep + 1) hbo hbp ih) ent108 rfl (po2 rfl rfl) rfl (fun k (h : _) => .inr h) rfl rfl) <| sm 1 rfl <| nL <| tRt ?_
   rw [z8z _ _ _ _ _ hbare hk11 hkids]
   exact rOk rfl rfl (po2 rfl rfl)
  refine tQ <| tG <| cV rfl (lEA rfl rfl uT42 rfl tS42 (lb rfl)) <| cE rfl (ocq (z7r _) y52 rfl rfl) <| sm 1 rfl <| nL ?_
  refine tC rfl (fun hc32 => ?_) fun hc32 => ?_
  ·refine tQ <| tG <| sm 1 rfl <| cV rfl (lEA rfl rfl uT42 rfl tS42 (lb rfl)) <| cV rfl (lEA rfl rfl Tryz.underlying103 rfl zs1 (lb rfl)) <| cE rfl (ocr (sc_shEnd u f st hs x wh) ent109 rfl (po2 rfl rfl) rfl (fun k (h : _) => .inr h) rfl rfl) <| sm 1 rfl <| nL <| tRt ?_
   rw [zb2 _ _ _ _ _ hbare hc13 hc23 hc32]
   exact rOk rfl rfl (po2 rfl rfl)
  refine tSk <| tQ <| tG <| sm 1 rfl <| cV rfl (lEA rfl rfl uT42 rfl tS42 (lb rfl)) <| cE rfl (ocr (y1b u f st hs hg x) ent110 rfl (po2 rfl rfl) rfl (fun k (h : _) => .inr h) rfl rfl) <| sm 1 rfl <| nL <| tRt ?_
  rw [z6t _ _ _ _ _ hbare hc13 hc23 hc32]
  exact rOk rfl rfl (po2 rfl rfl)
theorem zr3 (N : Nat) : ∀ (u : Un) (f : Fl) (hg : ∀ g ∈ u.flows, 0 <= g.params /\ g.params <= g.types.length) (l : List Nd) (deep : Int) (hd : 0 <= deep /\ deep <= 101) (wh : Wh) (st : List Int) (hs : st.length = f.types.length) (hb : lsW l <= 1073741824), SizeOf.sizeOf l < N -> SC Tryz.prog 64 [.ptr 3 0, .pv (z09 l), .pv (whv wh), iInt deep] (ckS u f 3 st) (fun k => k = 3) (iBool (z0h u f deep wh st l).1) (ckS u f 3 (z0h u f deep wh st l).2) := by
  induction N with
  | zero => intro u f hg l deep hd wh st hs hb hN; exact absurd hN (Nat.not_lt_zero _)
  | succ N ih =>
    intro u f hg l deep hd wh st hs hb hN
    refine SC.of Tryz.func64 rfl (lb rfl) fun F ρ w => ?_
    refine Tr.lenOf (t := 1) rfl (fun hl => ?_)
    simp only [List.length_map] at hl
    refine tQ <| tG <| cE rfl (z1c rfl rfl) <| sm 1 rfl <| nL <| tQ <| tQ <| tG <| sm 1 rfl <| cV rfl (oSm uT43 rfl) <| sm 1 rfl <| nL ?_
    refine tBk <| Tr.sub (Sub.of (fr' := [(15, iInt 0), (14, iInt l.length), (13, .pv (z09 l)), (6, .pv (.ept [vBool wh.If, vBool wh.Loop, ints wh.Yield, ints wh.Next, ints wh.Left] 0)), (0, .ptr 3 0), (1, .pv (z09 l)), (3, iInt deep)]) ⟨rfl, rfl, rfl, rfl, rfl, rfl, rfl, trivial⟩) ?_
    refine Tr.loop (fun fr σ m => ∃ (k : Nat) (s : List Int), (k <= l.length) /\ (shGo u f deep wh st l = shGo u f deep wh s (l.drop k)) /\ (s.length = f.types.length) /\ fr = [(15, iInt k), (14, iInt l.length), (13, .pv (z09 l)), (6, .pv (.ept [vBool wh.If, vBool wh.Loop, ints wh.Yield, ints wh.Next, ints wh.Left] 0)), (0, .ptr 3 0), (1, .pv (z09 l)), (3, iInt deep)] /\ σ = look (up (ckS u f 3 s)) /\ m = l.length - k) (n := l.length - 0) ?_ ?_
    ·exact ⟨0, st, Nat.zero_le _, rfl, hs, rfl, rfl, rfl⟩
    rintro fr σ m ⟨k, s, hI0, hI1, hI2, rfl, rfl, rfl⟩
    refine tQ <| tG <| sm 1 rfl <| nL <| tQ ?_
    refine tC rfl (fun hc16 => ?_) fun hc16 => ?_
    ·have hlt : k < l.length := by simpa using hc16
     have hd2 := List.drop_eq_getElem_cons hlt
     have hm := List.getElem_mem hlt
     have hi := z0p (List.getElem?_eq_getElem hlt)
     generalize l[k] = x at hd2 hm hi
     have hWx := zc0 x
     have hWl := y0q hm
     have hxo : x.outs.length <= 1073741824 := by omega
     have hxp : x.params.length <= 1073741824 := by omega
     refine tSk <| tQ <| tBk <| tQ <| tG <| sm 1 rfl <| cV rfl (iSq rfl rfl rfl uT43 hi tS42 rfl (by rfl)) <| cV rfl (lEA rfl rfl uT42 rfl tS42 (lb rfl)) <| cE rfl (aLc (k := 110) rfl tZ42 rfl rfl rfl rfl) <| sm 1 rfl <| c0 (sBA rfl rfl rfl rfl rfl sI0 tS42 (flk rfl) (lb rfl)) <| nL ?_
     refine tQ <| Tr.freezeBox (t := 10) (k := 110) rfl rfl rfl ?_
     refine Tr.heap (σ' := look (up (ckS u f 3 s))) (fun k => by
       simp only [look]
       by_cases h : 110 = k
       · subst h; rfl
       · simp [z02 h]) ?_
     refine tG <| sm 3 rfl ?_
     refine wS 22 rfl (fun hb22 => ?_) fun hb22 => ?_
     ·refine sm 17 rfl <| nL <| Tr.condT rfl <| tQ <| tG <| sm 1 rfl <| nL <| tRt ?_
      (have h2 : z0h u f deep wh st l = (false, s) := by
         unfold z0h
         rw [hI1, hd2]
         unfold shGo
         rw [if_pos (by simpa using hb22)]
         simp [andQ]
       rw [h2]
       exact rOk rfl rfl (po2 rfl rfl))
     refine sm 1 rfl <| yV rfl rfl (lEA rfl rfl uT42 rfl tS42 (lb rfl)) <| yV rfl rfl (lEA rfl rfl Tryz.underlying103 rfl zs1 (lb rfl)) <| sm 1 rfl <| WL.yes rfl rfl rfl rfl rfl rfl (cRr (y6p u f hg x deep ⟨hd.1, by simp at hb22; omega⟩ wh s hI2 hxo hxp (fun q hq w st hst => ih u f hg q (deep + 1) ⟨by omega, by simp at hb22; omega⟩ w st hst (by have := zg6 hq; omega) (Nat.lt_of_lt_of_le (z4s hm rfl hq) (Nat.le_of_lt_succ hN)))) ent90 rfl rfl (sRf _ _) (po2 rfl rfl) (by rfl) (fun k (h : _) => .inr h) rfl (by rfl)) <| sm 3 rfl ?_
     refine wS 30 rfl (fun hb30 => ?_) fun hb30 => ?_
     ·refine sm 9 rfl <| nL <| Tr.condT rfl <| tQ <| tG <| sm 1 rfl <| nL <| tRt ?_
      (have h2 : z0h u f deep wh st l = (false, (z31 u f deep wh s x).2) := by
         unfold z0h
         rw [hI1, hd2]
         unfold shGo
         rw [if_neg (by simpa using hb22)]
         have hn1 : (z31 u f deep wh s x).1 = false := by simpa using hb30
         simp [andQ, hn1]
       rw [h2]
       exact rOk rfl rfl (po2 rfl rfl))
     refine yV rfl rfl (lEA rfl rfl uT42 rfl tS42 (lb rfl)) <| WL.yes rfl rfl rfl rfl rfl rfl (z1f (z5h x) ent42 rfl rfl (sRf _ _) rfl) <| sm 2 rfl <| yV rfl rfl (oSm uT43 rfl) <| yV rfl rfl (oB rfl rfl (z63 rfl oM0)) <| sm 1 rfl <| yV rfl rfl (z8u rfl rfl rfl Tryz.underlying4) <| sm 1 rfl <| nL ?_
     refine tC rfl (fun hc39 => ?_) fun hc39 => ?_
     ·refine tQ <| tG <| sm 1 rfl <| nL <| tRt ?_
      (have h2 : z0h u f deep wh st l = (false, (z31 u f deep wh s x).2) := by
         unfold z0h
         rw [hI1, hd2]
         unfold shGo
         rw [if_neg (by simpa using hb22)]
         have hn1 : (z31 u f deep wh s x).1 = true := by simpa using hb30
         have hcl : (z04 x != (l.drop (k + 1)).isEmpty) = true := by rw [z5w hlt]; simpa using hc39
         simp [andQ, hn1, hcl]
       rw [h2]
       exact rOk rfl rfl (po2 rfl rfl))
     refine tSk <| tG <| cV rfl (oB rfl rfl (z03 rfl oM0)) <| sm 1 rfl <| nL ?_
     refine ⟨_, _, ?_, Sub.of (fr' := [(15, iInt (k + 1)), (14, iInt l.length), (13, .pv (z09 l)), (6, .pv (.ept [vBool wh.If, vBool wh.Loop, ints wh.Yield, ints wh.Next, ints wh.Left] 0)), (0, .ptr 3 0), (1, .pv (z09 l)), (3, iInt deep)]) ⟨rfl, rfl, rfl, rfl, rfl, rfl, rfl, trivial⟩, (k + 1), (z31 u f deep wh s x).2, ?_, ?_, ?_, rfl, (z1w rfl), rfl⟩
     ·omega
     ·omega
     ·rw [hI1, hd2]
      have hn1 : (z31 u f deep wh s x).1 = true := by simpa using hb30
      have hcl : (z04 x != (l.drop (k + 1)).isEmpty) = false := by rw [z5w hlt]; simpa using hc39
      have hdp : ¬ deep > 100 := by simpa using hb22
      conv => lhs; unfold shGo
      simp only [if_neg hdp, andQ, hn1, hcl, if_true]
      rfl
     exact (z9o ..).trans hI2
    refine tEx <| tQ <| tQ ?_
    have hgo2 : shGo u f deep wh st l = (true, s) := by rw [hI1, List.drop_eq_nil_of_le (by simpa using hc16)]; simp [shGo]
    have hgo : (shGo u f deep wh st l).1 = true := by rw [hgo2]
    have hs0 := hI2
    generalize s = s0 at hgo2 hs0 ⊢
    refine tG <| sm 1 rfl <| cV rfl (oSm uT43 rfl) <| sm 1 rfl <| nL <| tBk <| Tr.sub (Sub.of (fr' := [(43, iInt 0), (42, iInt l.length), (41, .pv (z09 l)), (0, .ptr 3 0), (1, .pv (z09 l))]) ⟨rfl, rfl, rfl, rfl, rfl, trivial⟩) ?_
    refine Tr.loop (fun fr σ m => ∃ (k : Nat) (s : List Int), (k <= l.length) /\ (z5j s0 l = z5j s (l.drop k)) /\ (s.length = f.types.length) /\ fr = [(43, iInt k), (42, iInt l.length), (41, .pv (z09 l)), (0, .ptr 3 0), (1, .pv (z09 l))] /\ σ = look (up (ckS u f 3 s)) /\ m = l.length - k) (n := l.length - 0) ?_ ?_
    ·exact ⟨0, s0, Nat.zero_le _, rfl, hs0, rfl, rfl, rfl⟩
    rintro fr σ m ⟨k, s, hJ0, hJ1, hJ2, rfl, rfl, rfl⟩
    refine tQ <| tG <| sm 1 rfl <| nL <| tQ ?_
    refine tC rfl (fun hc44 => ?_) fun hc44 => ?_
    ·have hlt : k < l.length := by simpa using hc44
     have hd2 := List.drop_eq_getElem_cons hlt
     have hm := List.getElem_mem hlt
     have hi := z0p (List.getElem?_eq_getElem hlt)
     generalize l[k] = x at hd2 hm hi
     refine tSk <| tQ <| tBk <| tQ <| tG <| cV rfl (iSq rfl rfl rfl uT43 hi tS42 rfl (by rfl)) <| cV rfl (lEA rfl rfl uT42 rfl tS42 (lb rfl)) <| cE rfl (aLc (k := 112) rfl tZ42 rfl rfl rfl rfl) <| c0 (sBA rfl rfl rfl rfl rfl sI0 tS42 (flk rfl) (lb rfl)) <| nL <| Tr.freezeBox (t := 12) (k := 112) rfl rfl rfl ?_
     refine Tr.heap (σ' := look (up (ckS u f 3 s))) (fun k => by
       simp only [look]
       by_cases h : 112 = k
       · subst h; rfl
       · simp [z02 h]) ?_
     refine tG <| sm 3 rfl <| cE rfl (ocr (zy6 u f s hJ2 x.outs (zz3 hgo x hm)) ent91 rfl (po2 rfl rfl) rfl (fun k (h : _) => .inr h) rfl rfl) <| nL <| tG <| cV rfl (oB rfl rfl (z03 rfl oM0)) <| sm 1 rfl <| nL ?_
     refine ⟨_, _, ?_, Sub.of (fr' := [(43, iInt (k + 1)), (42, iInt l.length), (41, .pv (z09 l)), (0, .ptr 3 0), (1, .pv (z09 l))]) ⟨rfl, rfl, rfl, rfl, rfl, trivial⟩, (k + 1), (z22 s x.outs), ?_, ?_, ?_, rfl, (z1w rfl), rfl⟩
     ·omega
     ·omega
     ·rw [hJ1, hd2]; rfl
     exact (z3y ..).trans hJ2
    refine tEx <| tQ <| tG <| sm 1 rfl <| cV rfl (oSm uT43 rfl) <| sm 2 rfl <| nL <| tRt ?_
    have hge : l.length <= k := by simpa using hc44
    have h2 : z0h u f deep wh st l = (decide ((l.length : Int) > 0), s) := by
      unfold z0h
      rw [hgo2]
      simp only [andQ, if_true, zz2, hJ1, List.drop_eq_nil_of_le hge]
      rfl
    rw [h2]
    exact rOk rfl rfl (po2 rfl rfl)
theorem y6n (u : Un) (f : Fl) (hg : ∀ g ∈ u.flows, 0 <= g.params /\ g.params <= g.types.length) (l : List Nd) (deep : Int) (hd : 0 <= deep /\ deep <= 101) (wh : Wh) (st : List Int) (hs : st.length = f.types.length) (hb : lsW l <= 1073741824) : SC Tryz.prog 64 [.ptr 3 0, .pv (z09 l), .pv (whv wh), iInt deep] (ckS u f 3 st) (fun k => k = 3) (iBool (z0h u f deep wh st l).1) (ckS u f 3 (z0h u f deep wh st l).2) := zr3 _ u f hg l deep hd wh st hs hb (Nat.lt_succ_self _)
theorem y6k (u : Un) (f : Fl) (hg : ∀ g ∈ u.flows, 0 <= g.params /\ g.params <= g.types.length) (hp : 0 <= f.params /\ f.params <= f.types.length) (hb : lsW f.body <= 536870912) : SC Tryz.prog 38 [.pv u.enc, .pv (.agg f.enc)] [] (fun _ => False) (iBool (z8j u f)) [] := by
  refine SC.of Tryz.func38 rfl (lb rfl) fun F ρ w => ?_
  refine tQ <| tG <| cE rfl (z1c rfl rfl) <| cE rfl (z1c rfl rfl) <| sm 1 rfl <| nL <| tQ <| tQ <| tG <| sm 4 rfl ?_
  refine wS 10 rfl (fun hb10 => ?_) fun hb10 => ?_
  ·refine sm 10 rfl <| nL <| Tr.condT rfl <| tQ <| tG <| sm 1 rfl <| nL <| tRt <| rOk rfl ?_ nPo
   have hno : (decide (f.params > 8) || decide ((f.types.length : Int) > 20000) || f.types.any (fun t => !isTy t)) = true := by
     simp_all
   simp only [z8j, hno, Bool.not_true, Bool.false_and]
  refine sm 2 rfl <| yV rfl rfl (oSm uT35 rfl) <| sm 3 rfl ?_
  refine wS 16 rfl (fun hb16 => ?_) fun hb16 => ?_
  ·refine sm 4 rfl <| nL <| Tr.condT rfl <| tQ <| tG <| sm 1 rfl <| nL <| tRt <| rOk rfl ?_ nPo
   have hno : (decide (f.params > 8) || decide ((f.types.length : Int) > 20000) || f.types.any (fun t => !isTy t)) = true := by
     simp_all
   simp only [z8j, hno, Bool.not_true, Bool.false_and]
  refine sm 2 rfl <| WL.yes rfl rfl rfl rfl rfl rfl (z1f (y3p 63 [] [] rfl ent63 (fun t => !isTy t) f.types (fun x hm => (sc_flow1 x).anyR)) ent62 rfl rfl (sSm rfl (Subs.cons (fun _ _ _ _ h => zs0 h) Subs.nil)) rfl) <| sm 1 rfl <| nL ?_
  refine tC rfl (fun hc20 => ?_) fun hc20 => ?_
  ·refine tQ <| tG <| sm 1 rfl <| nL <| tRt <| rOk rfl ?_ nPo
   have hno : (decide (f.params > 8) || decide ((f.types.length : Int) > 20000) || f.types.any (fun t => !isTy t)) = true := by
     simp_all
   simp only [z8j, hno, Bool.not_true, Bool.false_and]
  ·have hpar : f.params <= 8 /\ f.types.length <= 20000 := by
     (simp_all <;> omega)
   have hpt : f.params.toNat <= f.types.length := by omega
   have hpi : f.params = (f.params.toNat : Int) := by omega
   have hno : (decide (f.params > 8) || decide ((f.types.length : Int) > 20000) || f.types.any (fun t => !isTy t)) = false := by
     clear hpi
     simp_all
   refine tSk <| tQ <| tDr z1b (fun k => k < 3) <| wR 4 [0, 1, 2, 3, 4] kR0 h30 <| rV rfl rfl (lEA rfl rfl uT25 rfl tS25 (lb rfl)) <| rV rfl rfl (lEA rfl rfl Tryz.underlying51 rfl tS51 (lb rfl)) <| smR 2 rfl <| rV rfl rfl (oSm uT35 rfl) <| nR <| wO 5 kR0 <| wI rfl rfl nf (z11 rfl) (fun _ _ => z0u (k := 4) (s := ⟨3, 1⟩) rfl rfl rfl uT35 tZ3 tC3 rfl dC0 oM0 oM0 rfl rfl rfl rfl) <| wR 2 [6] kR0 h30 ?_
   refine rV rfl rfl (by exact ze0 rfl rfl tZ100 tP100 rfl (zf9 (by (simp [y1y, firm1, look, PV.one]; exact ⟨_, _, ⟨rfl, rfl⟩, by simp⟩)))) <| nR <| wO 7 kR0 <| wI rfl rfl nf (z11 rfl) (fun _ _ => zh5 (k := 3) rfl rfl rfl rfl rfl rfl rfl) <| wR 0 [8] kR0 h30 <| smR 1 rfl <| nR <| wDn kR0 <| tQ <| tQ <| tG <| sm 3 rfl ?_
   refine nL <| tBk <| Tr.sub (Sub.of (fr' := [(31, iInt 0), (30, iInt f.params), (5, .ptr 3 0), (2, .pv (.ept [arrs u.arrays, flws u.flows] 0)), (3, .pv (.ept [vStr f.name, vInt f.ty, vInt f.params, ints f.types, z09 f.body] 0))]) ⟨rfl, rfl, rfl, rfl, rfl, trivial⟩) ?_
   refine Tr.heap (σ' := look (up (ckS u f 3 (z7s 0 f.types.length)))) (fun k => by
  rw [show (z7s 0 f.types.length) = List.replicate f.types.length 0 by simp [z7s]]
  simp only [ckS, up, List.map_cons, List.map_nil, look, List.length_map, List.length_replicate, List.map_replicate]
  by_cases h3 : 3 = k
  · subst h3; rfl
  · by_cases h4 : 4 = k
    · subst h4; rfl
    · simp [z02 h3, z02 h4]) ?_
   refine Tr.loop (fun fr σ m => ∃ (k : Nat), (k <= f.params.toNat) /\ fr = [(31, iInt k), (30, iInt f.params), (5, .ptr 3 0), (2, .pv (.ept [arrs u.arrays, flws u.flows] 0)), (3, .pv (.ept [vStr f.name, vInt f.ty, vInt f.params, ints f.types, z09 f.body] 0))] /\ σ = look (up (ckS u f 3 (z7s k f.types.length))) /\ m = f.params.toNat - k) (n := f.params.toNat - 0) ?_ ?_
   ·exact ⟨0, Nat.zero_le _, rfl, rfl, rfl⟩
   rintro fr σ m ⟨k, hI0, rfl, rfl, rfl⟩
   refine tQ <| tG <| sm 1 rfl <| nL <| tQ ?_
   refine tC rfl (fun hc32 => ?_) fun hc32 => ?_
   ·have hkp : k < f.params.toNat := by simp at hc32; omega
    have hkt : k < f.types.length := by omega
    have hst : ((z7s k f.types.length).map eInt)[k]? = some [vInt 0] := by
      rw [List.getElem?_map]
      simp only [z7s]
      rw [List.getElem?_append_right sI0]
      simp [List.getElem?_replicate, eInt]
      omega
    have hstl : k < ((z7s k f.types.length).map eInt).length := by rw [List.length_map, z7t oM0]; exact hkt
    refine tSk <| tQ <| tBk <| tQ <| tG <| sm 2 rfl <| nL <| tG <| sm 1 rfl <| cV rfl (nCk rfl rfl rfl) <| sm 3 rfl <| cV rfl (iRw rfl rfl rfl rfl rfl uT35 tS3 (by assumption) (by rfl)) ?_
    refine c0 (z1n rfl rfl rfl rfl rfl (Nat.add_zero _).symm (by assumption) sI0 tS3 rfl ((fun h => h))) <| nL <| tG <| cV rfl (oB rfl rfl (z03 rfl oM0)) <| sm 1 rfl <| nL ?_
    refine ⟨_, _, ?_, Sub.of (fr' := [(31, iInt (k + 1)), (30, iInt f.params), (5, .ptr 3 0), (2, .pv (.ept [arrs u.arrays, flws u.flows] 0)), (3, .pv (.ept [vStr f.name, vInt f.ty, vInt f.params, ints f.types, z09 f.body] 0))]) ⟨rfl, rfl, rfl, rfl, rfl, trivial⟩, (k + 1), ?_, rfl, (by rw [<- y6y hkt]; exact funext y4r), rfl⟩
    all_goals omega
   refine tEx <| tQ ?_
   have hkp : k = f.params.toNat := by simp at hc32; omega
   subst hkp
   refine tG <| sm 3 rfl <| cV rfl (bPu rfl rfl y1h tP103 rfl (fbk rfl) rfl) <| cE rfl (cRr (y6n u f hg f.body 1 ⟨by omega, by omega⟩ z35 (z7s f.params.toNat f.types.length) (z7t hpt) oM0) ent64 rfl rfl (sSm rfl (sSm rfl (Subs.cons (fun _ _ _ _ h => z4v (q := whv z35) (PSub.agg (ps := [vBool false, vBool false, .val (.slice none 0 0), .val (.slice none 0 0), .val (.slice none 0 0)]) (And.intro (PSub.refl _) (And.intro (PSub.refl _) (And.intro PSub.nil (And.intro PSub.nil (And.intro PSub.nil trivial)))))) h) (sSm rfl Subs.nil)))) (po2 rfl rfl) (by rfl) (fun k (h : _) => (show False from h).elim) rfl (by rfl)) <| sm 1 rfl <| nL <| tRt <| rOk rfl ?_ nPo
   simp only [z8j, hno, Bool.not_false, Bool.true_and]
theorem zj9 (n : Int) : SC Tryz.prog 84 [.pv (.val (.int .i32 n))] [] (fun _ => False) (iBool (z1s n)) [] := by
  refine SC.of Tryz.func84 rfl (lb rfl) fun F ρ w => ?_
  refine tQ <| tG <| sm 1 rfl <| nL <| tQ <| tG <| sm 3 rfl ?_
  refine wS 5 rfl (fun hb5 => ?_) fun hb5 => ?_
  ·refine sm 4 rfl ?_
   refine wS 9 rfl (fun hb9 => ?_) fun hb9 => ?_
   ·refine sm 3 rfl <| nUu rfl rfl rfl rfl rfl rfl <| nUu rfl rfl rfl rfl rfl rfl <| sm 7 rfl <| nL <| tRt <| rOk rfl ?_ nPo
    unfold z1s
    first | (simp_all; done) | (simp_all <;> omega)
   refine sm 3 rfl ?_
   refine wS 12 rfl (fun hb12 => ?_) fun hb12 => ?_
   ·refine sm 5 rfl ?_
    refine wS 17 rfl (fun hb17 => ?_) fun hb17 => ?_
    ·refine sm 4 rfl <| nL <| tRt <| rOk rfl ?_ nPo
     unfold z1s
     first | (simp_all; done) | (simp_all <;> omega)
    refine sm 4 rfl <| nL <| tRt <| rOk rfl ?_ nPo
    unfold z1s
    first | (simp_all; done) | (simp_all <;> omega)
   refine sm 9 rfl <| nL <| tRt <| rOk rfl ?_ nPo
   unfold z1s
   first | (simp_all; done) | (simp_all <;> omega)
  refine sm 7 rfl ?_
  refine wS 12 rfl (fun hb12 => ?_) fun hb12 => ?_
  ·refine sm 5 rfl ?_
   refine wS 17 rfl (fun hb17 => ?_) fun hb17 => ?_
   ·refine sm 4 rfl <| nL <| tRt <| rOk rfl ?_ nPo
    unfold z1s
    first | (simp_all; done) | (simp_all <;> omega)
   refine sm 4 rfl <| nL <| tRt <| rOk rfl ?_ nPo
   unfold z1s
   first | (simp_all; done) | (simp_all <;> omega)
  refine sm 9 rfl <| nL <| tRt <| rOk rfl ?_ nPo
  unfold z1s
  first | (simp_all; done) | (simp_all <;> omega)
theorem y3z (n : Int) : SC Tryz.prog 105 [.pv (.val (.int .i32 n))] [] (fun _ => False) (iBool (z6k n)) [] := by
  refine SC.of Tryz.func105 rfl (lb rfl) fun F ρ w => ?_
  refine tQ <| tG <| sm 1 rfl <| nL <| tQ <| tG <| sm 3 rfl ?_
  refine wS 5 rfl (fun hb5 => ?_) fun hb5 => ?_
  ·refine sm 4 rfl <| nL <| tRt <| rOk rfl ?_ nPo
   unfold z6k
   first | (simp_all; done) | (simp_all <;> omega)
  refine sm 4 rfl <| nL <| tRt <| rOk rfl ?_ nPo
  unfold z6k
  first | (simp_all; done) | (simp_all <;> omega)
theorem y6s (s : ByteArray) : SC Tryz.prog 86 [iStr s] [] (fun _ => False) (iBool (z0i s)) [] := by
  refine SC.of Tryz.func86 rfl (lb rfl) fun F ρ w => ?_
  refine tQ <| tG <| sm 1 rfl <| nL <| tQ <| tQ <| tG <| sm 1 rfl <| nL <| tBk <| tQ <| tQ ?_
  refine tG <| cV rfl (bSt rfl rfl rfl rfl) <| sm 1 rfl <| nL ?_
  refine tC rfl (fun hc4 => ?_) fun hc4 => ?_
  ·refine tSk ?_
   refine tC rfl (fun hc4 => ?_) fun hc4 => ?_
   ·refine tQ <| tG <| sm 1 rfl <| nL <| tRt <| rOk rfl ?_ nPo
    refine congrArg (fun b => iBool b) ?_
    simp_all [z0i]
   refine tSk <| tQ <| tG <| sm 1 rfl <| nL <| tRt <| rOk rfl ?_ nPo
   refine congrArg (fun b => iBool b) ?_
   simp_all [z0i]
  refine tQ <| tG <| cV rfl (bSt rfl rfl rfl rfl) <| sm 1 rfl <| nL ?_
  refine tC rfl (fun hc4 => ?_) fun hc4 => ?_
  ·refine tSk ?_
   refine tC rfl (fun hc4 => ?_) fun hc4 => ?_
   ·refine tQ <| tG <| sm 1 rfl <| nL <| tRt <| rOk rfl ?_ nPo
    refine congrArg (fun b => iBool b) ?_
    simp_all [z0i]
   refine tSk <| tQ <| tG <| sm 1 rfl <| nL <| tRt <| rOk rfl ?_ nPo
   refine congrArg (fun b => iBool b) ?_
   simp_all [z0i]
  refine tQ <| tG <| cV rfl (bSt rfl rfl rfl rfl) <| sm 1 rfl <| nL ?_
  refine tC rfl (fun hc4 => ?_) fun hc4 => ?_
  ·refine tSk ?_
   refine tC rfl (fun hc4 => ?_) fun hc4 => ?_
   ·refine tQ <| tG <| sm 1 rfl <| nL <| tRt <| rOk rfl ?_ nPo
    refine congrArg (fun b => iBool b) ?_
    simp_all [z0i]
   refine tSk <| tQ <| tG <| sm 1 rfl <| nL <| tRt <| rOk rfl ?_ nPo
   refine congrArg (fun b => iBool b) ?_
   simp_all [z0i]
  refine tQ <| tG <| cV rfl (bSt rfl rfl rfl rfl) <| sm 1 rfl <| nL ?_
  refine tC rfl (fun hc4 => ?_) fun hc4 => ?_
  ·refine tSk ?_
   refine tC rfl (fun hc4 => ?_) fun hc4 => ?_
   ·refine tQ <| tG <| sm 1 rfl <| nL <| tRt <| rOk rfl ?_ nPo
    refine congrArg (fun b => iBool b) ?_
    simp_all [z0i]
   refine tSk <| tQ <| tG <| sm 1 rfl <| nL <| tRt <| rOk rfl ?_ nPo
   refine congrArg (fun b => iBool b) ?_
   simp_all [z0i]
  refine tQ <| tG <| cV rfl (bSt rfl rfl rfl rfl) <| sm 1 rfl <| nL ?_
  refine tC rfl (fun hc4 => ?_) fun hc4 => ?_
  ·refine tSk ?_
   refine tC rfl (fun hc4 => ?_) fun hc4 => ?_
   ·refine tQ <| tG <| sm 1 rfl <| nL <| tRt <| rOk rfl ?_ nPo
    refine congrArg (fun b => iBool b) ?_
    simp_all [z0i]
   refine tSk <| tQ <| tG <| sm 1 rfl <| nL <| tRt <| rOk rfl ?_ nPo
   refine congrArg (fun b => iBool b) ?_
   simp_all [z0i]
  refine tQ <| tG <| cV rfl (bSt rfl rfl rfl rfl) <| sm 1 rfl <| nL ?_
  refine tC rfl (fun hc4 => ?_) fun hc4 => ?_
  ·refine tSk ?_
   refine tC rfl (fun hc4 => ?_) fun hc4 => ?_
   ·refine tQ <| tG <| sm 1 rfl <| nL <| tRt <| rOk rfl ?_ nPo
    refine congrArg (fun b => iBool b) ?_
    simp_all [z0i]
   refine tSk <| tQ <| tG <| sm 1 rfl <| nL <| tRt <| rOk rfl ?_ nPo
   refine congrArg (fun b => iBool b) ?_
   simp_all [z0i]
  refine tQ <| tG <| cV rfl (bSt rfl rfl rfl rfl) <| sm 1 rfl <| nL ?_
  refine tC rfl (fun hc4 => ?_) fun hc4 => ?_
  ·refine tSk ?_
   refine tC rfl (fun hc4 => ?_) fun hc4 => ?_
   ·refine tQ <| tG <| sm 1 rfl <| nL <| tRt <| rOk rfl ?_ nPo
    refine congrArg (fun b => iBool b) ?_
    simp_all [z0i]
   refine tSk <| tQ <| tG <| sm 1 rfl <| nL <| tRt <| rOk rfl ?_ nPo
   refine congrArg (fun b => iBool b) ?_
   simp_all [z0i]
  refine tQ <| tG <| cV rfl (bSt rfl rfl rfl rfl) <| sm 1 rfl <| nL ?_
  refine tC rfl (fun hc4 => ?_) fun hc4 => ?_
  ·refine tSk ?_
   refine tC rfl (fun hc4 => ?_) fun hc4 => ?_
   ·refine tQ <| tG <| sm 1 rfl <| nL <| tRt <| rOk rfl ?_ nPo
    refine congrArg (fun b => iBool b) ?_
    simp_all [z0i]
   refine tSk <| tQ <| tG <| sm 1 rfl <| nL <| tRt <| rOk rfl ?_ nPo
   refine congrArg (fun b => iBool b) ?_
   simp_all [z0i]
  refine tQ <| tG <| cV rfl (bSt rfl rfl rfl rfl) <| sm 1 rfl <| nL ?_
  refine tC rfl (fun hc4 => ?_) fun hc4 => ?_
  ·refine tSk ?_
   refine tC rfl (fun hc4 => ?_) fun hc4 => ?_
   ·refine tQ <| tG <| sm 1 rfl <| nL <| tRt <| rOk rfl ?_ nPo
    refine congrArg (fun b => iBool b) ?_
    simp_all [z0i]
   refine tSk <| tQ <| tG <| sm 1 rfl <| nL <| tRt <| rOk rfl ?_ nPo
   refine congrArg (fun b => iBool b) ?_
   simp_all [z0i]
  refine tQ <| tG <| cV rfl (bSt rfl rfl rfl rfl) <| sm 1 rfl <| nL ?_
  refine tC rfl (fun hc4 => ?_) fun hc4 => ?_
  ·refine tSk ?_
   refine tC rfl (fun hc4 => ?_) fun hc4 => ?_
   ·refine tQ <| tG <| sm 1 rfl <| nL <| tRt <| rOk rfl ?_ nPo
    refine congrArg (fun b => iBool b) ?_
    simp_all [z0i]
   refine tSk <| tQ <| tG <| sm 1 rfl <| nL <| tRt <| rOk rfl ?_ nPo
   refine congrArg (fun b => iBool b) ?_
   simp_all [z0i]
  refine tQ <| tG <| cV rfl (bSt rfl rfl rfl rfl) <| sm 1 rfl <| nL ?_
  refine tC rfl (fun hc4 => ?_) fun hc4 => ?_
  ·refine tSk ?_
   refine tC rfl (fun hc4 => ?_) fun hc4 => ?_
   ·refine tQ <| tG <| sm 1 rfl <| nL <| tRt <| rOk rfl ?_ nPo
    refine congrArg (fun b => iBool b) ?_
    simp_all [z0i]
   refine tSk <| tQ <| tG <| sm 1 rfl <| nL <| tRt <| rOk rfl ?_ nPo
   refine congrArg (fun b => iBool b) ?_
   simp_all [z0i]
  refine tQ <| tG <| cV rfl (bSt rfl rfl rfl rfl) <| sm 1 rfl <| nL ?_
  refine tC rfl (fun hc4 => ?_) fun hc4 => ?_
  ·refine tSk ?_
   refine tC rfl (fun hc4 => ?_) fun hc4 => ?_
   ·refine tQ <| tG <| sm 1 rfl <| nL <| tRt <| rOk rfl ?_ nPo
    refine congrArg (fun b => iBool b) ?_
    simp_all [z0i]
   refine tSk <| tQ <| tG <| sm 1 rfl <| nL <| tRt <| rOk rfl ?_ nPo
   refine congrArg (fun b => iBool b) ?_
   simp_all [z0i]
  refine tQ <| tG <| cV rfl (bSt rfl rfl rfl rfl) <| sm 1 rfl <| nL ?_
  refine tC rfl (fun hc4 => ?_) fun hc4 => ?_
  ·refine tSk ?_
   refine tC rfl (fun hc4 => ?_) fun hc4 => ?_
   ·refine tQ <| tG <| sm 1 rfl <| nL <| tRt <| rOk rfl ?_ nPo
    refine congrArg (fun b => iBool b) ?_
    simp_all [z0i]
   refine tSk <| tQ <| tG <| sm 1 rfl <| nL <| tRt <| rOk rfl ?_ nPo
   refine congrArg (fun b => iBool b) ?_
   simp_all [z0i]
  refine tQ <| tG <| cV rfl (bSt rfl rfl rfl rfl) <| sm 1 rfl <| nL ?_
  refine tC rfl (fun hc4 => ?_) fun hc4 => ?_
  ·refine tSk ?_
   refine tC rfl (fun hc4 => ?_) fun hc4 => ?_
   ·refine tQ <| tG <| sm 1 rfl <| nL <| tRt <| rOk rfl ?_ nPo
    refine congrArg (fun b => iBool b) ?_
    simp_all [z0i]
   refine tSk <| tQ <| tG <| sm 1 rfl <| nL <| tRt <| rOk rfl ?_ nPo
   refine congrArg (fun b => iBool b) ?_
   simp_all [z0i]
  refine tQ <| tG <| cV rfl (bSt rfl rfl rfl rfl) <| sm 1 rfl <| nL ?_
  refine tC rfl (fun hc4 => ?_) fun hc4 => ?_
  ·refine tSk ?_
   refine tC rfl (fun hc4 => ?_) fun hc4 => ?_
   ·refine tQ <| tG <| sm 1 rfl <| nL <| tRt <| rOk rfl ?_ nPo
    refine congrArg (fun b => iBool b) ?_
    simp_all [z0i]
   refine tSk <| tQ <| tG <| sm 1 rfl <| nL <| tRt <| rOk rfl ?_ nPo
   refine congrArg (fun b => iBool b) ?_
   simp_all [z0i]
  refine tQ <| tG <| cV rfl (bSt rfl rfl rfl rfl) <| sm 1 rfl <| nL ?_
  refine tC rfl (fun hc4 => ?_) fun hc4 => ?_
  ·refine tSk ?_
   refine tC rfl (fun hc4 => ?_) fun hc4 => ?_
   ·refine tQ <| tG <| sm 1 rfl <| nL <| tRt <| rOk rfl ?_ nPo
    refine congrArg (fun b => iBool b) ?_
    simp_all [z0i]
   refine tSk <| tQ <| tG <| sm 1 rfl <| nL <| tRt <| rOk rfl ?_ nPo
   refine congrArg (fun b => iBool b) ?_
   simp_all [z0i]
  refine tQ <| tG <| cV rfl (bSt rfl rfl rfl rfl) <| sm 1 rfl <| nL ?_
  refine tC rfl (fun hc4 => ?_) fun hc4 => ?_
  ·refine tSk ?_
   refine tC rfl (fun hc4 => ?_) fun hc4 => ?_
   ·refine tQ <| tG <| sm 1 rfl <| nL <| tRt <| rOk rfl ?_ nPo
    refine congrArg (fun b => iBool b) ?_
    simp_all [z0i]
   refine tSk <| tQ <| tG <| sm 1 rfl <| nL <| tRt <| rOk rfl ?_ nPo
   refine congrArg (fun b => iBool b) ?_
   simp_all [z0i]
  refine tG <| cV rfl (bSt rfl rfl rfl rfl) <| sm 1 rfl <| nL ?_
  refine tC rfl (fun hc4 => ?_) fun hc4 => ?_
  ·refine tQ <| tG <| sm 1 rfl <| nL <| tRt <| rOk rfl ?_ nPo
   refine congrArg (fun b => iBool b) ?_
   simp_all [z0i]
  refine tSk <| tQ <| tG <| sm 1 rfl <| nL <| tRt <| rOk rfl ?_ nPo
  refine congrArg (fun b => iBool b) ?_
  simp_all [z0i]
theorem sc_tkRun (s : ByteArray) : SC Tryz.prog 85 [iStr s] [] (fun _ => False) (iStr (y3j s)) [] := by
  refine SC.of Tryz.func85 rfl (lb rfl) fun F ρ w => ?_
  refine tQ <| tG <| sm 1 rfl <| nL <| tQ ?_
  refine Tr.strRange rfl rfl rfl rfl rfl rfl rfl rfl uT9 rfl rfl rfl rfl rfl rfl rfl rfl rfl rfl rfl (fun _ h => h) (fun k fr => (k <= s.toList.length /\ (s.toList.take k).all isLD = true) /\ fr = [(0, iStr s)]) ⟨[(0, iStr s)], Sub.of ⟨rfl, trivial⟩, ⟨Nat.zero_le _, rfl⟩, rfl⟩ ?_ ?_
  ·rintro b0 k _ hk ⟨hI, rfl⟩
   refine tQ <| tG <| sm 2 rfl <| nL <| tRt <| rOk rfl ?_ nPo
   have hall : s.toList.all isLD = true := by
     have := hI.2
     rwa [List.take_of_length_le (by rw [z8c]; exact hk)] at this
   simp [y3j, hall]
  rintro ρ2 w2 b0 k _ hk ⟨hI, rfl⟩
  have hlt : k < s.toList.length := by rw [z8c]; exact hk
  refine tBk <| tQ <| tG <| cV rfl (z1o rfl rfl rfl) <| cV rfl (z1o rfl rfl rfl) <| sm 2 rfl <| nL <| tQ <| tG <| sm 1 rfl <| cE rfl (ocq (zj9 _) ent84 rfl rfl) <| sm 2 rfl ?_
  refine wS 14 rfl (fun hb14 => ?_) fun hb14 => ?_
  ·refine sm 1 rfl <| WL.yes rfl rfl rfl rfl rfl rfl (z1f (y3z _) ent105 rfl rfl (sRf _ _) rfl) <| sm 2 rfl <| nL ?_
   refine tC rfl (fun hc18 => ?_) fun hc18 => ?_
   ·refine tQ <| tG <| sm 2 rfl <| cV rfl (zc3 rfl rfl uT9 (.inl ⟨rfl, rfl⟩) (.inr ⟨_, _, rfl, rfl⟩) oM0 (Nat.le_of_lt (by assumption))) <| sm 1 rfl <| nL <| tRt <| rOk rfl ?_ nPo
    have hld : zl4 (Utf8.decode s k).1 = false := by
      simp only [zl4]
      simp_all
    rw [runOf_at hI.2 (List.getElem?_eq_getElem hlt) ((zf6 hlt).2 hld)]
   refine tSk ?_
   refine ⟨rfl, [(0, iStr s)], Sub.of ⟨rfl, rfl, trivial⟩, ?_, rfl⟩
   have hld : zl4 (Utf8.decode s k).1 = true := by
     simp only [zl4]
     simp_all
   obtain ⟨hw1, hb1⟩ := (zf6 hlt).1 hld
   rw [hw1]
   exact ⟨by omega, by rw [List.take_succ_eq_append_getElem hlt, List.all_append, hI.2]; simp [hb1]⟩
  refine sm 4 rfl <| nL <| Tr.condF rfl <| tSk ?_
  refine ⟨rfl, [(0, iStr s)], Sub.of ⟨rfl, rfl, trivial⟩, ?_, rfl⟩
  have hld : zl4 (Utf8.decode s k).1 = true := by
    simp only [zl4]
    simp_all
  obtain ⟨hw1, hb1⟩ := (zf6 hlt).1 hld
  rw [hw1]
  exact ⟨by omega, by rw [List.take_succ_eq_append_getElem hlt, List.all_append, hI.2]; simp [hb1]⟩
theorem zy9 (s : ByteArray) : SC Tryz.prog 59 [iStr s] [] (fun _ => False) (iBool (z4c s)) [] := by
  refine SC.of Tryz.func59 rfl (lb rfl) fun F ρ w => ?_
  refine tQ <| tG <| sm 1 rfl <| nL <| tQ <| tG <| sm 1 rfl <| cV rfl (bSt rfl rfl rfl rfl) <| sm 1 rfl ?_
  refine wS 5 rfl (fun hb5 => ?_) fun hb5 => ?_
  ·have hne : s.toList ≠ [] := by simpa using hb5
   obtain ⟨b0, r0, hs0⟩ := List.exists_cons_of_ne_nil hne
   have hi0 : s[0]? = some b0 := by rw [y1r (i := 0) (by rw [hs0]; simp)]; simp [hs0]
   have hw0 : IntKind.i32.wrap (b0.toNat : Int) = b0.toNat := by
     have : b0.toNat < 256 := b0.toNat_lt
     simp [IntKind.wrap, IntKind.bits, IntKind.signed]
     omega
   have hre := runOf_eq s
   refine sm 1 rfl <| yV rfl rfl (z4f rfl rfl rfl uT9 (by assumption) (by rfl)) <| yV rfl rfl (z45 rfl rfl ⟨_, Tryz.underlying5⟩ Tryz.underlying21) <| WL.yes rfl rfl rfl rfl rfl rfl (z1f (zj9 _) ent84 rfl rfl (sRf _ _) rfl) <| sm 2 rfl ?_
   refine wS 11 rfl (fun hb11 => ?_) fun hb11 => ?_
   ·refine sm 1 rfl <| WL.yes rfl rfl rfl rfl rfl rfl (z1f (sc_tkRun s) ent85 rfl rfl (sRf _ _) rfl) <| sm 1 rfl <| yV rfl rfl (bSt rfl rfl rfl rfl) <| sm 2 rfl ?_
    refine wS 17 rfl (fun hb17 => ?_) fun hb17 => ?_
    ·refine sm 1 rfl <| yV rfl rfl (z46 rfl rfl uT9) <| sm 3 rfl ?_
     refine wS 22 rfl (fun hb22 => ?_) fun hb22 => ?_
     ·refine sm 1 rfl <| WL.yes rfl rfl rfl rfl rfl rfl (z1f (y6s s) ent86 rfl rfl (sRf _ _) rfl) <| sm 3 rfl <| nL <| tRt <| rOk rfl ?_ nPo
      refine congrArg (fun b => iBool b) ?_
      simp_all [z4c]
     refine sm 5 rfl <| nL <| tRt <| rOk rfl ?_ nPo
     refine congrArg (fun b => iBool b) ?_
     (simp_all [z4c] <;> omega)
    refine sm 10 rfl <| nL <| tRt <| rOk rfl ?_ nPo
    refine congrArg (fun b => iBool b) ?_
    simp_all [z4c]
   refine sm 16 rfl <| nL <| tRt <| rOk rfl ?_ nPo
   refine congrArg (fun b => iBool b) ?_
   simp_all [z4c]
  refine sm 22 rfl <| nL <| tRt <| rOk rfl ?_ nPo
  refine congrArg (fun b => iBool b) ?_
  simp_all [z4c]
theorem y6m (u : Un) (hW : z0r u <= 536870912) : SC Tryz.prog 37 [.pv u.enc] [] (fun _ => False) (iBool (z3d u)) [] := by
  refine SC.of Tryz.func37 rfl (lb rfl) fun F ρ w => ?_
  have hW2 : z0r u = u.arrays.length + u.flows.length + wtA u.arrays + wtF u.flows := rfl
  have hW3 : (u.arrays.length : Int) + u.flows.length <= 536870912 := by omega
  refine tQ <| tG <| cE rfl (z1c rfl rfl) <| sm 1 rfl <| nL <| tQ <| tG <| cE rfl (za5 (k := 109) rfl rfl rfl rfl rfl) <| sm 1 rfl <| nL <| tQ <| tQ ?_
  refine tG <| sm 2 rfl ?_
  refine WL.lenOf (t := 11) rfl (fun hl1 => ?_)
  simp only [List.length_map] at hl1
  refine cV rfl (oSm uT22 rfl) <| sm 1 rfl <| nL <| tBk <| Tr.sub (Sub.of (fr' := [(13, iInt 0), (12, iInt u.arrays.length), (11, .pv (arrs u.arrays)), (3, .mp 109), (1, .pv (.ept [arrs u.arrays, flws u.flows] 0))]) ⟨rfl, rfl, rfl, rfl, rfl, trivial⟩) ?_
  refine Tr.loop (fun fr σ m => ∃ (k : Nat) (es : List (Value × PV)), (k <= u.arrays.length) /\ (u.arrays.all z78 = (u.arrays.drop k).all z78) /\ (zb5 [] u.arrays = zb5 es (u.arrays.drop k)) /\ (Cnt es) /\ fr = [(13, iInt k), (12, iInt u.arrays.length), (11, .pv (arrs u.arrays)), (3, .mp 109), (1, .pv (.ept [arrs u.arrays, flws u.flows] 0))] /\ σ = look [(109, some (.map es))] /\ m = u.arrays.length - k) (n := u.arrays.length - 0) ?_ ?_
  ·exact ⟨0, [], Nat.zero_le _, rfl, rfl, Cnt.nil, rfl, rfl, rfl⟩
  rintro fr σ m ⟨k, es, hI0, hI1, hI2, hI3, rfl, rfl, rfl⟩
  refine tQ <| tG <| sm 1 rfl <| nL <| tQ ?_
  refine tC rfl (fun hc14 => ?_) fun hc14 => ?_
  ·have hlt : k < u.arrays.length := by simpa using hc14
   have hd := List.drop_eq_getElem_cons hlt
   have hm := List.getElem_mem hlt
   have hi := z0a (f := Ar.enc) (List.getElem?_eq_getElem hlt)
   generalize u.arrays[k] = x at hd hm hi
   refine tSk <| tQ <| tBk <| tQ <| tG <| cV rfl (iSq rfl rfl rfl uT22 hi tS49 rfl (by rfl)) <| cV rfl (lEA rfl rfl Tryz.underlying49 rfl tS49 (lb rfl)) <| cE rfl (aLc (k := 105) rfl tZ49 rfl rfl rfl rfl) <| c0 (sBA rfl rfl rfl rfl rfl ((fun h => h)) tS49 (flk rfl) (lb rfl)) <| nL <| tQ <| Tr.freezeBox (t := 5) (k := 105) rfl rfl rfl ?_
   refine Tr.heap (σ' := look [(109, some (.map es))]) (fun k => by
     simp only [look]
     by_cases h : 105 = k
     · subst h; rfl
     · simp [z02 h]) ?_
   obtain ⟨n, hn⟩ := hI3.find (.string x.name)
   have hbump := zo9 hn
   have hes := hI3.1
   refine tG <| sm 3 rfl <| cV rfl (z9j rfl rfl rfl rfl Tryz.underlying95 uT9 rfl (by assumption) tZ3 trivial) <| WL.sub (Sub.of (fr' := [(20, iInt n), (19, iStr x.name), (17, .mp 109), (5, .pv (.ept [vStr x.name, vInt x.size] 0)), (13, iInt k), (12, iInt u.arrays.length), (11, .pv (arrs u.arrays)), (3, .mp 109), (1, .pv (.ept [arrs u.arrays, flws u.flows] 0))]) ⟨congrArg (fun p => some (IV.pv p)) hn, rfl, rfl, rfl, rfl, rfl, rfl, rfl, rfl, trivial⟩) <| sm 1 rfl <| c0 (z7k rfl rfl rfl rfl rfl ((fun h => h)) Tryz.underlying95 uT9 rfl (by assumption)) <| nL <| tQ <| tG <| sm 2 rfl <| cE rfl (ocq (zy9 _) ent59 rfl rfl) <| sm 2 rfl ?_
   refine wS 26 rfl (fun hb26 => ?_) fun hb26 => ?_
   ·refine sm 9 rfl <| nL <| Tr.condT rfl <| tQ <| tG <| sm 1 rfl <| nL <| tRt <| rOk rfl ?_ nPo
    have hx : z78 x = false := by
      clear hd hm hi hI1 hI2 hn
      simp_all [z78]
    have hA : u.arrays.all z78 = false := by rw [hI1, hd]; simp only [List.all_cons, hx, Bool.false_and]
    simp only [z3d, hA, Bool.false_and]
   refine sm 5 rfl ?_
   refine wS 31 rfl (fun hb31 => ?_) fun hb31 => ?_
   ·refine sm 4 rfl <| nL <| Tr.condT rfl <| tQ <| tG <| sm 1 rfl <| nL <| tRt <| rOk rfl ?_ nPo
    have hx : z78 x = false := by
      clear hd hm hi hI1 hI2 hn
      simp_all [z78]
    have hA : u.arrays.all z78 = false := by rw [hI1, hd]; simp only [List.all_cons, hx, Bool.false_and]
    simp only [z3d, hA, Bool.false_and]
   refine sm 4 rfl <| nL ?_
   refine tC rfl (fun hc35 => ?_) fun hc35 => ?_
   ·refine tQ <| tG <| sm 1 rfl <| nL <| tRt <| rOk rfl ?_ nPo
    have hx : z78 x = false := by
      clear hd hm hi hI1 hI2 hn
      simp_all [z78]
    have hA : u.arrays.all z78 = false := by rw [hI1, hd]; simp only [List.all_cons, hx, Bool.false_and]
    simp only [z3d, hA, Bool.false_and]
   refine tSk <| tG <| cV rfl (oB rfl rfl (z03 rfl oM0)) <| sm 1 rfl <| nL ?_
   refine ⟨_, _, ?_, Sub.of (fr' := [(13, iInt (k + 1)), (12, iInt u.arrays.length), (11, .pv (arrs u.arrays)), (3, .mp 109), (1, .pv (.ept [arrs u.arrays, flws u.flows] 0))]) ⟨rfl, rfl, rfl, rfl, rfl, trivial⟩, (k + 1), (bump x.name es), ?_, ?_, ?_, ?_, rfl, (funext fun j => by
   simp only [look, <- hbump]
   by_cases h : 109 = j
   · subst h; rfl
   · simp [z02 h]), rfl⟩
   ·omega
   ·omega
   ·rw [hI1, hd]
    have hx : z78 x = true := by
      clear hd hm hi hI1 hI2 hn
      simp_all [z78]
    simp only [List.all_cons, hx, Bool.true_and]
   ·rw [hI2, hd]; rfl
   exact hI3.bump _
  refine tEx <| tQ <| tQ ?_
  have hA : u.arrays.all z78 = true := by
    rw [hI1, List.drop_eq_nil_of_le (by simpa using hc14)]; rfl
  have hcA : zb5 [] u.arrays = es := by
    rw [hI2, List.drop_eq_nil_of_le (by simpa using hc14)]; rfl
  generalize es = es0 at hcA hI3 ⊢
  refine tG <| sm 2 rfl ?_
  refine WL.lenOf (t := 38) rfl (fun hl2 => ?_)
  simp only [List.length_map] at hl2
  refine cV rfl (oSm uT23 rfl) <| sm 1 rfl <| nL <| tBk <| Tr.sub (Sub.of (fr' := [(40, iInt 0), (39, iInt u.flows.length), (38, .pv (flws u.flows)), (3, .mp 109), (1, .pv (.ept [arrs u.arrays, flws u.flows] 0))]) ⟨rfl, rfl, rfl, rfl, rfl, trivial⟩) ?_
  refine Tr.loop (fun fr σ m => ∃ (k : Nat) (es : List (Value × PV)), (k <= u.flows.length) /\ (u.flows.all z5t = (u.flows.drop k).all z5t) /\ (zf4 es0 u.flows = zf4 es (u.flows.drop k)) /\ (Cnt es) /\ fr = [(40, iInt k), (39, iInt u.flows.length), (38, .pv (flws u.flows)), (3, .mp 109), (1, .pv (.ept [arrs u.arrays, flws u.flows] 0))] /\ σ = look [(109, some (.map es))] /\ m = u.flows.length - k) (n := u.flows.length - 0) ?_ ?_
  ·exact ⟨0, es0, Nat.zero_le _, rfl, rfl, hI3, rfl, rfl, rfl⟩
  ·rintro fr σ m ⟨k, es, hJ0, hJ1, hJ2, hJ3, rfl, rfl, rfl⟩
   refine tQ <| tG <| sm 1 rfl <| nL <| tQ ?_
   refine tC rfl (fun hc41 => ?_) fun hc41 => ?_
   ·have hlt : k < u.flows.length := by simpa using hc41
    have hd := List.drop_eq_getElem_cons hlt
    have hm := List.getElem_mem hlt
    have hi := z0a (f := Fl.enc) (List.getElem?_eq_getElem hlt)
    generalize u.flows[k] = x at hd hm hi
    refine tSk <| tQ <| tBk <| tQ <| tG <| cV rfl (iSq rfl rfl rfl uT23 hi tS51 rfl (by rfl)) <| cV rfl (lEA rfl rfl Tryz.underlying51 rfl tS51 (lb rfl)) <| cE rfl (aLc (k := 107) rfl tZ51 rfl rfl rfl rfl) <| c0 (sBA rfl rfl rfl rfl rfl ((fun h => h)) tS51 (flk rfl) (lb rfl)) <| nL <| tQ <| Tr.freezeBox (t := 7) (k := 107) rfl rfl rfl ?_
    refine Tr.heap (σ' := look [(109, some (.map es))]) (fun k => by
      simp only [look]
      by_cases h : 107 = k
      · subst h; rfl
      · simp [z02 h]) ?_
    obtain ⟨n, hn⟩ := hJ3.find (.string x.name)
    have hbump := zo9 hn
    have hes := hJ3.1
    refine tG <| sm 3 rfl <| cV rfl (z9j rfl rfl rfl rfl Tryz.underlying95 uT9 rfl (by assumption) tZ3 trivial) <| WL.sub (Sub.of (fr' := [(47, iInt n), (46, iStr x.name), (44, .mp 109), (7, .pv (.ept [vStr x.name, vInt x.ty, vInt x.params, ints x.types, z09 x.body] 0)), (40, iInt k), (39, iInt u.flows.length), (38, .pv (flws u.flows)), (3, .mp 109), (1, .pv (.ept [arrs u.arrays, flws u.flows] 0))]) ⟨congrArg (fun p => some (IV.pv p)) hn, rfl, rfl, rfl, rfl, rfl, rfl, rfl, rfl, trivial⟩) <| sm 1 rfl <| c0 (z7k rfl rfl rfl rfl rfl ((fun h => h)) Tryz.underlying95 uT9 rfl (by assumption)) <| nL <| tQ <| tG <| sm 2 rfl <| cE rfl (ocq (zy9 _) ent59 rfl rfl) <| sm 2 rfl ?_
    refine wS 53 rfl (fun hb53 => ?_) fun hb53 => ?_
    ·refine sm 18 rfl <| nL <| Tr.condT rfl <| tQ <| tG <| sm 1 rfl <| nL <| tRt <| rOk rfl ?_ nPo
     have hx : z5t x = false := by
       clear hd hm hi hJ1 hJ2 hn
       simp_all [z5t]
     have hF : u.flows.all z5t = false := by rw [hJ1, hd]; simp only [List.all_cons, hx, Bool.false_and]
     simp only [z3d, hF, Bool.false_and, Bool.and_false]
    refine sm 2 rfl <| WL.yes rfl rfl rfl rfl rfl rfl (z1f (y6c _) ent60 rfl rfl (sRf _ _) rfl) <| sm 3 rfl ?_
    refine wS 59 rfl (fun hb59 => ?_) fun hb59 => ?_
    ·refine sm 12 rfl <| nL <| Tr.condT rfl <| tQ <| tG <| sm 1 rfl <| nL <| tRt <| rOk rfl ?_ nPo
     have hx : z5t x = false := by
       clear hd hm hi hJ1 hJ2 hn
       simp_all [z5t]
     have hF : u.flows.all z5t = false := by rw [hJ1, hd]; simp only [List.all_cons, hx, Bool.false_and]
     simp only [z3d, hF, Bool.false_and, Bool.and_false]
    refine sm 5 rfl ?_
    refine wS 64 rfl (fun hb64 => ?_) fun hb64 => ?_
    ·refine sm 7 rfl <| nL <| Tr.condT rfl <| tQ <| tG <| sm 1 rfl <| nL <| tRt <| rOk rfl ?_ nPo
     have hx : z5t x = false := by
       clear hd hm hi hJ1 hJ2 hn
       simp_all [z5t]
     have hF : u.flows.all z5t = false := by rw [hJ1, hd]; simp only [List.all_cons, hx, Bool.false_and]
     simp only [z3d, hF, Bool.false_and, Bool.and_false]
    refine sm 4 rfl <| yV rfl rfl (oSm uT35 rfl) <| sm 2 rfl <| nL ?_
    refine tC rfl (fun hc71 => ?_) fun hc71 => ?_
    ·refine tQ <| tG <| sm 1 rfl <| nL <| tRt <| rOk rfl ?_ nPo
     have hx : z5t x = false := by
       clear hd hm hi hJ1 hJ2 hn
       simp_all [z5t]
     have hF : u.flows.all z5t = false := by rw [hJ1, hd]; simp only [List.all_cons, hx, Bool.false_and]
     simp only [z3d, hF, Bool.false_and, Bool.and_false]
    refine tSk <| tG <| cV rfl (oB rfl rfl (z03 rfl oM0)) <| sm 1 rfl <| nL ?_
    refine ⟨_, _, ?_, Sub.of (fr' := [(40, iInt (k + 1)), (39, iInt u.flows.length), (38, .pv (flws u.flows)), (3, .mp 109), (1, .pv (.ept [arrs u.arrays, flws u.flows] 0))]) ⟨rfl, rfl, rfl, rfl, rfl, trivial⟩, (k + 1), (bump x.name es), ?_, ?_, ?_, ?_, rfl, (funext fun j => by
  simp only [look, <- hbump]
  by_cases h : 109 = j
  · subst h; rfl
  · simp [z02 h]), rfl⟩
    ·omega
    ·omega
    ·rw [hJ1, hd]
     have hx : z5t x = true := by
       clear hd hm hi hJ1 hJ2 hn
       simp_all [z5t]
     simp only [List.all_cons, hx, Bool.true_and]
    ·rw [hJ2, hd]; rfl
    exact hJ3.bump _
   refine tEx <| tQ ?_
   have hF : u.flows.all z5t = true := by
     rw [hJ1, List.drop_eq_nil_of_le (by simpa using hc41)]; rfl
   have hcF : zf4 (zb5 [] u.arrays) u.flows = es := by
     rw [hcA, hJ2, List.drop_eq_nil_of_le (by simpa using hc41)]; rfl
   clear hJ1 hJ2 hI1 hI2
   refine tG <| cV rfl (lEA rfl rfl uT25 rfl tS25 (lb rfl)) <| cE rfl (ocq (zb1 u z1t) ent61 rfl rfl) <| sm 1 rfl <| nL <| tQ <| tG <| sm 1 rfl <| cV rfl (zn5 rfl rfl rfl Tryz.underlying95 trivial) <| sm 2 rfl <| cV rfl (oSm uT22 rfl) ?_
   refine WL.lenOf (t := 78) rfl (fun hl1 => ?_)
   simp only [List.length_map] at hl1
   refine sm 2 rfl <| cV rfl (oSm uT23 rfl) ?_
   refine WL.lenOf (t := 81) rfl (fun hl2 => ?_)
   simp only [List.length_map] at hl2
   refine cV rfl (oB rfl rfl (z03 rfl oM0)) <| sm 2 rfl ?_
   refine wS 85 rfl (fun hb85 => ?_) fun hb85 => ?_
   ·refine sm 4 rfl ?_
    refine wS 89 rfl (fun hb89 => ?_) fun hb89 => ?_
    ·have hk0 : z07 z1t u.flows 0 ≥ 0 := by simp_all
     obtain ⟨g, hgk, _⟩ := z6c hk0
     have hgi : (u.flows.map Fl.enc)[(z07 z1t u.flows 0).toNat]? = some g.enc := z0a hgk
     have hgd : u.flows.getD (z07 z1t u.flows 0).toNat zu7 = g := by simp [List.getD, hgk]
     refine sm 3 rfl <| yV rfl rfl (iSq rfl rfl rfl uT23 hgi tS51 rfl oM0) <| sm 5 rfl ?_
     refine wS 98 rfl (fun hb98 => ?_) fun hb98 => ?_
     ·refine sm 3 rfl <| yV rfl rfl (iSq rfl rfl rfl uT23 hgi tS51 rfl oM0) <| sm 5 rfl <| nL <| tRt <| rOk rfl ?_ nPo
      refine congrArg (fun b => iBool b) ?_
      simp only [z3d, hA, hF, hcF, z8i, Bool.true_and]
      simp_all
     refine sm 9 rfl <| nL <| tRt <| rOk rfl ?_ nPo
     refine congrArg (fun b => iBool b) ?_
     simp only [z3d, hA, hF, hcF, z8i, Bool.true_and]
     simp_all
    refine sm 18 rfl <| nL <| tRt <| rOk rfl ?_ nPo
    refine congrArg (fun b => iBool b) ?_
    simp only [z3d, hA, hF, hcF, z8i, Bool.true_and]
    (simp_all <;> omega)
   refine sm 22 rfl <| nL <| tRt <| rOk rfl ?_ nPo
   refine congrArg (fun b => iBool b) ?_
   simp only [z3d, hA, hF, hcF, z8i, Bool.true_and]
   simp_all
theorem y3y (u : Un) (hW : z0r u <= 536870912) : SC Tryz.prog 22 [.pv u.enc] [] (fun _ => False) (.tup [iInt (z3h u).1, iInt (z3h u).2]) [] := by
  refine SC.of Tryz.func22 rfl (lb rfl) fun F ρ w => ?_
  refine tQ <| tG <| cE rfl (z1c rfl rfl) <| sm 2 rfl <| nL <| tQ <| tQ <| tG <| cV rfl (lEA rfl rfl uT25 rfl tS25 (lb rfl)) <| cE rfl (ocq (y6m u hW) ent37 rfl rfl) <| sm 1 rfl <| nL ?_
  refine tC rfl (fun hc8 => ?_) fun hc8 => ?_
  ·refine tQ <| tG <| sm 2 rfl <| nL <| tRt <| rOk rfl ?_ nPo
   have hg : z3d u = false := by simpa using hc8
   simp [z3h, hg]
  have hg : z3d u = true := by simpa using hc8
  refine tSk <| tQ <| tQ <| tG <| sm 2 rfl ?_
  refine WL.lenOf (t := 10) rfl (fun hl1 => ?_)
  simp only [List.length_map] at hl1
  refine cV rfl (oSm uT23 rfl) <| sm 1 rfl <| nL <| tBk <| Tr.sub (Sub.of (fr' := [(12, iInt 0), (11, iInt u.flows.length), (10, .pv (flws u.flows)), (1, .pv (.ept [arrs u.arrays, flws u.flows] 0))]) ⟨rfl, rfl, rfl, rfl, trivial⟩) ?_
  refine Tr.loop (fun fr σ m => ∃ (k : Nat), (k <= u.flows.length) /\ (z6v u u.flows 0 = z6v u (u.flows.drop k) k) /\ fr = [(12, iInt k), (11, iInt u.flows.length), (10, .pv (flws u.flows)), (1, .pv (.ept [arrs u.arrays, flws u.flows] 0))] /\ σ = look [] /\ m = u.flows.length - k) (n := u.flows.length - 0) ?_ ?_
  ·exact ⟨0, Nat.zero_le _, rfl, rfl, rfl, rfl⟩
  rintro fr σ m ⟨k, hI0, hI1, rfl, rfl, rfl⟩
  refine tQ <| tG <| sm 1 rfl <| nL <| tQ ?_
  refine tC rfl (fun hc13 => ?_) fun hc13 => ?_
  ·have hlt : k < u.flows.length := by simpa using hc13
   have hd := List.drop_eq_getElem_cons hlt
   have hm := List.getElem_mem hlt
   have hi := z0a (f := Fl.enc) (List.getElem?_eq_getElem hlt)
   generalize u.flows[k] = x at hd hm hi
   refine tSk <| tQ <| tBk <| tQ <| tG <| sm 1 rfl <| cV rfl (iSq rfl rfl rfl uT23 hi tS51 rfl (by rfl)) <| cV rfl (lEA rfl rfl Tryz.underlying51 rfl tS51 (lb rfl)) <| cE rfl (aLc (k := 105) rfl tZ51 rfl rfl rfl rfl) <| sm 1 rfl <| c0 (sBA rfl rfl rfl rfl rfl ((fun h => h)) tS51 (flk rfl) (lb rfl)) <| nL ?_
   refine tQ <| Tr.freezeBox (t := 5) (k := 105) rfl rfl rfl <| Tr.heap (σ' := look []) (fun k => by simp only [look]; cases Nat.beq 105 k <;> rfl) <| tG <| cV rfl (lEA rfl rfl uT25 rfl tS25 (lb rfl)) <| cV rfl (lEA rfl rfl Tryz.underlying51 rfl tS51 (lb rfl)) <| cE rfl (ocq (y6k u x (z6r hg) (z6r hg x hm) (y0j hW hm)) ent38 rfl rfl) <| sm 1 rfl <| nL ?_
   refine tC rfl (fun hc20 => ?_) fun hc20 => ?_
   ·refine tQ <| tG <| sm 3 rfl <| nL <| tRt <| rOk rfl ?_ nPo
    have hx : z8j u x = false := by simpa using hc20
    simp only [z3h, hg, if_true, hI1, hd, z6v, hx, Bool.false_eq_true, if_false]
   refine tSk <| tG <| cV rfl (oB rfl rfl (z03 rfl oM0)) <| sm 1 rfl <| nL ?_
   refine ⟨_, _, ?_, Sub.of (fr' := [(12, iInt (k + 1)), (11, iInt u.flows.length), (10, .pv (flws u.flows)), (1, .pv (.ept [arrs u.arrays, flws u.flows] 0))]) ⟨rfl, rfl, rfl, rfl, trivial⟩, (k + 1), ?_, ?_, rfl, rfl, rfl⟩
   ·omega
   ·omega
   rw [hI1, hd]
   have hx : z8j u x = true := by simpa using hc20
   simp only [z6v, hx, if_true]
   rfl
  refine tEx <| tQ <| tG <| sm 2 rfl <| nL <| tRt <| rOk rfl ?_ nPo
  have hge : u.flows.length <= k := by simpa using hc13
  simp only [z3h, hg, if_true, hI1, List.drop_eq_nil_of_le hge, z6v]
set_option maxRecDepth 20000
theorem y6v (l : List Int) (to : TT) (hb : l.length <= 1073741824) : SC Tryz.prog 39 [wV, .pv (ints l)] (tM to) (fun k => k ∈ [3001]) (.pv (ints (l.map (z1k to)))) (tM to) := by
  refine SC.vc tb { gh := [(1, [.grow 4 104 3 1]), (9, [.fz 4 104])] } [3001] Tryz.func39 rfl rfl ?_
  refine ⟨Nat × List Int, fun (k, acc) => [(11, iInt k), (4, .sl 104 (acc.map eInt).length)], fun (_, acc) => [(104, .row ⟨3, 1⟩ (acc.map eInt))], fun (k, _) => l.length - k, fun (k, acc) => k <= l.length /\ acc = (l.take k).map (z1k to), [], (0, []), ⟨Nat.zero_le _, rfl⟩, ⟨rfl, rfl, trivial⟩, ⟨rfl, trivial⟩, ?_⟩
  rintro ⟨k, acc⟩ ⟨hk, rfl⟩
  refine z1j (fun hc => ?_) fun hc => ?_
  · have hlt := z9c (f := eInt) rfl hc
    obtain ⟨x, hx, ht, _, _⟩ := z7d hlt
    refine ⟨z0a (f := eInt) hx, rfl, rfl, zv4 _, y5c x to, z1j (fun h2 => ?_) fun h2 => ?_⟩
    · exact ⟨rfl, zu8 rfl, by simp; omega, z03 rfl oM0, (k + 1, (l.take (k + 1)).map (z1k to)), z2h hlt, ⟨hlt, rfl⟩, ⟨rfl, slq (by simp; omega), trivial⟩, ⟨rwq (by rw [y45 h2]; simp [ht, eInt]), trivial⟩, rfl, rfl, rfl, rfl⟩
    · exact ⟨rfl, zu8 rfl, by simp; omega, z03 rfl oM0, (k + 1, (l.take (k + 1)).map (z1k to)), z2h hlt, ⟨hlt, rfl⟩, ⟨rfl, slq (by simp; omega), trivial⟩, ⟨rwq (by simp [ht, eInt, y44 h2]), trivial⟩, rfl, rfl, rfl, rfl⟩
  · exact ⟨rfl, sE (by rw [List.take_of_length_le (z96 (f := eInt) rfl hc)]; rfl), rfl, trivial⟩
theorem zr5 (l m : List Int) (to : TT) (h : l.length <= m.length) (hb : l.length <= 1073741824) : SC Tryz.prog 66 [wV, .pv (ints l), .pv (ints m)] (tM to) (fun k => k ∈ []) (.tup []) (tM (z0n l m to)) := by
  refine SC.vc tb {} [] Tryz.func66 rfl rfl ?_
  refine ⟨Nat × TT, fun (k, _) => [(10, iInt k)], fun (_, t) => [(3001, .map (inEs t))], fun (k, _) => l.length - k, fun (k, t) => k <= l.length /\ z0n (l.drop k) (m.drop k) t = z0n l m to, [], (0, to), ⟨Nat.zero_le _, rfl⟩, ⟨rfl, trivial⟩, ⟨rfl, trivial⟩, ?_⟩
  rintro ⟨k, t⟩ ⟨hk, hs⟩
  refine z1j (fun hc => ?_) fun hc => ?_
  · have hlt := z9c (f := eInt) rfl hc
    obtain ⟨x, hx, _, hd, _⟩ := z7d hlt
    obtain ⟨y, hy, _, hd2, _⟩ := z7d (show k < m.length by omega)
    rw [hd, hd2] at hs
    exact ⟨z0a (f := eInt) hx, rfl, z0a (f := eInt) hy, rfl, rfl, zv4 _, z03 rfl oM0, (k + 1, aPut x y t), z2h hlt, ⟨hlt, hs⟩, ⟨rfl, trivial⟩, ⟨mpq (y22 _ _ _), trivial⟩, rfl, rfl, rfl, rfl⟩
  · rw [List.drop_eq_nil_of_le (z96 (f := eInt) rfl hc), z0n] at hs
    · exact ⟨sI, by rw [<- hs]; exact ⟨rfl, trivial⟩⟩
    · simp
theorem y7f {x : Nd} (h : zs5 x = true) (hk : x.kind = 10) : ∃ a b, x.kids = [a, b] := by
  rw [z87] at h
  simp only [Bool.and_eq_true, hk] at h
  have h1 : x.kids.length = 2 := by simpa using h.1.1
  match x.kids, h1 with
  | [a, b], _ => exact ⟨a, b, rfl⟩
theorem y25 {x : Nd} {a b : List Nd} (h : x.kids = [a, b]) : (x.kids.map eKid)[0]? = some [z09 a] /\ (x.kids.map eKid)[1]? = some [z09 b] /\ a ∈ x.kids /\ b ∈ x.kids := by rw [h]; exact ⟨rfl, rfl, .head _, .tail _ (.head _)⟩
theorem ze1 (k : Int) : ∀ (N : Nat) (l : List Nd), SizeOf.sizeOf l < N -> zd2 l = true -> l.length + wtL l <= 1073741824 -> SC Tryz.prog 92 [.pv (z09 l), iInt k] [] (fun k => k ∈ []) (iInt (cnL k l)) []
  | 0, _, h, _, _ => absurd h (Nat.not_lt_zero _)
  | N + 1, l, hN, hok, hb => by
    refine SC.vc tb {} [] Tryz.func92 rfl rfl ?_
    refine ⟨Nat, fun i => [(9, iInt i), (4, iInt (cnL k (l.take i)))], fun _ => [], fun i => l.length - i, fun i => i <= l.length, [], 0, Nat.zero_le _, ⟨rfl, rfl, trivial⟩, trivial, ?_⟩
    intro i hi
    have hle : cnL k l <= 1073741824 := Nat.le_trans (y1u k l) hb
    refine z1j (fun hc => ?_) fun hc => ?_
    · have hlt := z9c (f := Nd.enc) rfl hc
      obtain ⟨x, hx, ht, hd, hm⟩ := z7d hlt
      have happ : cnL k l = cnL k (l.take i) + (cnN k x + cnL k (l.drop (i + 1))) := by
        conv => lhs; rw [<- List.take_append_drop i l, hd]
        rw [z6i]; rfl
      have hone : cnL k (l.take (i + 1)) = cnL k (l.take i) + cnN k x := by rw [ht, z6i]; rfl
      rw [z94] at happ hone
      have hxok := zk6 hok hm
      have hw := zo6 hm
      have hwa := (z7x x).2.2
      have hif : x.kind = 10 -> ∃ a b, x.kids = [a, b] /\ (x.kids.map eKid)[0]? = some [z09 a] /\ (x.kids.map eKid)[1]? = some [z09 b] /\ cnK k x.kids = cnL k a + cnL k b /\
          SC Tryz.prog 92 [.pv (z09 a), iInt k] [] (fun k => k ∈ []) (iInt (cnL k a)) [] /\ SC Tryz.prog 92 [.pv (z09 b), iInt k] [] (fun k => k ∈ []) (iInt (cnL k b)) [] := fun hk => by
        obtain ⟨a, b, hks⟩ := y7f hxok hk
        obtain ⟨h0, h1, ha, hb'⟩ := y25 hks
        have hoa := (z7v (by rw [z87] at hxok; simp only [Bool.and_eq_true] at hxok; exact hxok.2) ha).2
        have hob := (z7v (by rw [z87] at hxok; simp only [Bool.and_eq_true] at hxok; exact hxok.2) hb').2
        have hwa' := zl3 ha
        have hwb' := zl3 hb'
        exact ⟨a, b, hks, h0, h1, by rw [hks]; simp [cnK], ze1 k N a (Nat.lt_of_lt_of_le (z4s hm rfl ha) (Nat.le_of_lt_succ hN)) hoa oM0, ze1 k N b (Nat.lt_of_lt_of_le (z4s hm rfl hb') (Nat.le_of_lt_succ hN)) hob oM0⟩
      refine ⟨z0p hx, rfl, z1j (fun h1 => ?_) fun h1 => ?_⟩
      · rw [if_pos (show (x.kind == k) = true from h1)] at happ hone
        refine ⟨z03 rfl oM0, z1j (fun h2 => ?_) fun h2 => ?_⟩
        · rw [if_pos (show (x.kind == 10) = true from h2)] at happ hone
          obtain ⟨a, b, hks, h0, h1', hc2, sa, sb⟩ := hif (by simpa using h2)
          rw [hc2] at happ hone
          exact ⟨h0, rfl, [], sa, sR, trivial, rfl, h1', rfl, [], sb, sR, trivial, rfl, z03 rfl oM0, z03 rfl oM0, z03 rfl oM0, i + 1, z2h hlt, hlt, ⟨rfl, ivq (by rw [hone]; omega), trivial⟩, trivial, rfl, rfl, rfl, rfl⟩
        · rw [if_neg (show ¬ (x.kind == 10) = true by simpa using h2)] at happ hone
          exact ⟨z03 rfl oM0, i + 1, z2h hlt, hlt, ⟨rfl, ivq (by rw [hone]; omega), trivial⟩, trivial, rfl, rfl, rfl, rfl⟩
      · rw [if_neg (show ¬ (x.kind == k) = true by simpa using h1)] at happ hone
        refine z1j (fun h2 => ?_) fun h2 => ?_
        · rw [if_pos (show (x.kind == 10) = true from h2)] at happ hone
          obtain ⟨a, b, hks, h0, h1', hc2, sa, sb⟩ := hif (by simpa using h2)
          rw [hc2] at happ hone
          exact ⟨h0, rfl, [], sa, sR, trivial, rfl, h1', rfl, [], sb, sR, trivial, rfl, z03 rfl oM0, z03 rfl oM0, z03 rfl oM0, i + 1, z2h hlt, hlt, ⟨rfl, ivq (by rw [hone]; omega), trivial⟩, trivial, rfl, rfl, rfl, rfl⟩
        · rw [if_neg (show ¬ (x.kind == 10) = true by simpa using h2)] at happ hone
          exact ⟨z03 rfl oM0, i + 1, z2h hlt, hlt, ⟨rfl, ivq (by rw [hone]; omega), trivial⟩, trivial, rfl, rfl, rfl, rfl⟩
    · exact ⟨sE (by rw [List.take_of_length_le (z96 (f := Nd.enc) rfl hc)]), trivial⟩
theorem sc_once (x : Nd) (a : List Nd) (r : List (List Nd)) (hk : x.kids = a :: r) (hok : zd2 a = true) (hb : a.length + wtL a <= 1073741824) : SC Tryz.prog 65 [.pv (ndv x)] [] (fun k => k ∈ []) (iBool (z29 a)) [] := by
  refine SC.vc tb {} [] Tryz.func65 rfl rfl ?_
  have h0 : (x.kids.map eKid)[0]? = some [z09 a] := by rw [hk]; rfl
  refine ⟨h0, rfl, [], ze1 14 _ a (Nat.lt_succ_self _) hok hb, sR, trivial, rfl, [], ze1 13 _ a (Nat.lt_succ_self _) hok hb, sR, trivial, rfl, z1j (fun h1 => ?_) fun h1 => ?_⟩
  · have h13 : cnL 13 a = 0 := by have := of_decide_eq_true h1; omega
    refine z1j (fun h2 => ?_) fun h2 => ?_
    · have h14 : cnL 14 a = 0 := by have := of_decide_eq_true h2; omega
      exact ⟨sE (by simp [z29, h13, h14]), trivial⟩
    · have h14 : cnL 14 a ≠ 0 := by have := of_decide_eq_false h2; omega
      refine z1j (fun h3 => ?_) fun h3 => ?_
      · have h15 : cnL 14 a = 1 := by have := of_decide_eq_true h3; omega
        obtain ⟨A, e, he, _, hl, _⟩ := za0 (l := a) (by intro h; rw [h] at h14; simp [cnL] at h14)
        have hlen : a.length = A.length + 1 := by rw [he]; simp
        have hlen2 : (a.map Nd.enc).length = A.length + 1 := by simp [hlen]
        exact ⟨z63 (z := (A.length : Int)) oM0 oM0, z0p (i := A.length) (x := e) (by rw [he]; simp), rfl, sE (by simp [z29, h13, h15, hl]), trivial⟩
      · have h15 : cnL 14 a ≠ 1 := by have := of_decide_eq_false h3; omega
        exact ⟨sE (by simp [z29, h13, h14, h15]), trivial⟩
  · have h13 : cnL 13 a ≠ 0 := by have := of_decide_eq_false h1; omega
    exact ⟨sE (by simp [z29, h13]), trivial⟩
theorem y6a (l m : List Int) : SC Tryz.prog 93 [.pv (ints l), .pv (ints m)] [] (fun k => k ∈ []) (iBool (l == m)) [] := by
  refine SC.vc tb { gh := [(0, [.len 0])] } [] Tryz.func93 rfl rfl ?_
  intro hl
  simp only [List.length_map] at hl
  refine z1j (fun h1 => ?_) fun h1 => ?_
  · have hne : ¬ (l.length : Int) = m.length := by simpa using h1
    exact ⟨sE (by rw [y4k hne]), trivial⟩
  · have hlm : l.length = m.length := Int.ofNat.inj (by simpa using h1)
    refine ⟨Nat, fun k => [(13, iInt k)], fun _ => [], fun k => l.length - k, fun k => k <= l.length /\ l.take k = m.take k, [], 0, ⟨Nat.zero_le _, rfl⟩, ⟨rfl, trivial⟩, trivial, ?_⟩
    rintro k ⟨hk, he⟩
    refine z1j (fun hc => ?_) fun hc => ?_
    · have hlt := z9c (f := eInt) rfl hc
      obtain ⟨x, hx, ht, hd, _⟩ := z7d hlt
      obtain ⟨y, hy, ht2, hd2, _⟩ := z7d (show k < m.length by omega)
      refine ⟨z0a (f := eInt) hx, rfl, z0a (f := eInt) hy, rfl, z1j (fun h2 => ?_) fun h2 => ?_⟩
      · have hxy : x ≠ y := by simpa using h2
        exact ⟨sE (by
          have : l ≠ m := fun e => by subst e; rw [hx] at hy; exact hxy (Option.some.inj hy)
          simp [this]), trivial⟩
      · have hxy : x = y := by simpa using h2
        exact ⟨z03 rfl oM0, k + 1, z2h hlt, ⟨hlt, by rw [ht, ht2, he, hxy]⟩, ⟨rfl, trivial⟩, trivial, rfl, rfl, rfl, rfl⟩
    · have hge := z96 (f := eInt) rfl hc
      rw [List.take_of_length_le hge, List.take_of_length_le oM0] at he
      exact ⟨sE (by simp [he]), trivial⟩
theorem y6t (x : Nd) (a b : List Nd) (hk : x.kids = [a, b]) : SC Tryz.prog 67 [.pv (ndv x)] [] (fun k => k ∈ []) (iBool (z2l a b)) [] := by
  refine SC.vc tb {} [] Tryz.func67 rfl rfl ?_
  obtain ⟨h0, h1, _, _⟩ := y25 hk
  have hno : (a.length ≠ 1 ∨ b.length ≠ 1) -> z2l a b = false := fun h => by
    match a, b, h with
    | [], _, _ => rfl
    | [_], [], _ => rfl
    | [_], [_], h => simp at h
    | [_], _ :: _ :: _, _ => rfl
    | _ :: _ :: _, _, _ => rfl
  refine ⟨h0, rfl, h1, rfl, z1j (fun ha => ?_) fun ha => ?_⟩
  · refine z1j (fun hb => ?_) fun hb => ?_
    · obtain ⟨y, rfl⟩ : ∃ y, a = [y] := List.length_eq_one_iff.1 (Int.ofNat.inj (by simpa using ha))
      obtain ⟨z, rfl⟩ : ∃ z, b = [z] := List.length_eq_one_iff.1 (Int.ofNat.inj (by simpa using hb))
      refine ⟨z0p (i := 0) (x := y) rfl, rfl, z1j (fun h2 => ?_) fun h2 => ?_⟩
      · have h2' : (y.kind == 12) = true := h2
        refine ⟨z0p (i := 0) (x := z) rfl, rfl, z1j (fun h3 => ?_) fun h3 => ?_⟩
        · have h3' : (z.kind == 12) = true := h3
          exact ⟨z0p (i := 0) (x := y) rfl, rfl, z0p (i := 0) (x := z) rfl, rfl, [], y6a y.args z.args, sR, trivial, rfl, sE (by simp only [z2l, h2', h3', Bool.true_and]), trivial⟩
        · have h3' : (z.kind == 12) = false := h3
          exact ⟨sE (by simp [z2l, h2', h3']), trivial⟩
      · have h2' : (y.kind == 12) = false := h2
        exact ⟨sE (by simp [z2l, h2']), trivial⟩
    · exact ⟨sE (by rw [hno (.inr (by intro h; rw [List.length_map, h] at hb; cases hb))]), trivial⟩
  · exact ⟨sE (by rw [hno (.inl (by intro h; rw [List.length_map, h] at ha; cases ha))]), trivial⟩
set_option maxRecDepth 20000
theorem z93 (x : Nd) : z04 (z71 x) = z04 x := by
  unfold z71
  split
  · cases x; rfl
  · rfl
theorem zv7 {ks : List (List Nd)} {i : Nat} {q : List Nd} (h : ks.take (i + 1) = ks.take i ++ [q]) : tdK (ks.take (i + 1)) = tdK (ks.take i) ++ [tdL q] := by
  rw [h]
  have : ∀ a b : List (List Nd), tdK (a ++ b) = tdK a ++ tdK b := by
    intro a b
    induction a with
    | nil => rfl
    | cons x r ih => simp only [List.cons_append, tdK, ih]
  rw [this]; rfl
theorem y79 : ∀ ks : List (List Nd), (tdK ks).length = ks.length
  | [] => rfl
  | l :: r => by simp only [tdK, List.length_cons, y79 r]
theorem zt2 : ∀ ks : List (List Nd), ks.length <= wtK ks
  | [] => Nat.zero_le _
  | l :: r => by have := zt2 r; simp only [wtK, List.length_cons]; omega
theorem y12 : ∀ (N : Nat) (l : List Nd), SizeOf.sizeOf l < N -> l.length + wtL l <= 1073741824 -> SC Tryz.prog 43 [.pv (z09 l)] [] (fun k => k ∈ []) (.pv (z09 (tdL l))) []
  | 0, _, h, _ => absurd h (Nat.not_lt_zero _)
  | N + 1, l, hN, hb => by
    refine SC.vc tb { gh := [(1, [.grow 2 102 42 8]), (5, [.grow 5 105 43 1]), (10, [.fz 5 105]), (14, [.niC 104 5]), (16, [.fz 2 102]), (18, [.fz 2 102])] } [] Tryz.func43 rfl rfl ?_
    refine ⟨Nat × List Nd, fun (i, out) => [(11, iInt i), (2, .sl 102 (out.map Nd.enc).length)], fun (_, out) => [(102, .row ⟨42, 8⟩ (out.map Nd.enc))], fun (i, _) => l.length - i, fun (i, out) => i <= l.length /\ out.length = i /\ out ++ tdL (l.drop i) = tdL l, [], (0, []), ⟨Nat.zero_le _, rfl, rfl⟩, ⟨rfl, rfl, trivial⟩, ⟨rfl, trivial⟩, ?_⟩
    rintro ⟨i, out⟩ ⟨hi, hol, hout⟩
    refine z1j (fun hc => ?_) fun hc => ?_
    · have hlt := z9c (f := Nd.enc) rfl hc
      obtain ⟨x, hx, ht, hd, hm⟩ := z7d hlt
      have hw := zo6 hm
      have hwa := (z7x x).2.2
      have hkl := zt2 x.kids
      rw [hd] at hout
      refine ⟨z0p hx, rfl, Nat × List (List Nd), fun (j, acc) => [(18, iInt j), (5, .sl 105 (acc.map eKid).length)], fun (_, acc) => [(105, .row ⟨43, 1⟩ (acc.map eKid))], fun (j, _) => x.kids.length - j, fun (j, acc) => j <= x.kids.length /\ acc = tdK (x.kids.take j), [], (0, []), ⟨Nat.zero_le _, rfl⟩, ⟨rfl, rfl, trivial⟩, ⟨rfl, trivial⟩, ?_⟩
      rintro ⟨j, acc⟩ ⟨hj, rfl⟩
      refine z1j (fun hc2 => ?_) fun hc2 => ?_
      · have hlt2 := z9c (f := eKid) rfl hc2
        obtain ⟨q, hq, ht2, _, hm2⟩ := z7d hlt2
        have hwq := zl3 hm2
        have hl2 : (tdK (x.kids.take j)).length = j := by rw [y79]; simp; omega
        exact ⟨z0a (f := eKid) hq, rfl, [], y12 N q (Nat.lt_of_lt_of_le (z4s hm rfl hm2) (Nat.le_of_lt_succ hN)) oM0, sR, trivial, rfl, rfl, zu8 rfl, by simp; omega, z03 rfl oM0, (j + 1, _), z2h hlt2, ⟨hlt2, rfl⟩, ⟨rfl, slq (by rw [zv7 ht2]; simp), trivial⟩, ⟨rwq (by rw [zv7 ht2]; simp [eKid]), trivial⟩, rfl, rfl, rfl, rfl⟩
      · rw [List.take_of_length_le (z96 (f := eKid) rfl hc2)]
        have hT : tdN x = z71 (.mk x.kind x.op x.n x.name x.args x.outs x.params (tdK x.kids)) := tdN_eq x
        refine ⟨rfl, [], z5h (.mk x.kind x.op x.n x.name x.args x.outs x.params (tdK x.kids)), sR, trivial, rfl, z1j (fun h1 => ?_) fun h1 => ?_⟩
        · have hN : tdN x = .mk x.kind x.op x.n x.name x.args [] x.params (tdK x.kids) := by rw [hT, z71, if_pos h1]; rfl
          have hC : z04 (tdN x) = true := by rw [hT, z93]; exact h1
          rw [tdL, if_pos hC, hN] at hout
          exact ⟨rfl, zu8 rfl, by simp; omega, z1j (fun _ => ⟨by simp, sE (by rw [<- hout]; simp only [z09, zp2]; rfl), trivial⟩) fun h => by rw [show z04 _ = true from h1] at h; cases h⟩
        · have hN : tdN x = .mk x.kind x.op x.n x.name x.args x.outs x.params (tdK x.kids) := by rw [hT, z71, if_neg (by simpa using h1)]
          have hC : z04 (tdN x) = false := by rw [hT, z93]; exact h1
          rw [tdL, if_neg (by simp [hC]), hN] at hout
          exact ⟨rfl, zu8 rfl, by simp; omega, z1j (fun h => by rw [show z04 _ = false from h1] at h; cases h) fun _ => ⟨z03 rfl oM0, (i + 1, out ++ [.mk x.kind x.op x.n x.name x.args x.outs x.params (tdK x.kids)]), z2h hlt, ⟨hlt, by simp; omega, by rw [List.append_assoc]; exact hout⟩, ⟨rfl, slq sI0, trivial⟩, ⟨rwq (by rw [zp2]; rfl), trivial⟩, rfl, rfl, rfl, rfl⟩⟩
    · rw [List.drop_eq_nil_of_le (z96 (f := Nd.enc) rfl hc), tdL, List.append_nil] at hout
      exact ⟨rfl, sE (by rw [hout]; rfl), trivial⟩
set_option maxRecDepth 20000
def TrL (q : List Nd) : Prop := ∀ to : TT, gdR [] to q = true -> SC Tryz.prog 23 [wV, .pv (z09 q)] (tM to) (fun k => k ∈ []) (.pv (z09 (trL to q).1)) (tM (trL to q).2)
theorem y24 (a : List Nd) (r : List (List Nd)) : kid0 (a :: r) = a := rfl
theorem kid1_c (a b : List Nd) (r : List (List Nd)) : kid1 (a :: b :: r) = b := rfl
theorem trL_wt (to : TT) (l : List Nd) : (trL to l).1.length + wtL (trL to l).1 <= l.length + wtL l := by
  have h1 := y08 (trR [] to l).1
  have h2 := y2n l [] to
  simp only [trL, List.length_nil, wtL] at *
  omega
theorem y6u (x : Nd) (a : List Nd) (to : TT) (hk : x.kids = [a]) (hok : zd2 a = true) (hg : y1z to x = true) (hb : wtN x <= 1073741824) (ih : TrL a) : SC Tryz.prog 40 [wV, .pv (ndv x)] (tM to) (fun k => k ∈ []) (.pv (z09 (z8l to x).1)) (tM (z8l to x).2) := by
  refine SC.vc tb {} [] Tryz.func40 rfl rfl ?_
  obtain ⟨h1, h2, h3⟩ := z7x x
  rw [hk] at h3
  have ha : a.length + wtL a <= 1073741824 := by simp only [wtK] at h3; omega
  have h0 : (x.kids.map eKid)[0]? = some [z09 a] := by rw [hk]; rfl
  unfold y1z at hg
  simp only [hk, zs4, y24, Bool.and_eq_true, decide_eq_true_eq] at hg
  obtain ⟨⟨_, hpa⟩, hg⟩ := hg
  refine ⟨[], sc_once x a [] hk hok ha, sR, trivial, rfl, z1j (fun hc => ?_) fun hc => ?_⟩
  · have ho : z29 a = false := by simpa using hc
    rw [ho] at hg
    simp only [Bool.false_eq_true, if_false, gdKs, Bool.and_true] at hg
    have hT : z8l to x = ([.mk x.kind x.op x.n x.name x.args x.outs x.params [(trL to a).1]], (trL to a).2) := by
      unfold z8l; simp only [hk, y24, ho, zs4, Bool.false_eq_true, if_false]
    rw [hT]
    exact ⟨h0, rfl, [], ih to hg, sR, ⟨rfl, trivial⟩, rfl, sE (congrArg IV.pv (by simp only [z09, List.map_cons, List.map_nil, Nd.enc_eq, Nd.cells_eta]; rfl)), rfl, trivial⟩
  · have ho : z29 a = true := by simpa using hc
    rw [ho] at hg
    simp only [if_true, gdKs, Bool.and_true, Bool.and_eq_true, Bool.not_eq_true'] at hg
    obtain ⟨⟨hg1, hne⟩, hg2⟩ := hg
    have hwt := trL_wt (z0n x.params x.args to) a
    refine ⟨[], zr5 x.params x.args to hpa oM0, sR, ⟨rfl, trivial⟩, rfl, h0, rfl, [], ih _ hg1, sR, ⟨rfl, trivial⟩, rfl, ?_⟩
    have hT0 : z8l to x = if z0q (trL (z0n x.params x.args to) a).1 == 14 then ((trL (z0n x.params x.args to) a).1.dropLast, z0n x.outs (z4a (trL (z0n x.params x.args to) a).1) (trL (z0n x.params x.args to) a).2) else ((trL (z0n x.params x.args to) a).1, (trL (z0n x.params x.args to) a).2) := by
      unfold z8l; simp only [hk, y24, ho, zs4, if_true]
    rw [hT0]
    generalize trL (z0n x.params x.args to) a = r at hne hg2 hwt
    obtain ⟨l, to2⟩ := r
    obtain ⟨A, e, rfl, hdl, hlk, hla⟩ := za0 (l := l) (by intro h; rw [h] at hne; cases hne)
    have hlen : ((A ++ [e]).map Nd.enc).length = A.length + 1 := by simp
    rw [hlk, hla] at hg2
    simp only [hlk, hla, hdl]
    simp only [List.length_append, List.length_cons, List.length_nil] at hwt
    refine ⟨z63 (z := (A.length : Int)) (by rw [hlen]; omega) oM0, z0p (i := A.length) (x := e) sI0, rfl, z1j (fun h14 => ?_) fun h14 => ?_⟩
    · have h14' : (e.kind == 14) = true := h14
      simp only [h14', if_true]
      simp only [eq_of_beq h14', bne_self_eq_false, Bool.false_or, decide_eq_true_eq] at hg2
      exact ⟨[], zr5 x.outs e.args to2 hg2 oM0, sR, ⟨rfl, trivial⟩, rfl, z63 (z := (A.length : Int)) (by rw [hlen]; omega) oM0, A.length, rfl, Nat.zero_le _, by simp, hw_node, sE (congrArg IV.pv (by simp [z09])), rfl, trivial⟩
    · have h14' : (e.kind == 14) = false := h14
      simp only [h14', Bool.false_eq_true, if_false]
      exact ⟨sI, rfl, trivial⟩
theorem y1c (x : Nd) (a b : List Nd) (to : TT) (hk : x.kids = [a, b]) (hg : zp4 to x = true) (hb : wtN x <= 1073741824) (iha : TrL a) (ihb : TrL b) : SC Tryz.prog 41 [wV, .pv (ndv x)] (tM to) (fun k => k ∈ []) (.pv (z09 (z6y to x).1)) (tM (z6y to x).2) := by
  refine SC.vc tb {} [] Tryz.func41 rfl rfl ?_
  obtain ⟨h1, h2, h3⟩ := z7x x
  obtain ⟨h0, h1', _, _⟩ := y25 hk
  unfold zp4 at hg
  unfold z6y
  simp only [hk, trKs_two, y24, kid1_c, gdKs, Bool.and_eq_true, Bool.and_true, decide_eq_true_eq] at hg ⊢
  obtain ⟨⟨_, hga, hgb⟩, hg⟩ := hg
  refine ⟨h0, rfl, [], iha to hga, sR, ⟨rfl, trivial⟩, rfl, h1', rfl, [], ihb (trL to a).2 hgb, sR, ⟨rfl, trivial⟩, rfl, ?_⟩
  generalize (trL (trL to a).2 b).2 = to2 at hg ⊢
  generalize (trL (trL to a).2 b).1 = B at hg ⊢
  generalize (trL to a).1 = A at hg ⊢
  refine ⟨[], y6t (.mk x.kind x.op x.n x.name x.args x.outs x.params [A, B]) A B rfl, sR, trivial, rfl, z1j (fun hi => ?_) fun hi => ?_⟩
  · have hi' : z2l A B = true := hi
    simp only [hi', Bool.not_true, Bool.false_or, decide_eq_true_eq, if_true] at hg ⊢
    obtain ⟨y, rfl⟩ : ∃ y, A = [y] := by
      match A, B, hi' with
      | [y], [_], _ => exact ⟨y, rfl⟩
    exact ⟨at0, rfl, z0p (i := 0) (x := y) rfl, rfl, [], zr5 x.outs y.args to2 hg oM0, sR, ⟨rfl, trivial⟩, rfl, sN, rfl, trivial⟩
  · have hi' : z2l A B = false := hi
    simp only [hi', Bool.false_eq_true, if_false]
    exact ⟨sE (congrArg IV.pv (by simp only [z09, List.map_cons, List.map_nil, Nd.enc_eq, Nd.cells_eta]; rfl)), rfl, trivial⟩
theorem trA_wt (to : TT) (x : Nd) : wtN (trA to x) = wtN x := by rw [y2m, y2m x]; simp [trA, Nd.name, Nd.args, Nd.outs, Nd.params, Nd.kids]
theorem zz0 : ∀ (N : Nat) (l : List Nd), SizeOf.sizeOf l < N -> zd2 l = true -> l.length + wtL l <= 1073741824 -> TrL l
  | 0, _, h, _, _ => absurd h (Nat.not_lt_zero _)
  | N + 1, l, hN, hok, hb => fun to hg => by
    refine SC.vc tb { gh := [(1, [.grow 4 104 42 8]), (13, [.fz 4 104])], jn := [11] } [] Tryz.func23 rfl rfl ?_
    refine ⟨Nat × List Nd × TT, fun (i, out, _) => [(9, iInt i), (4, .sl 104 (out.map Nd.enc).length)], fun (_, out, t) => [(104, .row ⟨42, 8⟩ (out.map Nd.enc)), (3001, .map (inEs t))], fun (i, _, _) => l.length - i, fun (i, out, t) => i <= l.length /\ out.length + wtL out + ((l.drop i).length + wtL (l.drop i)) <= 1073741824 /\ gdR out t (l.drop i) = true /\ trR out t (l.drop i) = trR [] to l, [], (0, [], to), ⟨Nat.zero_le _, by simpa [wtL] using hb, hg, rfl⟩, ⟨rfl, rfl, trivial⟩, ⟨rfl, rfl, trivial⟩, ?_⟩
    rintro ⟨i, out, t⟩ ⟨hi, hw, hgd, hR⟩
    have fin : ∀ o t', trR [] to l = (o, t') -> SubI (.pv (z09 (tdL o))) (.pv (z09 (trL to l).1)) /\ subH ((3001, some (.map (inEs t'))) :: []) (tM (trL to l).2) := fun o t' h => by
      unfold trL; rw [h]; exact ⟨sI, rfl, trivial⟩
    refine z1j (fun hc => ?_) fun hc => ?_
    · have hlt := z9c (f := Nd.enc) rfl hc
      obtain ⟨x, hx, ht, hd, hm⟩ := z7d hlt
      have hwx := zo6 hm
      obtain ⟨hwa, _, _⟩ := z7x x
      have hxok := zk6 hok hm
      rw [hd] at hw hgd hR
      have hwt := wt_trN x t
      simp only [wtL, List.length_cons] at hw
      simp only [gdR, Bool.and_eq_true] at hgd
      obtain ⟨hgx, hgr⟩ := hgd
      have hb2 : (out.map Nd.enc).length + (trN t x).1.length <= 1073741824 := by simp; omega
      have kid : ∀ q ∈ x.kids, TrL q := fun q hq => by
        have h1 := zl3 hq
        have h2 := (z7x x).2.2
        exact zz0 N q (Nat.lt_of_lt_of_le (z4s hm rfl hq) (Nat.le_of_lt_succ hN)) (z7v (by rw [z87] at hxok; simp only [Bool.and_eq_true] at hxok; exact hxok.2) hq).2 oM0
      refine ⟨z0p hx, rfl, [3001], y6v x.args t oM0, sR, ⟨rfl, rfl, trivial⟩, rfl, List Nd × TT, fun (o, _) => [(4, .sl 104 (o.map Nd.enc).length)], fun (o, t) => [(104, .row ⟨42, 8⟩ (o.map Nd.enc)), (3001, .map (inEs t))], fun (o, t') => o = out ++ (trN t x).1 /\ t' = (trN t x).2, [104, 106, 3001], ?_, ?_⟩
      · refine z1j (fun h11 => ?_) fun h11 => ?_
        · have hk : x.kind = 11 := by simpa using h11
          obtain ⟨a, hks⟩ : ∃ a, x.kids = [a] := by
            rw [z87] at hxok
            simp only [hk, Bool.and_eq_true] at hxok
            have h2 := hxok.1.2
            simp only [bne_self_eq_false, Bool.false_or, Bool.and_eq_true, beq_iff_eq] at h2
            exact List.length_eq_one_iff.1 h2.1
          have hN2 := trN_loop (to := t) hk
          refine ⟨[], y6u (trA t x) a t hks (z7v (by rw [z87] at hxok; simp only [Bool.and_eq_true] at hxok; exact hxok.2) (by rw [hks]; exact .head _)).2 (by rw [<- gdN_loop hk]; exact hgx) (by rw [trA_wt]; omega) (kid a (by rw [hks]; exact .head _)), sR, ⟨rfl, trivial⟩, rfl, rfl, flatM (fun y _ => ⟨y.enc_len, y.enc_one⟩), ?_, (_, _), ⟨rfl, rfl⟩, ⟨slq (by rw [hN2]; simp), trivial⟩, ⟨rwq (by rw [hN2]; simp), by rw [hN2]; rfl, trivial⟩, rfl, rfl, rfl, rfl⟩
          rw [<- hN2]; simpa using (by omega : (out.map Nd.enc).length + (trN t x).1.length <= 68719476736)
        · refine z1j (fun h10 => ?_) fun h10 => ?_
          · have hk : x.kind = 10 := by simpa using h10
            obtain ⟨a, b, hks⟩ := y7f hxok hk
            have hN2 := y46 (to := t) hk
            refine ⟨[], y1c (trA t x) a b t hks (by rw [<- y2w hk]; exact hgx) (by rw [trA_wt]; omega) (kid a (by rw [hks]; exact .head _)) (kid b (by rw [hks]; exact .tail _ (.head _))), sR, ⟨rfl, trivial⟩, rfl, rfl, flatM (fun y _ => ⟨y.enc_len, y.enc_one⟩), ?_, (_, _), ⟨rfl, rfl⟩, ⟨slq (by rw [hN2]; simp), trivial⟩, ⟨rwq (by rw [hN2]; simp), by rw [hN2]; rfl, trivial⟩, rfl, rfl, rfl, rfl⟩
            rw [<- hN2]; simpa using (by omega : (out.map Nd.enc).length + (trN t x).1.length <= 68719476736)
          · have hN2 := y7d (to := t) (x := x) h10 h11
            exact ⟨rfl, zu8 rfl, by simp; omega, (_, _), ⟨rfl, rfl⟩, ⟨slq (by rw [hN2]; simp), trivial⟩, ⟨rwq (by rw [hN2, zp2]; rfl), by rw [hN2]; rfl, trivial⟩, rfl, rfl, rfl, rfl⟩
      · rintro ⟨o, t'⟩ ⟨rfl, rfl⟩
        simp only [trR] at hR
        generalize hO : out ++ (trN t x).1 = o at hgr hR ⊢
        generalize (trN t x).2 = t' at hgr hR ⊢
        have hol : o.length + wtL o <= out.length + wtL out + ((trN t x).1.length + wtL (trN t x).1) := by rw [<- hO, zt3]; simp; omega
        have next : z1h o = false -> gdR o t' (l.drop (i + 1)) = true /\ trR o t' (l.drop (i + 1)) = trR [] to l := fun h => by
          rw [h] at hgr hR
          exact ⟨by simpa using hgr, by simpa using hR⟩
        refine ⟨rfl, z1j (fun hp => ?_) fun hp => ?_⟩
        · have hpos : 0 < o.length := by simpa using hp
          obtain ⟨A, e, rfl, _⟩ := za0 (l := o) (by intro h; rw [h] at hpos; cases hpos)
          have hlen : ((A ++ [e]).map Nd.enc).length = A.length + 1 := by simp
          have hlc : z1h (A ++ [e]) = z04 e := by simp [z1h]
          refine ⟨rfl, z63 (z := (A.length : Int)) (by rw [hlen]; omega) (by simp at hol; omega), rfl, (by rw [hlen]; omega : A.length < _), rfl, rfl, rfl, z0p (i := A.length) (x := e) sI0, [], z5h e, sR, trivial, rfl, z1j (fun h1 => ?_) fun h1 => ?_⟩
          · have h1' : z1h (A ++ [e]) = true := hlc.trans h1
            rw [h1', if_pos rfl] at hR
            exact ⟨rfl, [], y12 _ (A ++ [e]) (Nat.lt_succ_self _) oM0, sR, trivial, rfl, (fin _ _ hR.symm).1, (fin _ _ hR.symm).2⟩
          · obtain ⟨n1, n2⟩ := next (hlc.trans h1)
            exact ⟨z03 rfl oM0, (i + 1, A ++ [e], t'), z2h hlt, ⟨hlt, by omega, n1, n2⟩, ⟨rfl, rfl, trivial⟩, ⟨rfl, rfl, trivial⟩, rfl, rfl, rfl, rfl⟩
        · have hz : o = [] := by
            have : ¬ 0 < o.length := by simpa using hp
            exact List.length_eq_zero_iff.1 oM0
          obtain ⟨n1, n2⟩ := next (by rw [hz]; rfl)
          exact ⟨z03 rfl oM0, (i + 1, o, t'), z2h hlt, ⟨hlt, by omega, n1, n2⟩, ⟨rfl, rfl, trivial⟩, ⟨rfl, rfl, trivial⟩, rfl, rfl, rfl, rfl⟩
    · rw [List.drop_eq_nil_of_le (z96 (f := Nd.enc) rfl hc)] at hR hw
      simp only [trR] at hR
      exact ⟨rfl, [], y12 _ out (Nat.lt_succ_self _) (by simp only [List.length_nil, wtL] at hw; omega), sR, trivial, rfl, (fin _ _ hR.symm).1, (fin _ _ hR.symm).2⟩
set_option maxRecDepth 20000
theorem sEmp : SubI (.pv (.agg [.val (.slice none 0 0), .val (.slice none 0 0)])) (.pv (Un.enc ⟨[], []⟩)) := fun _ _ _ _ _ h => y2s h
theorem y4p {u : Un} (h : z0r u <= 536870912) {f : Fl} (hf : f ∈ u.flows) : f.body.length + wtL f.body <= 536870912 := by
  have h1 := y1p hf
  unfold z0r z17 at *
  omega
theorem y13 (u : Un) (hW : z0r u <= 536870912) : SC Tryz.prog 11 [.pv u.enc] [] (fun k => k ∈ []) (.tup [.pv (z5c trB u).1.enc, iInt (z5c trB u).2]) [] := by
  refine SC.vc tb { gh := [(5, [.growC 106 1 199 51 5]), (11, [.fzC 106 1 199])], ids := [(27, 3001)] } [] Tryz.func11 rfl rfl ?_
  have hW2 : z0r u = u.arrays.length + u.flows.length + wtA u.arrays + wtF u.flows := rfl
  refine ⟨[], y3y u hW, sR, trivial, rfl, z1j (fun hc => ?_) fun hc => ?_⟩
  · have hz : ((z3h u).1 == 0) = false := by simpa using hc
    have hH : z5c trB u = (⟨[], []⟩, 1) := by simp [z5c, hz]
    rw [hH]
    exact ⟨sT2 sEmp, trivial⟩
  · have hz : (z3h u).1 = 0 := by simpa using hc
    have hH : z5c trB u = (z2y trB u, 0) := by simp [z5c, hz]
    rw [hH]
    refine ⟨Nat × List Fl, fun (k, _) => [(23, iInt k)], fun (_, out) => [(106, .box [.pv (arrs u.arrays), .sl 199 (out.map Fl.enc).length]), (199, .row ⟨51, 5⟩ (out.map Fl.enc))], fun (k, _) => u.flows.length - k, fun (k, out) => k <= u.flows.length /\ out = (u.flows.take k).map (z3f trB), [], (0, []), ⟨Nat.zero_le _, rfl⟩, ⟨rfl, trivial⟩, ⟨rfl, rfl, trivial⟩, ?_⟩
    rintro ⟨k, out⟩ ⟨hk, rfl⟩
    refine z1j (fun hc => ?_) fun hc => ?_
    · have hlt := z9c (f := Fl.enc) rfl hc
      obtain ⟨x, hx, ht, _, hm⟩ := z7d hlt
      obtain ⟨ho, hg⟩ := y48 hz x hm
      have hb := y4p hW hm
      have hl : ((u.flows.take k).map (z3f trB)).length = k := by simp; omega
      have henc : ((u.flows.take (k + 1)).map (z3f trB)).map Fl.enc = ((u.flows.take k).map (z3f trB)).map Fl.enc ++ [[vStr x.name, vInt x.ty, vInt x.params, ints x.types, z09 (trB x.body)]] := by
        rw [ht, List.map_append]; exact y4z trB _ x
      exact ⟨z0a (f := Fl.enc) hx, rfl, [], zz0 _ x.body (Nat.lt_succ_self _) ho oM0 [] hg, sR, ⟨rfl, trivial⟩, rfl, rfl, zu8 rfl, by simp; omega, by simp, z03 rfl oM0, (k + 1, (u.flows.take (k + 1)).map (z3f trB)), z2h hlt, ⟨hlt, rfl⟩, ⟨rfl, trivial⟩, ⟨by rw [henc]; simp; rfl, by rw [henc]; rfl, trivial⟩, rfl, rfl, rfl, rfl⟩
    · rw [List.take_of_length_le (z96 (f := Fl.enc) rfl hc)]
      exact ⟨rfl, sI, trivial⟩
theorem zy5 (u v : Un) : SC Tryz.prog 20 [.pv u.enc, .pv v.enc] [] (fun _ => False) (iBool (z2g u v)) [] := by
  refine SC.of Tryz.func20 rfl (lb rfl) fun F ρ w => ?_
  refine tQ <| tG <| cE rfl (z1c rfl rfl) <| cE rfl (z1c rfl rfl) <| sm 1 rfl <| nL <| tQ <| tQ <| tG <| sm 2 rfl <| cV rfl (oSm uT22 rfl) <| sm 2 rfl ?_
  refine cV rfl (oSm uT22 rfl) <| sm 2 rfl ?_
  refine wS 17 rfl (fun hb17 => ?_) fun hb17 => ?_
  ·refine sm 8 rfl <| nL <| Tr.condT rfl <| tQ <| tG <| sm 1 rfl <| nL <| tRt <| rOk rfl ?_ nPo
   refine congrArg (fun b => iBool b) ?_
   have hne : ¬ (u.arrays.length = v.arrays.length /\ u.flows.length = v.flows.length) := by
     rintro ⟨h1, h2⟩
     simp_all
   unfold z2g
   by_cases h1 : u.arrays.length = v.arrays.length
   ·have h2 : ¬ u.flows.length = v.flows.length := fun h2 => hne ⟨h1, h2⟩
    simp [h2]
   simp [h1]
  refine sm 2 rfl <| yV rfl rfl (oSm uT23 rfl) <| sm 2 rfl <| yV rfl rfl (oSm uT23 rfl) <| sm 2 rfl <| nL ?_
  refine tC rfl (fun hc25 => ?_) fun hc25 => ?_
  ·refine tQ <| tG <| sm 1 rfl <| nL <| tRt <| rOk rfl ?_ nPo
   refine congrArg (fun b => iBool b) ?_
   have hne : ¬ (u.arrays.length = v.arrays.length /\ u.flows.length = v.flows.length) := by
     rintro ⟨h1, h2⟩
     simp_all
   unfold z2g
   by_cases h1 : u.arrays.length = v.arrays.length
   ·have h2 : ¬ u.flows.length = v.flows.length := fun h2 => hne ⟨h1, h2⟩
    simp [h2]
   simp [h1]
  have hlen : u.arrays.length = v.arrays.length /\ u.flows.length = v.flows.length := by
    (simp_all <;> omega)
  refine tSk <| tQ <| tQ <| tG <| sm 1 rfl <| nL <| tBk <| Tr.sub (Sub.of (fr' := [(5, iInt 0), (2, .pv (.ept [arrs u.arrays, flws u.flows] 0)), (3, .pv (.ept [arrs v.arrays, flws v.flows] 0))]) ⟨rfl, rfl, rfl, trivial⟩) ?_
  refine Tr.loop (fun fr σ m => ∃ (k : Nat), (k <= u.arrays.length) /\ (z4j u.arrays v.arrays = z4j (u.arrays.drop k) (v.arrays.drop k)) /\ fr = [(5, iInt k), (2, .pv (.ept [arrs u.arrays, flws u.flows] 0)), (3, .pv (.ept [arrs v.arrays, flws v.flows] 0))] /\ σ = look [] /\ m = u.arrays.length - k) (n := u.arrays.length - 0) ?_ ?_
  ·exact ⟨0, Nat.zero_le _, rfl, rfl, rfl, rfl⟩
  rintro fr σ m ⟨k, hI0, hI1, rfl, rfl, rfl⟩
  refine tQ <| tQ <| tG <| sm 3 rfl ?_
  refine WL.lenOf (t := 28) rfl (fun hl1 => ?_)
  simp only [List.length_map] at hl1
  refine cV rfl (oSm uT22 rfl) <| sm 1 rfl <| nL ?_
  refine tC rfl (fun hc30 => ?_) fun hc30 => ?_
  ·have hlt : k < u.arrays.length := by simpa using hc30
   have hd := List.drop_eq_getElem_cons hlt
   have hm := List.getElem_mem hlt
   have hi := z0a (f := Ar.enc) (List.getElem?_eq_getElem hlt)
   generalize u.arrays[k] = x at hd hm hi
   have hltw : k < v.arrays.length := by omega
   have hdw := List.drop_eq_getElem_cons hltw
   have hw := z0a (f := Ar.enc) (List.getElem?_eq_getElem hltw)
   generalize v.arrays[k] = y at hdw hw
   refine tSk <| tQ <| tBk <| tQ <| Tr.still z1b kR0 rfl <| smS 3 rfl <| sV rfl (iSq rfl rfl rfl uT22 hi tS49 rfl (by rfl)) <| sV rfl (lEA rfl rfl Tryz.underlying49 rfl tS49 (lb rfl)) <| smS 3 rfl <| sV rfl (iSq rfl rfl rfl uT22 hw tS49 rfl (by rfl)) <| sV rfl (lEA rfl rfl Tryz.underlying49 rfl tS49 (lb rfl)) <| sV rfl (z9k rfl rfl rfl Tryz.underlying49 uT9 uT3 rfl rfl dC0 dC0 kR0 kR0) ?_
   refine WS.nil ?_
   refine tC rfl (fun hc43 => ?_) fun hc43 => ?_
   ·refine tQ <| tG <| sm 1 rfl <| nL <| tRt <| rOk rfl ?_ nPo
    have hxy : zj0 x y = false := by
      clear hd hdw hm hi hw hI1
      cases hb1 : (x.name.toList == y.name.toList) <;> cases hb2 : (x.size == y.size) <;> simp_all [zj0]
    have hA : z4j u.arrays v.arrays = false := by rw [hI1, hd, hdw]; simp [z4j, hxy]
    simp [z2g, hA]
   refine tSk <| tG <| sm 1 rfl <| cV rfl (oB rfl rfl (z03 rfl oM0)) <| sm 1 rfl <| nL ?_
   refine ⟨_, _, ?_, Sub.of (fr' := [(5, iInt (k + 1)), (2, .pv (.ept [arrs u.arrays, flws u.flows] 0)), (3, .pv (.ept [arrs v.arrays, flws v.flows] 0))]) ⟨rfl, rfl, rfl, trivial⟩, (k + 1), ?_, ?_, rfl, rfl, rfl⟩
   ·omega
   ·omega
   rw [hI1, hd, hdw]
   have hxy : zj0 x y = true := by
     clear hd hdw hm hi hw
     simp_all [zj0]
   simp [z4j, hxy]
  refine tEx <| tQ <| tQ ?_
  have hAs : z4j u.arrays v.arrays = true := by
    have hge : u.arrays.length <= k := by simpa using hc30
    rw [hI1, List.drop_eq_nil_of_le hge, List.drop_eq_nil_of_le oM0]
    rfl
  refine tG <| sm 1 rfl <| nL <| tBk <| Tr.sub (Sub.of (fr' := [(6, iInt 0), (2, .pv (.ept [arrs u.arrays, flws u.flows] 0)), (3, .pv (.ept [arrs v.arrays, flws v.flows] 0))]) ⟨rfl, rfl, rfl, trivial⟩) ?_
  refine Tr.loop (fun fr σ m => ∃ (k : Nat), (k <= u.flows.length) /\ (z3k u.flows v.flows = z3k (u.flows.drop k) (v.flows.drop k)) /\ fr = [(6, iInt k), (2, .pv (.ept [arrs u.arrays, flws u.flows] 0)), (3, .pv (.ept [arrs v.arrays, flws v.flows] 0))] /\ σ = look [] /\ m = u.flows.length - k) (n := u.flows.length - 0) ?_ ?_
  ·exact ⟨0, Nat.zero_le _, rfl, rfl, rfl, rfl⟩
  rintro fr σ m ⟨k, hI0, hI1, rfl, rfl, rfl⟩
  refine tQ <| tQ <| tG <| sm 3 rfl ?_
  refine WL.lenOf (t := 46) rfl (fun hl1 => ?_)
  simp only [List.length_map] at hl1
  refine cV rfl (oSm uT23 rfl) <| sm 1 rfl <| nL ?_
  refine tC rfl (fun hc48 => ?_) fun hc48 => ?_
  ·have hlt : k < u.flows.length := by simpa using hc48
   have hd := List.drop_eq_getElem_cons hlt
   have hm := List.getElem_mem hlt
   have hi := z0a (f := Fl.enc) (List.getElem?_eq_getElem hlt)
   generalize u.flows[k] = x at hd hm hi
   have hltw : k < v.flows.length := by omega
   have hdw := List.drop_eq_getElem_cons hltw
   have hw := z0a (f := Fl.enc) (List.getElem?_eq_getElem hltw)
   generalize v.flows[k] = y at hdw hw
   refine tSk <| tQ <| tBk <| tQ ?_
   refine Tr.cut (fr' := [(8, .ptr 108 0), (7, .ptr 107 0), (6, iInt k), (2, .pv (.ept [arrs u.arrays, flws u.flows] 0)), (3, .pv (.ept [arrs v.arrays, flws v.flows] 0))]) (σ' := look [(107, some (.box [iStr x.name, iInt x.ty, iInt x.params, .pv (ints x.types), .pv (z09 x.body)])), (108, some (.box [iStr y.name, iInt y.ty, iInt y.params, .pv (ints y.types), .pv (z09 y.body)]))]) ?_ ?_
   ·refine tDr z1b (fun k => k ∈ ([] : List Nat)) <| wR 4 [0, 1, 2, 3, 4, 5, 6, 7, 8, 9] kR0 (fun _ _ _ h => pn h.1) <| smR 3 rfl <| rV rfl rfl (iSq rfl rfl rfl uT23 hi tS51 rfl (by rfl)) <| rV rfl rfl (lEA rfl rfl Tryz.underlying51 rfl tS51 (lb rfl)) <| smR 3 rfl <| rV rfl rfl (iSq rfl rfl rfl uT23 hw tS51 rfl (by rfl)) <| rV rfl rfl (lEA rfl rfl Tryz.underlying51 rfl tS51 (lb rfl)) <| nR <| WA.all (rs := [10, 11]) kR0 sI0 ?_
    refine fmc ⟨?_, fmc ⟨?_, by simp⟩⟩
    ·refine wI rfl rfl nf (z11 rfl) (fun _ _ => aLc (k := 107) rfl tZ51 rfl rfl rfl rfl) <| wO 11 kR0 <| wI rfl rfl nf (z11 rfl) (fun _ _ => aLc (k := 108) rfl tZ51 rfl rfl rfl rfl) <| wO 12 kR0 <| wI rfl rfl nf (nOl rfl) (fun _ _ => sBA rfl rfl rfl rfl rfl sI0 tS51 (flk rfl) (lb rfl)) <| wO 13 kR0 <| wI rfl rfl nf (nOl rfl) (fun _ _ => sBA rfl rfl rfl rfl rfl sI0 tS51 (flk rfl) (lb rfl)) <| wDn kR0 ?_
     refine ⟨rfl, Sub.of ⟨rfl, rfl, rfl, rfl, rfl, trivial⟩, ?_⟩
     exact z7z rfl rfl (fun k h1 h2 => by simp [look, z02 (Ne.symm h1), z02 (Ne.symm h2)]) dC0
    refine wI rfl rfl nf (z11 rfl) (fun _ _ => aLc (k := 108) rfl tZ51 rfl rfl rfl rfl) <| wO 10 kR0 <| wI rfl rfl nf (z11 rfl) (fun _ _ => aLc (k := 107) rfl tZ51 rfl rfl rfl rfl) <| wO 12 kR0 <| wI rfl rfl nf (nOl rfl) (fun _ _ => sBA rfl rfl rfl rfl rfl sI0 tS51 (flk rfl) (lb rfl)) <| wO 13 kR0 <| wI rfl rfl nf (nOl rfl) (fun _ _ => sBA rfl rfl rfl rfl rfl sI0 tS51 (flk rfl) (lb rfl)) <| wDn kR0 ?_
    refine ⟨rfl, Sub.of ⟨rfl, rfl, rfl, rfl, rfl, trivial⟩, ?_⟩
    exact z7z rfl rfl (fun k h1 h2 => by simp [look, z02 (Ne.symm h1), z02 (Ne.symm h2)]) dC0
   refine Tr.freezeBox (t := 7) (k := 107) rfl rfl rfl <| Tr.freezeBox (t := 8) (k := 108) rfl rfl rfl <| Tr.heap (σ' := look []) (fun k => by simp only [look]; cases Nat.beq 107 k <;> cases Nat.beq 108 k <;> rfl) <| tQ <| tQ <| tG <| sm 4 rfl <| cV rfl (bSt rfl rfl rfl rfl) <| sm 1 rfl ?_
   refine wS 66 rfl (fun hb66 => ?_) fun hb66 => ?_
   ·refine sm 13 rfl <| nL <| Tr.condT rfl <| tQ <| tG <| sm 1 rfl <| nL <| tRt <| rOk rfl ?_ nPo
    have hxy : z7f x y = false := by
      clear hd hdw hm hi hw hI1
      simp_all [z7f]
    have hF : z3k u.flows v.flows = false := by rw [hI1, hd, hdw]; simp [z3k, hxy]
    simp [z2g, hF]
   refine sm 7 rfl ?_
   refine wS 73 rfl (fun hb73 => ?_) fun hb73 => ?_
   ·refine sm 6 rfl <| nL <| Tr.condT rfl <| tQ <| tG <| sm 1 rfl <| nL <| tRt <| rOk rfl ?_ nPo
    have hxy : z7f x y = false := by
      clear hd hdw hm hi hw hI1
      simp_all [z7f]
    have hF : z3k u.flows v.flows = false := by rw [hI1, hd, hdw]; simp [z3k, hxy]
    simp [z2g, hF]
   refine sm 6 rfl <| nL ?_
   refine tC rfl (fun hc79 => ?_) fun hc79 => ?_
   ·refine tQ <| tG <| sm 1 rfl <| nL <| tRt <| rOk rfl ?_ nPo
    have hxy : z7f x y = false := by
      clear hd hdw hm hi hw hI1
      simp_all [z7f]
    have hF : z3k u.flows v.flows = false := by rw [hI1, hd, hdw]; simp [z3k, hxy]
    simp [z2g, hF]
   have hh1 : (x.name.toList == y.name.toList) = true := by clear hd hdw hi hw hm; simp_all
   have hh2 : (x.ty == y.ty) = true := by clear hd hdw hi hw hm; simp_all
   have hh3 : (x.params == y.params) = true := by clear hd hdw hi hw hm; simp_all
   refine tSk <| tQ <| tG <| sm 1 rfl <| nL <| tBk <| Tr.sub (Sub.of (fr' := [(9, iInt 0), (8, .pv (.ept [vStr y.name, vInt y.ty, vInt y.params, ints y.types, z09 y.body] 0)), (7, .pv (.ept [vStr x.name, vInt x.ty, vInt x.params, ints x.types, z09 x.body] 0)), (6, iInt k), (2, .pv (.ept [arrs u.arrays, flws u.flows] 0)), (3, .pv (.ept [arrs v.arrays, flws v.flows] 0))]) ⟨rfl, rfl, rfl, rfl, rfl, rfl, trivial⟩) ?_
   refine Tr.loop (fun fr σ m => ∃ (i : Nat), (i <= x.types.length) /\ (∀ j, j < i -> z34 x.types y.types j = true) /\ fr = [(9, iInt i), (8, .pv (.ept [vStr y.name, vInt y.ty, vInt y.params, ints y.types, z09 y.body] 0)), (7, .pv (.ept [vStr x.name, vInt x.ty, vInt x.params, ints x.types, z09 x.body] 0)), (6, iInt k), (2, .pv (.ept [arrs u.arrays, flws u.flows] 0)), (3, .pv (.ept [arrs v.arrays, flws v.flows] 0))] /\ σ = look [] /\ m = x.types.length - i) (n := x.types.length - 0) ?_ ?_
   ·exact ⟨0, Nat.zero_le _, (fun j hj => absurd hj (Nat.not_lt_zero j)), rfl, rfl, rfl⟩
   rintro fr σ m ⟨i, hJ0, hJ1, rfl, rfl, rfl⟩
   refine tQ <| tQ <| tG <| sm 4 rfl <| nL ?_
   refine tC rfl (fun hc83 => ?_) fun hc83 => ?_
   ·refine tSk <| tQ <| tBk <| tQ <| Tr.still z1b kR0 rfl <| smS 3 rfl ?_
    refine WS.lenOf (t := 88) rfl (fun hl4 => ?_)
    simp only [List.length_map] at hl4
    refine sV rfl (oSm uT35 rfl) <| smS 2 rfl ?_
    refine WS.split (t := 91) rfl (fun hb91 => ?_) (fun hb91 => ?_)
    ·refine smS 19 rfl <| WS.nil <| Tr.condT rfl <| tQ <| tG <| sm 1 rfl <| nL <| tRt <| rOk rfl ?_ nPo
     have hat : z34 x.types y.types i = false := by
       clear hd hdw hi hw hm
       unfold z34
       (simp_all <;> omega)
     have hty : z8e x.types y.types x.params = false := zg5 (k := i) (by simpa using hc83) hat
     have hxy : z7f x y = false := by unfold z7f; rw [hty]; simp
     have hF : z3k u.flows v.flows = false := by rw [hI1, hd, hdw]; simp [z3k, hxy]
     simp [z2g, hF]
    refine smS 3 rfl <| syV rfl rfl (oSm uT35 rfl) <| smS 3 rfl ?_
    refine WS.split (t := 98) rfl (fun hb98 => ?_) (fun hb98 => ?_)
    ·refine smS 12 rfl <| WS.nil <| Tr.condT rfl <| tQ <| tG <| sm 1 rfl <| nL <| tRt <| rOk rfl ?_ nPo
     have hat : z34 x.types y.types i = false := by
       clear hd hdw hi hw hm
       unfold z34
       (simp_all <;> omega)
     have hty : z8e x.types y.types x.params = false := zg5 (k := i) (by simpa using hc83) hat
     have hxy : z7f x y = false := by unfold z7f; rw [hty]; simp
     have hF : z3k u.flows v.flows = false := by rw [hI1, hd, hdw]; simp [z3k, hxy]
     simp [z2g, hF]
    have hit : i < x.types.length /\ i < y.types.length := by simp at hb91 hb98; omega
    have hta : (x.types.map eInt)[i]? = some [vInt (x.types.getD i 0)] := by rw [List.getElem?_map]; simp [eInt, List.getD, hit.1]
    have htb : (y.types.map eInt)[i]? = some [vInt (y.types.getD i 0)] := by rw [List.getElem?_map]; simp [eInt, List.getD, hit.2]
    refine smS 3 rfl <| syV rfl rfl (iSq rfl rfl rfl uT35 hta tS3 rfl (by rfl)) <| smS 4 rfl <| syV rfl rfl (iSq rfl rfl rfl uT35 htb tS3 rfl (by rfl)) <| smS 3 rfl <| WS.nil ?_
    refine tC rfl (fun hc110 => ?_) fun hc110 => ?_
    ·refine tQ <| tG <| sm 1 rfl <| nL <| tRt <| rOk rfl ?_ nPo
     have hat : z34 x.types y.types i = false := by
       clear hd hdw hi hw hm
       unfold z34
       simp_all
     have hty : z8e x.types y.types x.params = false := zg5 (k := i) (by simpa using hc83) hat
     have hxy : z7f x y = false := by unfold z7f; rw [hty]; simp
     have hF : z3k u.flows v.flows = false := by rw [hI1, hd, hdw]; simp [z3k, hxy]
     simp [z2g, hF]
    have hlt1 : i < x.types.length /\ i < y.types.length := by simp at hb91 hb98; omega
    have hat : z34 x.types y.types i = true := by
      have he : x.types.getD i 0 = y.types.getD i 0 := by simpa using hc110
      unfold z34
      rw [he]
      simp [hlt1.1, hlt1.2]
    refine tSk <| tG <| sm 1 rfl <| cV rfl (oB rfl rfl (z03 rfl oM0)) <| sm 1 rfl <| nL ?_
    refine ⟨_, _, ?_, Sub.of (fr' := [(9, iInt (i + 1)), (8, .pv (.ept [vStr y.name, vInt y.ty, vInt y.params, ints y.types, z09 y.body] 0)), (7, .pv (.ept [vStr x.name, vInt x.ty, vInt x.params, ints x.types, z09 x.body] 0)), (6, iInt k), (2, .pv (.ept [arrs u.arrays, flws u.flows] 0)), (3, .pv (.ept [arrs v.arrays, flws v.flows] 0))]) ⟨rfl, rfl, rfl, rfl, rfl, rfl, trivial⟩, (i + 1), ?_, ?_, rfl, rfl, rfl⟩
    ·omega
    ·omega
    intro j hj
    by_cases e : j = i
    ·subst e; exact hat
    exact hJ1 j oM0
   refine tEx <| tG <| sm 1 rfl <| cV rfl (oB rfl rfl (z03 rfl oM0)) <| sm 1 rfl <| nL ?_
   refine ⟨_, _, ?_, Sub.of (fr' := [(6, iInt (k + 1)), (2, .pv (.ept [arrs u.arrays, flws u.flows] 0)), (3, .pv (.ept [arrs v.arrays, flws v.flows] 0))]) ⟨rfl, rfl, rfl, trivial⟩, (k + 1), ?_, ?_, rfl, rfl, rfl⟩
   ·omega
   ·omega
   rw [hI1, hd, hdw]
   have hty : z8e x.types y.types x.params = true := zn0 (k := i) (by simp at hc83; omega) hJ1
   have hxy : z7f x y = true := by
     unfold z7f
     rw [hty, hh1, hh2, hh3]
     rfl
   simp [z3k, hxy]
  refine tEx <| tQ <| tG <| sm 1 rfl <| nL <| tRt <| rOk rfl ?_ nPo
  have hge : u.flows.length <= k := by simpa using hc48
  have hF : z3k u.flows v.flows = true := by rw [hI1, List.drop_eq_nil_of_le hge, List.drop_eq_nil_of_le oM0]; rfl
  simp [z2g, hAs, hF, hlen.1, hlen.2]
set_option maxRecDepth 20000
theorem zp1 (k : Int) : ∀ a b : List (List Nd), cnK k (a ++ b) = cnK k a + cnK k b
  | [], b => by simp [cnK]
  | x :: r, b => by simp only [List.cons_append, cnK, zp1 k r b]; omega
theorem zj2 (k : Int) : ∀ (N : Nat) (l : List Nd), SizeOf.sizeOf l < N -> l.length + wtL l <= 1073741824 -> SC Tryz.prog 45 [.pv (z09 l), iInt k] [] (fun k => k ∈ []) (iInt (cnL k l)) []
  | 0, _, h, _ => absurd h (Nat.not_lt_zero _)
  | N + 1, l, hN, hb => by
    refine SC.vc tb { jn := [7] } [] Tryz.func45 rfl rfl ?_
    have hle : cnL k l <= 1073741824 := Nat.le_trans (y1u k l) hb
    refine ⟨Nat, fun i => [(6, iInt i), (5, iInt (cnL k (l.take i)))], fun _ => [], fun i => l.length - i, fun i => i <= l.length, [], 0, Nat.zero_le _, ⟨rfl, rfl, trivial⟩, trivial, ?_⟩
    intro i hi
    refine z1j (fun hc => ?_) fun hc => ?_
    · have hlt := z9c (f := Nd.enc) rfl hc
      obtain ⟨x, hx, ht, hd, hm⟩ := z7d hlt
      have happ : cnL k l = cnL k (l.take i) + (cnN k x + cnL k (l.drop (i + 1))) := by
        conv => lhs; rw [<- List.take_append_drop i l, hd]
        rw [z6i]; rfl
      have hone : cnL k (l.take (i + 1)) = cnL k (l.take i) + cnN k x := by rw [ht, z6i]; rfl
      rw [z94] at happ hone
      have hw := zo6 hm
      have hwa := (z7x x).2.2
      have hkl := zt2 x.kids
      refine ⟨Unit, fun _ => [(5, iInt ((cnL k (l.take i) + (if x.kind == k then 1 else 0) : Nat) : Int))], fun _ => [], fun _ => True, [], ⟨z0p hx, rfl, z1j (fun h1 => ?_) fun h1 => ?_⟩, ?_⟩
      · have h1' : (x.kind == k) = true := h1
        exact ⟨z03 rfl oM0, (), trivial, ⟨ivq (by simp [h1']), trivial⟩, trivial, rfl, rfl, rfl, rfl⟩
      · have h1' : (x.kind == k) = false := h1
        exact ⟨(), trivial, ⟨ivq (by simp [h1']), trivial⟩, trivial, rfl, rfl, rfl, rfl⟩
      · rintro _ _
        generalize (if x.kind == k then 1 else 0) = e at happ hone ⊢
        have hfit : x.kind == 10 -> ∀ j, cnK k (x.kids.take j) <= cnK k x.kids := fun _ j => by
          conv => rhs; rw [<- List.take_append_drop j x.kids]
          rw [zp1]; omega
        refine ⟨Nat, fun j => [(7, iInt j), (5, iInt ((cnL k (l.take i) + e + cnK k (x.kids.take j) : Nat) : Int))], fun _ => [], fun j => x.kids.length - j, fun j => j <= x.kids.length /\ ((x.kind == 10) = false -> j = 0), [], 0, ⟨Nat.zero_le _, fun _ => rfl⟩, ⟨rfl, rfl, trivial⟩, trivial, ?_⟩
        rintro j ⟨hj, hj0⟩
        have last : (x.kind == 10) = false ∨ x.kids.length <= j -> cnL k (l.take i) + e + cnK k (x.kids.take j) = cnL k (l.take (i + 1)) := fun h => by
          rcases h with h | h
          · rw [hj0 h, hone, h]; simp [cnK]
          · by_cases h10 : (x.kind == 10) = true
            · rw [hone, if_pos h10, List.take_of_length_le h]; omega
            · have h10' : (x.kind == 10) = false := by simpa using h10
              rw [hj0 h10', hone, h10']; simp [cnK]
        refine ⟨z0p hx, rfl, z1j (fun hc2 => ?_) fun hc2 => ?_⟩
        · have hlt2 := z9c (f := eKid) rfl hc2
          obtain ⟨q, hq, ht2, _, hm2⟩ := z7d hlt2
          refine ⟨z0p hx, rfl, z1j (fun h10 => ?_) fun h10 => ?_⟩
          · have h10' : (x.kind == 10) = true := h10
            have h1 := hfit h10' (j + 1)
            rw [if_pos h10'] at happ
            rw [ht2, zp1] at h1
            have hwq := zl3 hm2
            have hs : cnK k [q] = cnL k q := by simp [cnK]
            rw [hs] at h1
            exact ⟨z0p hx, rfl, z0a (f := eKid) hq, rfl, [], zj2 k N q (Nat.lt_of_lt_of_le (z4s hm rfl hm2) (Nat.le_of_lt_succ hN)) oM0, sR, trivial, rfl, z03 rfl oM0, z03 rfl oM0, j + 1, z2h hlt2, ⟨hlt2, fun h => by rw [h] at h10'; cases h10'⟩, ⟨rfl, ivq (by rw [ht2, zp1, hs]; omega), trivial⟩, trivial, rfl, rfl, rfl, rfl⟩
          · exact ⟨z03 rfl oM0, i + 1, z2h hlt, hlt, ⟨rfl, ivq (by rw [last (.inl h10)]), trivial⟩, trivial, rfl, rfl, rfl, rfl⟩
        · exact ⟨z03 rfl oM0, i + 1, z2h hlt, hlt, ⟨rfl, ivq (by rw [last (.inr (z96 (f := eKid) rfl hc2))]), trivial⟩, trivial, rfl, rfl, rfl, rfl⟩
    · exact ⟨sE (by rw [List.take_of_length_le (z96 (f := Nd.enc) rfl hc)]), trivial⟩
set_option maxRecDepth 20000
theorem intne {m n : Nat} (h : ((m : Int) != n) = true) : m ≠ n := fun e => by subst e; simp at h
theorem inteq {m n : Nat} (h : ((m : Int) != n) = false) : m = n := Int.ofNat.inj (by simpa using h)
theorem sc_lIdle (x : Nd) : SC Tryz.prog 44 [.pv (ndv x)] [] (fun k => k ∈ []) (iBool (zp5 x.kids)) [] := by
  refine SC.vc tb { gh := [(9, [.len 57])] } [] Tryz.func44 rfl rfl ?_
  have no : ∀ ks : List (List Nd), ks.length ≠ 2 -> zp5 ks = false := fun ks h => by
    match ks, h with
    | [], _ => rfl
    | [_], _ => rfl
    | [_, _], h => exact absurd rfl h
    | _ :: _ :: _ :: _, _ => rfl
  have no2 : ∀ a b : List Nd, (a.length ≠ 1 ∨ b.length ≠ 1) -> z2l a b = false := fun a b h => by
    match a, b, h with
    | [], _, _ => rfl
    | [_], [], _ => rfl
    | [_], [_], h => simp at h
    | [_], _ :: _ :: _, _ => rfl
    | _ :: _ :: _, _, _ => rfl
  refine z1j (fun h1 => ?_) fun h1 => ?_
  · exact ⟨sE (by rw [no _ (by have := intne h1; simpa using this)]), trivial⟩
  · obtain ⟨a, b, hk⟩ : ∃ a b, x.kids = [a, b] := by
      have h2 : x.kids.length = 2 := by have := inteq h1; simpa using this
      match x.kids, h2 with
      | [a, b], _ => exact ⟨a, b, rfl⟩
    obtain ⟨h0, h1', _, _⟩ := y25 hk
    have hI : zp5 x.kids = z2l a b := by rw [hk]; rfl
    rw [hI]
    refine ⟨h0, rfl, z1j (fun ha => ?_) fun ha => ?_⟩
    · exact ⟨sE (by rw [no2 a b (.inl (by have := intne ha; simpa using this))]), trivial⟩
    · obtain ⟨y, rfl⟩ : ∃ y, a = [y] := List.length_eq_one_iff.1 (by have := inteq ha; simpa using this)
      refine ⟨h1', rfl, z1j (fun hb => ?_) fun hb => ?_⟩
      · exact ⟨sE (by rw [no2 _ b (.inr (by have := intne hb; simpa using this))]), trivial⟩
      · obtain ⟨z, rfl⟩ : ∃ z, b = [z] := List.length_eq_one_iff.1 (by have := inteq hb; simpa using this)
        refine ⟨h0, rfl, z0p (i := 0) (x := y) rfl, rfl, h1', rfl, z0p (i := 0) (x := z) rfl, rfl, z1j (fun hy => ?_) fun hy => ?_⟩
        · have hy' : (y.kind == 12) = false := by simpa using hy
          exact ⟨sE (by simp [z2l, hy']), trivial⟩
        · have hy' : (y.kind == 12) = true := by simpa using hy
          refine z1j (fun hz => ?_) fun hz => ?_
          · have hz' : (z.kind == 12) = false := by simpa using hz
            exact ⟨sE (by simp [z2l, hz']), trivial⟩
          · have hz' : (z.kind == 12) = true := by simpa using hz
            have hT : z2l [y] [z] = (y.args == z.args) := by simp [z2l, hy', hz']
            rw [hT]
            refine z1j (fun hn => ?_) fun hn => ?_
            · exact ⟨sE (by rw [y4k (by have := intne hn; simp at this; omega)]), trivial⟩
            · have hlm : y.args.length = z.args.length := by have := inteq hn; simpa using this
              refine ⟨Nat, fun k => [(5, iInt k)], fun _ => [], fun k => y.args.length - k, fun k => k <= y.args.length /\ y.args.take k = z.args.take k, [], 0, ⟨Nat.zero_le _, rfl⟩, ⟨rfl, trivial⟩, trivial, ?_⟩
              rintro k ⟨hk', he⟩
              refine z1j (fun hc => ?_) fun hc => ?_
              · have hlt := z9c (f := eInt) rfl hc
                obtain ⟨v, hv, ht, _, _⟩ := z7d hlt
                obtain ⟨u, hu, ht2, _, _⟩ := z7d (show k < z.args.length by omega)
                intro hl
                simp only [List.length_map] at hl
                refine ⟨z0a (f := eInt) hv, rfl, z0a (f := eInt) hu, rfl, z1j (fun h2 => ?_) fun h2 => ?_⟩
                · have hvu : v ≠ u := by simpa using h2
                  have hne : (y.args == z.args) = false := by
                    cases hq : y.args == z.args with
                    | false => rfl
                    | true => rw [eq_of_beq hq, hu] at hv; exact absurd (Option.some.inj hv).symm hvu
                  exact ⟨sE (by rw [hne]), trivial⟩
                · have hvu : v = u := by simpa using h2
                  exact ⟨z03 rfl oM0, k + 1, z2h hlt, ⟨hlt, by rw [ht, ht2, he, hvu]⟩, ⟨rfl, trivial⟩, trivial, rfl, rfl, rfl, rfl⟩
              · have hge := z96 (f := eInt) rfl hc
                rw [List.take_of_length_le hge, List.take_of_length_le oM0] at he
                exact ⟨sE (by rw [he]; simp), trivial⟩
theorem onceK_no {ks : List (List Nd)} (h : ks.length ≠ 1) : y3e ks = false := by
  match ks, h with
  | [], _ => rfl
  | [_], h => exact absurd rfl h
  | _ :: _ :: _, _ => rfl
theorem y6b : ∀ (N : Nat) (l : List Nd), SizeOf.sizeOf l < N -> l.length + wtL l <= 1073741824 -> SC Tryz.prog 24 [.pv (z09 l)] [] (fun k => k ∈ []) (iBool (fiL l)) []
  | 0, _, h, _ => absurd h (Nat.not_lt_zero _)
  | N + 1, l, hN, hb => by
    refine SC.vc tb { jn := [7, 12] } [] Tryz.func24 rfl rfl ?_
    refine ⟨Nat, fun i => [(3, iInt i)], fun _ => [], fun i => l.length - i, fun i => i <= l.length /\ fiL l = fiL (l.drop i), [], 0, ⟨Nat.zero_le _, rfl⟩, ⟨rfl, trivial⟩, trivial, ?_⟩
    rintro i ⟨hi, hI⟩
    refine z1j (fun hc => ?_) fun hc => ?_
    · have hlt := z9c (f := Nd.enc) rfl hc
      obtain ⟨x, hx, ht, hd, hm⟩ := z7d hlt
      have hw := zo6 hm
      have hwa := (z7x x).2.2
      have hkl := zt2 x.kids
      rw [hd, fiL, y1x] at hI
      have bad : (x.kind == 10 && zp5 x.kids) = true ∨ (x.kind == 11 && y3e x.kids) = true ∨ fiK x.kids = false -> fiL l = false := fun h => by
        rw [hI]
        rcases h with h | h | h <;> rw [h] <;> simp
      refine ⟨z0p hx, rfl, Unit, fun _ => [], fun _ => [], fun _ => (x.kind == 10 && zp5 x.kids) = false, [], ?_, ?_⟩
      · refine z1j (fun h1 => ?_) fun h1 => ?_
        · have h1' : (x.kind == 10) = true := h1
          refine ⟨[], sc_lIdle x, sR, trivial, rfl, z1j (fun h2 => ?_) fun h2 => ?_⟩
          · have h2' : zp5 x.kids = true := h2
            exact ⟨sE (by rw [bad (.inl (by rw [h1', h2']; rfl))]), trivial⟩
          · have h2' : zp5 x.kids = false := h2
            exact ⟨(), by rw [h2', Bool.and_false], trivial, trivial, rfl, rfl, rfl, rfl⟩
        · have h1' : (x.kind == 10) = false := h1
          exact ⟨(), by rw [h1', Bool.false_and], trivial, trivial, rfl, rfl, rfl, rfl⟩
      · intro _ hA
        rw [hA] at hI
        refine ⟨Unit, fun _ => [], fun _ => [], fun _ => (x.kind == 11 && y3e x.kids) = false, [], ?_, ?_⟩
        · refine z1j (fun h1 => ?_) fun h1 => ?_
          · have h1' : (x.kind == 11) = true := h1
            refine z1j (fun h2 => ?_) fun h2 => ?_
            · obtain ⟨a, hks⟩ : ∃ a, x.kids = [a] := List.length_eq_one_iff.1 (Int.ofNat.inj (by simpa using h2))
              have h0 : (x.kids.map eKid)[0]? = some [z09 a] := by rw [hks]; rfl
              have hO : y3e x.kids = (!a.isEmpty && z29 a) := by rw [hks]; rfl
              have hal : a.length + wtL a <= 1073741824 := by rw [hks] at hwa; simp only [wtK] at hwa; omega
              refine ⟨h0, rfl, z1j (fun h3 => ?_) fun h3 => ?_⟩
              · have hpos : 0 < a.length := by simpa using h3
                have hem : a.isEmpty = false := by cases a with
                  | nil => cases hpos
                  | cons _ _ => rfl
                rw [hem, Bool.not_false, Bool.true_and] at hO
                refine ⟨h0, rfl, [], zj2 14 _ a (Nat.lt_succ_self _) hal, sR, trivial, rfl, [], zj2 13 _ a (Nat.lt_succ_self _) hal, sR, trivial, rfl, z1j (fun h4 => ?_) fun h4 => ?_⟩
                · have h13 : cnL 13 a = 0 := by have := of_decide_eq_true h4; omega
                  refine z1j (fun h5 => ?_) fun h5 => ?_
                  · have h14 : cnL 14 a = 0 := by have := of_decide_eq_true h5; omega
                    exact ⟨sE (by rw [bad (.inr (.inl (by rw [h1', hO]; simp [z29, h13, h14])))]), trivial⟩
                  · have h14 : cnL 14 a ≠ 0 := by have := of_decide_eq_false h5; omega
                    refine z1j (fun h6 => ?_) fun h6 => ?_
                    · have h15 : cnL 14 a = 1 := by have := of_decide_eq_true h6; omega
                      obtain ⟨A, e, he, _, hl, _⟩ := za0 (l := a) (by intro h; rw [h] at hpos; cases hpos)
                      have hlen2 : (a.map Nd.enc).length = A.length + 1 := by rw [he]; simp
                      refine ⟨z63 (z := (A.length : Int)) (by rw [hlen2]; omega) (by rw [he] at hal; simp at hal; omega), z0p (i := A.length) (x := e) (by rw [he]; simp), rfl, z1j (fun h7 => ?_) fun h7 => ?_⟩
                      · have h7' : (e.kind == 14) = true := h7
                        exact ⟨sE (by rw [bad (.inr (.inl (by rw [h1', hO]; simp only [z29, h13, h15, hl, h7']; rfl)))]), trivial⟩
                      · have h7' : (e.kind == 14) = false := h7
                        exact ⟨(), by rw [hO]; simp only [z29, h13, h15, hl, h7']; simp, trivial, trivial, rfl, rfl, rfl, rfl⟩
                    · have h15 : cnL 14 a ≠ 1 := by have := of_decide_eq_false h6; omega
                      exact ⟨(), by rw [hO]; simp [z29, h13, h14, h15], trivial, trivial, rfl, rfl, rfl, rfl⟩
                · have h13 : cnL 13 a ≠ 0 := by have := of_decide_eq_false h4; omega
                  exact ⟨(), by rw [hO]; simp [z29, h13], trivial, trivial, rfl, rfl, rfl, rfl⟩
              · have hem : a = [] := by
                  have : ¬ 0 < a.length := by simpa using h3
                  exact List.length_eq_zero_iff.1 oM0
                exact ⟨(), by rw [hO, hem]; simp, trivial, trivial, rfl, rfl, rfl, rfl⟩
            · have hne : x.kids.length ≠ 1 := fun e => by
                simp only [List.length_map, e] at h2; cases h2
              exact ⟨(), by rw [onceK_no hne, Bool.and_false], trivial, trivial, rfl, rfl, rfl, rfl⟩
          · have h1' : (x.kind == 11) = false := h1
            exact ⟨(), by rw [h1', Bool.false_and], trivial, trivial, rfl, rfl, rfl, rfl⟩
        · intro _ hB
          rw [hB] at hI
          simp only [Bool.not_false, Bool.true_and] at hI
          refine ⟨Nat, fun j => [(7, iInt j)], fun _ => [], fun j => x.kids.length - j, fun j => j <= x.kids.length /\ fiK x.kids = fiK (x.kids.drop j), [], 0, ⟨Nat.zero_le _, rfl⟩, ⟨rfl, trivial⟩, trivial, ?_⟩
          rintro j ⟨hj, hJ⟩
          refine z1j (fun hc2 => ?_) fun hc2 => ?_
          · have hlt2 := z9c (f := eKid) rfl hc2
            obtain ⟨q, hq, _, hd2, hm2⟩ := z7d hlt2
            have hwq := zl3 hm2
            rw [hd2, fiK] at hJ
            refine ⟨z0a (f := eKid) hq, rfl, [], y6b N q (Nat.lt_of_lt_of_le (z4s hm rfl hm2) (Nat.le_of_lt_succ hN)) oM0, sR, trivial, rfl, z1j (fun h3 => ?_) fun h3 => ?_⟩
            · have h3' : fiL q = false := by simpa using h3
              exact ⟨sE (by rw [bad (.inr (.inr (by rw [hJ, h3', Bool.false_and])))]), trivial⟩
            · have h3' : fiL q = true := by simpa using h3
              exact ⟨z03 rfl oM0, j + 1, z2h hlt2, ⟨hlt2, by rw [hJ, h3', Bool.true_and]⟩, ⟨rfl, trivial⟩, trivial, rfl, rfl, rfl, rfl⟩
          · rw [List.drop_eq_nil_of_le (z96 (f := eKid) rfl hc2)] at hJ
            have hk1 : fiK x.kids = true := hJ
            exact ⟨z03 rfl oM0, i + 1, z2h hlt, ⟨hlt, by rw [hI, hk1, Bool.true_and]⟩, ⟨rfl, trivial⟩, trivial, rfl, rfl, rfl, rfl⟩
    · rw [List.drop_eq_nil_of_le (z96 (f := Nd.enc) rfl hc)] at hI
      exact ⟨sE (by rw [hI]; rfl), trivial⟩
end Go.Proofs.YtekdhljpmflboaaGreat
