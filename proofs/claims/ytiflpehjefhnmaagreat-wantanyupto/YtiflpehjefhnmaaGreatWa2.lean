/- PART 2 of 5 of a proof: see the last part. -/
import Derived.Test.YtiflpehjefhnmaaGreatWa1
set_option maxRecDepth 8000
set_option maxHeartbeats 2000000
set_option linter.unusedSimpArgs false
set_option linter.unusedVariables false
set_option linter.unusedSectionVars false
namespace Go.Proofs.YtiflpehjefhnmaaGreat
open Go
theorem sc_r8Leaves_aux (N : Nat) : ∀ (l : List Nd), SizeOf.sizeOf l < N → SC Tryz.prog 76 [.pv (nodes l)] [] (fun _ => False) (iBool (r8Leaves l)) [] := by
  induction N with
  | zero => intro l hN; exact absurd hN (Nat.not_lt_zero _)
  | succ N ih =>
    intro l hN
    refine SC.of Tryz.func76 rfl (lb rfl) fun F ρ w => ?_
    refine Tr.lenOf (t := 0) rfl (fun hl => ?_)
    simp only [List.length_map] at hl
    refine tQ <| tG <| sm 1 rfl <| nL <| tQ <| tQ <| tG <| sm 1 rfl <| nL <| tBk <| Tr.sub (Sub.of (fr' := [(3, iInt 0), (0, .pv (nodes l))]) ⟨rfl, rfl, trivial⟩) ?_
    refine Tr.loop (fun fr σ m => ∃ (k : Nat), (k ≤ l.length) ∧ (r8Leaves l = r8Leaves (l.drop k)) ∧ fr = [(3, iInt k), (0, .pv (nodes l))] ∧ σ = look [] ∧ m = l.length - k) (n := l.length - 0) ?_ ?_
    ·exact ⟨0, Nat.zero_le _, rfl, rfl, rfl, rfl⟩
    rintro fr σ m ⟨k, hI0, hI1, rfl, rfl, rfl⟩
    refine tQ <| tQ <| tG <| sm 2 rfl <| cV rfl (oSm uT44 rfl) <| sm 1 rfl <| nL ?_
    refine tC rfl (fun hc8 => ?_) fun hc8 => ?_
    ·have hlt : k < l.length := by simpa using hc8
     have hd := List.drop_eq_getElem_cons hlt
     have hm := List.getElem_mem hlt
     have hi := nodes_get (List.getElem?_eq_getElem hlt)
     generalize l[k] = x at hd hm hi
     refine tSk <| tQ <| tBk <| tQ <| tQ <| tG <| sm 2 rfl <| cV rfl (iSq rfl rfl rfl uT44 (by assumption) tS43 rfl (by rfl)) <| sm 3 rfl <| nL ?_
     refine tC rfl (fun hc16 => ?_) fun hc16 => ?_
     ·refine tQ <| tG <| sm 1 rfl <| nL <| tRt <| rOk rfl ?_ nPo
      rw [hI1, hd]
      simp_all [r8Leaves, r8LeavesN_eq]
     refine tSk <| tQ <| tG <| sm 1 rfl <| nL <| tBk ?_
     have hstart : r8Leaves l = ((x.kind == 10 && r8LeavesK (x.kids.drop 0)) || r8Leaves (l.drop (k + 1))) := by
       rw [hI1, hd]
       have h14 : (x.kind == 14) = false := by simpa using hc16
       simp [r8Leaves, r8LeavesN_eq, h14]
     refine Tr.sub (Sub.of (fr' := [(4, iInt 0), (3, iInt k), (0, .pv (nodes l))]) ⟨rfl, rfl, rfl, trivial⟩) ?_
     refine Tr.loop (fun fr σ m => ∃ (i : Nat), (i ≤ x.kids.length) ∧ (r8Leaves l = ((x.kind == 10 && r8LeavesK (x.kids.drop i)) || r8Leaves (l.drop (k + 1)))) ∧ fr = [(4, iInt i), (3, iInt k), (0, .pv (nodes l))] ∧ σ = look [] ∧ m = x.kids.length - i) (n := x.kids.length - 0) ?_ ?_
     ·exact ⟨0, Nat.zero_le _, hstart, rfl, rfl, rfl⟩
     rintro fr σ m ⟨i, hJ0, hJ1, rfl, rfl, rfl⟩
     refine tQ <| tQ <| tG <| sm 3 rfl <| cV rfl (iSq rfl rfl rfl uT44 (by assumption) tS43 rfl (by rfl)) <| sm 2 rfl ?_
     refine WL.lenOf (t := 22) rfl (fun hl2 => ?_)
     simp only [List.length_map] at hl2
     refine cV rfl (oSm uT41 rfl) <| sm 2 rfl ?_
     refine wS 25 rfl (fun hb25 => ?_) fun hb25 => ?_
     ·refine sm 2 rfl <| yV rfl rfl (iSq rfl rfl rfl uT44 (by assumption) tS43 rfl (by rfl)) <| sm 4 rfl <| nL ?_
      refine tC rfl (fun hc32 => ?_) fun hc32 => ?_
      ·have hlt2 : i < x.kids.length := by simpa using hb25
       have hd2 := List.drop_eq_getElem_cons hlt2
       have hm2 := List.getElem_mem hlt2
       have hi2 := map_get (f := eKid) (List.getElem?_eq_getElem hlt2)
       generalize x.kids[i] = q at hd2 hm2 hi2
       have hdec : SizeOf.sizeOf q < N := Nat.lt_of_lt_of_le (kid_lt hm rfl hm2) (Nat.le_of_lt_succ hN)
       refine tSk <| tQ <| tBk <| tQ <| tG <| sm 2 rfl <| cV rfl (iSq rfl rfl rfl uT44 (by assumption) tS43 rfl (by rfl)) <| sm 3 rfl <| cV rfl (iSq rfl rfl rfl uT41 (by assumption) tS44 rfl (by rfl)) <| sm 1 rfl <| cE rfl (ocq (ih _ hdec) ent76 rfl rfl) <| nL ?_
       refine tC rfl (fun hc43 => ?_) fun hc43 => ?_
       ·refine tQ <| tG <| sm 1 rfl <| nL <| tRt <| rOk rfl ?_ nPo
        rw [hJ1, hd2]
        simp at hc32
        simp [r8LeavesK, hc32, hc43]
       refine tSk <| tG <| sm 1 rfl <| cV rfl (oB rfl rfl (i64_add rfl (by omega))) <| sm 1 rfl <| nL ?_
       refine ⟨_, _, ?_, Sub.of (fr' := [(4, iInt (i + 1)), (3, iInt k), (0, .pv (nodes l))]) ⟨rfl, rfl, rfl, trivial⟩, (i + 1), ?_, ?_, rfl, rfl, rfl⟩
       ·omega
       ·omega
       rw [hJ1, hd2]
       simp [r8LeavesK, hc43]
      refine tEx <| tG <| sm 1 rfl <| cV rfl (oB rfl rfl (i64_add rfl (by omega))) <| sm 1 rfl <| nL ?_
      refine ⟨_, _, ?_, Sub.of (fr' := [(3, iInt (k + 1)), (0, .pv (nodes l))]) ⟨rfl, rfl, trivial⟩, (k + 1), ?_, ?_, rfl, rfl, rfl⟩
      ·omega
      ·omega
      first
      | (have h10 : (x.kind == 10) = false := by simpa using hc32
         rw [hJ1, h10]; simp)
      | (rw [hJ1, List.drop_eq_nil_of_le (by simpa using hb25)]; simp [r8LeavesK])
     refine sm 7 rfl <| nL <| Tr.condF rfl <| tEx <| tG <| sm 1 rfl <| cV rfl (oB rfl rfl (i64_add rfl (by omega))) <| sm 1 rfl <| nL ?_
     refine ⟨_, _, ?_, Sub.of (fr' := [(3, iInt (k + 1)), (0, .pv (nodes l))]) ⟨rfl, rfl, trivial⟩, (k + 1), ?_, ?_, rfl, rfl, rfl⟩
     ·omega
     ·omega
     first
     | (have h10 : (x.kind == 10) = false := by simpa using hc32
        rw [hJ1, h10]; simp)
     | (rw [hJ1, List.drop_eq_nil_of_le (by simpa using hb25)]; simp [r8LeavesK])
    refine tEx <| tQ <| tG <| sm 1 rfl <| nL <| tRt <| rOk rfl ?_ nPo
    have hge : l.length ≤ k := by simpa using hc8
    rw [hI1, List.drop_eq_nil_of_le hge]
    rfl
theorem sc_r8Leaves (l : List Nd) : SC Tryz.prog 76 [.pv (nodes l)] [] (fun _ => False) (iBool (r8Leaves l)) [] := sc_r8Leaves_aux _ l (Nat.lt_succ_self _)
def r8op (x : Nd) : Bool := x.kind == 3 || x.kind == 4
def r8num (x : Nd) : Bool := x.kind == 1 || x.kind == 2
def r8name (x : Nd) : Bool := x.kind == 5 || x.kind == 6 || x.kind == 7
def r8kn (x : Nd) : Int := if x.kind == 11 then 1 else if x.kind == 10 then 2 else 0
def r8bare (x : Nd) : Bool := (r8op x || x.op == 0) && (r8num x || x.n == 0) && (r8name x || x.name.toList == []) && (x.kids.length : Int) == r8kn x && (x.kind == 11 || (x.params.length : Int) == 0)
def eBool (b : Bool) : List PV := [vBool b]
def r8use (tys seen : List Int) (v w : Int) : Bool := !(decide (v < 0) || decide (v ≥ tys.length) || !seen.contains v || (w != 0 && (tys.getD v.toNat 0 != w)))
def r8typesGo (tys seen : List Int) : List Int → List Int → Bool
  | v :: r, w :: ws => r8use tys seen v w && r8typesGo tys seen r ws
  | _, _ => true
def r8types (tys seen l want : List Int) : Bool := (l.length : Int) == want.length && r8typesGo tys seen l want
def r8bad (tys : List Int) (set : List Bool) (v w : Int) : Bool := decide (v < 0) || decide (v ≥ tys.length) || set.getD v.toNat false || (w != 0 && (tys.getD v.toNat 0 != w))
def r8setsGo (tys : List Int) : List Bool → List Int → List Int → Bool × List Bool
  | set, v :: r, w :: ws => if r8bad tys set v w then (false, set) else r8setsGo tys (set.set v.toNat true) r ws
  | set, _, _ => (true, set)
def r8sets (tys : List Int) (set : List Bool) (l want : List Int) : Bool × List Bool :=
  if (l.length : Int) == want.length then r8setsGo tys set l want else (false, set)
theorem r8setsGo_length (tys : List Int) : ∀ (l want : List Int) (set : List Bool), (r8setsGo tys set l want).2.length = set.length
  | [], _, _ => by simp [r8setsGo]
  | _ :: _, [], _ => by simp [r8setsGo]
  | v :: r, w :: ws, set => by
    simp only [r8setsGo]
    split
    · rfl
    · rw [r8setsGo_length tys r ws]; simp
theorem r8sets_length (tys : List Int) (set : List Bool) (l want : List Int) : (r8sets tys set l want).2.length = set.length := by
  unfold r8sets
  split
  · exact r8setsGo_length ..
  · rfl
def r8inr (tys : List Int) (v : Int) : Bool := decide (0 ≤ v) && decide (v < tys.length)
def r8of (tys l : List Int) : List Int := if l.all (r8inr tys) then l.map fun v => tys.getD v.toNat 0 else []
structure Wh where
  If : Bool
  Loop : Bool
  Yield : List Int
  Next : List Int
  Left : List Int
abbrev whv (w : Wh) : PV := .agg [vBool w.If, vBool w.Loop, ints w.Yield, ints w.Next, ints w.Left]
def ckBox (u : Un) (f : Fl) (n : Nat) : List IV := [.pv (arrs u.arrays), .pv (flws u.flows), iStr f.name, iInt f.ty, iInt f.params, .pv (ints f.types), .pv (nodes f.body), .sl 4 n]
def ckHp (u : Un) (f : Fl) (bt : TypeId) (set : List Bool) : List (Nat × HO) := [(3, .box (ckBox u f (set.map eBool).length)), (4, .row ⟨bt, 1⟩ (set.map eBool))]
theorem ckHp_set {u : Un} {f : Fl} {bt : TypeId} {set : List Bool} {i : Nat} : ∀ k, look ((4, some (.row ⟨bt, 1⟩ ((set.map eBool).set i [vBool true]))) :: up (ckHp u f bt set)) k = look (up (ckHp u f bt (set.set i true))) k := by
  intro k
  simp only [ckHp, up, List.map_cons, List.map_nil, look, List.length_map, List.length_set]
  by_cases h4 : 4 = k
  · subst h4
    simp [List.map_set, eBool, show Nat.beq 3 4 = false from rfl]
  · by_cases h3 : 3 = k
    · subst h3; simp [show Nat.beq 4 3 = false from rfl]
    · simp [beq_ne h3, beq_ne h4]
theorem sc_r8bare (x : Nd) : SC Tryz.prog 92 [.pv (ndv x)] [] (fun _ => False) (iBool (r8bare x)) [] := by
  refine SC.of Tryz.func92 rfl (lb rfl) fun F ρ w => ?_
  refine tQ <| tG <| cE rfl (ok_box rfl rfl) <| sm 1 rfl <| nL <| tQ ?_
  refine Tr.cut (fr' := [(3, iBool (r8op x)), (1, .pv (.ept [vInt x.kind, vInt x.op, vInt x.n, vStr x.name, ints x.args, ints x.outs, ints x.params, kids x.kids] 0))]) (σ' := look []) ?_ ?_
  ·refine tG <| sm 4 rfl ?_
   refine wS 10 rfl (fun hb10 => ?_) fun hb10 => ?_
   ·refine sm 5 rfl <| nL ?_
    refine ⟨rfl, Sub.of ⟨?_, ?_, trivial⟩, rfl⟩
    all_goals first | rfl | (refine congrArg some ?_; simp_all [r8op]; done)
   refine sm 5 rfl <| nL ?_
   refine ⟨rfl, Sub.of ⟨?_, ?_, trivial⟩, rfl⟩
   all_goals first | rfl | (refine congrArg some ?_; simp_all [r8op]; done)
  refine tQ ?_
  refine Tr.cut (fr' := [(4, iBool (r8num x)), (3, iBool (r8op x)), (1, .pv (.ept [vInt x.kind, vInt x.op, vInt x.n, vStr x.name, ints x.args, ints x.outs, ints x.params, kids x.kids] 0))]) (σ' := look []) ?_ ?_
  ·refine tG <| sm 4 rfl ?_
   refine wS 18 rfl (fun hb18 => ?_) fun hb18 => ?_
   ·refine sm 5 rfl <| nL ?_
    refine ⟨rfl, Sub.of ⟨?_, ?_, ?_, trivial⟩, rfl⟩
    all_goals first | rfl | (refine congrArg some ?_; simp_all [r8num]; done)
   refine sm 5 rfl <| nL ?_
   refine ⟨rfl, Sub.of ⟨?_, ?_, ?_, trivial⟩, rfl⟩
   all_goals first | rfl | (refine congrArg some ?_; simp_all [r8num]; done)
  refine tQ ?_
  refine Tr.cut (fr' := [(5, iBool (r8name x)), (4, iBool (r8num x)), (3, iBool (r8op x)), (1, .pv (.ept [vInt x.kind, vInt x.op, vInt x.n, vStr x.name, ints x.args, ints x.outs, ints x.params, kids x.kids] 0))]) (σ' := look []) ?_ ?_
  ·refine tG <| sm 4 rfl ?_
   refine wS 26 rfl (fun hb26 => ?_) fun hb26 => ?_
   ·refine sm 10 rfl <| nL ?_
    refine ⟨rfl, Sub.of ⟨?_, ?_, ?_, ?_, trivial⟩, rfl⟩
    all_goals first | rfl | (refine congrArg some ?_; simp_all [r8name]; done)
   refine sm 5 rfl ?_
   refine wS 31 rfl (fun hb31 => ?_) fun hb31 => ?_
   ·refine sm 5 rfl <| nL ?_
    refine ⟨rfl, Sub.of ⟨?_, ?_, ?_, ?_, trivial⟩, rfl⟩
    all_goals first | rfl | (refine congrArg some ?_; simp_all [r8name]; done)
   refine sm 5 rfl <| nL ?_
   refine ⟨rfl, Sub.of ⟨?_, ?_, ?_, ?_, trivial⟩, rfl⟩
   all_goals first | rfl | (refine congrArg some ?_; simp_all [r8name]; done)
  refine tQ <| tG <| sm 1 rfl <| nL <| tQ <| tQ <| tG <| sm 3 rfl <| nL ?_
  refine Tr.cut (fr' := [(6, iInt (if x.kind == 10 then 2 else 0)), (5, iBool (r8name x)), (4, iBool (r8num x)), (3, iBool (r8op x)), (1, .pv (.ept [vInt x.kind, vInt x.op, vInt x.n, vStr x.name, ints x.args, ints x.outs, ints x.params, kids x.kids] 0))]) (σ' := look []) ?_ ?_
  ·refine tC rfl (fun hc38 => ?_) fun hc38 => ?_
   ·refine tG <| sm 1 rfl <| nL ?_
    refine ⟨rfl, Sub.of ⟨?_, ?_, ?_, ?_, ?_, trivial⟩, rfl⟩
    all_goals first | rfl | (refine congrArg some ?_; simp_all; done)
   refine tSk ?_
   refine ⟨rfl, Sub.of ⟨?_, ?_, ?_, ?_, ?_, trivial⟩, rfl⟩
   all_goals first | rfl | (refine congrArg some ?_; simp_all; done)
  refine tQ <| tQ <| tG <| sm 3 rfl <| nL ?_
  refine Tr.cut (fr' := [(6, iInt (r8kn x)), (5, iBool (r8name x)), (4, iBool (r8num x)), (3, iBool (r8op x)), (1, .pv (.ept [vInt x.kind, vInt x.op, vInt x.n, vStr x.name, ints x.args, ints x.outs, ints x.params, kids x.kids] 0))]) (σ' := look []) ?_ ?_
  ·refine tC rfl (fun hc41 => ?_) fun hc41 => ?_
   ·refine tG <| sm 1 rfl <| nL ?_
    refine ⟨rfl, Sub.of ⟨?_, ?_, ?_, ?_, ?_, trivial⟩, rfl⟩
    all_goals first | rfl | (refine congrArg some ?_; simp_all [r8kn]; done)
   refine tSk ?_
   refine ⟨rfl, Sub.of ⟨?_, ?_, ?_, ?_, ?_, trivial⟩, rfl⟩
   all_goals first | rfl | (refine congrArg some ?_; simp_all [r8kn]; done)
  refine tQ <| tG <| sm 2 rfl ?_
  refine wS 43 rfl (fun hb43 => ?_) fun hb43 => ?_
  ·refine sm 7 rfl ?_
   refine wS 50 rfl (fun hb50 => ?_) fun hb50 => ?_
   ·refine sm 8 rfl ?_
    refine wS 58 rfl (fun hb58 => ?_) fun hb58 => ?_
    ·refine sm 8 rfl <| yV rfl rfl (oSm uT41 rfl) <| sm 4 rfl ?_
     refine wS 71 rfl (fun hb71 => ?_) fun hb71 => ?_
     ·refine sm 4 rfl ?_
      refine wS 75 rfl (fun hb75 => ?_) fun hb75 => ?_
      ·refine sm 7 rfl <| nL <| tRt <| rOk rfl ?_ nPo
       simp_all [r8bare]
      refine sm 2 rfl <| yV rfl rfl (oSm uT35 rfl) <| sm 4 rfl <| nL <| tRt <| rOk rfl ?_ nPo
      simp_all [r8bare]
     refine sm 4 rfl <| nUu rfl rfl rfl rfl rfl rfl <| nUu rfl rfl rfl rfl rfl rfl <| nUu rfl rfl rfl rfl rfl rfl <| nUu rfl rfl rfl rfl rfl rfl <| sm 3 rfl <| nL <| tRt <| rOk rfl ?_ nPo
     simp_all [r8bare]
    refine sm 2 rfl <| yV rfl rfl (bSt rfl rfl rfl rfl) <| sm 3 rfl ?_
    refine wS 64 rfl (fun hb64 => ?_) fun hb64 => ?_
    ·refine sm 2 rfl <| yV rfl rfl (oSm uT41 rfl) <| sm 4 rfl ?_
     refine wS 71 rfl (fun hb71 => ?_) fun hb71 => ?_
     ·refine sm 4 rfl ?_
      refine wS 75 rfl (fun hb75 => ?_) fun hb75 => ?_
      ·refine sm 7 rfl <| nL <| tRt <| rOk rfl ?_ nPo
       simp_all [r8bare]
      refine sm 2 rfl <| yV rfl rfl (oSm uT35 rfl) <| sm 4 rfl <| nL <| tRt <| rOk rfl ?_ nPo
      simp_all [r8bare]
     refine sm 4 rfl <| nUu rfl rfl rfl rfl rfl rfl <| nUu rfl rfl rfl rfl rfl rfl <| nUu rfl rfl rfl rfl rfl rfl <| nUu rfl rfl rfl rfl rfl rfl <| sm 3 rfl <| nL <| tRt <| rOk rfl ?_ nPo
     simp_all [r8bare]
    refine sm 11 rfl <| nUu rfl rfl rfl rfl rfl rfl <| nUu rfl rfl rfl rfl rfl rfl <| nUu rfl rfl rfl rfl rfl rfl <| nUu rfl rfl rfl rfl rfl rfl <| sm 3 rfl <| nL <| tRt <| rOk rfl ?_ nPo
    simp_all [r8bare]
   refine sm 6 rfl ?_
   refine wS 56 rfl (fun hb56 => ?_) fun hb56 => ?_
   ·refine sm 2 rfl ?_
    refine wS 58 rfl (fun hb58 => ?_) fun hb58 => ?_
    ·refine sm 8 rfl <| yV rfl rfl (oSm uT41 rfl) <| sm 4 rfl ?_
     refine wS 71 rfl (fun hb71 => ?_) fun hb71 => ?_
     ·refine sm 4 rfl ?_
      refine wS 75 rfl (fun hb75 => ?_) fun hb75 => ?_
      ·refine sm 7 rfl <| nL <| tRt <| rOk rfl ?_ nPo
       simp_all [r8bare]
      refine sm 2 rfl <| yV rfl rfl (oSm uT35 rfl) <| sm 4 rfl <| nL <| tRt <| rOk rfl ?_ nPo
      simp_all [r8bare]
     refine sm 4 rfl <| nUu rfl rfl rfl rfl rfl rfl <| nUu rfl rfl rfl rfl rfl rfl <| nUu rfl rfl rfl rfl rfl rfl <| nUu rfl rfl rfl rfl rfl rfl <| sm 3 rfl <| nL <| tRt <| rOk rfl ?_ nPo
     simp_all [r8bare]
    refine sm 2 rfl <| yV rfl rfl (bSt rfl rfl rfl rfl) <| sm 3 rfl ?_
    refine wS 64 rfl (fun hb64 => ?_) fun hb64 => ?_
    ·refine sm 2 rfl <| yV rfl rfl (oSm uT41 rfl) <| sm 4 rfl ?_
     refine wS 71 rfl (fun hb71 => ?_) fun hb71 => ?_
     ·refine sm 4 rfl ?_
      refine wS 75 rfl (fun hb75 => ?_) fun hb75 => ?_
      ·refine sm 7 rfl <| nL <| tRt <| rOk rfl ?_ nPo
       simp_all [r8bare]
      refine sm 2 rfl <| yV rfl rfl (oSm uT35 rfl) <| sm 4 rfl <| nL <| tRt <| rOk rfl ?_ nPo
      simp_all [r8bare]
     refine sm 4 rfl <| nUu rfl rfl rfl rfl rfl rfl <| nUu rfl rfl rfl rfl rfl rfl <| nUu rfl rfl rfl rfl rfl rfl <| nUu rfl rfl rfl rfl rfl rfl <| sm 3 rfl <| nL <| tRt <| rOk rfl ?_ nPo
     simp_all [r8bare]
    refine sm 11 rfl <| nUu rfl rfl rfl rfl rfl rfl <| nUu rfl rfl rfl rfl rfl rfl <| nUu rfl rfl rfl rfl rfl rfl <| nUu rfl rfl rfl rfl rfl rfl <| sm 3 rfl <| nL <| tRt <| rOk rfl ?_ nPo
    simp_all [r8bare]
   refine sm 2 rfl <| nUu rfl rfl rfl rfl rfl rfl <| nUu rfl rfl rfl rfl rfl rfl <| nUu rfl rfl rfl rfl rfl rfl <| sm 14 rfl <| nUu rfl rfl rfl rfl rfl rfl <| nUu rfl rfl rfl rfl rfl rfl <| nUu rfl rfl rfl rfl rfl rfl <| nUu rfl rfl rfl rfl rfl rfl <| sm 3 rfl <| nL <| tRt <| rOk rfl ?_ nPo
   simp_all [r8bare]
  refine sm 5 rfl ?_
  refine wS 48 rfl (fun hb48 => ?_) fun hb48 => ?_
  ·refine sm 2 rfl ?_
   refine wS 50 rfl (fun hb50 => ?_) fun hb50 => ?_
   ·refine sm 8 rfl ?_
    refine wS 58 rfl (fun hb58 => ?_) fun hb58 => ?_
    ·refine sm 8 rfl <| yV rfl rfl (oSm uT41 rfl) <| sm 4 rfl ?_
     refine wS 71 rfl (fun hb71 => ?_) fun hb71 => ?_
     ·refine sm 4 rfl ?_
      refine wS 75 rfl (fun hb75 => ?_) fun hb75 => ?_
      ·refine sm 7 rfl <| nL <| tRt <| rOk rfl ?_ nPo
       simp_all [r8bare]
      refine sm 2 rfl <| yV rfl rfl (oSm uT35 rfl) <| sm 4 rfl <| nL <| tRt <| rOk rfl ?_ nPo
      simp_all [r8bare]
     refine sm 4 rfl <| nUu rfl rfl rfl rfl rfl rfl <| nUu rfl rfl rfl rfl rfl rfl <| nUu rfl rfl rfl rfl rfl rfl <| nUu rfl rfl rfl rfl rfl rfl <| sm 3 rfl <| nL <| tRt <| rOk rfl ?_ nPo
     simp_all [r8bare]
    refine sm 2 rfl <| yV rfl rfl (bSt rfl rfl rfl rfl) <| sm 3 rfl ?_
    refine wS 64 rfl (fun hb64 => ?_) fun hb64 => ?_
    ·refine sm 2 rfl <| yV rfl rfl (oSm uT41 rfl) <| sm 4 rfl ?_
     refine wS 71 rfl (fun hb71 => ?_) fun hb71 => ?_
     ·refine sm 4 rfl ?_
      refine wS 75 rfl (fun hb75 => ?_) fun hb75 => ?_
      ·refine sm 7 rfl <| nL <| tRt <| rOk rfl ?_ nPo
       simp_all [r8bare]
      refine sm 2 rfl <| yV rfl rfl (oSm uT35 rfl) <| sm 4 rfl <| nL <| tRt <| rOk rfl ?_ nPo
      simp_all [r8bare]
     refine sm 4 rfl <| nUu rfl rfl rfl rfl rfl rfl <| nUu rfl rfl rfl rfl rfl rfl <| nUu rfl rfl rfl rfl rfl rfl <| nUu rfl rfl rfl rfl rfl rfl <| sm 3 rfl <| nL <| tRt <| rOk rfl ?_ nPo
     simp_all [r8bare]
    refine sm 11 rfl <| nUu rfl rfl rfl rfl rfl rfl <| nUu rfl rfl rfl rfl rfl rfl <| nUu rfl rfl rfl rfl rfl rfl <| nUu rfl rfl rfl rfl rfl rfl <| sm 3 rfl <| nL <| tRt <| rOk rfl ?_ nPo
    simp_all [r8bare]
   refine sm 6 rfl ?_
   refine wS 56 rfl (fun hb56 => ?_) fun hb56 => ?_
   ·refine sm 2 rfl ?_
    refine wS 58 rfl (fun hb58 => ?_) fun hb58 => ?_
    ·refine sm 8 rfl <| yV rfl rfl (oSm uT41 rfl) <| sm 4 rfl ?_
     refine wS 71 rfl (fun hb71 => ?_) fun hb71 => ?_
     ·refine sm 4 rfl ?_
      refine wS 75 rfl (fun hb75 => ?_) fun hb75 => ?_
      ·refine sm 7 rfl <| nL <| tRt <| rOk rfl ?_ nPo
       simp_all [r8bare]
      refine sm 2 rfl <| yV rfl rfl (oSm uT35 rfl) <| sm 4 rfl <| nL <| tRt <| rOk rfl ?_ nPo
      simp_all [r8bare]
     refine sm 4 rfl <| nUu rfl rfl rfl rfl rfl rfl <| nUu rfl rfl rfl rfl rfl rfl <| nUu rfl rfl rfl rfl rfl rfl <| nUu rfl rfl rfl rfl rfl rfl <| sm 3 rfl <| nL <| tRt <| rOk rfl ?_ nPo
     simp_all [r8bare]
    refine sm 2 rfl <| yV rfl rfl (bSt rfl rfl rfl rfl) <| sm 3 rfl ?_
    refine wS 64 rfl (fun hb64 => ?_) fun hb64 => ?_
    ·refine sm 2 rfl <| yV rfl rfl (oSm uT41 rfl) <| sm 4 rfl ?_
     refine wS 71 rfl (fun hb71 => ?_) fun hb71 => ?_
     ·refine sm 4 rfl ?_
      refine wS 75 rfl (fun hb75 => ?_) fun hb75 => ?_
      ·refine sm 7 rfl <| nL <| tRt <| rOk rfl ?_ nPo
       simp_all [r8bare]
      refine sm 2 rfl <| yV rfl rfl (oSm uT35 rfl) <| sm 4 rfl <| nL <| tRt <| rOk rfl ?_ nPo
      simp_all [r8bare]
     refine sm 4 rfl <| nUu rfl rfl rfl rfl rfl rfl <| nUu rfl rfl rfl rfl rfl rfl <| nUu rfl rfl rfl rfl rfl rfl <| nUu rfl rfl rfl rfl rfl rfl <| sm 3 rfl <| nL <| tRt <| rOk rfl ?_ nPo
     simp_all [r8bare]
    refine sm 11 rfl <| nUu rfl rfl rfl rfl rfl rfl <| nUu rfl rfl rfl rfl rfl rfl <| nUu rfl rfl rfl rfl rfl rfl <| nUu rfl rfl rfl rfl rfl rfl <| sm 3 rfl <| nL <| tRt <| rOk rfl ?_ nPo
    simp_all [r8bare]
   refine sm 2 rfl <| nUu rfl rfl rfl rfl rfl rfl <| nUu rfl rfl rfl rfl rfl rfl <| nUu rfl rfl rfl rfl rfl rfl <| sm 14 rfl <| nUu rfl rfl rfl rfl rfl rfl <| nUu rfl rfl rfl rfl rfl rfl <| nUu rfl rfl rfl rfl rfl rfl <| nUu rfl rfl rfl rfl rfl rfl <| sm 3 rfl <| nL <| tRt <| rOk rfl ?_ nPo
   simp_all [r8bare]
  refine sm 2 rfl <| nUu rfl rfl rfl rfl rfl rfl <| nUu rfl rfl rfl rfl rfl rfl <| nUu rfl rfl rfl rfl rfl rfl <| sm 5 rfl <| nUu rfl rfl rfl rfl rfl rfl <| nUu rfl rfl rfl rfl rfl rfl <| nUu rfl rfl rfl rfl rfl rfl <| sm 14 rfl <| nUu rfl rfl rfl rfl rfl rfl <| nUu rfl rfl rfl rfl rfl rfl <| nUu rfl rfl rfl rfl rfl rfl ?_
  refine nUu rfl rfl rfl rfl rfl rfl <| sm 3 rfl <| nL <| tRt <| rOk rfl ?_ nPo
  simp_all [r8bare]
theorem sc_r8Closed (x : Nd) : SC Tryz.prog 53 [.pv (ndv x)] [] (fun _ => False) (iBool (r8Closed x)) [] := by
  refine SC.of Tryz.func53 rfl (lb rfl) fun F ρ w => ?_
  refine tQ <| tG <| cE rfl (ok_box rfl rfl) <| sm 1 rfl <| nL <| tQ <| tBk <| tQ <| tG <| sm 4 rfl ?_
  refine wS 7 rfl (fun hb7 => ?_) fun hb7 => ?_
  ·refine sm 2 rfl <| yV rfl rfl (oSm uT41 rfl) <| sm 3 rfl <| nL ?_
   refine tC rfl (fun hc3 => ?_) fun hc3 => ?_
   ·have hl : x.kids.length = 2 := by first | (simp_all; done) | (simp_all; omega)
    have h10 : x.kind = 10 := by simp_all
    have hi0 : (x.kids.map eKid)[0]? = some [nodes (kid0 x.kids)] := by rw [List.getElem?_map]; simp [kid0, eKid, hl]
    have hi1 : (x.kids.map eKid)[1]? = some [nodes (kid1 x.kids)] := by rw [List.getElem?_map]; simp [kid1, eKid, hl]
    refine tQ <| tG <| sm 2 rfl <| cV rfl (iSq rfl rfl rfl uT41 hi0 tS44 rfl (by rfl)) <| sm 1 rfl <| cE rfl (ocq (sc_r8last _) ent75 rfl rfl) <| sm 2 rfl ?_
    refine wS 19 rfl (fun hb19 => ?_) fun hb19 => ?_
    ·refine sm 2 rfl <| yV rfl rfl (iSq rfl rfl rfl uT41 hi1 tS44 rfl (by rfl)) <| sm 1 rfl <| WL.yes rfl rfl rfl rfl rfl rfl (ok_callq (sc_r8last _) ent75 rfl rfl (sRf _ _) rfl) <| sm 3 rfl <| nL <| tRt <| rOk rfl ?_ nPo
     simp_all [r8Closed]
    refine sm 8 rfl <| nL <| tRt <| rOk rfl ?_ nPo
    simp_all [r8Closed]
   refine tQ <| tG <| sm 4 rfl ?_
   refine wS 31 rfl (fun hb31 => ?_) fun hb31 => ?_
   ·refine sm 2 rfl <| yV rfl rfl (oSm uT41 rfl) <| sm 3 rfl <| nL ?_
    refine tC rfl (fun hc27 => ?_) fun hc27 => ?_
    ·have hl : x.kids.length = 1 := by first | (simp_all; done) | (simp_all; omega)
     have h11 : x.kind = 11 := by simp_all
     have hi0 : (x.kids.map eKid)[0]? = some [nodes (kid0 x.kids)] := by rw [List.getElem?_map]; simp [kid0, eKid, hl]
     refine tQ <| tG <| sm 2 rfl <| cV rfl (iSq rfl rfl rfl uT41 hi0 tS44 rfl (by rfl)) <| sm 1 rfl <| cE rfl (ocq (sc_r8Leaves _) ent76 rfl rfl) <| sm 2 rfl <| nL <| tRt <| rOk rfl ?_ nPo
     simp_all [r8Closed]
    refine tSk <| tQ <| tG <| cV rfl (lEA rfl rfl uT43 rfl tS43 (lb rfl)) <| cE rfl (ocq (sc_r8Ender _) ent77 rfl rfl) <| sm 1 rfl <| nL <| tRt <| rOk rfl ?_ nPo
    simp_all [r8Closed]
   refine sm 6 rfl <| nL <| Tr.condF rfl <| tSk <| tQ <| tG <| cV rfl (lEA rfl rfl uT43 rfl tS43 (lb rfl)) <| cE rfl (ocq (sc_r8Ender _) ent77 rfl rfl) <| sm 1 rfl <| nL <| tRt <| rOk rfl ?_ nPo
   simp_all [r8Closed]
  refine sm 6 rfl <| nL <| Tr.condF rfl <| tQ <| tG <| sm 4 rfl ?_
  refine wS 31 rfl (fun hb31 => ?_) fun hb31 => ?_
  ·refine sm 2 rfl <| yV rfl rfl (oSm uT41 rfl) <| sm 3 rfl <| nL ?_
   refine tC rfl (fun hc27 => ?_) fun hc27 => ?_
   ·have hl : x.kids.length = 1 := by first | (simp_all; done) | (simp_all; omega)
    have h11 : x.kind = 11 := by simp_all
    have hi0 : (x.kids.map eKid)[0]? = some [nodes (kid0 x.kids)] := by rw [List.getElem?_map]; simp [kid0, eKid, hl]
    refine tQ <| tG <| sm 2 rfl <| cV rfl (iSq rfl rfl rfl uT41 hi0 tS44 rfl (by rfl)) <| sm 1 rfl <| cE rfl (ocq (sc_r8Leaves _) ent76 rfl rfl) <| sm 2 rfl <| nL <| tRt <| rOk rfl ?_ nPo
    simp_all [r8Closed]
   refine tSk <| tQ <| tG <| cV rfl (lEA rfl rfl uT43 rfl tS43 (lb rfl)) <| cE rfl (ocq (sc_r8Ender _) ent77 rfl rfl) <| sm 1 rfl <| nL <| tRt <| rOk rfl ?_ nPo
   simp_all [r8Closed]
  refine sm 6 rfl <| nL <| Tr.condF rfl <| tSk <| tQ <| tG <| cV rfl (lEA rfl rfl uT43 rfl tS43 (lb rfl)) <| cE rfl (ocq (sc_r8Ender _) ent77 rfl rfl) <| sm 1 rfl <| nL <| tRt <| rOk rfl ?_ nPo
  simp_all [r8Closed]
theorem sc_r8Place (u : Un) (name : ByteArray) : SC Tryz.prog 30 [.pv u.enc, iStr name] [] (fun _ => False) (iInt (r8Place name u.flows 0)) [] := by
  refine SC.of Tryz.func30 rfl (lb rfl) fun F ρ w => ?_
  refine tQ <| tG <| cE rfl (ok_box rfl rfl) <| sm 1 rfl <| nL <| tQ <| tQ <| tG <| sm 1 rfl <| nL <| tBk <| Tr.sub (Sub.of (fr' := [(5, iInt 0), (2, .pv (.ept [arrs u.arrays, flws u.flows] 0)), (1, iStr name)]) ⟨rfl, rfl, rfl, trivial⟩) ?_
  refine Tr.loop (fun fr σ m => ∃ (k : Nat), (k ≤ u.flows.length) ∧ (r8Place name u.flows 0 = r8Place name (u.flows.drop k) k) ∧ fr = [(5, iInt k), (2, .pv (.ept [arrs u.arrays, flws u.flows] 0)), (1, iStr name)] ∧ σ = look [] ∧ m = u.flows.length - k) (n := u.flows.length - 0) ?_ ?_
  ·exact ⟨0, Nat.zero_le _, rfl, rfl, rfl, rfl⟩
  rintro fr σ m ⟨k, hI0, hI1, rfl, rfl, rfl⟩
  refine tQ <| tQ <| tG <| sm 3 rfl ?_
  refine WL.lenOf (t := 8) rfl (fun hl => ?_)
  simp only [List.length_map] at hl
  refine cV rfl (oSm uT23 rfl) <| sm 1 rfl <| nL ?_
  refine tC rfl (fun hc10 => ?_) fun hc10 => ?_
  ·have hlt : k < u.flows.length := by simpa using hc10
   have hd := List.drop_eq_getElem_cons hlt
   have hm := List.getElem_mem hlt
   have hi := map_get (f := Fl.enc) (List.getElem?_eq_getElem hlt)
   generalize u.flows[k] = x at hd hm hi
   refine tSk <| tQ <| tBk <| tQ <| tG <| sm 3 rfl <| cV rfl (iSq rfl rfl rfl uT23 (by assumption) tS51 rfl (by rfl)) <| sm 3 rfl <| cV rfl (bSt rfl rfl rfl rfl) <| nL ?_
   refine tC rfl (fun hc20 => ?_) fun hc20 => ?_
   ·refine tQ <| tG <| sm 2 rfl <| nL <| tRt <| rOk rfl ?_ nPo
    rw [hI1, hd]
    have h20 : eqS x.name name = true := by simpa [eqS] using hc20
    simp [r8Place, h20]
   refine tSk <| tG <| sm 1 rfl <| cV rfl (oB rfl rfl (i64_add rfl (by omega))) <| sm 1 rfl <| nL ?_
   refine ⟨_, _, ?_, Sub.of (fr' := [(5, iInt (k + 1)), (2, .pv (.ept [arrs u.arrays, flws u.flows] 0)), (1, iStr name)]) ⟨rfl, rfl, rfl, trivial⟩, (k + 1), ?_, ?_, rfl, rfl, rfl⟩
   ·omega
   ·omega
   rw [hI1, hd]
   have h20 : eqS x.name name = false := by simpa [eqS] using hc20
   simp [r8Place, h20]
  refine tEx <| tQ <| tG <| sm 1 rfl <| nL <| tRt <| rOk rfl ?_ nPo
  have hge : u.flows.length ≤ k := by simpa using hc10
  rw [hI1, List.drop_eq_nil_of_le hge]
  rfl
theorem sc_r8Array (u : Un) (name : ByteArray) : SC Tryz.prog 47 [.pv u.enc, iStr name] [] (fun _ => False) (iInt (r8Array name u.arrays 0)) [] := by
  refine SC.of Tryz.func47 rfl (lb rfl) fun F ρ w => ?_
  refine tQ <| tG <| cE rfl (ok_box rfl rfl) <| sm 1 rfl <| nL <| tQ <| tQ <| tG <| sm 1 rfl <| nL <| tBk <| Tr.sub (Sub.of (fr' := [(5, iInt 0), (2, .pv (.ept [arrs u.arrays, flws u.flows] 0)), (1, iStr name)]) ⟨rfl, rfl, rfl, trivial⟩) ?_
  refine Tr.loop (fun fr σ m => ∃ (k : Nat), (k ≤ u.arrays.length) ∧ (r8Array name u.arrays 0 = r8Array name (u.arrays.drop k) k) ∧ fr = [(5, iInt k), (2, .pv (.ept [arrs u.arrays, flws u.flows] 0)), (1, iStr name)] ∧ σ = look [] ∧ m = u.arrays.length - k) (n := u.arrays.length - 0) ?_ ?_
  ·exact ⟨0, Nat.zero_le _, rfl, rfl, rfl, rfl⟩
  rintro fr σ m ⟨k, hI0, hI1, rfl, rfl, rfl⟩
  refine tQ <| tQ <| tG <| sm 3 rfl ?_
  refine WL.lenOf (t := 8) rfl (fun hl => ?_)
  simp only [List.length_map] at hl
  refine cV rfl (oSm uT22 rfl) <| sm 1 rfl <| nL ?_
  refine tC rfl (fun hc10 => ?_) fun hc10 => ?_
  ·have hlt : k < u.arrays.length := by simpa using hc10
   have hd := List.drop_eq_getElem_cons hlt
   have hm := List.getElem_mem hlt
   have hi := map_get (f := Ar.enc) (List.getElem?_eq_getElem hlt)
   generalize u.arrays[k] = x at hd hm hi
   refine tSk <| tQ <| tBk <| tQ <| tG <| sm 3 rfl <| cV rfl (iSq rfl rfl rfl uT22 (by assumption) tS49 rfl (by rfl)) <| sm 3 rfl <| cV rfl (bSt rfl rfl rfl rfl) <| nL ?_
   refine tC rfl (fun hc20 => ?_) fun hc20 => ?_
   ·refine tQ <| tG <| sm 2 rfl <| nL <| tRt <| rOk rfl ?_ nPo
    rw [hI1, hd]
    have h20 : eqS x.name name = true := by simpa [eqS] using hc20
    simp [r8Array, h20]
   refine tSk <| tG <| sm 1 rfl <| cV rfl (oB rfl rfl (i64_add rfl (by omega))) <| sm 1 rfl <| nL ?_
   refine ⟨_, _, ?_, Sub.of (fr' := [(5, iInt (k + 1)), (2, .pv (.ept [arrs u.arrays, flws u.flows] 0)), (1, iStr name)]) ⟨rfl, rfl, rfl, trivial⟩, (k + 1), ?_, ?_, rfl, rfl, rfl⟩
   ·omega
   ·omega
   rw [hI1, hd]
   have h20 : eqS x.name name = false := by simpa [eqS] using hc20
   simp [r8Array, h20]
  refine tEx <| tQ <| tG <| sm 1 rfl <| nL <| tRt <| rOk rfl ?_ nPo
  have hge : u.arrays.length ≤ k := by simpa using hc10
  rw [hI1, List.drop_eq_nil_of_le hge]
  rfl
theorem sc_r8types (u : Un) (f : Fl) (set : List Bool) (l seen want : List Int) : SC Tryz.prog 94 [.ptr 3 0, .pv (ints l), .pv (ints seen), .pv (ints want)] (ckHp u f 4 set) (fun _ => True) (iBool (r8types f.types seen l want)) (ckHp u f 4 set) := by
  refine SC.of Tryz.func94 rfl (lb rfl) fun F ρ w => ?_
  refine Tr.lenOf (t := 1) rfl (fun hl => ?_)
  simp only [List.length_map] at hl
  refine Tr.lenOf (t := 3) rfl (fun hl3 => ?_)
  simp only [List.length_map] at hl3
  refine tQ <| tG <| sm 1 rfl <| nL <| tQ <| tQ <| tG <| sm 1 rfl <| cV rfl (oSm uT35 rfl) <| sm 1 rfl <| cV rfl (oSm uT35 rfl) <| sm 1 rfl ?_
  refine nL ?_
  refine tC rfl (fun hc14 => ?_) fun hc14 => ?_
  ·refine tQ <| tG <| sm 1 rfl <| nL <| tRt <| rOk rfl ?_ (fun _ _ h => h)
   have : ((l.length : Int) == want.length) = false := by simpa using hc14
   simp [r8types, this]
  have hlen : l.length = want.length := by simp at hc14; omega
  refine tSk <| tQ <| tQ <| tG <| sm 1 rfl <| nL <| tBk <| Tr.sub (Sub.of (fr' := [(9, iInt 0), (0, .ptr 3 0), (1, .pv (ints l)), (2, .pv (ints seen)), (3, .pv (ints want))]) ⟨rfl, rfl, rfl, rfl, rfl, trivial⟩) ?_
  refine Tr.loop (fun fr σ m => ∃ (k : Nat), (k ≤ l.length) ∧ (r8typesGo f.types seen l want = r8typesGo f.types seen (l.drop k) (want.drop k)) ∧ fr = [(9, iInt k), (0, .ptr 3 0), (1, .pv (ints l)), (2, .pv (ints seen)), (3, .pv (ints want))] ∧ σ = look (up (ckHp u f 4 set)) ∧ m = l.length - k) (n := l.length - 0) ?_ ?_
  ·exact ⟨0, Nat.zero_le _, rfl, rfl, rfl, rfl⟩
  rintro fr σ m ⟨k, hI0, hI1, rfl, rfl, rfl⟩
  refine tQ <| tQ <| tG <| sm 2 rfl <| cV rfl (oSm uT35 rfl) <| sm 1 rfl <| nL ?_
  refine tC rfl (fun hc18 => ?_) fun hc18 => ?_
  ·have hlt : k < l.length := by simpa using hc18
   have hd := List.drop_eq_getElem_cons hlt
   have hm := List.getElem_mem hlt
   have hi := map_get (f := eInt) (List.getElem?_eq_getElem hlt)
   generalize l[k] = x at hd hm hi
   have hltw : k < want.length := by omega
   have hdw := List.drop_eq_getElem_cons hltw
   have hw := map_get (f := eInt) (List.getElem?_eq_getElem hltw)
   generalize want[k] = y at hdw hw
   refine tSk <| tQ <| tBk <| tQ <| tDr mixed (fun _ => True) <| wR 28 [0, 1, 2, 3, 4, 5, 6, 7, 8, 9, 10, 11, 12, 13, 14, 15, 16, 17, 18, 19, 20, 21, 22, 23] (by kernel_rfl) (fun _ _ _ h => h) <| smR 2 rfl <| rV rfl rfl (iSq rfl rfl rfl uT35 hi tS3 rfl (by rfl)) <| smR 3 rfl ?_
   refine WR.split (t := 26) rfl (fun hb26 => ?_) (fun hb26 => ?_)
   ·refine smR 18 rfl <| nR <| wN 24 (by kernel_rfl) (fun _ _ _ h => h) rfl rfl rfl <| wR 0 [25, 26, 27, 28, 29, 30, 31, 32, 33, 34, 35, 36, 37, 38, 39, 40, 41, 42, 43, 44, 45, 46, 47, 48, 49, 50, 51] (by kernel_rfl) (fun _ _ _ h => h) <| smR 9 rfl <| nUr rfl rfl rfl rfl rfl rfl rfl <| nUr rfl rfl rfl rfl rfl rfl rfl <| nUr rfl rfl rfl rfl rfl rfl rfl <| nUr rfl rfl rfl rfl rfl rfl rfl <| nUr rfl rfl rfl rfl rfl rfl rfl <| nUr rfl rfl rfl rfl rfl rfl rfl <| nUr rfl rfl rfl rfl rfl rfl rfl ?_
    refine nUr rfl rfl rfl rfl rfl rfl rfl <| nUr rfl rfl rfl rfl rfl rfl rfl <| nUr rfl rfl rfl rfl rfl rfl rfl <| nUr rfl rfl rfl rfl rfl rfl rfl <| nUr rfl rfl rfl rfl rfl rfl rfl <| nUr rfl rfl rfl rfl rfl rfl rfl <| nUr rfl rfl rfl rfl rfl rfl rfl <| nUr rfl rfl rfl rfl rfl rfl rfl <| nUr rfl rfl rfl rfl rfl rfl rfl <| smR 2 rfl <| nR <| wDn (by kernel_rfl) ?_
    refine Tr.condT rfl <| tQ <| tG <| sm 1 rfl <| nL <| tRt <| rOk rfl ?_ (fun _ _ h => h)
    have hu : r8use f.types seen x y = false := by (try clear hvx); simp_all [r8use]
    simp [r8types, hI1, hd, hdw, r8typesGo, hu]
   refine smR 2 rfl <| ryV rfl rfl rfl (iSq rfl rfl rfl uT35 hi tS3 rfl (by rfl)) <| smR 2 rfl <| ryV rfl rfl rfl (nCk rfl rfl rfl) <| smR 2 rfl <| ryV rfl rfl rfl (oLb uT35 rfl rfl rfl trivial) <| ryV rfl rfl rfl (oSm uT35 rfl) <| smR 3 rfl ?_
   refine WR.split (t := 39) rfl (fun hb39 => ?_) (fun hb39 => ?_)
   ·refine smR 5 rfl <| nR <| wN 24 (by kernel_rfl) (fun _ _ _ h => h) rfl rfl rfl <| wR 0 [25, 26, 27, 28, 29, 30, 31, 32, 33, 34, 35, 36, 37, 38, 39, 40, 41, 42, 43, 44, 45, 46, 47, 48, 49, 50, 51] (by kernel_rfl) (fun _ _ _ h => h) <| smR 9 rfl <| nUr rfl rfl rfl rfl rfl rfl rfl <| nUr rfl rfl rfl rfl rfl rfl rfl <| nUr rfl rfl rfl rfl rfl rfl rfl <| nUr rfl rfl rfl rfl rfl rfl rfl <| nUr rfl rfl rfl rfl rfl rfl rfl <| nUr rfl rfl rfl rfl rfl rfl rfl <| nUr rfl rfl rfl rfl rfl rfl rfl ?_
    refine nUr rfl rfl rfl rfl rfl rfl rfl <| nUr rfl rfl rfl rfl rfl rfl rfl <| nUr rfl rfl rfl rfl rfl rfl rfl <| nUr rfl rfl rfl rfl rfl rfl rfl <| nUr rfl rfl rfl rfl rfl rfl rfl <| nUr rfl rfl rfl rfl rfl rfl rfl <| nUr rfl rfl rfl rfl rfl rfl rfl <| nUr rfl rfl rfl rfl rfl rfl rfl <| nUr rfl rfl rfl rfl rfl rfl rfl <| smR 2 rfl <| nR <| wDn (by kernel_rfl) ?_
    refine Tr.condT rfl <| tQ <| tG <| sm 1 rfl <| nL <| tRt <| rOk rfl ?_ (fun _ _ h => h)
    have hu : r8use f.types seen x y = false := by (try clear hvx); simp_all [r8use]
    simp [r8types, hI1, hd, hdw, r8typesGo, hu]
   have hv0 : x.toNat < f.types.length := by simp at hb26 hb39; omega
   have hvx : x = ((x.toNat : Nat) : Int) := by simp at hb26; omega
   have hty : (f.types.map eInt)[x.toNat]? = some [vInt (f.types.getD x.toNat 0)] := by rw [List.getElem?_map]; simp [eInt, List.getD, hv0]
   refine smR 3 rfl <| ryV rfl rfl rfl (iSq rfl rfl rfl uT35 hi tS3 rfl (by rfl)) <| smR 1 rfl <| nR <| wO 24 (by kernel_rfl) <| wY rfl rfl rfl (fun _ _ => trivial) nw (fun _ _ => ocq (sc_r8in _ _) ent107 rfl rfl) <| wR 0 [25, 26, 27, 28, 29, 30, 31, 32, 33, 34, 35, 36, 37, 38, 39, 40, 41, 42, 43, 44, 45, 46, 47, 48, 49, 50, 51] (by kernel_rfl) (fun _ _ _ h => h) <| smR 3 rfl ?_
   refine WR.split (t := 48) rfl (fun hb48 => ?_) (fun hb48 => ?_)
   ·refine smR 6 rfl <| nUr rfl rfl rfl rfl rfl rfl rfl <| nUr rfl rfl rfl rfl rfl rfl rfl <| nUr rfl rfl rfl rfl rfl rfl rfl <| nUr rfl rfl rfl rfl rfl rfl rfl <| nUr rfl rfl rfl rfl rfl rfl rfl <| nUr rfl rfl rfl rfl rfl rfl rfl <| nUr rfl rfl rfl rfl rfl rfl rfl <| nUr rfl rfl rfl rfl rfl rfl rfl <| nUr rfl rfl rfl rfl rfl rfl rfl <| nUr rfl rfl rfl rfl rfl rfl rfl <| nUr rfl rfl rfl rfl rfl rfl rfl ?_
    refine nUr rfl rfl rfl rfl rfl rfl rfl <| nUr rfl rfl rfl rfl rfl rfl rfl <| nUr rfl rfl rfl rfl rfl rfl rfl <| nUr rfl rfl rfl rfl rfl rfl rfl <| nUr rfl rfl rfl rfl rfl rfl rfl <| smR 2 rfl <| nR <| wDn (by kernel_rfl) <| Tr.condT rfl <| tQ <| tG <| sm 1 rfl ?_
    refine nL <| tRt <| rOk rfl ?_ (fun _ _ h => h)
    have hu : r8use f.types seen x y = false := by (try clear hvx); simp_all [r8use]
    simp [r8types, hI1, hd, hdw, r8typesGo, hu]
   refine smR 2 rfl <| ryV rfl rfl rfl (iSq rfl rfl rfl uT35 hw tS3 rfl (by rfl)) <| smR 3 rfl ?_
   refine WR.split (t := 54) rfl (fun hb54 => ?_) (fun hb54 => ?_)
   ·refine smR 1 rfl <| ryV rfl rfl rfl (nCk rfl rfl rfl) <| smR 2 rfl <| ryV rfl rfl rfl (oLb uT35 rfl rfl rfl trivial) <| smR 2 rfl <| ryV rfl rfl rfl (iSq rfl rfl rfl uT35 hi tS3 rfl (by rfl)) <| smR 1 rfl <| ryV rfl rfl rfl (iSq rfl rfl rfl uT35 hty tS3 rfl (by omega)) <| smR 3 rfl <| ryV rfl rfl rfl (iSq rfl rfl rfl uT35 hw tS3 rfl (by rfl)) <| smR 4 rfl <| nR ?_
    refine wDn (by kernel_rfl) ?_
    refine tC rfl (fun hc72 => ?_) fun hc72 => ?_
    ·refine tQ <| tG <| sm 1 rfl <| nL <| tRt <| rOk rfl ?_ (fun _ _ h => h)
     have hu : r8use f.types seen x y = false := by (try clear hvx); simp_all [r8use]
     simp [r8types, hI1, hd, hdw, r8typesGo, hu]
    refine tSk <| tG <| sm 1 rfl <| cV rfl (oB rfl rfl (i64_add rfl (by omega))) <| sm 1 rfl <| nL ?_
    refine ⟨_, _, ?_, Sub.of (fr' := [(9, iInt (k + 1)), (0, .ptr 3 0), (1, .pv (ints l)), (2, .pv (ints seen)), (3, .pv (ints want))]) ⟨rfl, rfl, rfl, rfl, rfl, trivial⟩, (k + 1), ?_, ?_, rfl, rfl, rfl⟩
    ·omega
    ·omega
    rw [hI1, hd, hdw]
    have hu : r8use f.types seen x y = true := by (try clear hvx); simp_all [r8use]
    simp [r8typesGo, hu]
   refine smR 18 rfl <| nR <| wDn (by kernel_rfl) <| Tr.condF rfl <| tSk <| tG <| sm 1 rfl <| cV rfl (oB rfl rfl (i64_add rfl (by omega))) <| sm 1 rfl <| nL ?_
   refine ⟨_, _, ?_, Sub.of (fr' := [(9, iInt (k + 1)), (0, .ptr 3 0), (1, .pv (ints l)), (2, .pv (ints seen)), (3, .pv (ints want))]) ⟨rfl, rfl, rfl, rfl, rfl, trivial⟩, (k + 1), ?_, ?_, rfl, rfl, rfl⟩
   ·omega
   ·omega
   rw [hI1, hd, hdw]
   have hu : r8use f.types seen x y = true := by (try clear hvx); simp_all [r8use]
   simp [r8typesGo, hu]
  refine tEx <| tQ <| tG <| sm 1 rfl <| nL <| tRt <| rOk rfl ?_ (fun _ _ h => h)
  have hge : l.length ≤ k := by simpa using hc18
  have : ((l.length : Int) == want.length) = true := by simpa using congrArg Nat.cast hlen
  simp [r8types, hI1, List.drop_eq_nil_of_le hge, r8typesGo, this]
theorem sc_r8sets (u : Un) (f : Fl) (set : List Bool) (l want : List Int) (hs : set.length = f.types.length) : SC Tryz.prog 95 [.ptr 3 0, .pv (ints l), .pv (ints want)] (ckHp u f 4 set) (fun k => k = 3) (iBool (r8sets f.types set l want).1) (ckHp u f 4 (r8sets f.types set l want).2) := by
  refine SC.of Tryz.func95 rfl (lb rfl) fun F ρ w => ?_
  refine Tr.lenOf (t := 1) rfl (fun hl => ?_)
  simp only [List.length_map] at hl
  refine Tr.lenOf (t := 2) rfl (fun hl3 => ?_)
  simp only [List.length_map] at hl3
  refine tQ <| tG <| sm 1 rfl <| nL <| tQ <| tQ <| tG <| sm 1 rfl <| cV rfl (oSm uT35 rfl) <| sm 1 rfl <| cV rfl (oSm uT35 rfl) <| sm 1 rfl ?_
  refine nL ?_
  refine tC rfl (fun hc12 => ?_) fun hc12 => ?_
  ·refine tQ <| tG <| sm 1 rfl <| nL <| tRt <| rOk rfl ?_ ?_
   ·have : ((l.length : Int) == want.length) = false := by simpa using hc12
    simp [r8sets, this]
   have : ((l.length : Int) == want.length) = false := by simpa using hc12
   simp only [r8sets, this]
   exact fun _ _ h => h
  have hlen : l.length = want.length := by simp at hc12; omega
  refine tSk <| tQ <| tQ <| tG <| sm 1 rfl <| nL <| tBk <| Tr.sub (Sub.of (fr' := [(7, iInt 0), (0, .ptr 3 0), (1, .pv (ints l)), (2, .pv (ints want))]) ⟨rfl, rfl, rfl, rfl, trivial⟩) ?_
  refine Tr.loop (fun fr σ m => ∃ (k : Nat) (st : List Bool), (k ≤ l.length) ∧ (r8setsGo f.types set l want = r8setsGo f.types st (l.drop k) (want.drop k)) ∧ (st.length = f.types.length) ∧ fr = [(7, iInt k), (0, .ptr 3 0), (1, .pv (ints l)), (2, .pv (ints want))] ∧ σ = look (up (ckHp u f 4 st)) ∧ m = l.length - k) (n := l.length - 0) ?_ ?_
  ·exact ⟨0, set, Nat.zero_le _, rfl, hs, rfl, rfl, rfl⟩
  rintro fr σ m ⟨k, st, hI0, hI1, hI2, rfl, rfl, rfl⟩
  refine tQ <| tQ <| tG <| sm 2 rfl <| cV rfl (oSm uT35 rfl) <| sm 1 rfl <| nL ?_
  refine tC rfl (fun hc16 => ?_) fun hc16 => ?_
  ·have hlt : k < l.length := by simpa using hc16
   have hd := List.drop_eq_getElem_cons hlt
   have hm := List.getElem_mem hlt
   have hi := map_get (f := eInt) (List.getElem?_eq_getElem hlt)
   generalize l[k] = x at hd hm hi
   have hltw : k < want.length := by omega
   have hdw := List.drop_eq_getElem_cons hltw
   have hw := map_get (f := eInt) (List.getElem?_eq_getElem hltw)
   generalize want[k] = y at hdw hw
   refine tSk <| tQ <| tBk <| tQ <| tQ <| Tr.still mixed (by kernel_rfl) rfl <| smS 2 rfl <| sV rfl (iSq rfl rfl rfl uT35 hi tS3 rfl (by rfl)) <| smS 3 rfl ?_
   refine WS.split (t := 24) rfl (fun hb24 => ?_) (fun hb24 => ?_)
   ·refine smS 31 rfl <| WS.noU rfl rfl rfl rfl rfl rfl <| WS.noU rfl rfl rfl rfl rfl rfl <| WS.noU rfl rfl rfl rfl rfl rfl <| WS.noU rfl rfl rfl rfl rfl rfl <| WS.noU rfl rfl rfl rfl rfl rfl <| WS.noU rfl rfl rfl rfl rfl rfl <| WS.noU rfl rfl rfl rfl rfl rfl <| WS.noU rfl rfl rfl rfl rfl rfl <| WS.noU rfl rfl rfl rfl rfl rfl <| WS.noU rfl rfl rfl rfl rfl rfl <| WS.noU rfl rfl rfl rfl rfl rfl ?_
    refine WS.noU rfl rfl rfl rfl rfl rfl <| WS.noU rfl rfl rfl rfl rfl rfl <| WS.noU rfl rfl rfl rfl rfl rfl <| WS.noU rfl rfl rfl rfl rfl rfl <| WS.noU rfl rfl rfl rfl rfl rfl <| smS 2 rfl <| WS.nil <| Tr.condT rfl <| tQ <| tG <| sm 1 rfl <| nL ?_
    refine tRt ?_
    have hu : r8bad f.types st x y = true := by (try clear hvx); simp_all [r8bad]
    have hsum : r8sets f.types set l want = (false, st) := by simp [r8sets, hlen, hI1, hd, hdw, r8setsGo, hu]
    rw [hsum]
    exact rOk rfl rfl (fun _ _ h => h)
   refine smS 2 rfl <| syV rfl rfl (iSq rfl rfl rfl uT35 hi tS3 rfl (by rfl)) <| smS 2 rfl <| syV rfl rfl (nCk rfl rfl rfl) <| smS 3 rfl <| syV rfl rfl (oSm uT35 rfl) <| smS 3 rfl ?_
   refine WS.split (t := 37) rfl (fun hb37 => ?_) (fun hb37 => ?_)
   ·refine smS 18 rfl <| WS.noU rfl rfl rfl rfl rfl rfl <| WS.noU rfl rfl rfl rfl rfl rfl <| WS.noU rfl rfl rfl rfl rfl rfl <| WS.noU rfl rfl rfl rfl rfl rfl <| WS.noU rfl rfl rfl rfl rfl rfl <| WS.noU rfl rfl rfl rfl rfl rfl <| WS.noU rfl rfl rfl rfl rfl rfl <| WS.noU rfl rfl rfl rfl rfl rfl <| WS.noU rfl rfl rfl rfl rfl rfl <| WS.noU rfl rfl rfl rfl rfl rfl <| WS.noU rfl rfl rfl rfl rfl rfl ?_
    refine WS.noU rfl rfl rfl rfl rfl rfl <| WS.noU rfl rfl rfl rfl rfl rfl <| WS.noU rfl rfl rfl rfl rfl rfl <| WS.noU rfl rfl rfl rfl rfl rfl <| WS.noU rfl rfl rfl rfl rfl rfl <| smS 2 rfl <| WS.nil <| Tr.condT rfl <| tQ <| tG <| sm 1 rfl <| nL ?_
    refine tRt ?_
    have hu : r8bad f.types st x y = true := by (try clear hvx); simp_all [r8bad]
    have hsum : r8sets f.types set l want = (false, st) := by simp [r8sets, hlen, hI1, hd, hdw, r8setsGo, hu]
    rw [hsum]
    exact rOk rfl rfl (fun _ _ h => h)
   have hv0 : x.toNat < f.types.length := by simp at hb24 hb37; omega
   have hvx : x = ((x.toNat : Nat) : Int) := by simp at hb24; omega
   have hty : (f.types.map eInt)[x.toNat]? = some [vInt (f.types.getD x.toNat 0)] := by rw [List.getElem?_map]; simp [eInt, List.getD, hv0]
   have hst : (st.map eBool)[x.toNat]? = some [vBool (st.getD x.toNat false)] := by rw [List.getElem?_map]; simp [eBool, List.getD, hI2, hv0]
   have hstl : x.toNat < (st.map eBool).length := by simpa [hI2] using hv0
   refine smS 1 rfl <| syV rfl rfl (nCk rfl rfl rfl) <| smS 4 rfl <| syV rfl rfl (iSq rfl rfl rfl uT35 hi tS3 rfl (by rfl)) <| smS 1 rfl <| syV rfl rfl (iRw rfl rfl rfl rfl rfl Tryz.underlying89 tS4 (by assumption) (by omega)) <| syV rfl rfl (lRw rfl rfl rfl rfl (Nat.add_zero _).symm (by assumption) rfl Tryz.underlying4 rfl trivial) <| smS 2 rfl ?_
   refine WS.split (t := 49) rfl (fun hb49 => ?_) (fun hb49 => ?_)
   ·refine smS 6 rfl <| WS.noU rfl rfl rfl rfl rfl rfl <| WS.noU rfl rfl rfl rfl rfl rfl <| WS.noU rfl rfl rfl rfl rfl rfl <| WS.noU rfl rfl rfl rfl rfl rfl <| WS.noU rfl rfl rfl rfl rfl rfl <| WS.noU rfl rfl rfl rfl rfl rfl <| WS.noU rfl rfl rfl rfl rfl rfl <| WS.noU rfl rfl rfl rfl rfl rfl <| WS.noU rfl rfl rfl rfl rfl rfl <| WS.noU rfl rfl rfl rfl rfl rfl <| WS.noU rfl rfl rfl rfl rfl rfl ?_
    refine WS.noU rfl rfl rfl rfl rfl rfl <| WS.noU rfl rfl rfl rfl rfl rfl <| WS.noU rfl rfl rfl rfl rfl rfl <| WS.noU rfl rfl rfl rfl rfl rfl <| WS.noU rfl rfl rfl rfl rfl rfl <| smS 2 rfl <| WS.nil <| Tr.condT rfl <| tQ <| tG <| sm 1 rfl <| nL ?_
    refine tRt ?_
    have hu : r8bad f.types st x y = true := by (try clear hvx); simp_all [r8bad]
    have hsum : r8sets f.types set l want = (false, st) := by simp [r8sets, hlen, hI1, hd, hdw, r8setsGo, hu]
    rw [hsum]
    exact rOk rfl rfl (fun _ _ h => h)
   refine smS 2 rfl <| syV rfl rfl (iSq rfl rfl rfl uT35 hw tS3 rfl (by rfl)) <| smS 3 rfl ?_
   refine WS.split (t := 55) rfl (fun hb55 => ?_) (fun hb55 => ?_)
   ·refine smS 1 rfl <| syV rfl rfl (nCk rfl rfl rfl) <| smS 5 rfl <| syV rfl rfl (iSq rfl rfl rfl uT35 hi tS3 rfl (by rfl)) <| smS 1 rfl <| syV rfl rfl (iSq rfl rfl rfl uT35 hty tS3 rfl (by omega)) <| smS 3 rfl <| syV rfl rfl (iSq rfl rfl rfl uT35 hw tS3 rfl (by rfl)) <| smS 4 rfl <| WS.nil ?_
    refine tC rfl (fun hc73 => ?_) fun hc73 => ?_
    ·refine tQ <| tG <| sm 1 rfl <| nL <| tRt ?_
     have hu : r8bad f.types st x y = true := by (try clear hvx); simp_all [r8bad]
     have hsum : r8sets f.types set l want = (false, st) := by simp [r8sets, hlen, hI1, hd, hdw, r8setsGo, hu]
     rw [hsum]
     exact rOk rfl rfl (fun _ _ h => h)
    refine tSk <| tDr mixed (fun k => k ∈ ([3] : List Nat)) <| wR 1 [0, 1, 2, 3, 4, 5, 6, 7, 8] (by kernel_rfl) (fun _ _ _ h => h) <| smR 1 rfl <| rV rfl rfl (nCk rfl rfl rfl) <| smR 1 rfl <| rV rfl rfl (oLb Tryz.underlying89 rfl rfl rfl (by decide)) <| smR 2 rfl <| rV rfl rfl (iSq rfl rfl rfl uT35 hi tS3 rfl (by rfl)) <| smR 1 rfl <| rV rfl rfl (iRw rfl rfl rfl rfl rfl Tryz.underlying89 tS4 (by assumption) (by omega)) <| nR ?_
    refine wO 9 (by kernel_rfl) <| wI rfl rfl (fun k (h : _) => by (simp at h ⊢; omega)) (nOl rfl) (fun _ _ => ok_store_row rfl rfl rfl rfl rfl (Nat.add_zero _).symm (by assumption) (by simp) tS4 rfl (by simp)) <| wDn (by kernel_rfl) <| tG <| sm 1 rfl <| cV rfl (oB rfl rfl (i64_add rfl (by omega))) <| sm 1 rfl <| nL ?_
    refine ⟨_, _, ?_, Sub.of (fr' := [(7, iInt (k + 1)), (0, .ptr 3 0), (1, .pv (ints l)), (2, .pv (ints want))]) ⟨rfl, rfl, rfl, rfl, trivial⟩, (k + 1), (st.set x.toNat true), ?_, ?_, ?_, rfl, (funext ckHp_set), rfl⟩
    ·omega
    ·omega
    ·rw [hI1, hd, hdw]
     have hu : r8bad f.types st x y = false := by (try clear hvx); simp_all [r8bad]
     simp [r8setsGo, hu]
    simpa using hI2
   refine smS 18 rfl <| WS.nil <| Tr.condF rfl <| tSk <| tDr mixed (fun k => k ∈ ([3] : List Nat)) <| wR 1 [0, 1, 2, 3, 4, 5, 6, 7, 8] (by kernel_rfl) (fun _ _ _ h => h) <| smR 1 rfl <| rV rfl rfl (nCk rfl rfl rfl) <| smR 1 rfl <| rV rfl rfl (oLb Tryz.underlying89 rfl rfl rfl (by decide)) <| smR 2 rfl <| rV rfl rfl (iSq rfl rfl rfl uT35 hi tS3 rfl (by rfl)) ?_
   refine smR 1 rfl <| rV rfl rfl (iRw rfl rfl rfl rfl rfl Tryz.underlying89 tS4 (by assumption) (by omega)) <| nR <| wO 9 (by kernel_rfl) <| wI rfl rfl (fun k (h : _) => by (simp at h ⊢; omega)) (nOl rfl) (fun _ _ => ok_store_row rfl rfl rfl rfl rfl (Nat.add_zero _).symm (by assumption) (by simp) tS4 rfl (by simp)) <| wDn (by kernel_rfl) <| tG <| sm 1 rfl <| cV rfl (oB rfl rfl (i64_add rfl (by omega))) <| sm 1 rfl <| nL ?_
   refine ⟨_, _, ?_, Sub.of (fr' := [(7, iInt (k + 1)), (0, .ptr 3 0), (1, .pv (ints l)), (2, .pv (ints want))]) ⟨rfl, rfl, rfl, rfl, trivial⟩, (k + 1), (st.set x.toNat true), ?_, ?_, ?_, rfl, (funext ckHp_set), rfl⟩
   ·omega
   ·omega
   ·rw [hI1, hd, hdw]
    have hu : r8bad f.types st x y = false := by (try clear hvx); simp_all [r8bad]
    simp [r8setsGo, hu]
   simpa using hI2
  refine tEx <| tQ <| tG <| sm 1 rfl <| nL <| tRt ?_
  have hge : l.length ≤ k := by simpa using hc16
  have hsum : r8sets f.types set l want = (true, st) := by simp [r8sets, hlen, hI1, List.drop_eq_nil_of_le hge, r8setsGo]
  rw [hsum]
  exact rOk rfl rfl (fun _ _ h => h)
def r1IsOne (op : Int) : Bool := decide (op ≥ 20) && decide (op ≤ 28)
def r1IsTwo (op : Int) : Bool := decide (op ≥ 1) && decide (op ≤ 17)
def r5Operand (op : Int) : Int × Int :=
  if op == 18 || op == 19 || op == 22 then (2, 2) else if op == 16 || op == 17 then (0, 2)
  else if decide (op ≥ 12) && decide (op ≤ 15) then (1, 2) else (1, 1)
def r8ofGo (tys acc : List Int) : List Int → List Int
  | [] => acc
  | v :: r => if r8inr tys v then r8ofGo tys (acc ++ [tys.getD v.toNat 0]) r else []
theorem r8ofGo_eq (tys : List Int) : ∀ (l acc : List Int), r8ofGo tys acc l = if l.all (r8inr tys) then acc ++ l.map (fun v => tys.getD v.toNat 0) else []
  | [], acc => by simp [r8ofGo]
  | v :: r, acc => by
    simp only [r8ofGo, List.all_cons, List.map_cons]
    cases h : r8inr tys v <;> simp [r8ofGo_eq tys r]
theorem r8of_eq (tys l : List Int) : r8of tys l = r8ofGo tys [] l := by rw [r8ofGo_eq]; simp [r8of]
theorem sc_r1IsOne (op : Int) : SC Tryz.prog 109 [iInt op] [] (fun _ => False) (iBool (r1IsOne op)) [] := by
  refine SC.of Tryz.func109 rfl (lb rfl) fun F ρ w => ?_
  refine tQ <| tG <| sm 1 rfl <| nL <| tQ <| tG <| sm 3 rfl ?_
  refine wS 5 rfl (fun hb5 => ?_) fun hb5 => ?_
  ·refine sm 4 rfl <| nL <| tRt <| rOk rfl ?_ nPo
   first | (simp_all [r1IsOne]; done) | (simp_all [r1IsOne]; omega)
  refine sm 4 rfl <| nL <| tRt <| rOk rfl ?_ nPo
  first | (simp_all [r1IsOne]; done) | (simp_all [r1IsOne]; omega)
theorem sc_r1IsTwo (op : Int) : SC Tryz.prog 110 [iInt op] [] (fun _ => False) (iBool (r1IsTwo op)) [] := by
  refine SC.of Tryz.func110 rfl (lb rfl) fun F ρ w => ?_
  refine tQ <| tG <| sm 1 rfl <| nL <| tQ <| tG <| sm 3 rfl ?_
  refine wS 5 rfl (fun hb5 => ?_) fun hb5 => ?_
  ·refine sm 4 rfl <| nL <| tRt <| rOk rfl ?_ nPo
   first | (simp_all [r1IsTwo]; done) | (simp_all [r1IsTwo]; omega)
  refine sm 4 rfl <| nL <| tRt <| rOk rfl ?_ nPo
  first | (simp_all [r1IsTwo]; done) | (simp_all [r1IsTwo]; omega)
theorem sc_r5Operand (op : Int) : SC Tryz.prog 108 [iInt op] [] (fun _ => False) (.tup [iInt (r5Operand op).1, iInt (r5Operand op).2]) [] := by
  refine SC.of Tryz.func108 rfl (lb rfl) fun F ρ w => ?_
  refine tQ <| tG <| sm 2 rfl <| nL <| tQ <| tBk <| tQ <| tG <| sm 3 rfl ?_
  refine wS 7 rfl (fun hb7 => ?_) fun hb7 => ?_
  ·refine sm 8 rfl <| nL <| Tr.condT rfl <| tQ <| tG <| sm 2 rfl <| nL <| tRt <| rOk rfl ?_ nPo
   first | (simp_all [r5Operand]; done) | (simp_all [r5Operand]; split <;> first | omega | (simp; done))
  refine sm 4 rfl ?_
  refine wS 11 rfl (fun hb11 => ?_) fun hb11 => ?_
  ·refine sm 4 rfl <| nL <| Tr.condT rfl <| tQ <| tG <| sm 2 rfl <| nL <| tRt <| rOk rfl ?_ nPo
   first | (simp_all [r5Operand]; done) | (simp_all [r5Operand]; split <;> first | omega | (simp; done))
  refine sm 4 rfl <| nL ?_
  refine tC rfl (fun hc4 => ?_) fun hc4 => ?_
  ·refine tQ <| tG <| sm 2 rfl <| nL <| tRt <| rOk rfl ?_ nPo
   first | (simp_all [r5Operand]; done) | (simp_all [r5Operand]; split <;> first | omega | (simp; done))
  refine tQ <| tG <| sm 3 rfl ?_
  refine wS 18 rfl (fun hb18 => ?_) fun hb18 => ?_
  ·refine sm 4 rfl <| nL <| Tr.condT rfl <| tQ <| tG <| sm 2 rfl <| nL <| tRt <| rOk rfl ?_ nPo
   first | (simp_all [r5Operand]; done) | (simp_all [r5Operand]; split <;> first | omega | (simp; done))
  refine sm 4 rfl <| nL ?_
  refine tC rfl (fun hc15 => ?_) fun hc15 => ?_
  ·refine tQ <| tG <| sm 2 rfl <| nL <| tRt <| rOk rfl ?_ nPo
   first | (simp_all [r5Operand]; done) | (simp_all [r5Operand]; split <;> first | omega | (simp; done))
  refine tQ <| tG <| sm 3 rfl ?_
  refine wS 25 rfl (fun hb25 => ?_) fun hb25 => ?_
  ·refine sm 4 rfl <| nL ?_
   refine tC rfl (fun hc22 => ?_) fun hc22 => ?_
   ·refine tQ <| tG <| sm 2 rfl <| nL <| tRt <| rOk rfl ?_ nPo
    first | (simp_all [r5Operand]; done) | (simp_all [r5Operand]; split <;> first | omega | (simp; done))
   refine tSk <| tQ <| tG <| sm 2 rfl <| nL <| tRt <| rOk rfl ?_ nPo
   first | (simp_all [r5Operand]; done) | (simp_all [r5Operand]; split <;> first | omega | (simp; done))
  refine sm 4 rfl <| nL <| Tr.condF rfl <| tSk <| tQ <| tG <| sm 2 rfl <| nL <| tRt <| rOk rfl ?_ nPo
  first | (simp_all [r5Operand]; done) | (simp_all [r5Operand]; split <;> first | omega | (simp; done))
theorem sc_r8of (u : Un) (f : Fl) (set : List Bool) (l : List Int) (hb : l.length ≤ 1073741824) : SC Tryz.prog 93 [.ptr 3 0, .pv (ints l)] (ckHp u f 4 set) (fun k => k < 100) (.pv (ints (r8of f.types l))) (ckHp u f 4 set) := by
  refine SC.of Tryz.func93 rfl (lb rfl) fun F ρ w => ?_
  refine Tr.lenOf (t := 1) rfl (fun hl => ?_)
  simp only [List.length_map] at hl
  rw [r8of_eq]
  refine tQ <| tG <| sm 1 rfl <| nL <| tQ <| tG <| sm 1 rfl <| nL <| tQ <| tQ <| tG <| sm 1 rfl ?_
  refine nL <| tBk <| Tr.grow (t := 5) (k := 105) ⟨3, 1⟩ rfl rfl rfl rfl rfl <| Tr.sub (Sub.of (fr' := [(6, iInt 0), (5, .sl 105 0), (0, .ptr 3 0), (1, .pv (ints l))]) ⟨rfl, rfl, rfl, rfl, trivial⟩) ?_
  refine Tr.loop (fun fr σ m => ∃ (k : Nat) (st : List Int), (k ≤ l.length) ∧ (st.length = k) ∧ (r8ofGo f.types [] l = r8ofGo f.types st (l.drop k)) ∧ fr = [(6, iInt k), (5, .sl 105 k), (0, .ptr 3 0), (1, .pv (ints l))] ∧ σ = look ((105, some (.row ⟨3, 1⟩ (st.map eInt))) :: up (ckHp u f 4 set)) ∧ m = l.length - k) (n := l.length - 0) ?_ ?_
  ·exact ⟨0, [], Nat.zero_le _, rfl, rfl, rfl, rfl, rfl⟩
  rintro fr σ m ⟨k, st, hI0, hI1, hI2, rfl, rfl, rfl⟩
  refine tQ <| tQ <| tG <| sm 2 rfl <| cV rfl (oSm uT35 rfl) <| sm 1 rfl <| nL ?_
  refine tC rfl (fun hc10 => ?_) fun hc10 => ?_
  ·have hlt : k < l.length := by simpa using hc10
   have hd := List.drop_eq_getElem_cons hlt
   have hm := List.getElem_mem hlt
   have hi := map_get (f := eInt) (List.getElem?_eq_getElem hlt)
   generalize l[k] = x at hd hm hi
   refine tSk <| tQ <| tBk <| tQ <| tQ <| Tr.still mixed (by kernel_rfl) rfl <| smS 2 rfl <| sV rfl (iSq rfl rfl rfl uT35 hi tS3 rfl (by rfl)) <| smS 3 rfl ?_
   refine WS.split (t := 18) rfl (fun hb18 => ?_) (fun hb18 => ?_)
   ·refine smS 12 rfl <| WS.nil <| Tr.condT rfl <| tQ <| tG <| sm 1 rfl <| nL <| tRt ?_
    have hin : r8inr f.types x = false := by simp [r8inr] at *; omega
    rw [hI2, hd]
    simp only [r8ofGo, hin]
    exact ⟨⟨_, rfl, fun _ _ _ _ h => sub_nil h⟩, (po2 rfl rfl)⟩
   refine smS 2 rfl <| syV rfl rfl (iSq rfl rfl rfl uT35 hi tS3 rfl (by rfl)) <| smS 2 rfl <| syV rfl rfl (nCk rfl rfl rfl) <| smS 3 rfl <| syV rfl rfl (oSm uT35 rfl) <| smS 2 rfl <| WS.nil ?_
   refine tC rfl (fun hc30 => ?_) fun hc30 => ?_
   ·refine tQ <| tG <| sm 1 rfl <| nL <| tRt ?_
    have hin : r8inr f.types x = false := by simp [r8inr] at *; omega
    rw [hI2, hd]
    simp only [r8ofGo, hin]
    exact ⟨⟨_, rfl, fun _ _ _ _ h => sub_nil h⟩, (po2 rfl rfl)⟩
   have hv0 : x.toNat < f.types.length := by simp at *; omega
   have hvx : x = ((x.toNat : Nat) : Int) := by simp at *; omega
   have hin : r8inr f.types x = true := by simp [r8inr]; omega
   have hty : (f.types.map eInt)[x.toNat]? = some [vInt (f.types.getD x.toNat 0)] := by rw [List.getElem?_map]; simp [eInt, List.getD, hv0]
   refine tSk <| tDr mixed (fun k => k < 100) <| wR 3 [0, 1, 2, 3, 4, 5, 6, 7, 8, 9, 10, 11] (by kernel_rfl) (fun _ _ _ h => h) <| smR 2 rfl <| rV rfl rfl (nCk rfl rfl rfl) <| smR 2 rfl <| rV rfl rfl (oLb uT35 rfl rfl rfl (by decide)) <| smR 2 rfl <| rV rfl rfl (iSq rfl rfl rfl uT35 (by assumption) tS3 rfl (by rfl)) <| smR 1 rfl <| rV rfl rfl (iSq rfl rfl rfl uT35 hty tS3 rfl (by omega)) <| smR 1 rfl ?_
   refine nR <| wO 12 (by kernel_rfl) <| wI rfl rfl (fun k (h : _) => h) nw (fun _ _ => bSl rfl rfl uT35 tZ3 tS3 rfl rfl rfl rfl (fbk rfl) rfl) <| wO 13 (by kernel_rfl) ?_
   refine wI rfl rfl (fun k (h : _) => h) (nOl rfl) (fun _ _ => aPp rfl rfl rfl rfl (by (simp; omega)) (by simp) uT35 tB3 (by decide) (by simp [chunks]) (by (simp [chunks, PV.one]; rfl)) (by simp [maxLen, chunks]; omega) (by simp [chunks]; omega)) ?_
   refine wR 0 [14] (by kernel_rfl) (fun _ _ _ h => h) <| smR 1 rfl <| nR <| wDn (by kernel_rfl) <| tG <| sm 1 rfl <| cV rfl (oB rfl rfl (i64_add rfl (by omega))) <| sm 1 rfl <| nL ?_
   refine ⟨_, _, ?_, Sub.of (fr' := [(6, iInt (k + 1)), (5, .sl 105 (k + 1)), (0, .ptr 3 0), (1, .pv (ints l))]) ⟨rfl, rfl, rfl, rfl, trivial⟩, (k + 1), (st ++ [f.types.getD x.toNat 0]), ?_, ?_, ?_, rfl, look_row_snoc, rfl⟩
   ·omega
   ·omega
   ·simp [hI1]
   rw [hI2, hd]
   simp [r8ofGo, hin]
  refine tEx <| tQ ?_
  refine Tr.freeze (t := 5) (k := 105) rfl rfl (by simpa using hI1) ?_
  refine tG <| sm 2 rfl <| nL <| tRt <| rOk rfl ?_ (po2 rfl rfl)
  have hge : l.length ≤ k := by simpa using hc10
  rw [hI2, List.drop_eq_nil_of_le hge]
  rfl
def andS (b : Bool) (set : List Bool) (r : Bool × List Bool) : Bool × List Bool := if b then r else (false, set)
def r8call (u : Un) (f : Fl) (set : List Bool) (x : Nd) (seen : List Int) : Bool × List Bool :=
  if decide (r8Place x.name u.flows 0 ≥ 0) = true then
    match u.flows[(r8Place x.name u.flows 0).toNat]? with
    | some g => andS (r8types f.types seen x.args (g.types.take g.params.toNat)) set (r8sets f.types set x.outs [g.ty])
    | none => (false, set)
  else (false, set)
def r8simple (u : Un) (f : Fl) (set : List Bool) (x : Nd) (seen : List Int) (w : Wh) : Bool × List Bool :=
  if x.kind == 1 then andS (r8types f.types seen x.args []) set (r8sets f.types set x.outs [1])
  else if x.kind == 2 then andS ((x.n == 0 || x.n == 1) && r8types f.types seen x.args []) set (r8sets f.types set x.outs [2])
  else if x.kind == 3 then andS (r1IsOne x.op && r8types f.types seen x.args [(r5Operand x.op).1]) set (r8sets f.types set x.outs [(r5Operand x.op).2])
  else if x.kind == 4 then andS (r1IsTwo x.op && r8types f.types seen x.args [(r5Operand x.op).1, (r5Operand x.op).1] && f.types.getD (x.args.getD 0 0).toNat 0 == f.types.getD (x.args.getD 1 0).toNat 0) set (r8sets f.types set x.outs [(r5Operand x.op).2])
  else if x.kind == 5 then andS (decide (r8Array x.name u.arrays 0 ≥ 0) && r8types f.types seen x.args [1]) set (r8sets f.types set x.outs [1])
  else if x.kind == 6 then (decide (r8Array x.name u.arrays 0 ≥ 0) && r8types f.types seen x.args [1, 1] && (x.outs.length : Int) == 0, set)
  else if x.kind == 7 then r8call u f set x seen
  else if x.kind == 8 then andS ((x.args.length : Int) == 0) set (r8sets f.types set x.outs [1])
  else if x.kind == 9 then (r8types f.types seen x.args [1] && (x.outs.length : Int) == 0, set)
  else if x.kind == 12 then (w.If && r8types f.types seen x.args w.Yield && (x.outs.length : Int) == 0, set)
  else if x.kind == 13 then (w.Loop && r8types f.types seen x.args w.Next && (x.outs.length : Int) == 0, set)
  else if x.kind == 14 then (w.Loop && r8types f.types seen x.args w.Left && (x.outs.length : Int) == 0, set)
  else if x.kind == 15 then (r8types f.types seen x.args [f.ty] && (x.outs.length : Int) == 0, set)
  else (false, set)
theorem r8Place_some (name : ByteArray) : ∀ (l : List Fl) (i : Int), r8Place name l i ≠ -1 → i ≥ 0 → i ≤ r8Place name l i ∧ ∃ g, l[(r8Place name l i - i).toNat]? = some g ∧ eqS g.name name = true
  | [], i, h, _ => absurd rfl h
  | g :: r, i, h, h0 => by
    simp only [r8Place] at h ⊢
    split
    ·rename_i hq
     exact ⟨Int.le_refl _, g, by simp, hq⟩
    rename_i hq
    rw [if_neg hq] at h
    obtain ⟨h1, g', h2, h3⟩ := r8Place_some name r (i + 1) h (by omega)
    refine ⟨by omega, g', ?_, h3⟩
    rw [show (r8Place name r (i + 1) - i).toNat = (r8Place name r (i + 1) - (i + 1)).toNat + 1 by omega]
    simpa using h2
theorem r8Place_at {name : ByteArray} {l : List Fl} (h : r8Place name l 0 ≥ 0) : ∃ g, l[(r8Place name l 0).toNat]? = some g ∧ eqS g.name name = true := by
  obtain ⟨_, g, h2, h3⟩ := r8Place_some name l 0 (by omega) (by omega)
  exact ⟨g, by simpa using h2, h3⟩
theorem r8use_range {tys seen : List Int} {v w : Int} (h : r8use tys seen v w = true) : 0 ≤ v ∧ v.toNat < tys.length := by
  simp [r8use] at h
  omega
theorem r8types_two {tys seen l : List Int} {t1 t2 : Int} (h : r8types tys seen l [t1, t2] = true) : ∃ a b, l = [a, b] ∧ 0 ≤ a ∧ a.toNat < tys.length ∧ 0 ≤ b ∧ b.toNat < tys.length := by
  match l with
  | [] => simp [r8types] at h
  | [a] => simp [r8types] at h
  | [a, b] =>
    simp [r8types, r8typesGo] at h
    have h1 := r8use_range h.1
    have h2 := r8use_range h.2
    exact ⟨a, b, rfl, h1.1, h1.2, h2.1, h2.2⟩
  | a :: b :: c :: r => simp [r8types] at h; omega
theorem sc_r8simple (u : Un) (f : Fl) (set : List Bool) (hs : set.length = f.types.length) (hg : ∀ g ∈ u.flows, 0 ≤ g.params ∧ g.params ≤ g.types.length) (x : Nd) (seen : List Int) (wh : Wh) : SC Tryz.prog 96 [.ptr 3 0, .pv (ndv x), .pv (ints seen), .pv (whv wh)] (ckHp u f 4 set) (fun k => k = 3) (iBool (r8simple u f set x seen wh).1) (ckHp u f 4 (r8simple u f set x seen wh).2) := by
  refine SC.of Tryz.func96 rfl (lb rfl) fun F ρ w => ?_
  refine tQ <| tG <| cE rfl (ok_box rfl rfl) <| cE rfl (ok_box rfl rfl) <| sm 1 rfl <| nL <| tQ <| tG <| cE rfl (bSl rfl rfl uT35 tZ3 tS3 rfl rfl rfl rfl (fbk rfl) rfl) <| cE rfl (bSl rfl rfl uT35 tZ3 tS3 rfl rfl rfl rfl (fbk rfl) rfl) <| sm 2 rfl <| nL ?_
  refine tQ <| tQ <| tG <| sm 2 rfl <| nL <| tBk <| tQ <| tG <| sm 2 rfl <| nL ?_
  refine tC rfl (fun hc20 => ?_) fun hc20 => ?_
  ·refine tQ <| tG <| sm 4 rfl <| cE rfl (ok_call (sc_r8types u f set x.args seen []) ent94 rfl rfl (sSm rfl (sSm rfl (sSm rfl (Subs.cons (fun _ _ _ _ h => sub_nil h) Subs.nil)))) (po2 rfl rfl) rfl (fun _ _ => trivial) rfl rfl) <| sm 1 rfl ?_
   refine wS 27 rfl (fun hb27 => ?_) fun hb27 => ?_
   ·refine sm 4 rfl <| WL.yes rfl rfl rfl rfl rfl rfl (ok_call (sc_r8sets u f set x.outs [1] hs) ent95 rfl rfl (sRf _ _) (po2 rfl rfl) rfl (fun k (h : _) => h) rfl rfl) <| sm 2 rfl <| nL <| tRt ?_
    (have h2 : (r8simple u f set x seen wh).2 = (r8sets f.types set x.outs [1]).2 := (by (try clear hkn hgp); simp_all [r8simple, andS, r8call]; done)
     rw [h2]
     refine rOk rfl ?_ (po2 rfl rfl)
     clear h2
     try (clear hkn hgp)
     simp_all [r8simple, andS, r8call]
     done)
   refine sm 7 rfl <| nL <| tRt ?_
   (have h2 : (r8simple u f set x seen wh).2 = set := (by (try clear hkn hgp); simp_all [r8simple, andS, r8call]; done)
    rw [h2]
    refine rOk rfl ?_ (po2 rfl rfl)
    clear h2
    try (clear hkn hgp)
    simp_all [r8simple, andS, r8call]
    done)
  refine tQ <| tG <| sm 2 rfl <| nL ?_
  refine tC rfl (fun hc34 => ?_) fun hc34 => ?_
  ·refine tQ <| tG <| sm 4 rfl ?_
   refine wS 39 rfl (fun hb39 => ?_) fun hb39 => ?_
   ·refine sm 9 rfl <| WL.yes rfl rfl rfl rfl rfl rfl (ok_call (sc_r8types u f set x.args seen []) ent94 rfl rfl (sSm rfl (sSm rfl (sSm rfl (Subs.cons (fun _ _ _ _ h => sub_nil h) Subs.nil)))) (po2 rfl rfl) rfl (fun _ _ => trivial) rfl rfl) <| sm 2 rfl ?_
    refine wS 51 rfl (fun hb51 => ?_) fun hb51 => ?_
    ·refine sm 4 rfl <| WL.yes rfl rfl rfl rfl rfl rfl (ok_call (sc_r8sets u f set x.outs [2] hs) ent95 rfl rfl (sRf _ _) (po2 rfl rfl) rfl (fun k (h : _) => h) rfl rfl) <| sm 2 rfl <| nL <| tRt ?_
     (have h2 : (r8simple u f set x seen wh).2 = (r8sets f.types set x.outs [2]).2 := (by (try clear hkn hgp); simp_all [r8simple, andS, r8call]; done)
      rw [h2]
      refine rOk rfl ?_ (po2 rfl rfl)
      clear h2
      try (clear hkn hgp)
      simp_all [r8simple, andS, r8call]
      done)
    refine sm 7 rfl <| nL <| tRt ?_
    (have h2 : (r8simple u f set x seen wh).2 = set := (by (try clear hkn hgp); simp_all [r8simple, andS, r8call]; done)
     rw [h2]
     refine rOk rfl ?_ (po2 rfl rfl)
     clear h2
     try (clear hkn hgp)
     simp_all [r8simple, andS, r8call]
     done)
   refine sm 5 rfl ?_
   refine wS 44 rfl (fun hb44 => ?_) fun hb44 => ?_
   ·refine sm 4 rfl <| WL.yes rfl rfl rfl rfl rfl rfl (ok_call (sc_r8types u f set x.args seen []) ent94 rfl rfl (sSm rfl (sSm rfl (sSm rfl (Subs.cons (fun _ _ _ _ h => sub_nil h) Subs.nil)))) (po2 rfl rfl) rfl (fun _ _ => trivial) rfl rfl) <| sm 2 rfl ?_
    refine wS 51 rfl (fun hb51 => ?_) fun hb51 => ?_
    ·refine sm 4 rfl <| WL.yes rfl rfl rfl rfl rfl rfl (ok_call (sc_r8sets u f set x.outs [2] hs) ent95 rfl rfl (sRf _ _) (po2 rfl rfl) rfl (fun k (h : _) => h) rfl rfl) <| sm 2 rfl <| nL <| tRt ?_
     (have h2 : (r8simple u f set x seen wh).2 = (r8sets f.types set x.outs [2]).2 := (by (try clear hkn hgp); simp_all [r8simple, andS, r8call]; done)
      rw [h2]
      refine rOk rfl ?_ (po2 rfl rfl)
      clear h2
      try (clear hkn hgp)
      simp_all [r8simple, andS, r8call]
      done)
    refine sm 7 rfl <| nL <| tRt ?_
    (have h2 : (r8simple u f set x seen wh).2 = set := (by (try clear hkn hgp); simp_all [r8simple, andS, r8call]; done)
     rw [h2]
     refine rOk rfl ?_ (po2 rfl rfl)
     clear h2
     try (clear hkn hgp)
     simp_all [r8simple, andS, r8call]
     done)
   refine sm 14 rfl <| nL <| tRt ?_
   (have h2 : (r8simple u f set x seen wh).2 = set := (by (try clear hkn hgp); simp_all [r8simple, andS, r8call]; done)
    rw [h2]
    refine rOk rfl ?_ (po2 rfl rfl)
    clear h2
    try (clear hkn hgp)
    simp_all [r8simple, andS, r8call]
    done)
  refine tQ <| tG <| sm 2 rfl <| nL ?_
  refine tC rfl (fun hc58 => ?_) fun hc58 => ?_
  ·refine tQ <| tG <| sm 2 rfl <| cE rfl (ocq (sc_r5Operand _) ent108 rfl rfl) <| sm 1 rfl <| cV rfl (ok_extract rfl rfl rfl) <| cV rfl (ok_extract rfl rfl rfl) <| sm 2 rfl <| nL <| tQ <| tG <| sm 2 rfl ?_
   refine cE rfl (ocq (sc_r1IsOne _) ent109 rfl rfl) <| sm 1 rfl ?_
   refine wS 69 rfl (fun hb69 => ?_) fun hb69 => ?_
   ·refine sm 5 rfl <| WL.yes rfl rfl rfl rfl rfl rfl (bSl rfl rfl uT35 tZ3 tS3 rfl rfl rfl rfl (fbk rfl) rfl) <| WL.yes rfl rfl rfl rfl rfl rfl (ok_call (sc_r8types u f set x.args seen [(r5Operand x.op).1]) ent94 rfl rfl (sRf _ _) (po2 rfl rfl) rfl (fun _ _ => trivial) rfl rfl) <| sm 2 rfl ?_
    refine wS 78 rfl (fun hb78 => ?_) fun hb78 => ?_
    ·refine sm 4 rfl <| WL.yes rfl rfl rfl rfl rfl rfl (bSl rfl rfl uT35 tZ3 tS3 rfl rfl rfl rfl (fbk rfl) rfl) <| WL.yes rfl rfl rfl rfl rfl rfl (ok_call (sc_r8sets u f set x.outs [(r5Operand x.op).2] hs) ent95 rfl rfl (sRf _ _) (po2 rfl rfl) rfl (fun k (h : _) => h) rfl rfl) <| sm 2 rfl <| nL <| tRt ?_
     (have h2 : (r8simple u f set x seen wh).2 = (r8sets f.types set x.outs [(r5Operand x.op).2]).2 := (by (try clear hkn hgp); simp_all [r8simple, andS, r8call]; done)
      rw [h2]
      refine rOk rfl ?_ (po2 rfl rfl)
      clear h2
      try (clear hkn hgp)
      simp_all [r8simple, andS, r8call]
      done)
    refine sm 8 rfl <| nL <| tRt ?_
    (have h2 : (r8simple u f set x seen wh).2 = set := (by (try clear hkn hgp); simp_all [r8simple, andS, r8call]; done)
     rw [h2]
     refine rOk rfl ?_ (po2 rfl rfl)
     clear h2
     try (clear hkn hgp)
     simp_all [r8simple, andS, r8call]
     done)
   refine sm 17 rfl <| nL <| tRt ?_
   (have h2 : (r8simple u f set x seen wh).2 = set := (by (try clear hkn hgp); simp_all [r8simple, andS, r8call]; done)
    rw [h2]
    refine rOk rfl ?_ (po2 rfl rfl)
    clear h2
    try (clear hkn hgp)
    simp_all [r8simple, andS, r8call]
    done)
  refine tQ <| tG <| sm 2 rfl <| nL ?_
  refine tC rfl (fun hc86 => ?_) fun hc86 => ?_
  ·refine tQ <| tG <| sm 2 rfl <| cE rfl (ocq (sc_r5Operand _) ent108 rfl rfl) <| sm 1 rfl <| cV rfl (ok_extract rfl rfl rfl) <| cV rfl (ok_extract rfl rfl rfl) <| sm 2 rfl <| nL <| tQ <| tDr mixed (fun k => k ∈ ([3] : List Nat)) <| wR 45 [0, 1] (by kernel_rfl) (fun _ _ _ h => h) ?_
   refine smR 2 rfl <| nR <| wO 2 (by kernel_rfl) <| wI rfl rfl (fun k (h : _) => by (simp at h ⊢; omega)) nw (fun _ _ => ocq (sc_r1IsTwo _) ent110 rfl rfl) <| wR 37 [3, 4, 5, 6, 7, 8, 9] (by kernel_rfl) (fun _ _ _ h => h) <| smR 1 rfl ?_
   refine WR.split (t := 97) rfl (fun hb97 => ?_) (fun hb97 => ?_)
   ·refine smR 6 rfl <| nR <| wO 10 (by kernel_rfl) <| wY rfl rfl rfl (fun k (h : _) => by (simp at h ⊢; omega)) nw (fun _ _ => bSl rfl rfl uT35 tZ3 tS3 rfl rfl rfl rfl (fbk rfl) rfl) <| wO 11 (by kernel_rfl) <| wY rfl rfl rfl (fun k (h : _) => by (simp at h ⊢; omega)) (nAp rfl) (fun _ _ => ok_call (sc_r8types u f set x.args seen [(r5Operand x.op).1, (r5Operand x.op).1]) ent94 rfl rfl (sRf _ _) (po2 rfl rfl) rfl (fun _ _ => trivial) rfl rfl) <| wR 4 [12, 13, 14, 15, 16, 17, 18, 19, 20, 21, 22, 23, 24, 25, 26, 27, 28, 29, 30, 31, 32, 33, 34, 35, 36, 37, 38, 39, 40, 41, 42] (by kernel_rfl) (fun _ _ _ h => h) <| smR 2 rfl ?_
    refine WR.split (t := 107) rfl (fun hb107 => ?_) (fun hb107 => ?_)
    ·obtain ⟨a, b, hab, ha0, hal, hb0, hbl⟩ := r8types_two (by simpa using hb107)
     have hi0 : (x.args.map eInt)[0]? = some [vInt a] := by rw [hab]; rfl
     have hi1 : (x.args.map eInt)[1]? = some [vInt b] := by rw [hab]; rfl
     have hta : (f.types.map eInt)[a.toNat]? = some [vInt (f.types.getD a.toNat 0)] := by rw [List.getElem?_map]; simp [eInt, List.getD, hal]
     have htb : (f.types.map eInt)[b.toNat]? = some [vInt (f.types.getD b.toNat 0)] := by rw [List.getElem?_map]; simp [eInt, List.getD, hbl]
     refine smR 1 rfl <| ryV rfl rfl rfl (nCk rfl rfl rfl) <| smR 2 rfl <| ryV rfl rfl rfl (oLb uT35 rfl rfl rfl (by decide)) <| smR 2 rfl <| ryV rfl rfl rfl (iSq rfl rfl rfl uT35 hi0 tS3 rfl (by rfl)) <| smR 1 rfl <| ryV rfl rfl rfl (iSq rfl rfl rfl uT35 hta tS3 rfl (by omega)) <| smR 2 rfl <| ryV rfl rfl rfl (nCk rfl rfl rfl) <| smR 2 rfl <| ryV rfl rfl rfl (oLb uT35 rfl rfl rfl (by decide)) ?_
     refine smR 2 rfl <| ryV rfl rfl rfl (iSq rfl rfl rfl uT35 hi1 tS3 rfl (by rfl)) <| smR 1 rfl <| ryV rfl rfl rfl (iSq rfl rfl rfl uT35 htb tS3 rfl (by omega)) <| smR 4 rfl ?_
     refine WR.split (t := 132) rfl (fun hb132 => ?_) (fun hb132 => ?_)
     ·refine smR 4 rfl <| nR <| wO 43 (by kernel_rfl) <| wY rfl rfl rfl (fun k (h : _) => by (simp at h ⊢; omega)) nw (fun _ _ => bSl rfl rfl uT35 tZ3 tS3 rfl rfl rfl rfl (fbk rfl) rfl) <| wO 44 (by kernel_rfl) <| wY rfl rfl rfl (fun k (h : _) => by (simp at h ⊢; omega)) (nAp rfl) (fun _ _ => ok_call (sc_r8sets u f set x.outs [(r5Operand x.op).2] hs) ent95 rfl rfl (sRf _ _) (po2 rfl rfl) rfl (fun k (h : _) => by (simpa using h)) rfl rfl) <| wR 0 [45, 46] (by kernel_rfl) (fun _ _ _ h => h) <| smR 2 rfl <| nR <| wDn (by kernel_rfl) <| tRt ?_
      (have h2 : (r8simple u f set x seen wh).2 = (r8sets f.types set x.outs [(r5Operand x.op).2]).2 := (by (try clear hkn hgp); simp_all [r8simple, andS, r8call]; done)
       rw [h2]
       refine rOk rfl ?_ (po2 rfl rfl)
       clear h2
       try (clear hkn hgp)
       simp_all [r8simple, andS, r8call]
       done)
     refine smR 4 rfl <| nR <| wN 43 (by kernel_rfl) (fun _ _ _ h => h) rfl rfl rfl <| wN 44 (by kernel_rfl) (fun _ _ _ h => h) rfl rfl rfl <| wR 0 [45, 46] (by kernel_rfl) (fun _ _ _ h => h) <| smR 2 rfl <| nR <| wDn (by kernel_rfl) <| tRt ?_
     (have h2 : (r8simple u f set x seen wh).2 = set := (by (try clear hkn hgp); simp_all [r8simple, andS, r8call]; done)
      rw [h2]
      refine rOk rfl ?_ (po2 rfl rfl)
      clear h2
      try (clear hkn hgp)
      simp_all [r8simple, andS, r8call]
      done)
    refine smR 29 rfl <| nR <| wN 43 (by kernel_rfl) (fun _ _ _ h => h) rfl rfl rfl <| wN 44 (by kernel_rfl) (fun _ _ _ h => h) rfl rfl rfl <| wR 0 [45, 46] (by kernel_rfl) (fun _ _ _ h => h) <| smR 2 rfl <| nR <| wDn (by kernel_rfl) <| tRt ?_
    (have h2 : (r8simple u f set x seen wh).2 = set := (by (try clear hkn hgp); simp_all [r8simple, andS, r8call]; done)
     rw [h2]
     refine rOk rfl ?_ (po2 rfl rfl)
     clear h2
     try (clear hkn hgp)
     simp_all [r8simple, andS, r8call]
     done)
   refine smR 6 rfl <| nR <| wN 10 (by kernel_rfl) (fun _ _ _ h => h) rfl rfl rfl <| wN 11 (by kernel_rfl) (fun _ _ _ h => h) rfl rfl rfl <| wR 4 [12, 13, 14, 15, 16, 17, 18, 19, 20, 21, 22, 23, 24, 25, 26, 27, 28, 29, 30, 31, 32, 33, 34, 35, 36, 37, 38, 39, 40, 41, 42] (by kernel_rfl) (fun _ _ _ h => h) <| smR 31 rfl <| nR <| wN 43 (by kernel_rfl) (fun _ _ _ h => h) rfl rfl rfl <| wN 44 (by kernel_rfl) (fun _ _ _ h => h) rfl rfl rfl <| wR 0 [45, 46] (by kernel_rfl) (fun _ _ _ h => h) <| smR 2 rfl <| nR ?_
   refine wDn (by kernel_rfl) <| tRt ?_
   (have h2 : (r8simple u f set x seen wh).2 = set := (by (try clear hkn hgp); simp_all [r8simple, andS, r8call]; done)
    rw [h2]
    refine rOk rfl ?_ (po2 rfl rfl)
    clear h2
    try (clear hkn hgp)
    simp_all [r8simple, andS, r8call]
    done)
  refine tQ <| tG <| sm 2 rfl <| nL ?_
  refine tC rfl (fun hc140 => ?_) fun hc140 => ?_
  ·refine tQ <| tDr mixed (fun k => k ∈ ([3] : List Nat)) <| wR 18 [0, 1, 2, 3, 4, 5] (by kernel_rfl) (fun _ _ _ h => h) <| smR 1 rfl <| rV rfl rfl (nCk rfl rfl rfl) <| smR 1 rfl <| rV rfl rfl (lBP rfl rfl rfl uT25 rfl tS25 (lb rfl) rfl (by decide)) <| smR 2 rfl <| nR <| wO 6 (by kernel_rfl) <| wI rfl rfl (fun k (h : _) => by (simp at h ⊢; omega)) nw (fun _ _ => ocq (sc_r8Array _ _) ent47 rfl rfl) <| wR 10 [7, 8, 9, 10, 11, 12, 13] (by kernel_rfl) (fun _ _ _ h => h) ?_
   refine smR 2 rfl ?_
   refine WR.split (t := 150) rfl (fun hb150 => ?_) (fun hb150 => ?_)
   ·refine smR 5 rfl <| nR <| wO 14 (by kernel_rfl) <| wY rfl rfl rfl (fun k (h : _) => by (simp at h ⊢; omega)) (nAp rfl) (fun _ _ => ok_call (sc_r8types u f set x.args seen [1]) ent94 rfl rfl (sRf _ _) (po2 rfl rfl) rfl (fun _ _ => trivial) rfl rfl) <| wR 3 [15, 16, 17, 18, 19, 20] (by kernel_rfl) (fun _ _ _ h => h) <| smR 2 rfl ?_
    refine WR.split (t := 158) rfl (fun hb158 => ?_) (fun hb158 => ?_)
    ·refine smR 4 rfl <| nR <| wO 21 (by kernel_rfl) <| wY rfl rfl rfl (fun k (h : _) => by (simp at h ⊢; omega)) (nAp rfl) (fun _ _ => ok_call (sc_r8sets u f set x.outs [1] hs) ent95 rfl rfl (sRf _ _) (po2 rfl rfl) rfl (fun k (h : _) => by (simpa using h)) rfl rfl) <| wR 0 [22, 23] (by kernel_rfl) (fun _ _ _ h => h) <| smR 2 rfl <| nR <| wDn (by kernel_rfl) <| tRt ?_
     (have h2 : (r8simple u f set x seen wh).2 = (r8sets f.types set x.outs [1]).2 := (by (try clear hkn hgp); simp_all [r8simple, andS, r8call]; done)
      rw [h2]
      refine rOk rfl ?_ (po2 rfl rfl)
      clear h2
      try (clear hkn hgp)
      simp_all [r8simple, andS, r8call]
      done)
    refine smR 4 rfl <| nR <| wN 21 (by kernel_rfl) (fun _ _ _ h => h) rfl rfl rfl <| wR 0 [22, 23] (by kernel_rfl) (fun _ _ _ h => h) <| smR 2 rfl <| nR <| wDn (by kernel_rfl) <| tRt ?_
    (have h2 : (r8simple u f set x seen wh).2 = set := (by (try clear hkn hgp); simp_all [r8simple, andS, r8call]; done)
     rw [h2]
     refine rOk rfl ?_ (po2 rfl rfl)
     clear h2
     try (clear hkn hgp)
     simp_all [r8simple, andS, r8call]
     done)
   refine smR 5 rfl <| nR <| wN 14 (by kernel_rfl) (fun _ _ _ h => h) rfl rfl rfl <| wR 3 [15, 16, 17, 18, 19, 20] (by kernel_rfl) (fun _ _ _ h => h) <| smR 6 rfl <| nR <| wN 21 (by kernel_rfl) (fun _ _ _ h => h) rfl rfl rfl <| wR 0 [22, 23] (by kernel_rfl) (fun _ _ _ h => h) <| smR 2 rfl <| nR <| wDn (by kernel_rfl) <| tRt ?_
   (have h2 : r8simple u f set x seen wh = (false, set) := (by unfold r8simple r8call andS; simp only [*]; simp)
    rw [h2]
    exact rOk rfl rfl (po2 rfl rfl))
  refine tQ <| tG <| sm 2 rfl <| nL ?_
  refine tC rfl (fun hc165 => ?_) fun hc165 => ?_
  ·refine tQ <| tDr mixed (fun k => k ∈ ([3] : List Nat)) <| wR 17 [0, 1, 2, 3, 4, 5] (by kernel_rfl) (fun _ _ _ h => h) <| smR 1 rfl <| rV rfl rfl (nCk rfl rfl rfl) <| smR 1 rfl <| rV rfl rfl (lBP rfl rfl rfl uT25 rfl tS25 (lb rfl) rfl (by decide)) <| smR 2 rfl <| nR <| wO 6 (by kernel_rfl) <| wI rfl rfl (fun k (h : _) => by (simp at h ⊢; omega)) nw (fun _ _ => ocq (sc_r8Array _ _) ent47 rfl rfl) <| wR 10 [7, 8, 9, 10, 11, 12] (by kernel_rfl) (fun _ _ _ h => h) ?_
   refine smR 2 rfl ?_
   refine WR.split (t := 175) rfl (fun hb175 => ?_) (fun hb175 => ?_)
   ·refine smR 4 rfl <| nR <| wO 13 (by kernel_rfl) <| wY rfl rfl rfl (fun k (h : _) => by (simp at h ⊢; omega)) nw (fun _ _ => bSl rfl rfl uT35 tZ3 tS3 rfl rfl rfl rfl (fbk rfl) rfl) <| wO 14 (by kernel_rfl) <| wY rfl rfl rfl (fun k (h : _) => by (simp at h ⊢; omega)) (nAp rfl) (fun _ _ => ok_call (sc_r8types u f set x.args seen [1, 1]) ent94 rfl rfl (sRf _ _) (po2 rfl rfl) rfl (fun _ _ => trivial) rfl rfl) <| wR 0 [15, 16, 17, 18, 19, 20, 21, 22] (by kernel_rfl) (fun _ _ _ h => h) <| smR 2 rfl ?_
    refine WR.split (t := 183) rfl (fun hb183 => ?_) (fun hb183 => ?_)
    ·refine smR 2 rfl <| ryV rfl rfl rfl (oSm uT35 rfl) <| smR 3 rfl <| nR <| wDn (by kernel_rfl) <| tRt ?_
     (have h2 : (r8simple u f set x seen wh).2 = set := (by (try clear hkn hgp); simp_all [r8simple, andS, r8call]; done)
      rw [h2]
      refine rOk rfl ?_ (po2 rfl rfl)
      clear h2
      try (clear hkn hgp)
      simp_all [r8simple, andS, r8call]
      done)
    refine smR 6 rfl <| nR <| wDn (by kernel_rfl) <| tRt ?_
    (have h2 : (r8simple u f set x seen wh).2 = set := (by (try clear hkn hgp); simp_all [r8simple, andS, r8call]; done)
     rw [h2]
     refine rOk rfl ?_ (po2 rfl rfl)
     clear h2
     try (clear hkn hgp)
     simp_all [r8simple, andS, r8call]
     done)
   refine smR 4 rfl <| nR <| wN 13 (by kernel_rfl) (fun _ _ _ h => h) rfl rfl rfl <| wN 14 (by kernel_rfl) (fun _ _ _ h => h) rfl rfl rfl <| wR 0 [15, 16, 17, 18, 19, 20, 21, 22] (by kernel_rfl) (fun _ _ _ h => h) <| smR 8 rfl <| nR <| wDn (by kernel_rfl) <| tRt ?_
   (have h2 : r8simple u f set x seen wh = (false, set) := (by unfold r8simple r8call andS; simp only [*]; simp)
    rw [h2]
    exact rOk rfl rfl (po2 rfl rfl))
  refine tQ <| tG <| sm 2 rfl <| nL ?_
  refine tC rfl (fun hc189 => ?_) fun hc189 => ?_
  ·refine tQ <| tDr mixed (fun k => k ∈ ([3] : List Nat)) <| wR 2 [0, 1, 2, 3, 4, 5] (by kernel_rfl) (fun _ _ _ h => h) <| smR 1 rfl <| rV rfl rfl (nCk rfl rfl rfl) <| smR 1 rfl <| rV rfl rfl (lBP rfl rfl rfl uT25 rfl tS25 (lb rfl) rfl (by decide)) <| smR 2 rfl <| nR <| wO 6 (by kernel_rfl) <| wI rfl rfl (fun k (h : _) => by (simp at h ⊢; omega)) nw (fun _ _ => ocq (sc_r8Place _ _) ent30 rfl rfl) <| wR 0 [7] (by kernel_rfl) (fun _ _ _ h => h) ?_
   refine smR 1 rfl <| nR <| wDn (by kernel_rfl) <| tQ <| tDr mixed (fun k => k ∈ ([3] : List Nat)) <| wR 19 [0, 1, 2, 3, 4, 5, 6, 7, 8, 9, 10, 11, 12, 13, 14, 15, 16, 17, 18, 19, 20, 21, 22, 23, 24, 25] (by kernel_rfl) (fun _ _ _ h => h) <| smR 3 rfl ?_
   refine WR.split (t := 200) rfl (fun hb200 => ?_) (fun hb200 => ?_)
   ·have hk0 : r8Place x.name u.flows 0 ≥ 0 := by simpa using hb200
    obtain ⟨g, hgk, _⟩ := r8Place_at hk0
    obtain ⟨hgp0, hgpl⟩ := hg g (List.mem_of_getElem? hgk)
    have hgp : g.params = (g.params.toNat : Int) := by omega
    have hgi : (u.flows.map Fl.enc)[(r8Place x.name u.flows 0).toNat]? = some (Fl.enc g) := by rw [List.getElem?_map, hgk]; rfl
    have hkn : r8Place x.name u.flows 0 = ((r8Place x.name u.flows 0).toNat : Int) := by omega
    refine smR 5 rfl <| ryV rfl rfl rfl (nCk rfl rfl rfl) <| smR 2 rfl <| ryV rfl rfl rfl (oLb uT23 rfl rfl rfl (by decide)) <| smR 1 rfl <| ryV rfl rfl rfl (iSq rfl rfl rfl uT23 hgi tS51 rfl (by omega)) <| smR 3 rfl <| ryV rfl rfl rfl (nCk rfl rfl rfl) <| smR 2 rfl <| ryV rfl rfl rfl (oLb uT23 rfl rfl rfl (by decide)) <| smR 1 rfl <| ryV rfl rfl rfl (iSq rfl rfl rfl uT23 hgi tS51 rfl (by omega)) ?_
    refine smR 2 rfl ?_
    refine ryV rfl rfl rfl (ok_slice_seq (j := g.params.toNat) rfl rfl uT35 tS3 (.inl ⟨rfl, rfl⟩) (.inr ⟨_, _, rfl, congrArg (fun z => some (IV.pv (.val (.int .i64 z)))) hgp⟩) (Nat.zero_le _) (by simp; omega) (by simp [eInt])) ?_
    refine nR <| wO 26 (by kernel_rfl) ?_
    refine wY rfl rfl rfl (fun k (h : _) => by (simp at h ⊢; omega)) (nAp rfl) (fun _ _ => ok_call (sc_r8types u f set x.args seen (g.types.take g.params.toNat)) ent94 rfl rfl (sSm rfl (sSm rfl (sSm rfl (sSm (by simp [ints, List.map_take]) Subs.nil)))) (po2 rfl rfl) rfl (fun _ _ => trivial) rfl rfl) ?_
    refine wR 4 [27, 28, 29, 30, 31, 32, 33, 34, 35, 36, 37, 38, 39, 40] (by kernel_rfl) (fun _ _ _ h => h) <| smR 2 rfl ?_
    refine WR.split (t := 226) rfl (fun hb226 => ?_) (fun hb226 => ?_)
    ·refine smR 4 rfl <| ryV rfl rfl rfl (nCk rfl rfl rfl) <| smR 2 rfl <| ryV rfl rfl rfl (oLb uT23 rfl rfl rfl (by decide)) <| smR 1 rfl <| ryV rfl rfl rfl (iSq rfl rfl rfl uT23 hgi tS51 rfl (by omega)) <| smR 2 rfl <| nR <| wO 41 (by kernel_rfl) <| wY rfl rfl rfl (fun k (h : _) => by (simp at h ⊢; omega)) nw (fun _ _ => bSl rfl rfl uT35 tZ3 tS3 rfl rfl rfl rfl (fbk rfl) rfl) <| wO 42 (by kernel_rfl) <| wY rfl rfl rfl (fun k (h : _) => by (simp at h ⊢; omega)) (nAp rfl) (fun _ _ => ok_call (sc_r8sets u f set x.outs [g.ty] hs) ent95 rfl rfl (sRf _ _) (po2 rfl rfl) rfl (fun k (h : _) => by (simpa using h)) rfl rfl) ?_
     refine wR 0 [43, 44] (by kernel_rfl) (fun _ _ _ h => h) <| smR 2 rfl <| nR <| wDn (by kernel_rfl) <| tRt ?_
     (have h2 : (r8simple u f set x seen wh).2 = (r8sets f.types set x.outs [g.ty]).2 := (by (try clear hkn hgp); simp_all [r8simple, andS, r8call]; done)
      rw [h2]
      refine rOk rfl ?_ (po2 rfl rfl)
      clear h2
      try (clear hkn hgp)
      simp_all [r8simple, andS, r8call]
      done)
    refine smR 12 rfl <| nR <| wN 41 (by kernel_rfl) (fun _ _ _ h => h) rfl rfl rfl <| wN 42 (by kernel_rfl) (fun _ _ _ h => h) rfl rfl rfl <| wR 0 [43, 44] (by kernel_rfl) (fun _ _ _ h => h) <| smR 2 rfl <| nR <| wDn (by kernel_rfl) <| tRt ?_
    (have h2 : (r8simple u f set x seen wh).2 = set := (by (try clear hkn hgp); simp_all [r8simple, andS, r8call]; done)
     rw [h2]
     refine rOk rfl ?_ (po2 rfl rfl)
     clear h2
     try (clear hkn hgp)
     simp_all [r8simple, andS, r8call]
     done)
   refine smR 23 rfl <| nR <| wN 26 (by kernel_rfl) (fun _ _ _ h => h) rfl rfl rfl <| wR 4 [27, 28, 29, 30, 31, 32, 33, 34, 35, 36, 37, 38, 39, 40] (by kernel_rfl) (fun _ _ _ h => h) <| smR 14 rfl <| nR <| wN 41 (by kernel_rfl) (fun _ _ _ h => h) rfl rfl rfl <| wN 42 (by kernel_rfl) (fun _ _ _ h => h) rfl rfl rfl <| wR 0 [43, 44] (by kernel_rfl) (fun _ _ _ h => h) <| smR 2 rfl <| nR <| wDn (by kernel_rfl) ?_
   refine tRt ?_
   (have h2 : r8simple u f set x seen wh = (false, set) := (by unfold r8simple r8call andS; simp only [*]; simp)
    rw [h2]
    exact rOk rfl rfl (po2 rfl rfl))
  refine tQ <| tG <| sm 2 rfl <| nL ?_
  refine tC rfl (fun hc242 => ?_) fun hc242 => ?_
  ·refine tQ <| tG <| sm 2 rfl <| cV rfl (oSm uT35 rfl) <| sm 2 rfl ?_
   refine wS 248 rfl (fun hb248 => ?_) fun hb248 => ?_
   ·refine sm 4 rfl <| WL.yes rfl rfl rfl rfl rfl rfl (ok_call (sc_r8sets u f set x.outs [1] hs) ent95 rfl rfl (sRf _ _) (po2 rfl rfl) rfl (fun k (h : _) => h) rfl rfl) <| sm 2 rfl <| nL <| tRt ?_
    (have h2 : (r8simple u f set x seen wh).2 = (r8sets f.types set x.outs [1]).2 := (by (try clear hkn hgp); simp_all [r8simple, andS, r8call]; done)
     rw [h2]
     refine rOk rfl ?_ (po2 rfl rfl)
     clear h2
     try (clear hkn hgp)
     simp_all [r8simple, andS, r8call]
     done)
   refine sm 7 rfl <| nL <| tRt ?_
   (have h2 : (r8simple u f set x seen wh).2 = set := (by (try clear hkn hgp); simp_all [r8simple, andS, r8call]; done)
    rw [h2]
    refine rOk rfl ?_ (po2 rfl rfl)
    clear h2
    try (clear hkn hgp)
    simp_all [r8simple, andS, r8call]
    done)
  refine tQ <| tG <| sm 2 rfl <| nL ?_
  refine tC rfl (fun hc255 => ?_) fun hc255 => ?_
  ·refine tQ <| tG <| sm 5 rfl <| cE rfl (ok_call (sc_r8types u f set x.args seen [1]) ent94 rfl rfl (sRf _ _) (po2 rfl rfl) rfl (fun _ _ => trivial) rfl rfl) <| sm 1 rfl ?_
   refine wS 263 rfl (fun hb263 => ?_) fun hb263 => ?_
   ·refine sm 2 rfl <| yV rfl rfl (oSm uT35 rfl) <| sm 3 rfl <| nL <| tRt ?_
    (have h2 : (r8simple u f set x seen wh).2 = set := (by (try clear hkn hgp); simp_all [r8simple, andS, r8call]; done)
     rw [h2]
     refine rOk rfl ?_ (po2 rfl rfl)
     clear h2
     try (clear hkn hgp)
     simp_all [r8simple, andS, r8call]
     done)
   refine sm 6 rfl <| nL <| tRt ?_
   (have h2 : (r8simple u f set x seen wh).2 = set := (by (try clear hkn hgp); simp_all [r8simple, andS, r8call]; done)
    rw [h2]
    refine rOk rfl ?_ (po2 rfl rfl)
    clear h2
    try (clear hkn hgp)
    simp_all [r8simple, andS, r8call]
    done)
  refine tQ <| tG <| sm 2 rfl <| nL ?_
  refine tC rfl (fun hc269 => ?_) fun hc269 => ?_
  ·refine tQ <| tG <| sm 3 rfl ?_
   refine wS 273 rfl (fun hb273 => ?_) fun hb273 => ?_
   ·refine sm 6 rfl <| WL.yes rfl rfl rfl rfl rfl rfl (ok_call (sc_r8types u f set x.args seen wh.Yield) ent94 rfl rfl (sRf _ _) (po2 rfl rfl) rfl (fun _ _ => trivial) rfl rfl) <| sm 2 rfl ?_
    refine wS 282 rfl (fun hb282 => ?_) fun hb282 => ?_
    ·refine sm 2 rfl <| yV rfl rfl (oSm uT35 rfl) <| sm 3 rfl <| nL <| tRt ?_
     (have h2 : (r8simple u f set x seen wh).2 = set := (by (try clear hkn hgp); simp_all [r8simple, andS, r8call]; done)
      rw [h2]
      refine rOk rfl ?_ (po2 rfl rfl)
      clear h2
      try (clear hkn hgp)
      simp_all [r8simple, andS, r8call]
      done)
    refine sm 6 rfl <| nL <| tRt ?_
    (have h2 : (r8simple u f set x seen wh).2 = set := (by (try clear hkn hgp); simp_all [r8simple, andS, r8call]; done)
     rw [h2]
     refine rOk rfl ?_ (po2 rfl rfl)
     clear h2
     try (clear hkn hgp)
     simp_all [r8simple, andS, r8call]
     done)
   refine sm 15 rfl <| nL <| tRt ?_
   (have h2 : (r8simple u f set x seen wh).2 = set := (by (try clear hkn hgp); simp_all [r8simple, andS, r8call]; done)
    rw [h2]
    refine rOk rfl ?_ (po2 rfl rfl)
    clear h2
    try (clear hkn hgp)
    simp_all [r8simple, andS, r8call]
    done)
  refine tQ <| tG <| sm 2 rfl <| nL ?_
  refine tC rfl (fun hc288 => ?_) fun hc288 => ?_
  ·refine tQ <| tG <| sm 3 rfl ?_
   refine wS 292 rfl (fun hb292 => ?_) fun hb292 => ?_
   ·refine sm 6 rfl <| WL.yes rfl rfl rfl rfl rfl rfl (ok_call (sc_r8types u f set x.args seen wh.Next) ent94 rfl rfl (sRf _ _) (po2 rfl rfl) rfl (fun _ _ => trivial) rfl rfl) <| sm 2 rfl ?_
    refine wS 301 rfl (fun hb301 => ?_) fun hb301 => ?_
    ·refine sm 2 rfl <| yV rfl rfl (oSm uT35 rfl) <| sm 3 rfl <| nL <| tRt ?_
     (have h2 : (r8simple u f set x seen wh).2 = set := (by (try clear hkn hgp); simp_all [r8simple, andS, r8call]; done)
      rw [h2]
      refine rOk rfl ?_ (po2 rfl rfl)
      clear h2
      try (clear hkn hgp)
      simp_all [r8simple, andS, r8call]
      done)
    refine sm 6 rfl <| nL <| tRt ?_
    (have h2 : (r8simple u f set x seen wh).2 = set := (by (try clear hkn hgp); simp_all [r8simple, andS, r8call]; done)
     rw [h2]
     refine rOk rfl ?_ (po2 rfl rfl)
     clear h2
     try (clear hkn hgp)
     simp_all [r8simple, andS, r8call]
     done)
   refine sm 15 rfl <| nL <| tRt ?_
   (have h2 : (r8simple u f set x seen wh).2 = set := (by (try clear hkn hgp); simp_all [r8simple, andS, r8call]; done)
    rw [h2]
    refine rOk rfl ?_ (po2 rfl rfl)
    clear h2
    try (clear hkn hgp)
    simp_all [r8simple, andS, r8call]
    done)
  refine tQ <| tG <| sm 2 rfl <| nL ?_
  refine tC rfl (fun hc307 => ?_) fun hc307 => ?_
  ·refine tQ <| tG <| sm 3 rfl ?_
   refine wS 311 rfl (fun hb311 => ?_) fun hb311 => ?_
   ·refine sm 6 rfl <| WL.yes rfl rfl rfl rfl rfl rfl (ok_call (sc_r8types u f set x.args seen wh.Left) ent94 rfl rfl (sRf _ _) (po2 rfl rfl) rfl (fun _ _ => trivial) rfl rfl) <| sm 2 rfl ?_
    refine wS 320 rfl (fun hb320 => ?_) fun hb320 => ?_
    ·refine sm 2 rfl <| yV rfl rfl (oSm uT35 rfl) <| sm 3 rfl <| nL <| tRt ?_
     (have h2 : (r8simple u f set x seen wh).2 = set := (by (try clear hkn hgp); simp_all [r8simple, andS, r8call]; done)
      rw [h2]
      refine rOk rfl ?_ (po2 rfl rfl)
      clear h2
      try (clear hkn hgp)
      simp_all [r8simple, andS, r8call]
      done)
    refine sm 6 rfl <| nL <| tRt ?_
    (have h2 : (r8simple u f set x seen wh).2 = set := (by (try clear hkn hgp); simp_all [r8simple, andS, r8call]; done)
     rw [h2]
     refine rOk rfl ?_ (po2 rfl rfl)
     clear h2
     try (clear hkn hgp)
     simp_all [r8simple, andS, r8call]
     done)
   refine sm 15 rfl <| nL <| tRt ?_
   (have h2 : (r8simple u f set x seen wh).2 = set := (by (try clear hkn hgp); simp_all [r8simple, andS, r8call]; done)
    rw [h2]
    refine rOk rfl ?_ (po2 rfl rfl)
    clear h2
    try (clear hkn hgp)
    simp_all [r8simple, andS, r8call]
    done)
  refine tQ <| tG <| sm 2 rfl <| nL ?_
  refine tC rfl (fun hc326 => ?_) fun hc326 => ?_
  ·refine tQ <| tDr mixed (fun k => k ∈ ([3] : List Nat)) <| wR 9 [0, 1, 2, 3, 4, 5, 6, 7, 8] (by kernel_rfl) (fun _ _ _ h => h) <| smR 5 rfl <| rV rfl rfl (nCk rfl rfl rfl) <| smR 2 rfl <| rV rfl rfl (oLb uT3 rfl rfl rfl (by decide)) <| nR <| wO 9 (by kernel_rfl) <| wI rfl rfl (fun k (h : _) => by (simp at h ⊢; omega)) nw (fun _ _ => bSl rfl rfl uT35 tZ3 tS3 rfl rfl rfl rfl (fbk rfl) rfl) <| wO 10 (by kernel_rfl) <| wI rfl rfl (fun k (h : _) => by (simp at h ⊢; omega)) (nAp rfl) (fun _ _ => ok_call (sc_r8types u f set x.args seen [f.ty]) ent94 rfl rfl (sRf _ _) (po2 rfl rfl) rfl (fun _ _ => trivial) rfl rfl) ?_
   refine wR 0 [11, 12, 13, 14, 15, 16, 17] (by kernel_rfl) (fun _ _ _ h => h) <| smR 1 rfl ?_
   refine WR.split (t := 339) rfl (fun hb339 => ?_) (fun hb339 => ?_)
   ·refine smR 2 rfl <| ryV rfl rfl rfl (oSm uT35 rfl) <| smR 3 rfl <| nR <| wDn (by kernel_rfl) <| tRt ?_
    (have h2 : (r8simple u f set x seen wh).2 = set := (by (try clear hkn hgp); simp_all [r8simple, andS, r8call]; done)
     rw [h2]
     refine rOk rfl ?_ (po2 rfl rfl)
     clear h2
     try (clear hkn hgp)
     simp_all [r8simple, andS, r8call]
     done)
   refine smR 6 rfl <| nR <| wDn (by kernel_rfl) <| tRt ?_
   (have h2 : (r8simple u f set x seen wh).2 = set := (by (try clear hkn hgp); simp_all [r8simple, andS, r8call]; done)
    rw [h2]
    refine rOk rfl ?_ (po2 rfl rfl)
    clear h2
    try (clear hkn hgp)
    simp_all [r8simple, andS, r8call]
    done)
  refine tSk <| tQ <| tG <| sm 1 rfl <| nL <| tRt ?_
  (have h2 : (r8simple u f set x seen wh).2 = set := (by (try clear hkn hgp); simp_all [r8simple, andS, r8call]; done)
   rw [h2]
   refine rOk rfl ?_ (po2 rfl rfl)
   clear h2
   try (clear hkn hgp)
   simp_all [r8simple, andS, r8call]
   done)
section
variable {P : Program} {c : Cx} {o : Oper} {fr : Fr}
inductive LendOf (σ : Heap') (Ls : Nat → Prop) : IV → IV → Prop
  | same {x : IV} : LendOf σ Ls x x
  | row {L n : Nat} {s : RT} {els els' : List (List PV)} (hL : Ls L) (hσ : σ L = some (.row s els)) (hn : els.length = n) (he : els = els') : LendOf σ Ls (.sl L n) (.pv (.seq els'))
def lends (σ : Heap') (Ls : Nat → Prop) : List IV → List IV → Prop
  | [], [] => True
  | x :: xs, y :: ys => LendOf σ Ls x y ∧ lends σ Ls xs ys
  | _, _ => False
theorem lends_rep {σ σ' : Heap'} {Ls : Nat → Prop} {F F' : Nat → Prop} {ρ ρ' : Loc} {w : World} : ∀ {xs ys : List IV} {vs : List Value}, lends σ Ls xs ys → RepL F ρ σ w xs vs →
    (∀ x y v, LendOf σ Ls x y → RepI F ρ σ w x v → RepI F' ρ' σ' w y v) → RepL F' ρ' σ' w ys vs
  | [], [], vs, _, h, _ => ⟨h.1, fun j x hj => by simp at hj⟩
  | x :: xs, y :: ys, [], _, h, _ => by have := h.1; simp at this
  | x :: xs, y :: ys, v :: vs, hl, h, hf => by
    have ih := lends_rep (vs := vs) hl.2 ⟨by simpa using h.1, fun j z hj => h.2 (j + 1) z (by simpa using hj)⟩ hf
    refine ⟨by have := ih.1; simp [this], fun j z hj => ?_⟩
    cases j with
    | zero =>
      cases hj
      obtain ⟨u, hu, hr⟩ := h.2 0 x rfl
      exact ⟨u, hu, hf _ _ _ hl.1 hr⟩
    | succ j => exact ih.2 j z (by simpa using hj)
def plainP : PV → Bool
  | .val _ => true
  | _ => false
def plainO : HO → Bool
  | .row _ els => els.all fun el => el.all plainP
  | _ => false
theorem plainP_val {x : PV} (h : plainP x = true) : ∃ v, x = .val v := by cases x <;> first | exact ⟨_, rfl⟩ | cases h
theorem RepO.plain {F F' : Nat → Prop} {ρ ρ' : Loc} {σ σ' : Heap'} {w : World} {b c : Nat} {ob : HO} (h : RepO F ρ σ w b c ob) (hp : plainO ob = true) : RepO F' ρ' σ' w b c ob := by
  cases h with
  | box => cases hp
  | map => cases hp
  | row s els a u h hs hl hm hw hv hr =>
    refine .row s els a u h hs hl hm hw hv fun i el hi j x hj => ?_
    obtain ⟨v, rfl⟩ := plainP_val (List.all_eq_true.1 (List.all_eq_true.1 hp el (List.mem_of_getElem? hi)) x (List.mem_of_getElem? hj))
    have := hr i el hi j _ hj
    generalize u i j = z at this
    cases this
    exact .val v
open Classical in
theorem SC.lend {Ls : Nat → Prop} {xs : List IV} {f : FuncId} {args : List IV} {pre post : List (Nat × HO)} {R : Nat → Prop} {r : IV} {hp : Hp} {ρ : Loc} {w : World} {a : Act} {vs : List Value} (hsc : SC P f args pre R r post)
    (h : All c ρ (look hp) w fr a) (hlend : lends (look hp) Ls xs args) (hLs : ∀ k, Ls k → look (up pre) k = none) (hargs : RepL c.F ρ (look hp) w xs vs) (hpre : ∀ k o, look (up pre) k = some o → look hp k = some o) (hdom : pre.map (·.1) = post.map (·.1))
    (hR : ∀ k, c.R k → look (up pre) k = none ∨ R k) (hr : ∃ z, r = .pv (.val z)) (hpost : ∀ k ob, look (up post) k = some ob → plainO ob = true ∨ (R k ∧ look (up pre) k = some ob)) :
    Calls P f vs.toArray w fun e w' => ∃ ρ' v, e = .returned v ∧ All c ρ' (look (up post ++ hp)) w' fr a ∧ RepI c.F ρ' (look (up post ++ hp)) w' r v := by
  have hd : ∀ k, look (up pre) k = none ↔ look (up post) k = none := fun k => by rw [look_up_none, look_up_none, hdom]
  let ρ1 : Loc := fun k => if look (up pre) k = none then none else ρ k
  let F1 : Nat → Prop := fun b => c.F b ∨ ∃ k cc, ρ k = some (b, cc) ∧ look (up pre) k = none ∧ ¬ Ls k
  have h1in : ∀ k, look (up pre) k ≠ none → ρ1 k = ρ k := fun k hk => if_neg hk
  have h1out : ∀ k, look (up pre) k = none → ρ1 k = none := fun k hk => if_pos hk
  have h1 : ∀ k l, ρ1 k = some l → look (up pre) k ≠ none ∧ ρ k = some l := fun k l hk => by
    by_cases e : look (up pre) k = none
    ·rw [h1out k e] at hk; cases hk
    exact ⟨e, (h1in k e) ▸ hk⟩
  have hown1 : ∀ b, owned F1 ρ1 b → owned c.F ρ b := fun b hb => by
    rcases hb with (hb | ⟨k, cc, hk, _, _⟩) | ⟨k, cc, hk⟩
    ·exact .inl hb
    ·exact .inr ⟨k, cc, hk⟩
    exact .inr ⟨k, cc, (h1 k _ hk).2⟩
  have hconv : ∀ x : IV, ¬ Names (fun k => ¬ ∀ o, look (up pre) k = some o → look hp k = some o ∧ ρ1 k = ρ k) x := fun x hx => by
    obtain ⟨k, hk⟩ := hx.some
    exact hk fun o ho => ⟨hpre k o ho, h1in k (by simp [ho])⟩
  have hrel1 : RelH F1 ρ1 (look (up pre)) w := by
    refine ⟨fun k k' b cc cc' hk hk' => h.rel.inj k k' b cc cc' (h1 _ _ hk).2 (h1 _ _ hk').2, fun k b cc hk hb => ?_, fun b hb => ?_, fun k b cc hk => ?_, fun k o hk hρ => ?_⟩
    ·rcases hb with hb | ⟨k', cc', hk', hn, _⟩
     ·exact h.rel.apart k b cc (h1 _ _ hk).2 hb
     obtain rfl := h.rel.inj _ _ _ _ _ (h1 _ _ hk).2 hk'
     exact (h1 _ _ hk).1 hn
    ·rcases hb with hb | ⟨k', cc', hk', _, _⟩
     ·exact h.rel.old b hb
     exact h.rel.lt hk'
    ·obtain ⟨hne, hk2⟩ := h1 _ _ hk
     obtain ⟨o1, ho1, ho2⟩ := h.rel.obj k b cc hk2
     cases hl : look (up pre) k with
     | none => exact absurd hl hne
     | some o2 =>
       rw [hpre k o2 hl] at ho1; cases ho1
       exact ⟨_, rfl, ho2.conv hown1 fun x _ => hconv x⟩
    rw [h1in k (by simp [hk])] at hρ
    exact h.rel.real k o (hpre k o hk) hρ
  have hLown : ∀ L b cc, Ls L → ρ L = some (b, cc) → ¬ owned F1 ρ1 b := fun L b cc hL hb ho => by
    rcases ho with (ho | ⟨k', cc', hk', hn, hnl⟩) | ⟨k', cc', hk'⟩
    ·exact h.rel.apart L b cc hb ho
    ·obtain rfl := h.rel.inj _ _ _ _ _ hb hk'; exact hnl hL
    obtain ⟨hne, hk2⟩ := h1 _ _ hk'
    obtain rfl := h.rel.inj _ _ _ _ _ hb hk2
    exact hne (hLs _ hL)
  refine (hsc F1 ρ1 w vs hrel1 (lends_rep hlend hargs (fun x y v hxy hx => ?_))).mono ?_
  ·cases hxy with
   | same => exact hx.conv hown1 (hconv x)
   | row hL hσ hn he =>
     subst he
     cases hx with
     | sl _ _ _ hh =>
       rcases (hh _ _ hσ).2 hn with ⟨b, cc, hρ, rfl⟩ | ⟨hρ, hz, rfl⟩
       ·obtain ⟨o1, ho1, ho2⟩ := h.rel.obj _ b cc hρ
        rw [hσ] at ho1; cases ho1
        cases ho2 with
        | row _ els r u h3 h4 h5 h6 h7 h8 h9 =>
          subst hn
          refine .pv _ _ (.seq _ (some ⟨b, 0, none⟩) cc b 0 u (fun _ => rfl) (fun _ => ⟨hLown _ _ _ hL hρ, h.rel.lt hρ⟩) h5 h6 (fun i el hi j x hj => ?_) (fun i el hi j x hj => (h9 i el hi j x hj).own hown1))
          rw [cell_at h3, h7 el (List.mem_of_getElem? hi)]
          simpa using h8 i el hi j x hj
       have : _ = [] := List.eq_nil_of_length_eq_zero (hn.trans hz)
       subst this
       subst hz
       exact .pv _ _ (.seq [] none 0 0 0 (fun _ _ => undef) (by simp) (by simp) (by simp) (by simp [maxLen]) (by simp) (by simp))
  rintro e w' ⟨ρ2, v, rfl, hv, hrel2, t⟩
  let ρ' : Loc := fun k => if look (up pre) k = none then ρ k else ρ2 k
  have h2in : ∀ k, look (up pre) k ≠ none → ρ' k = ρ2 k := fun k hk => if_neg hk
  have h2out : ∀ k, look (up pre) k = none → ρ' k = ρ k := fun k hk => if_pos hk
  have h2none : ∀ k, look (up pre) k = none → ρ2 k = none := fun k hk => by
    cases h3 : ρ2 k with
    | none => rfl
    | some l =>
      obtain ⟨o1, ho1, _⟩ := hrel2.obj k l.1 l.2 h3
      rw [(hd k).1 hk] at ho1; cases ho1
  have h2 : ∀ k l, ρ2 k = some l → look (up pre) k ≠ none := fun k l hk e => by rw [h2none k e] at hk; cases hk
  have hσin : ∀ k, look (up pre) k ≠ none → look (up post ++ hp) k = look (up post) k := fun k hk => by
    rw [look_append]
    cases h3 : look (up post) k with
    | none => exact absurd ((hd k).2 h3) hk
    | some o => rfl
  have hσout : ∀ k, look (up pre) k = none → look (up post ++ hp) k = look hp k := fun k hk => by
    rw [look_append, (hd k).1 hk]; rfl
  have T : Trans c.F (fun k => look (up pre) k = none ∨ R k) ρ (look hp) w ρ' (look (up post ++ hp)) w' := by
    refine ⟨t.os, t.tape, t.output, t.size, fun b hb hall => t.blk b hb fun k cc hk => ?_, fun k b cc hk hb => ?_, fun k cs cs' e1 e2 => ?_, fun k cs cs' e1 e2 => ?_, fun k s s' els els' e1 e2 hl => ?_, fun k s s' els els' e1 e2 => ?_, fun k cs' e2 => ?_, fun k cs' e2 => ?_, fun k s els' e2 => ?_⟩
    ·obtain ⟨hne, hk2⟩ := h1 _ _ hk
     exact (hall k cc hk2).resolve_left hne
    ·by_cases e : look (up pre) k = none
     ·rwa [h2out k e] at hk
     rw [h2in k e] at hk; exact (h1 _ _ (t.own k b cc hk hb)).2
    all_goals by_cases e : look (up pre) k = none
    ·exact h2out k e
    ·cases h3 : look (up pre) k with
     | none => exact absurd h3 e
     | some o =>
       rw [hpre k o h3] at e1; cases e1
       rw [hσin k e] at e2
       rw [h2in k e, t.box k _ _ h3 e2, h1in k e]
    ·exact h2out k e
    ·cases h3 : look (up pre) k with
     | none => exact absurd h3 e
     | some o =>
       rw [hpre k o h3] at e1; cases e1
       rw [hσin k e] at e2
       rw [h2in k e, t.map k _ _ h3 e2, h1in k e]
    ·exact h2out k e
    ·cases h3 : look (up pre) k with
     | none => exact absurd h3 e
     | some o =>
       rw [hpre k o h3] at e1; cases e1
       rw [hσin k e] at e2
       rw [h2in k e, t.row k _ _ _ _ h3 e2 hl, h1in k e]
    ·rw [hσout k e, e1] at e2; cases e2; exact Nat.le_refl _
    ·cases h3 : look (up pre) k with
     | none => exact absurd h3 e
     | some o =>
       rw [hpre k o h3] at e1; cases e1
       rw [hσin k e] at e2
       exact t.grow k _ _ _ _ h3 e2
    ·rw [hσout k e] at e2; exact .inr ⟨_, e2⟩
    ·rw [hσin k e] at e2
     rcases t.kindB k _ e2 with h3 | ⟨cs, h3⟩
     ·exact absurd h3 e
     exact .inr ⟨cs, hpre k _ h3⟩
    ·rw [hσout k e] at e2; exact .inr ⟨_, e2⟩
    ·rw [hσin k e] at e2
     rcases t.kindM k _ e2 with h3 | ⟨cs, h3⟩
     ·exact absurd h3 e
     exact .inr ⟨cs, hpre k _ h3⟩
    ·rw [hσout k e] at e2; exact .inr ⟨_, e2⟩
    rw [hσin k e] at e2
    rcases t.kindR k _ _ e2 with h3 | ⟨cs, h3⟩
    ·exact absurd h3 e
    exact .inr ⟨cs, hpre k _ h3⟩
  have hnone : ∀ k, ¬ (look hp k = none ∧ look (up post ++ hp) k ≠ none) := fun k hk => by
    by_cases e : look (up pre) k = none
    ·rw [hσout k e] at hk; exact hk.2 hk.1
    cases h3 : look (up pre) k with
    | none => exact e h3
    | some o => rw [hpre k o h3] at hk; cases hk.1
  have hnn : ∀ x : IV, ¬ Names (fun k => look hp k = none ∧ look (up post ++ hp) k ≠ none) x := fun x hx => by
    obtain ⟨k, hk⟩ := hx.some
    exact hnone k hk
  have hmix : ∀ k k' b cc cc', look (up pre) k = none → ρ k = some (b, cc) → ρ2 k' = some (b, cc') → k = k' := fun k k' b cc cc' e hk hk' => by
    by_cases hL : Ls k
    ·have := h1 _ _ (t.own k' b cc' hk' (h.rel.lt hk))
     exact h.rel.inj _ _ _ _ _ hk this.2
    exact absurd (.inr ⟨k, cc, hk, e, hL⟩) (hrel2.apart _ _ _ hk')
  refine ⟨ρ', v, rfl, h.step T hR ⟨fun k k' b cc cc' hk hk' => ?_, fun k b cc hk hb => ?_, fun b hb => Nat.lt_of_lt_of_le (h.rel.old b hb) t.size, fun k b cc hk => ?_, fun k o hk hρ => ?_⟩ (fun k e1 e2 => absurd ⟨e1, e2⟩ (hnone k)) fun _ x _ => hnn x, by obtain ⟨z, rfl⟩ := hr; obtain rfl := hv.val; exact mkVal _⟩
  ·by_cases e : look (up pre) k = none <;> by_cases e' : look (up pre) k' = none
   ·rw [h2out k e] at hk; rw [h2out k' e'] at hk'; exact h.rel.inj _ _ _ _ _ hk hk'
   ·rw [h2out k e] at hk; rw [h2in k' e'] at hk'
    exact hmix k k' b cc cc' e hk hk'
   ·rw [h2in k e] at hk; rw [h2out k' e'] at hk'
    exact (hmix k' k b cc' cc e' hk' hk).symm
   rw [h2in k e] at hk; rw [h2in k' e'] at hk'; exact hrel2.inj _ _ _ _ _ hk hk'
  ·by_cases e : look (up pre) k = none
   ·rw [h2out k e] at hk; exact h.rel.apart _ _ _ hk hb
   rw [h2in k e] at hk; exact hrel2.apart _ _ _ hk (.inl hb)
  ·by_cases e : look (up pre) k = none
   ·rw [h2out k e] at hk
    obtain ⟨o1, ho1, ho2⟩ := h.rel.obj k b cc hk
    refine ⟨o1, (hσout k e).trans ho1, ho2.keep T (t.blk b (h.rel.lt hk) fun k' cc' hk' => ?_) fun x _ => hnn x⟩
    obtain ⟨hne, hk2⟩ := h1 _ _ hk'
    obtain rfl := h.rel.inj _ _ _ _ _ hk hk2
    exact absurd e hne
   rw [h2in k e] at hk
   obtain ⟨o1, ho1, ho2⟩ := hrel2.obj k b cc hk
   refine ⟨o1, (hσin k e).trans ho1, ?_⟩
   rcases hpost k o1 ho1 with hpl | ⟨hRk, hpr⟩
   ·exact ho2.plain hpl
   have hsame : ρ2 k = ρ k := by
     rw [← h1in k e]
     cases o1 with
     | box cs => exact t.box k _ _ hpr ho1
     | row s els => exact t.row k _ _ _ _ hpr ho1 rfl
     | map es => exact t.map k _ _ hpr ho1
   rw [hsame] at hk
   obtain ⟨o3, ho3, ho4⟩ := h.rel.obj k b cc hk
   rw [hpre k _ hpr] at ho3; cases ho3
   refine ho4.keep T (t.blk b (h.rel.lt hk) fun k' cc' hk' => ?_) fun x _ => hnn x
   obtain ⟨hne, hk2⟩ := h1 _ _ hk'
   obtain rfl := h.rel.inj _ _ _ _ _ hk hk2
   exact hRk
  by_cases e : look (up pre) k = none
  ·rw [hσout k e] at hk; rw [h2out k e] at hρ; exact h.rel.real k o hk hρ
  rw [hσin k e] at hk; rw [h2in k e] at hρ; exact hrel2.real k o hk hρ
theorem ok_lend (Ls : Nat → Prop) {ys : List IV} {f : FuncId} {os : Array Operand} {tys : Array TypeId} {xs args : List IV} {pre post : List (Nat × HO)} {R : Nat → Prop} {r : IV} {hp : Hp} (hsc : SC P f args pre R r post) (hf : enters P f)
    (ho : o.op = .call { callee := .value (.func f), args := os, argTypes := tys }) (hx : evs fr os.toList = some xs) (hs : Subs (look hp) xs ys) (hlend : lends (look hp) Ls ys args) (hLs : ∀ k, Ls k → look (up pre) k = none) (hpre : ∀ k o, look (up pre) k = some o → look hp k = some o) (hdom : pre.map (·.1) = post.map (·.1))
    (hR : ∀ k, c.R k → look (up pre) k = none ∨ R k) (hr : ∃ z, r = .pv (.val z)) (hpost : ∀ k ob, look (up post) k = some ob → plainO ob = true ∨ (R k ∧ look (up pre) k = some ob)) : Ok P c o fr (look hp) r (look (up post ++ hp)) := by
  intro ρ w a K Q h hK
  obtain ⟨fn, hfn, hname, hbody⟩ := hf
  have hargs := hs _ _ _ _ (evs_rep h hx)
  have hrun : (execOp a.eval o).run P w = .ok (.enter f (os.toList.map a.eval).toArray) w := by
    have hcall : (callFunc f (os.toList.map a.eval).toArray).run P w = .ok (.enter f (os.toList.map a.eval).toArray) w := by
      unfold callFunc
      simp only [Sem.run_bind]
      show (Result.andThen (.ok P w) _) = _
      simp only [Result.andThen_ok, hfn, hname, hbody]
      rfl
    simp only [execOp, ho, resolve, Act.eval, Deferred.ofValue, Sem.run_bind, Sem.run_pure, Result.andThen_ok, invoke]
    rw [← hcall]
    congr 2
    apply Array.ext'
    simp
  unfold Oper.wp
  rw [hrun, Oper.upon_enter]
  refine (hsc.lend h hlend hLs hargs hpre hdom hR hr hpost).mono ?_
  rintro e w' ⟨ρ', v, rfl, h1, h2⟩
  exact hK ρ' w' v h1 h2
end
def andT (r : Bool × List Bool) (k : List Bool → Bool × List Bool) : Bool × List Bool := if r.1 then k r.2 else (false, r.2)
def ne (l : List Nd) (r : Bool × List Bool) : Bool × List Bool := if l.isEmpty then (false, r.2) else r
mutual
def ndW : Nd → Nat
  | .mk _ _ _ _ args outs params kids => 1 + args.length + outs.length + params.length + kdW kids
def lsW : List Nd → Nat
  | [] => 0
  | x :: r => ndW x + lsW r
def kdW : List (List Nd) → Nat
  | [] => 0
  | l :: r => 1 + lsW l + kdW r
end
def r8end (f : Fl) (x : Nd) (set : List Bool) : Bool × List Bool :=
  andS ((x.outs.length : Int) == 0 || !r8Closed x) set (r8sets f.types set x.outs (List.replicate x.outs.length 0))
mutual
def r8node (u : Un) (f : Fl) (deep : Int) (w : Wh) (seen : List Int) (set : List Bool) : Nd → Bool × List Bool
  | .mk kind op n name args outs params kids =>
    if !r8bare (.mk kind op n name args outs params kids) then (false, set)
    else if kind == 10 then
      if r8types f.types seen args [2] then
        match kids with
        | a :: b :: _ =>
          andT (ne a (r8go u f (deep + 1) ⟨true, w.Loop, r8of f.types outs, w.Next, w.Left⟩ seen set a)) fun s1 =>
          andT (ne b (r8go u f (deep + 1) ⟨true, w.Loop, r8of f.types outs, w.Next, w.Left⟩ seen s1 b)) fun s2 =>
          r8end f (.mk kind op n name args outs params kids) s2
        | _ => (false, set)
      else (false, set)
    else if kind == 11 then
      if r8types f.types seen args (r8of f.types params) then
        andT (r8sets f.types set params (List.replicate params.length 0)) fun s1 =>
        match kids with
        | a :: _ =>
          andT (ne a (r8go u f (deep + 1) ⟨false, true, [], r8of f.types params, r8of f.types outs⟩ (seen ++ params) s1 a)) fun s2 =>
          r8end f (.mk kind op n name args outs params kids) s2
        | _ => (false, s1)
      else (false, set)
    else r8simple u f set (.mk kind op n name args outs params kids) seen w
def r8go (u : Un) (f : Fl) (deep : Int) (w : Wh) (all : List Int) (set : List Bool) : List Nd → Bool × List Bool
  | [] => (true, set)
  | x :: r =>
    if deep > 100 then (false, set)
    else andT (r8node u f deep w all set x) fun s1 =>
      if r8Closed x != r.isEmpty then (false, s1)
      else r8go u f deep w (all ++ x.outs) s1 r
end
def r8list (u : Un) (f : Fl) (deep : Int) (w : Wh) (all : List Int) (set : List Bool) (l : List Nd) : Bool × List Bool := ne l (r8go u f deep w all set l)
theorem andS_length {b : Bool} {set : List Bool} {r : Bool × List Bool} {n : Nat} (h1 : set.length = n) (h2 : r.2.length = n) : (andS b set r).2.length = n := by unfold andS; split <;> assumption
theorem andT_length {r : Bool × List Bool} {k : List Bool → Bool × List Bool} {n : Nat} (h1 : r.2.length = n) (h2 : ∀ s, s.length = n → (k s).2.length = n) : (andT r k).2.length = n := by
  unfold andT; split
  ·exact h2 _ h1
  exact h1
theorem ne_length {l : List Nd} {r : Bool × List Bool} {n : Nat} (h : r.2.length = n) : (ne l r).2.length = n := by unfold ne; split <;> exact h
theorem ite_length {p : Prop} [Decidable p] {a b : Bool × List Bool} {n : Nat} (h1 : a.2.length = n) (h2 : b.2.length = n) : (if p then a else b).2.length = n := by split <;> assumption
theorem r8simple_length (u : Un) (f : Fl) (set : List Bool) (x : Nd) (seen : List Int) (w : Wh) : (r8simple u f set x seen w).2.length = set.length := by
  have hS : ∀ b l t, (andS b set (r8sets f.types set l t)).2.length = set.length := fun b l t => andS_length rfl (r8sets_length ..)
  unfold r8simple r8call
  repeat' (first | exact hS _ _ _ | exact rfl | refine ite_length ?_ ?_ | split)
theorem r8end_length {f : Fl} {x : Nd} {set : List Bool} {n : Nat} (h : set.length = n) : (r8end f x set).2.length = n := andS_length h ((r8sets_length ..).trans h)
mutual
theorem r8node_length (u : Un) (f : Fl) : ∀ (x : Nd) (deep : Int) (w : Wh) (seen : List Int) (set : List Bool), (r8node u f deep w seen set x).2.length = set.length
  | .mk kind op n name args outs params kids, deep, w, seen, set => by
    unfold r8node
    split
    ·rfl
    split
    ·split
     ·match kids with
      | [] => rfl
      | [_] => rfl
      | a :: b :: _ =>
        refine andT_length (ne_length (r8go_length u f a ..)) fun s hs => andT_length (ne_length ((r8go_length u f b ..).trans hs)) fun s hs => r8end_length hs
     rfl
    split
    ·split
     ·refine andT_length (r8sets_length ..) fun s hs => ?_
      match kids with
      | [] => exact hs
      | a :: _ => exact andT_length (ne_length ((r8go_length u f a ..).trans hs)) fun s hs => r8end_length hs
     rfl
    exact r8simple_length ..
theorem r8go_length (u : Un) (f : Fl) : ∀ (l : List Nd) (deep : Int) (w : Wh) (all : List Int) (set : List Bool), (r8go u f deep w all set l).2.length = set.length
  | [], _, _, _, _ => by simp [r8go]
  | x :: r, deep, w, all, set => by
    unfold r8go
    split
    ·rfl
    refine andT_length (r8node_length u f x ..) fun s hs => ?_
    split
    ·exact hs
    exact (r8go_length u f r ..).trans hs
end
theorem r8list_length (u : Un) (f : Fl) (deep : Int) (w : Wh) (all : List Int) (set : List Bool) (l : List Nd) : (r8list u f deep w all set l).2.length = set.length := ne_length (r8go_length ..)
theorem ck_lend {u : Un} {f : Fl} {bt : TypeId} {set set' : List Bool} (h : set'.length = set.length) : ∀ k ob, look (up (ckHp u f bt set')) k = some ob → plainO ob = true ∨ (k = 3 ∧ look (up (ckHp u f bt set)) k = some ob) := by
  intro k ob hk
  have hm := look_up_mem hk
  simp only [ckHp, List.mem_cons, List.not_mem_nil, or_false, Prod.mk.injEq] at hm
  rcases hm with ⟨rfl, rfl⟩ | ⟨rfl, rfl⟩
  ·exact .inr ⟨rfl, by simp [ckHp, up, look, h]⟩
  refine .inl ?_
  simp [plainO, eBool, plainP]
theorem r8bare_kids {x : Nd} (h : r8bare x = true) : (x.kids.length : Int) = r8kn x := by
  simp only [r8bare, Bool.and_eq_true, beq_iff_eq] at h
  exact h.1.2
theorem r8bare_if {x : Nd} (h : r8bare x = true) (hk : x.kind = 10) : ∃ a b, x.kids = [a, b] := by
  have := r8bare_kids h
  simp [r8kn, hk] at this
  match hx : x.kids with
  | [] => simp [hx] at this
  | [a] => simp [hx] at this
  | [a, b] => exact ⟨a, b, rfl⟩
  | a :: b :: c :: r => simp [hx] at this; omega
theorem r8bare_loop {x : Nd} (h : r8bare x = true) (hk : x.kind = 11) : ∃ a, x.kids = [a] := by
  have := r8bare_kids h
  simp [r8kn, hk] at this
  match hx : x.kids with
  | [] => simp [hx] at this
  | [a] => exact ⟨a, rfl⟩
  | a :: b :: r => simp [hx] at this; omega
theorem r8node_bare (u : Un) (f : Fl) (deep : Int) (w : Wh) (seen : List Int) (set : List Bool) {x : Nd} (h : r8bare x = false) : r8node u f deep w seen set x = (false, set) := by
  cases x; unfold r8node; simp [h]
theorem r8node_if (u : Un) (f : Fl) (deep : Int) (w : Wh) (seen : List Int) (set : List Bool) {x : Nd} {a b : List Nd} (h : r8bare x = true) (hk : x.kind = 10) (hx : x.kids = [a, b]) :
    r8node u f deep w seen set x = if r8types f.types seen x.args [2] then
        andT (r8list u f (deep + 1) ⟨true, w.Loop, r8of f.types x.outs, w.Next, w.Left⟩ seen set a) fun s1 =>
        andT (r8list u f (deep + 1) ⟨true, w.Loop, r8of f.types x.outs, w.Next, w.Left⟩ seen s1 b) fun s2 => r8end f x s2
      else (false, set) := by
  cases x; simp only [Nd.kind, Nd.kids, Nd.args, Nd.outs] at *; subst hk hx; unfold r8node; simp [h, r8list]; rfl
theorem r8node_loop (u : Un) (f : Fl) (deep : Int) (w : Wh) (seen : List Int) (set : List Bool) {x : Nd} {a : List Nd} (h : r8bare x = true) (hk : x.kind = 11) (hx : x.kids = [a]) :
    r8node u f deep w seen set x = if r8types f.types seen x.args (r8of f.types x.params) then
        andT (r8sets f.types set x.params (List.replicate x.params.length 0)) fun s1 =>
        andT (r8list u f (deep + 1) ⟨false, true, [], r8of f.types x.params, r8of f.types x.outs⟩ (seen ++ x.params) s1 a) fun s2 => r8end f x s2
      else (false, set) := by
  cases x; simp only [Nd.kind, Nd.kids, Nd.args, Nd.outs, Nd.params] at *; subst hk hx; unfold r8node; simp [h, r8list]; rfl
theorem r8node_simple (u : Un) (f : Fl) (deep : Int) (w : Wh) (seen : List Int) (set : List Bool) {x : Nd} (h : r8bare x = true) (h1 : (x.kind == 10) = false) (h2 : (x.kind == 11) = false) :
    r8node u f deep w seen set x = r8simple u f set x seen w := by
  cases x; simp only [Nd.kind] at *; unfold r8node; simp [h, h1, h2]
theorem ndW_eq (x : Nd) : ndW x = 1 + x.args.length + x.outs.length + x.params.length + kdW x.kids := by cases x; simp [ndW, Nd.args, Nd.outs, Nd.params, Nd.kids]
theorem ck_row {u : Un} {f : Fl} {bt : TypeId} {s s' : List Bool} {k : Nat} {o o2 : Option HO} : look ((k, o) :: (up (ckHp u f bt s') ++ ((k, o2) :: up (ckHp u f bt s)))) = look ((k, o) :: up (ckHp u f bt s')) := by
  funext j
  simp only [look]
  cases hkj : Nat.beq k j with
  | true => rfl
  | false =>
    simp only [cond_false]
    rw [look_append]
    simp only [look, hkj, cond_false, ckHp, up, List.map_cons, List.map_nil]
    cases Nat.beq 3 j <;> cases Nat.beq 4 j <;> rfl
theorem ck_row' {u : Un} {f : Fl} {bt : TypeId} {s s' : List Bool} {k : Nat} {t : RT} {al l : List Int} {o2 : Option HO} : look ((k, some (.row t (al.map eInt ++ l.map eInt))) :: (up (ckHp u f bt s') ++ ((k, o2) :: up (ckHp u f bt s)))) = look ((k, some (.row t ((al ++ l).map eInt))) :: up (ckHp u f bt s')) := by
  rw [ck_row, List.map_append]
theorem r8list_ne {u : Un} {f : Fl} {deep : Int} {w : Wh} {all : List Int} {set : List Bool} {l : List Nd} {k : Nat} (h : k < l.length) : r8list u f deep w all set l = r8go u f deep w all set l := by
  unfold r8list ne
  rw [if_neg]
  simp
  intro e; subst e; simp at h
theorem drop_isEmpty {l : List Nd} {k : Nat} (h : k < l.length) : (l.drop (k + 1)).isEmpty = ((k : Int) == (l.length : Int) - 1) := by
  by_cases e : k + 1 = l.length
  ·rw [List.drop_eq_nil_of_le (by omega)]
   have : (k : Int) = (l.length : Int) - 1 := by omega
   simp [this]
  have h1 : l.drop (k + 1) ≠ [] := fun h0 => by have := congrArg List.length h0; simp at this; omega
  have h2 : ¬ (k : Int) = (l.length : Int) - 1 := by omega
  rw [beq_eq_false_iff_ne.2 h2]
  cases hq : l.drop (k + 1) with
  | nil => exact absurd hq h1
  | cons => rfl
theorem sc_r8node (u : Un) (f : Fl) (hg : ∀ g ∈ u.flows, 0 ≤ g.params ∧ g.params ≤ g.types.length) (x : Nd) (deep : Int) (hd : 0 ≤ deep ∧ deep ≤ 100) (wh : Wh) (seen : List Int) (set : List Bool) (hs : set.length = f.types.length) (hb : seen.length + ndW x ≤ 1073741824) (ih : ∀ q ∈ x.kids, ∀ (deep : Int) (w : Wh) (all : List Int) (set : List Bool), 0 ≤ deep ∧ deep ≤ 101 → set.length = f.types.length → all.length + lsW q ≤ 1073741824 → SC Tryz.prog 48 [.ptr 3 0, .pv (nodes q), .pv (ints all), .pv (whv w), iInt deep] (ckHp u f 4 set) (fun k => k = 3) (iBool (r8list u f deep w all set q).1) (ckHp u f 4 (r8list u f deep w all set q).2)) : SC Tryz.prog 73 [.ptr 3 0, .pv (ndv x), .pv (ints seen), .pv (whv wh), iInt deep] (ckHp u f 4 set) (fun k => k = 3) (iBool (r8node u f deep wh seen set x).1) (ckHp u f 4 (r8node u f deep wh seen set x).2) := by
  refine SC.of Tryz.func73 rfl (lb rfl) fun F ρ w => ?_
  have hbW := ndW_eq x
  have hbo : x.outs.length ≤ 1073741824 := by omega
  have hbp : x.params.length ≤ 1073741824 := by omega
  refine tQ <| tG <| cE rfl (ok_box rfl rfl) <| cE rfl (ok_box rfl rfl) <| sm 1 rfl <| nL <| tQ <| tQ <| tG <| cV rfl (lEA rfl rfl uT43 rfl tS43 (lb rfl)) <| cE rfl (ocq (sc_r8bare _) ent92 rfl rfl) <| sm 1 rfl ?_
  refine nL ?_
  refine tC rfl (fun hc17 => ?_) fun hc17 => ?_
  ·refine tQ <| tG <| sm 1 rfl <| nL <| tRt ?_
   have hbare : r8bare x = false := by simpa using hc17
   rw [r8node_bare _ _ _ _ _ _ hbare]
   exact rOk rfl rfl (po2 rfl rfl)
  have hbare : r8bare x = true := by simpa using hc17
  refine tSk <| tQ <| tQ <| tG <| sm 2 rfl <| nL <| tBk <| tQ <| tG <| sm 2 rfl <| nL ?_
  refine tC rfl (fun hc20 => ?_) fun hc20 => ?_
  ·have hk10 : x.kind = 10 := by simpa using hc20
   obtain ⟨ka, kb, hkids⟩ := r8bare_if hbare hk10
   have hi0 : (x.kids.map eKid)[0]? = some [nodes ka] := by rw [hkids]; rfl
   have hi1 : (x.kids.map eKid)[1]? = some [nodes kb] := by rw [hkids]; rfl
   have hm0 : ka ∈ x.kids := by rw [hkids]; simp
   have hm1 : kb ∈ x.kids := by rw [hkids]; simp
   have hkW : kdW x.kids = 1 + lsW ka + (1 + lsW kb) := by rw [hkids]; simp [kdW] <;> omega
   have hb0 : seen.length + lsW ka ≤ 1073741824 := by omega
   have hb1 : seen.length + lsW kb ≤ 1073741824 := by omega
   have hs1 : (r8list u f (deep + 1) ⟨true, wh.Loop, r8of f.types x.outs, wh.Next, wh.Left⟩ seen set ka).2.length = f.types.length := (r8list_length ..).trans hs
   have hs2 : (r8list u f (deep + 1) ⟨true, wh.Loop, r8of f.types x.outs, wh.Next, wh.Left⟩ seen (r8list u f (deep + 1) ⟨true, wh.Loop, r8of f.types x.outs, wh.Next, wh.Left⟩ seen set ka).2 kb).2.length = f.types.length := (r8list_length ..).trans hs1
   refine tQ <| tDr mixed (fun k => k ∈ ([3] : List Nat)) <| wR 4 [0, 1, 2, 3, 4, 6, 7, 8, 9] (by kernel_rfl) (fun _ _ _ h => h) <| smR 9 rfl <| nR <| WA.all (rs := [5, 11]) (by kernel_rfl) (by simp) ?_
   refine fmc ⟨?_, fmc ⟨?_, by simp⟩⟩
   ·refine wI rfl rfl (fun k (h : _) => by (simp at h ⊢; omega)) (nAp rfl) (fun _ _ => ocr (sc_r8of u f set x.outs hbo) ent93 rfl (po2 rfl rfl) rfl (fun k (h : _) => by (simp only [List.mem_cons, List.not_mem_nil, or_false] at h; rcases h with rfl <;> first | exact .inl rfl | exact .inr rfl | exact .inr (by decide))) rfl rfl) <| wR 2 [10] (by kernel_rfl) (fun _ _ _ h => h) <| rV rfl rfl (bPu rfl rfl tZ93 tP93 rfl (fbk rfl) rfl) <| nR <| wO 11 (by kernel_rfl) <| wI rfl rfl (fun k (h : _) => by (simp at h ⊢; omega)) (new_one rfl) (fun _ _ => aLc (k := 111) rfl tZ93 rfl rfl rfl rfl) <| wO 12 (by kernel_rfl) <| wI rfl rfl (fun k (h : _) => by (simp at h ⊢; omega)) (nOl rfl) (fun _ _ => sBA rfl rfl rfl rfl rfl (by simp) tS93 (flk rfl) (lb rfl)) <| wDn (by kernel_rfl) <| tQ <| tDr mixed (fun k => k ∈ ([3, 111] : List Nat)) <| wR 27 [0, 1, 2, 3] (by kernel_rfl) (fun _ _ _ h => h) ?_
    refine smR 4 rfl <| nR <| wO 4 (by kernel_rfl) <| wI rfl rfl (fun k (h : _) => by (simp at h ⊢; omega)) nw (fun _ _ => bSl rfl rfl uT35 tZ3 tS3 rfl rfl rfl rfl (fbk rfl) rfl) <| wO 5 (by kernel_rfl) <| wI rfl rfl (fun k (h : _) => by (simp at h ⊢; omega)) (nAp rfl) (fun _ _ => ocr (sc_r8types u f set x.args seen [2]) ent94 rfl (po2 rfl rfl) rfl (fun k (h : _) => .inr trivial) rfl rfl) <| wR 15 [6, 7, 8, 9, 10, 11, 12, 13, 14, 15] (by kernel_rfl) (fun _ _ _ h => h) <| smR 1 rfl ?_
    refine WR.split (t := 39) rfl (fun hb39 => ?_) (fun hb39 => ?_)
    ·refine smR 3 rfl <| ryV rfl rfl rfl (iSq rfl rfl rfl uT41 hi0 tS44 rfl (by rfl)) <| smR 2 rfl <| ryV rfl rfl rfl (lBP rfl rfl rfl Tryz.underlying93 rfl tS93 (lb rfl) rfl (by decide)) <| smR 1 rfl <| ryV rfl rfl rfl (oB rfl rfl (i64_add rfl (by omega))) <| nR <| wO 16 (by kernel_rfl) <| wY rfl rfl rfl (fun k (h : _) => by (simp at h ⊢; omega)) (nAp rfl) (fun _ _ => ocr (ih ka hm0 (deep + 1) ⟨true, wh.Loop, r8of f.types x.outs, wh.Next, wh.Left⟩ seen set ⟨by omega, by omega⟩ hs hb0) ent48 rfl (po2 rfl rfl) rfl (fun k (h : _) => by (simp only [List.mem_cons, List.not_mem_nil, or_false] at h; rcases h with rfl | rfl <;> first | exact .inl rfl | exact .inr rfl | exact .inr (by decide))) rfl rfl) <| wR 3 [17, 18, 19, 20, 21, 22, 23, 24, 25, 26, 27] (by kernel_rfl) (fun _ _ _ h => h) <| smR 2 rfl ?_
     refine WR.split (t := 51) rfl (fun hb51 => ?_) (fun hb51 => ?_)
     ·refine smR 3 rfl <| ryV rfl rfl rfl (iSq rfl rfl rfl uT41 hi1 tS44 rfl (by rfl)) <| smR 2 rfl <| ryV rfl rfl rfl (lBP rfl rfl rfl Tryz.underlying93 rfl tS93 (lb rfl) rfl (by decide)) <| smR 1 rfl <| ryV rfl rfl rfl (oB rfl rfl (i64_add rfl (by omega))) <| nR <| wO 28 (by kernel_rfl) <| wY rfl rfl rfl (fun k (h : _) => by (simp at h ⊢; omega)) (nAp rfl) (fun _ _ => ocr (ih kb hm1 (deep + 1) ⟨true, wh.Loop, r8of f.types x.outs, wh.Next, wh.Left⟩ seen (r8list u f (deep + 1) ⟨true, wh.Loop, r8of f.types x.outs, wh.Next, wh.Left⟩ seen set ka).2 ⟨by omega, by omega⟩ hs1 hb1) ent48 rfl (po2 rfl rfl) rfl (fun k (h : _) => by (simp only [List.mem_cons, List.not_mem_nil, or_false] at h; rcases h with rfl | rfl <;> first | exact .inl rfl | exact .inr rfl | exact .inr (by decide))) rfl rfl) <| wR 0 [29, 30] (by kernel_rfl) (fun _ _ _ h => h) <| smR 2 rfl <| nR ?_
      refine wDn (by kernel_rfl) <| tQ <| tDr mixed (fun k => k ∈ ([3] : List Nat)) <| wR 15 [0, 1, 2, 3, 4, 5, 6, 7] (by kernel_rfl) (fun _ _ _ h => h) <| smR 2 rfl ?_
      refine WR.split (t := 64) rfl (fun hb64 => ?_) (fun hb64 => ?_)
      ·refine smR 2 rfl <| ryV rfl rfl rfl (oSm uT35 rfl) <| smR 2 rfl ?_
       refine WR.split (t := 69) rfl (fun hb69 => ?_) (fun hb69 => ?_)
       ·refine smR 1 rfl <| nR <| wN 8 (by kernel_rfl) (fun _ _ _ h => h) rfl rfl rfl <| wR 4 [9, 10, 11, 12, 13, 14, 15, 16, 17, 18] (by kernel_rfl) (fun _ _ _ h => h) <| smR 9 rfl <| ryV rfl rfl rfl (oSm uT35 rfl) <| nR <| wO 19 (by kernel_rfl) <| wY rfl rfl rfl (fun k (h : _) => by (simp at h ⊢; omega)) (new_one rfl) (fun _ _ => ok_makeSlice (k := 182) (s := ⟨3, 1⟩) rfl rfl rfl uT35 tZ3 tC3 rfl (by decide) (by omega) (by omega) rfl rfl rfl rfl) <| wO 20 (by kernel_rfl) <| wY rfl rfl rfl (fun k (h : _) => by (simp at h ⊢; omega)) (nAp rfl) (fun _ _ => ok_lend (fun k => k = 182) (sc_r8sets u f (r8list u f (deep + 1) ⟨true, wh.Loop, r8of f.types x.outs, wh.Next, wh.Left⟩ seen (r8list u f (deep + 1) ⟨true, wh.Loop, r8of f.types x.outs, wh.Next, wh.Left⟩ seen set ka).2 kb).2 x.outs (List.replicate x.outs.length 0) hs2) ent95 rfl rfl (sRf _ _) (And.intro LendOf.same (And.intro LendOf.same (And.intro (LendOf.row rfl rfl (by (simp; done)) (by (simp only [List.map_replicate]; rfl))) (trivial)))) (fun k h => by subst h; rfl) (po2 rfl rfl) rfl (fun k (h : _) => by (simp only [List.mem_cons, List.not_mem_nil, or_false] at h; rcases h with rfl <;> first | exact .inl rfl | exact .inr rfl | exact .inr (by decide))) ⟨_, rfl⟩ (ck_lend (r8sets_length ..))) <| wR 0 [21, 22] (by kernel_rfl) (fun _ _ _ h => h) ?_
        refine smR 2 rfl <| nR <| wDn (by kernel_rfl) <| tRt ?_
        (have h2 : (r8node u f deep wh seen set x).2 = (r8sets f.types (r8list u f (deep + 1) ⟨true, wh.Loop, r8of f.types x.outs, wh.Next, wh.Left⟩ seen (r8list u f (deep + 1) ⟨true, wh.Loop, r8of f.types x.outs, wh.Next, wh.Left⟩ seen set ka).2 kb).2 x.outs (List.replicate x.outs.length 0)).2 := (by rw [r8node_if _ _ _ _ _ _ hbare hk10 hkids]; simp_all [andT, andS, r8end]; done)
         rw [h2]
         refine rOk rfl ?_ (po2 rfl rfl)
         clear h2
         rw [r8node_if _ _ _ _ _ _ hbare hk10 hkids]
         simp_all [andT, andS, r8end]
         done)
       refine ryV rfl rfl rfl (lEA rfl rfl uT43 rfl tS43 (lb rfl)) <| nR <| wO 8 (by kernel_rfl) <| wY rfl rfl rfl (fun k (h : _) => by (simp at h ⊢; omega)) nw (fun _ _ => ocq (sc_r8Closed _) ent53 rfl rfl) <| wR 4 [9, 10, 11, 12, 13, 14, 15, 16, 17, 18] (by kernel_rfl) (fun _ _ _ h => h) <| smR 4 rfl ?_
       refine WR.split (t := 75) rfl (fun hb75 => ?_) (fun hb75 => ?_)
       ·refine smR 5 rfl <| ryV rfl rfl rfl (oSm uT35 rfl) <| nR <| wO 19 (by kernel_rfl) <| wY rfl rfl rfl (fun k (h : _) => by (simp at h ⊢; omega)) (new_one rfl) (fun _ _ => ok_makeSlice (k := 182) (s := ⟨3, 1⟩) rfl rfl rfl uT35 tZ3 tC3 rfl (by decide) (by omega) (by omega) rfl rfl rfl rfl) <| wO 20 (by kernel_rfl) <| wY rfl rfl rfl (fun k (h : _) => by (simp at h ⊢; omega)) (nAp rfl) (fun _ _ => ok_lend (fun k => k = 182) (sc_r8sets u f (r8list u f (deep + 1) ⟨true, wh.Loop, r8of f.types x.outs, wh.Next, wh.Left⟩ seen (r8list u f (deep + 1) ⟨true, wh.Loop, r8of f.types x.outs, wh.Next, wh.Left⟩ seen set ka).2 kb).2 x.outs (List.replicate x.outs.length 0) hs2) ent95 rfl rfl (sRf _ _) (And.intro LendOf.same (And.intro LendOf.same (And.intro (LendOf.row rfl rfl (by (simp; done)) (by (simp only [List.map_replicate]; rfl))) (trivial)))) (fun k h => by subst h; rfl) (po2 rfl rfl) rfl (fun k (h : _) => by (simp only [List.mem_cons, List.not_mem_nil, or_false] at h; rcases h with rfl <;> first | exact .inl rfl | exact .inr rfl | exact .inr (by decide))) ⟨_, rfl⟩ (ck_lend (r8sets_length ..))) <| wR 0 [21, 22] (by kernel_rfl) (fun _ _ _ h => h) <| smR 2 rfl <| nR <| wDn (by kernel_rfl) <| tRt ?_
        (have h2 : (r8node u f deep wh seen set x).2 = (r8sets f.types (r8list u f (deep + 1) ⟨true, wh.Loop, r8of f.types x.outs, wh.Next, wh.Left⟩ seen (r8list u f (deep + 1) ⟨true, wh.Loop, r8of f.types x.outs, wh.Next, wh.Left⟩ seen set ka).2 kb).2 x.outs (List.replicate x.outs.length 0)).2 := (by rw [r8node_if _ _ _ _ _ _ hbare hk10 hkids]; simp_all [andT, andS, r8end]; done)
         rw [h2]
         refine rOk rfl ?_ (po2 rfl rfl)
         clear h2
         rw [r8node_if _ _ _ _ _ _ hbare hk10 hkids]
         simp_all [andT, andS, r8end]
         done)
       refine smR 6 rfl <| nR <| wN 19 (by kernel_rfl) (fun _ _ _ h => h) rfl rfl rfl <| wN 20 (by kernel_rfl) (fun _ _ _ h => h) rfl rfl rfl <| wR 0 [21, 22] (by kernel_rfl) (fun _ _ _ h => h) <| smR 2 rfl <| nR <| wDn (by kernel_rfl) <| tRt ?_
       (have h2 : (r8node u f deep wh seen set x).2 = (r8list u f (deep + 1) ⟨true, wh.Loop, r8of f.types x.outs, wh.Next, wh.Left⟩ seen (r8list u f (deep + 1) ⟨true, wh.Loop, r8of f.types x.outs, wh.Next, wh.Left⟩ seen set ka).2 kb).2 := (by rw [r8node_if _ _ _ _ _ _ hbare hk10 hkids]; simp_all [andT, andS, r8end]; done)
        rw [h2]
        refine rOk rfl ?_ (po2 rfl rfl)
        clear h2
        rw [r8node_if _ _ _ _ _ _ hbare hk10 hkids]
        simp_all [andT, andS, r8end]
        done)
      refine smR 5 rfl <| nUr rfl rfl rfl rfl rfl rfl rfl <| nR <| WA.takeNoU (i := 8) rfl (by kernel_rfl) (by kernel_rfl) (by kernel_rfl) (fun _ _ _ h => h) rfl rfl rfl rfl rfl rfl <| wR 4 [9, 10, 11, 12, 13, 14, 15, 16, 17, 18] (by kernel_rfl) (fun _ _ _ h => h) <| nUr rfl rfl rfl rfl rfl rfl rfl <| smR 9 rfl <| nR <| wN 19 (by kernel_rfl) (fun _ _ _ h => h) rfl rfl rfl <| wN 20 (by kernel_rfl) (fun _ _ _ h => h) rfl rfl rfl <| wR 0 [21, 22] (by kernel_rfl) (fun _ _ _ h => h) <| smR 2 rfl ?_
      refine nR <| wDn (by kernel_rfl) <| tRt ?_
      (have h2 : (r8node u f deep wh seen set x).2 = (r8list u f (deep + 1) ⟨true, wh.Loop, r8of f.types x.outs, wh.Next, wh.Left⟩ seen (r8list u f (deep + 1) ⟨true, wh.Loop, r8of f.types x.outs, wh.Next, wh.Left⟩ seen set ka).2 kb).2 := (by rw [r8node_if _ _ _ _ _ _ hbare hk10 hkids]; simp_all [andT, andS, r8end]; done)
       rw [h2]
       refine rOk rfl ?_ (po2 rfl rfl)
       clear h2
       rw [r8node_if _ _ _ _ _ _ hbare hk10 hkids]
       simp_all [andT, andS, r8end]
       done)
     refine smR 9 rfl <| nR <| wN 28 (by kernel_rfl) (fun _ _ _ h => h) rfl rfl rfl <| wR 0 [29, 30] (by kernel_rfl) (fun _ _ _ h => h) <| smR 2 rfl <| nR <| wDn (by kernel_rfl) <| tQ <| tDr mixed (fun k => k ∈ ([3] : List Nat)) <| wR 15 [0, 1, 2, 3, 4, 5, 6, 7] (by kernel_rfl) (fun _ _ _ h => h) <| smR 7 rfl <| nUr rfl rfl rfl rfl rfl rfl rfl ?_
     refine nR <| WA.takeNoU (i := 8) rfl (by kernel_rfl) (by kernel_rfl) (by kernel_rfl) (fun _ _ _ h => h) rfl rfl rfl rfl rfl rfl <| wR 4 [9, 10, 11, 12, 13, 14, 15, 16, 17, 18] (by kernel_rfl) (fun _ _ _ h => h) <| nUr rfl rfl rfl rfl rfl rfl rfl <| smR 9 rfl <| nR <| wN 19 (by kernel_rfl) (fun _ _ _ h => h) rfl rfl rfl <| wN 20 (by kernel_rfl) (fun _ _ _ h => h) rfl rfl rfl <| wR 0 [21, 22] (by kernel_rfl) (fun _ _ _ h => h) <| smR 2 rfl <| nR <| wDn (by kernel_rfl) ?_
     refine tRt ?_
     (have h2 : (r8node u f deep wh seen set x).2 = (r8list u f (deep + 1) ⟨true, wh.Loop, r8of f.types x.outs, wh.Next, wh.Left⟩ seen set ka).2 := (by rw [r8node_if _ _ _ _ _ _ hbare hk10 hkids]; simp_all [andT, andS, r8end]; done)
      rw [h2]
      refine rOk rfl ?_ (po2 rfl rfl)
      clear h2
      rw [r8node_if _ _ _ _ _ _ hbare hk10 hkids]
      simp_all [andT, andS, r8end]
      done)
    refine smR 9 rfl <| nR <| wN 16 (by kernel_rfl) (fun _ _ _ h => h) rfl rfl rfl <| wR 3 [17, 18, 19, 20, 21, 22, 23, 24, 25, 26, 27] (by kernel_rfl) (fun _ _ _ h => h) <| smR 11 rfl <| nR <| wN 28 (by kernel_rfl) (fun _ _ _ h => h) rfl rfl rfl <| wR 0 [29, 30] (by kernel_rfl) (fun _ _ _ h => h) <| smR 2 rfl <| nR <| wDn (by kernel_rfl) <| tQ ?_
    refine tDr mixed (fun k => k ∈ ([3] : List Nat)) <| wR 15 [0, 1, 2, 3, 4, 5, 6, 7] (by kernel_rfl) (fun _ _ _ h => h) <| smR 7 rfl <| nUr rfl rfl rfl rfl rfl rfl rfl <| nR <| WA.takeNoU (i := 8) rfl (by kernel_rfl) (by kernel_rfl) (by kernel_rfl) (fun _ _ _ h => h) rfl rfl rfl rfl rfl rfl <| wR 4 [9, 10, 11, 12, 13, 14, 15, 16, 17, 18] (by kernel_rfl) (fun _ _ _ h => h) <| nUr rfl rfl rfl rfl rfl rfl rfl <| smR 9 rfl <| nR <| wN 19 (by kernel_rfl) (fun _ _ _ h => h) rfl rfl rfl <| wN 20 (by kernel_rfl) (fun _ _ _ h => h) rfl rfl rfl ?_
    refine wR 0 [21, 22] (by kernel_rfl) (fun _ _ _ h => h) <| smR 2 rfl <| nR <| wDn (by kernel_rfl) <| tRt ?_
    (have h2 : (r8node u f deep wh seen set x).2 = set := (by rw [r8node_if _ _ _ _ _ _ hbare hk10 hkids]; simp_all [andT, andS, r8end]; done)
     rw [h2]
     refine rOk rfl ?_ (po2 rfl rfl)
     clear h2
     rw [r8node_if _ _ _ _ _ _ hbare hk10 hkids]
     simp_all [andT, andS, r8end]
     done)
   refine wI rfl rfl (fun k (h : _) => by (simp at h ⊢; omega)) (new_one rfl) (fun _ _ => aLc (k := 111) rfl tZ93 rfl rfl rfl rfl) <| wO 5 (by kernel_rfl) <| wI rfl rfl (fun k (h : _) => by (simp at h ⊢; omega)) (nAp rfl) (fun _ _ => ocr (sc_r8of u f set x.outs hbo) ent93 rfl (po2 rfl rfl) rfl (fun k (h : _) => by (simp only [List.mem_cons, List.not_mem_nil, or_false] at h; rcases h with rfl <;> first | exact .inl rfl | exact .inr rfl | exact .inr (by decide))) rfl rfl) <| wR 1 [10] (by kernel_rfl) (fun _ _ _ h => h) <| rV rfl rfl (bPu rfl rfl tZ93 tP93 rfl (fbk rfl) rfl) <| nR <| wO 12 (by kernel_rfl) <| wI rfl rfl (fun k (h : _) => by (simp at h ⊢; omega)) (nOl rfl) (fun _ _ => sBA rfl rfl rfl rfl rfl (by simp) tS93 (flk rfl) (lb rfl)) <| wDn (by kernel_rfl) <| tQ <| tDr mixed (fun k => k ∈ ([3, 111] : List Nat)) <| wR 27 [0, 1, 2, 3] (by kernel_rfl) (fun _ _ _ h => h) ?_
   refine smR 4 rfl <| nR <| wO 4 (by kernel_rfl) <| wI rfl rfl (fun k (h : _) => by (simp at h ⊢; omega)) nw (fun _ _ => bSl rfl rfl uT35 tZ3 tS3 rfl rfl rfl rfl (fbk rfl) rfl) <| wO 5 (by kernel_rfl) <| wI rfl rfl (fun k (h : _) => by (simp at h ⊢; omega)) (nAp rfl) (fun _ _ => ocr (sc_r8types u f set x.args seen [2]) ent94 rfl (po2 rfl rfl) rfl (fun k (h : _) => .inr trivial) rfl rfl) <| wR 15 [6, 7, 8, 9, 10, 11, 12, 13, 14, 15] (by kernel_rfl) (fun _ _ _ h => h) <| smR 1 rfl ?_
   refine WR.split (t := 39) rfl (fun hb39 => ?_) (fun hb39 => ?_)
   ·refine smR 3 rfl <| ryV rfl rfl rfl (iSq rfl rfl rfl uT41 hi0 tS44 rfl (by rfl)) <| smR 2 rfl <| ryV rfl rfl rfl (lBP rfl rfl rfl Tryz.underlying93 rfl tS93 (lb rfl) rfl (by decide)) <| smR 1 rfl <| ryV rfl rfl rfl (oB rfl rfl (i64_add rfl (by omega))) <| nR <| wO 16 (by kernel_rfl) <| wY rfl rfl rfl (fun k (h : _) => by (simp at h ⊢; omega)) (nAp rfl) (fun _ _ => ocr (ih ka hm0 (deep + 1) ⟨true, wh.Loop, r8of f.types x.outs, wh.Next, wh.Left⟩ seen set ⟨by omega, by omega⟩ hs hb0) ent48 rfl (po2 rfl rfl) rfl (fun k (h : _) => by (simp only [List.mem_cons, List.not_mem_nil, or_false] at h; rcases h with rfl | rfl <;> first | exact .inl rfl | exact .inr rfl | exact .inr (by decide))) rfl rfl) <| wR 3 [17, 18, 19, 20, 21, 22, 23, 24, 25, 26, 27] (by kernel_rfl) (fun _ _ _ h => h) <| smR 2 rfl ?_
    refine WR.split (t := 51) rfl (fun hb51 => ?_) (fun hb51 => ?_)
    ·refine smR 3 rfl <| ryV rfl rfl rfl (iSq rfl rfl rfl uT41 hi1 tS44 rfl (by rfl)) <| smR 2 rfl <| ryV rfl rfl rfl (lBP rfl rfl rfl Tryz.underlying93 rfl tS93 (lb rfl) rfl (by decide)) <| smR 1 rfl <| ryV rfl rfl rfl (oB rfl rfl (i64_add rfl (by omega))) <| nR <| wO 28 (by kernel_rfl) <| wY rfl rfl rfl (fun k (h : _) => by (simp at h ⊢; omega)) (nAp rfl) (fun _ _ => ocr (ih kb hm1 (deep + 1) ⟨true, wh.Loop, r8of f.types x.outs, wh.Next, wh.Left⟩ seen (r8list u f (deep + 1) ⟨true, wh.Loop, r8of f.types x.outs, wh.Next, wh.Left⟩ seen set ka).2 ⟨by omega, by omega⟩ hs1 hb1) ent48 rfl (po2 rfl rfl) rfl (fun k (h : _) => by (simp only [List.mem_cons, List.not_mem_nil, or_false] at h; rcases h with rfl | rfl <;> first | exact .inl rfl | exact .inr rfl | exact .inr (by decide))) rfl rfl) <| wR 0 [29, 30] (by kernel_rfl) (fun _ _ _ h => h) <| smR 2 rfl <| nR ?_
     refine wDn (by kernel_rfl) <| tQ <| tDr mixed (fun k => k ∈ ([3] : List Nat)) <| wR 15 [0, 1, 2, 3, 4, 5, 6, 7] (by kernel_rfl) (fun _ _ _ h => h) <| smR 2 rfl ?_
     refine WR.split (t := 64) rfl (fun hb64 => ?_) (fun hb64 => ?_)
     ·refine smR 2 rfl <| ryV rfl rfl rfl (oSm uT35 rfl) <| smR 2 rfl ?_
      refine WR.split (t := 69) rfl (fun hb69 => ?_) (fun hb69 => ?_)
      ·refine smR 1 rfl <| nR <| wN 8 (by kernel_rfl) (fun _ _ _ h => h) rfl rfl rfl <| wR 4 [9, 10, 11, 12, 13, 14, 15, 16, 17, 18] (by kernel_rfl) (fun _ _ _ h => h) <| smR 9 rfl <| ryV rfl rfl rfl (oSm uT35 rfl) <| nR <| wO 19 (by kernel_rfl) <| wY rfl rfl rfl (fun k (h : _) => by (simp at h ⊢; omega)) (new_one rfl) (fun _ _ => ok_makeSlice (k := 182) (s := ⟨3, 1⟩) rfl rfl rfl uT35 tZ3 tC3 rfl (by decide) (by omega) (by omega) rfl rfl rfl rfl) <| wO 20 (by kernel_rfl) <| wY rfl rfl rfl (fun k (h : _) => by (simp at h ⊢; omega)) (nAp rfl) (fun _ _ => ok_lend (fun k => k = 182) (sc_r8sets u f (r8list u f (deep + 1) ⟨true, wh.Loop, r8of f.types x.outs, wh.Next, wh.Left⟩ seen (r8list u f (deep + 1) ⟨true, wh.Loop, r8of f.types x.outs, wh.Next, wh.Left⟩ seen set ka).2 kb).2 x.outs (List.replicate x.outs.length 0) hs2) ent95 rfl rfl (sRf _ _) (And.intro LendOf.same (And.intro LendOf.same (And.intro (LendOf.row rfl rfl (by (simp; done)) (by (simp only [List.map_replicate]; rfl))) (trivial)))) (fun k h => by subst h; rfl) (po2 rfl rfl) rfl (fun k (h : _) => by (simp only [List.mem_cons, List.not_mem_nil, or_false] at h; rcases h with rfl <;> first | exact .inl rfl | exact .inr rfl | exact .inr (by decide))) ⟨_, rfl⟩ (ck_lend (r8sets_length ..))) <| wR 0 [21, 22] (by kernel_rfl) (fun _ _ _ h => h) ?_
       refine smR 2 rfl <| nR <| wDn (by kernel_rfl) <| tRt ?_
       (have h2 : (r8node u f deep wh seen set x).2 = (r8sets f.types (r8list u f (deep + 1) ⟨true, wh.Loop, r8of f.types x.outs, wh.Next, wh.Left⟩ seen (r8list u f (deep + 1) ⟨true, wh.Loop, r8of f.types x.outs, wh.Next, wh.Left⟩ seen set ka).2 kb).2 x.outs (List.replicate x.outs.length 0)).2 := (by rw [r8node_if _ _ _ _ _ _ hbare hk10 hkids]; simp_all [andT, andS, r8end]; done)
        rw [h2]
        refine rOk rfl ?_ (po2 rfl rfl)
        clear h2
        rw [r8node_if _ _ _ _ _ _ hbare hk10 hkids]
        simp_all [andT, andS, r8end]
        done)
      refine ryV rfl rfl rfl (lEA rfl rfl uT43 rfl tS43 (lb rfl)) <| nR <| wO 8 (by kernel_rfl) <| wY rfl rfl rfl (fun k (h : _) => by (simp at h ⊢; omega)) nw (fun _ _ => ocq (sc_r8Closed _) ent53 rfl rfl) <| wR 4 [9, 10, 11, 12, 13, 14, 15, 16, 17, 18] (by kernel_rfl) (fun _ _ _ h => h) <| smR 4 rfl ?_
      refine WR.split (t := 75) rfl (fun hb75 => ?_) (fun hb75 => ?_)
      ·refine smR 5 rfl <| ryV rfl rfl rfl (oSm uT35 rfl) <| nR <| wO 19 (by kernel_rfl) <| wY rfl rfl rfl (fun k (h : _) => by (simp at h ⊢; omega)) (new_one rfl) (fun _ _ => ok_makeSlice (k := 182) (s := ⟨3, 1⟩) rfl rfl rfl uT35 tZ3 tC3 rfl (by decide) (by omega) (by omega) rfl rfl rfl rfl) <| wO 20 (by kernel_rfl) <| wY rfl rfl rfl (fun k (h : _) => by (simp at h ⊢; omega)) (nAp rfl) (fun _ _ => ok_lend (fun k => k = 182) (sc_r8sets u f (r8list u f (deep + 1) ⟨true, wh.Loop, r8of f.types x.outs, wh.Next, wh.Left⟩ seen (r8list u f (deep + 1) ⟨true, wh.Loop, r8of f.types x.outs, wh.Next, wh.Left⟩ seen set ka).2 kb).2 x.outs (List.replicate x.outs.length 0) hs2) ent95 rfl rfl (sRf _ _) (And.intro LendOf.same (And.intro LendOf.same (And.intro (LendOf.row rfl rfl (by (simp; done)) (by (simp only [List.map_replicate]; rfl))) (trivial)))) (fun k h => by subst h; rfl) (po2 rfl rfl) rfl (fun k (h : _) => by (simp only [List.mem_cons, List.not_mem_nil, or_false] at h; rcases h with rfl <;> first | exact .inl rfl | exact .inr rfl | exact .inr (by decide))) ⟨_, rfl⟩ (ck_lend (r8sets_length ..))) <| wR 0 [21, 22] (by kernel_rfl) (fun _ _ _ h => h) <| smR 2 rfl <| nR <| wDn (by kernel_rfl) <| tRt ?_
       (have h2 : (r8node u f deep wh seen set x).2 = (r8sets f.types (r8list u f (deep + 1) ⟨true, wh.Loop, r8of f.types x.outs, wh.Next, wh.Left⟩ seen (r8list u f (deep + 1) ⟨true, wh.Loop, r8of f.types x.outs, wh.Next, wh.Left⟩ seen set ka).2 kb).2 x.outs (List.replicate x.outs.length 0)).2 := (by rw [r8node_if _ _ _ _ _ _ hbare hk10 hkids]; simp_all [andT, andS, r8end]; done)
        rw [h2]
        refine rOk rfl ?_ (po2 rfl rfl)
        clear h2
        rw [r8node_if _ _ _ _ _ _ hbare hk10 hkids]
        simp_all [andT, andS, r8end]
        done)
      refine smR 6 rfl <| nR <| wN 19 (by kernel_rfl) (fun _ _ _ h => h) rfl rfl rfl <| wN 20 (by kernel_rfl) (fun _ _ _ h => h) rfl rfl rfl <| wR 0 [21, 22] (by kernel_rfl) (fun _ _ _ h => h) <| smR 2 rfl <| nR <| wDn (by kernel_rfl) <| tRt ?_
      (have h2 : (r8node u f deep wh seen set x).2 = (r8list u f (deep + 1) ⟨true, wh.Loop, r8of f.types x.outs, wh.Next, wh.Left⟩ seen (r8list u f (deep + 1) ⟨true, wh.Loop, r8of f.types x.outs, wh.Next, wh.Left⟩ seen set ka).2 kb).2 := (by rw [r8node_if _ _ _ _ _ _ hbare hk10 hkids]; simp_all [andT, andS, r8end]; done)
       rw [h2]
       refine rOk rfl ?_ (po2 rfl rfl)
       clear h2
       rw [r8node_if _ _ _ _ _ _ hbare hk10 hkids]
       simp_all [andT, andS, r8end]
       done)
     refine smR 5 rfl <| nUr rfl rfl rfl rfl rfl rfl rfl <| nR <| WA.takeNoU (i := 8) rfl (by kernel_rfl) (by kernel_rfl) (by kernel_rfl) (fun _ _ _ h => h) rfl rfl rfl rfl rfl rfl <| wR 4 [9, 10, 11, 12, 13, 14, 15, 16, 17, 18] (by kernel_rfl) (fun _ _ _ h => h) <| nUr rfl rfl rfl rfl rfl rfl rfl <| smR 9 rfl <| nR <| wN 19 (by kernel_rfl) (fun _ _ _ h => h) rfl rfl rfl <| wN 20 (by kernel_rfl) (fun _ _ _ h => h) rfl rfl rfl <| wR 0 [21, 22] (by kernel_rfl) (fun _ _ _ h => h) <| smR 2 rfl ?_
     refine nR <| wDn (by kernel_rfl) <| tRt ?_
     (have h2 : (r8node u f deep wh seen set x).2 = (r8list u f (deep + 1) ⟨true, wh.Loop, r8of f.types x.outs, wh.Next, wh.Left⟩ seen (r8list u f (deep + 1) ⟨true, wh.Loop, r8of f.types x.outs, wh.Next, wh.Left⟩ seen set ka).2 kb).2 := (by rw [r8node_if _ _ _ _ _ _ hbare hk10 hkids]; simp_all [andT, andS, r8end]; done)
      rw [h2]
      refine rOk rfl ?_ (po2 rfl rfl)
      clear h2
      rw [r8node_if _ _ _ _ _ _ hbare hk10 hkids]
      simp_all [andT, andS, r8end]
      done)
    refine smR 9 rfl <| nR <| wN 28 (by kernel_rfl) (fun _ _ _ h => h) rfl rfl rfl <| wR 0 [29, 30] (by kernel_rfl) (fun _ _ _ h => h) <| smR 2 rfl <| nR <| wDn (by kernel_rfl) <| tQ <| tDr mixed (fun k => k ∈ ([3] : List Nat)) <| wR 15 [0, 1, 2, 3, 4, 5, 6, 7] (by kernel_rfl) (fun _ _ _ h => h) <| smR 7 rfl <| nUr rfl rfl rfl rfl rfl rfl rfl ?_
    refine nR <| WA.takeNoU (i := 8) rfl (by kernel_rfl) (by kernel_rfl) (by kernel_rfl) (fun _ _ _ h => h) rfl rfl rfl rfl rfl rfl <| wR 4 [9, 10, 11, 12, 13, 14, 15, 16, 17, 18] (by kernel_rfl) (fun _ _ _ h => h) <| nUr rfl rfl rfl rfl rfl rfl rfl <| smR 9 rfl <| nR <| wN 19 (by kernel_rfl) (fun _ _ _ h => h) rfl rfl rfl <| wN 20 (by kernel_rfl) (fun _ _ _ h => h) rfl rfl rfl <| wR 0 [21, 22] (by kernel_rfl) (fun _ _ _ h => h) <| smR 2 rfl <| nR <| wDn (by kernel_rfl) ?_
    refine tRt ?_
    (have h2 : (r8node u f deep wh seen set x).2 = (r8list u f (deep + 1) ⟨true, wh.Loop, r8of f.types x.outs, wh.Next, wh.Left⟩ seen set ka).2 := (by rw [r8node_if _ _ _ _ _ _ hbare hk10 hkids]; simp_all [andT, andS, r8end]; done)
     rw [h2]
     refine rOk rfl ?_ (po2 rfl rfl)
     clear h2
     rw [r8node_if _ _ _ _ _ _ hbare hk10 hkids]
     simp_all [andT, andS, r8end]
     done)
   refine smR 9 rfl <| nR <| wN 16 (by kernel_rfl) (fun _ _ _ h => h) rfl rfl rfl <| wR 3 [17, 18, 19, 20, 21, 22, 23, 24, 25, 26, 27] (by kernel_rfl) (fun _ _ _ h => h) <| smR 11 rfl <| nR <| wN 28 (by kernel_rfl) (fun _ _ _ h => h) rfl rfl rfl <| wR 0 [29, 30] (by kernel_rfl) (fun _ _ _ h => h) <| smR 2 rfl <| nR <| wDn (by kernel_rfl) <| tQ ?_
   refine tDr mixed (fun k => k ∈ ([3] : List Nat)) <| wR 15 [0, 1, 2, 3, 4, 5, 6, 7] (by kernel_rfl) (fun _ _ _ h => h) <| smR 7 rfl <| nUr rfl rfl rfl rfl rfl rfl rfl <| nR <| WA.takeNoU (i := 8) rfl (by kernel_rfl) (by kernel_rfl) (by kernel_rfl) (fun _ _ _ h => h) rfl rfl rfl rfl rfl rfl <| wR 4 [9, 10, 11, 12, 13, 14, 15, 16, 17, 18] (by kernel_rfl) (fun _ _ _ h => h) <| nUr rfl rfl rfl rfl rfl rfl rfl <| smR 9 rfl <| nR <| wN 19 (by kernel_rfl) (fun _ _ _ h => h) rfl rfl rfl <| wN 20 (by kernel_rfl) (fun _ _ _ h => h) rfl rfl rfl ?_
   refine wR 0 [21, 22] (by kernel_rfl) (fun _ _ _ h => h) <| smR 2 rfl <| nR <| wDn (by kernel_rfl) <| tRt ?_
   (have h2 : (r8node u f deep wh seen set x).2 = set := (by rw [r8node_if _ _ _ _ _ _ hbare hk10 hkids]; simp_all [andT, andS, r8end]; done)
    rw [h2]
    refine rOk rfl ?_ (po2 rfl rfl)
    clear h2
    rw [r8node_if _ _ _ _ _ _ hbare hk10 hkids]
    simp_all [andT, andS, r8end]
    done)
  refine tQ <| tG <| sm 2 rfl <| nL ?_
  refine tC rfl (fun hc85 => ?_) fun hc85 => ?_
  ·have hk11 : x.kind = 11 := by simpa using hc85
   obtain ⟨ka, hkids⟩ := r8bare_loop hbare hk11
   have hi0 : (x.kids.map eKid)[0]? = some [nodes ka] := by rw [hkids]; rfl
   have hm0 : ka ∈ x.kids := by rw [hkids]; simp
   have hkW : kdW x.kids = 1 + lsW ka := by rw [hkids]; simp [kdW]
   have hb0 : (seen ++ x.params).length + lsW ka ≤ 1073741824 := by simp; omega
   have hs1 : (r8sets f.types set x.params (List.replicate x.params.length 0)).2.length = f.types.length := (r8sets_length ..).trans hs
   have hs2 : (r8list u f (deep + 1) ⟨false, true, [], r8of f.types x.params, r8of f.types x.outs⟩ (seen ++ x.params) (r8sets f.types set x.params (List.replicate x.params.length 0)).2 ka).2.length = f.types.length := (r8list_length ..).trans hs1
   refine tQ <| tDr mixed (fun k => k ∈ ([3] : List Nat)) <| wR 5 [0, 1, 2, 4, 5, 6] (by kernel_rfl) (fun _ _ _ h => h) <| smR 6 rfl <| nR <| WA.all (rs := [3, 9]) (by kernel_rfl) (by simp) ?_
   refine fmc ⟨?_, fmc ⟨?_, by simp⟩⟩
   ·refine wI rfl rfl (fun k (h : _) => by (simp at h ⊢; omega)) (nAp rfl) (fun _ _ => ocr (sc_r8of u f set x.params hbp) ent93 rfl (po2 rfl rfl) rfl (fun k (h : _) => by (simp only [List.mem_cons, List.not_mem_nil, or_false] at h; rcases h with rfl <;> first | exact .inl rfl | exact .inr rfl | exact .inr (by decide))) rfl rfl) <| WA.all (rs := [7, 9]) (by kernel_rfl) (by simp) ?_
    refine fmc ⟨?_, fmc ⟨?_, by simp⟩⟩
    ·refine wI rfl rfl (fun k (h : _) => by (simp at h ⊢; omega)) (nAp rfl) (fun _ _ => ocr (sc_r8of u f set x.outs hbo) ent93 rfl (po2 rfl rfl) rfl (fun k (h : _) => by (simp only [List.mem_cons, List.not_mem_nil, or_false] at h; rcases h with rfl <;> first | exact .inl rfl | exact .inr rfl | exact .inr (by decide))) rfl rfl) <| wR 2 [8] (by kernel_rfl) (fun _ _ _ h => h) <| rV rfl rfl (bPu rfl rfl tZ93 tP93 rfl (fbk rfl) rfl) <| nR <| wO 9 (by kernel_rfl) <| wI rfl rfl (fun k (h : _) => by (simp at h ⊢; omega)) (new_one rfl) (fun _ _ => aLc (k := 113) rfl tZ93 rfl rfl rfl rfl) <| wO 10 (by kernel_rfl) <| wI rfl rfl (fun k (h : _) => by (simp at h ⊢; omega)) (nOl rfl) (fun _ _ => sBA rfl rfl rfl rfl rfl (by simp) tS93 (flk rfl) (lb rfl)) <| wDn (by kernel_rfl) <| tQ <| tQ <| tDr mixed (fun k => k ∈ ([3] : List Nat)) ?_
     refine wR 14 [0, 1, 2, 3, 4, 5, 6] (by kernel_rfl) (fun _ _ _ h => h) <| smR 7 rfl <| nR <| wO 7 (by kernel_rfl) <| wI rfl rfl (fun k (h : _) => by (simp at h ⊢; omega)) (nAp rfl) (fun _ _ => ocr (sc_r8of u f set x.params hbp) ent93 rfl (po2 rfl rfl) rfl (fun k (h : _) => by (simp only [List.mem_cons, List.not_mem_nil, or_false] at h; rcases h with rfl <;> first | exact .inl rfl | exact .inr rfl | exact .inr (by decide))) rfl rfl) <| wO 8 (by kernel_rfl) <| wI rfl rfl (fun k (h : _) => by (simp at h ⊢; omega)) (nAp rfl) (fun _ _ => ocr (sc_r8types u f set x.args seen (r8of f.types x.params)) ent94 rfl (po2 rfl rfl) rfl (fun k (h : _) => .inr trivial) rfl rfl) <| wR 4 [9, 10, 11, 12, 13, 14, 15, 16] (by kernel_rfl) (fun _ _ _ h => h) <| smR 2 rfl ?_
     refine WR.split (t := 106) rfl (fun hb106 => ?_) (fun hb106 => ?_)
     ·refine smR 6 rfl <| nR <| wN 17 (by kernel_rfl) (fun _ _ _ h => h) rfl rfl rfl <| wN 18 (by kernel_rfl) (fun _ _ _ h => h) rfl rfl rfl <| wR 0 [19, 20] (by kernel_rfl) (fun _ _ _ h => h) <| smR 2 rfl <| nR <| wDn (by kernel_rfl) <| Tr.condT rfl <| tQ <| tG <| sm 1 rfl ?_
      refine nL <| tRt ?_
      (have h2 : (r8node u f deep wh seen set x).2 = set := (by rw [r8node_loop _ _ _ _ _ _ hbare hk11 hkids]; simp_all [andT, andS, r8end]; done)
       rw [h2]
       refine rOk rfl ?_ (po2 rfl rfl)
       clear h2
       rw [r8node_loop _ _ _ _ _ _ hbare hk11 hkids]
       simp_all [andT, andS, r8end]
       done)
     refine smR 5 rfl <| ryV rfl rfl rfl (oSm uT35 rfl) <| nR <| wO 17 (by kernel_rfl) <| wY rfl rfl rfl (fun k (h : _) => by (simp at h ⊢; omega)) (new_one rfl) (fun _ _ => ok_makeSlice (k := 213) (s := ⟨3, 1⟩) rfl rfl rfl uT35 tZ3 tC3 rfl (by decide) (by omega) (by omega) rfl rfl rfl rfl) <| wO 18 (by kernel_rfl) <| wY rfl rfl rfl (fun k (h : _) => by (simp at h ⊢; omega)) (nAp rfl) (fun _ _ => ok_lend (fun k => k = 213) (sc_r8sets u f set x.params (List.replicate x.params.length 0) hs) ent95 rfl rfl (sRf _ _) (And.intro LendOf.same (And.intro LendOf.same (And.intro (LendOf.row rfl rfl (by (simp; done)) (by (simp only [List.map_replicate]; rfl))) (trivial)))) (fun k h => by subst h; rfl) (po2 rfl rfl) rfl (fun k (h : _) => by (simp only [List.mem_cons, List.not_mem_nil, or_false] at h; rcases h with rfl <;> first | exact .inl rfl | exact .inr rfl | exact .inr (by decide))) ⟨_, rfl⟩ (ck_lend (r8sets_length ..))) <| wR 0 [19, 20] (by kernel_rfl) (fun _ _ _ h => h) <| smR 2 rfl <| nR <| wDn (by kernel_rfl) ?_
     refine tC rfl (fun hc116 => ?_) fun hc116 => ?_
     ·refine tQ <| tG <| sm 1 rfl <| nL <| tRt ?_
      (have h2 : (r8node u f deep wh seen set x).2 = (r8sets f.types set x.params (List.replicate x.params.length 0)).2 := (by rw [r8node_loop _ _ _ _ _ _ hbare hk11 hkids]; simp_all [andT, andS, r8end]; done)
       rw [h2]
       refine rOk rfl ?_ (po2 rfl rfl)
       clear h2
       rw [r8node_loop _ _ _ _ _ _ hbare hk11 hkids]
       simp_all [andT, andS, r8end]
       done)
     refine tSk <| tQ <| tG <| sm 1 rfl <| nL <| tQ <| Tr.grow (t := 14) (k := 114) ⟨3, 1⟩ rfl rfl rfl rfl rfl <| tG <| sm 2 rfl ?_
     refine cE rfl (aPp rfl rfl rfl rfl (by rfl) (by simp) uT35 tB3 (by decide) (hw_int) (hone_int) (by simp [maxLen, chunks]; omega) (by simp [chunks]; omega)) ?_
     refine sm 1 rfl <| nL <| tQ <| tG <| sm 3 rfl ?_
     refine cE rfl (aPp rfl rfl rfl rfl (by (simp; done)) (by simp) uT35 tB3 (by decide) (hw_int) (hone_int) (by simp [maxLen, chunks]; omega) (by simp [chunks]; omega)) ?_
     refine sm 1 rfl <| nL <| tQ <| tDr mixed (fun k => k ∈ ([3, 113] : List Nat)) <| wR 23 [0, 1, 2, 3, 4, 5, 6, 7, 8] (by kernel_rfl) (fun _ _ _ h => h) <| smR 3 rfl <| rV rfl rfl (iSq rfl rfl rfl uT41 hi0 tS44 rfl (by rfl)) <| smR 2 rfl <| rV rfl rfl (lBP rfl rfl rfl Tryz.underlying93 rfl tS93 (lb rfl) rfl (by decide)) <| smR 1 rfl <| rV rfl rfl (oB rfl rfl (i64_add rfl (by omega))) <| nR ?_
     refine wO 9 (by kernel_rfl) <| wI rfl rfl (fun k (h : _) => by (simp at h ⊢; omega)) (nAp rfl) (fun _ _ => ok_lend (fun k => k = 114) (ih ka hm0 (deep + 1) ⟨false, true, [], r8of f.types x.params, r8of f.types x.outs⟩ (seen ++ x.params) (r8sets f.types set x.params (List.replicate x.params.length 0)).2 ⟨by omega, by omega⟩ hs1 hb0) ent48 rfl rfl (sSm rfl (sSm rfl (sSm rfl (Subs.cons (fun _ _ _ _ h => sub_pv (q := whv ⟨false, true, [], r8of f.types x.params, r8of f.types x.outs⟩) (PSub.agg (ps := [vBool false, vBool true, .val (.slice none 0 0), ints (r8of f.types x.params), ints (r8of f.types x.outs)]) (And.intro (PSub.refl _) (And.intro (PSub.refl _) (And.intro PSub.nil (And.intro (PSub.refl _) (And.intro (PSub.refl _) trivial)))))) h) (sSm rfl Subs.nil))))) (And.intro LendOf.same (And.intro LendOf.same (And.intro (LendOf.row rfl rfl (by (simp; done)) (by (simp; done))) (And.intro LendOf.same (And.intro LendOf.same (trivial)))))) (fun k h => by subst h; rfl) (po2 rfl rfl) rfl (fun k (h : _) => by (simp only [List.mem_cons, List.not_mem_nil, or_false] at h; rcases h with rfl | rfl <;> first | exact .inl rfl | exact .inr rfl | exact .inr (by decide))) ⟨_, rfl⟩ (ck_lend (r8list_length ..))) <| wR 15 [10, 11, 12, 13, 14, 15, 16] (by kernel_rfl) (fun _ _ _ h => h) <| smR 1 rfl ?_
     refine WR.split (t := 134) rfl (fun hb134 => ?_) (fun hb134 => ?_)
     ·refine smR 2 rfl <| ryV rfl rfl rfl (oSm uT35 rfl) <| smR 2 rfl ?_
      refine WR.split (t := 139) rfl (fun hb139 => ?_) (fun hb139 => ?_)
      ·refine smR 1 rfl <| nR <| wN 17 (by kernel_rfl) (fun _ _ _ h => h) rfl rfl rfl <| wR 4 [18, 19, 20, 21, 22, 23, 24, 25, 26, 27] (by kernel_rfl) (fun _ _ _ h => h) <| smR 9 rfl <| ryV rfl rfl rfl (oSm uT35 rfl) <| nR <| wO 28 (by kernel_rfl) <| wY rfl rfl rfl (fun k (h : _) => by (simp at h ⊢; omega)) (new_one rfl) (fun _ _ => ok_makeSlice (k := 252) (s := ⟨3, 1⟩) rfl rfl rfl uT35 tZ3 tC3 rfl (by decide) (by omega) (by omega) rfl rfl rfl rfl) <| wO 29 (by kernel_rfl) <| wY rfl rfl rfl (fun k (h : _) => by (simp at h ⊢; omega)) (nAp rfl) (fun _ _ => ok_lend (fun k => k = 252) (sc_r8sets u f (r8list u f (deep + 1) ⟨false, true, [], r8of f.types x.params, r8of f.types x.outs⟩ (seen ++ x.params) (r8sets f.types set x.params (List.replicate x.params.length 0)).2 ka).2 x.outs (List.replicate x.outs.length 0) hs2) ent95 rfl rfl (sRf _ _) (And.intro LendOf.same (And.intro LendOf.same (And.intro (LendOf.row rfl rfl (by (simp; done)) (by (simp only [List.map_replicate]; rfl))) (trivial)))) (fun k h => by subst h; rfl) (po2 rfl rfl) rfl (fun k (h : _) => by (simp only [List.mem_cons, List.not_mem_nil, or_false] at h; rcases h with rfl | rfl <;> first | exact .inl rfl | exact .inr rfl | exact .inr (by decide))) ⟨_, rfl⟩ (ck_lend (r8sets_length ..))) <| wR 0 [30, 31] (by kernel_rfl) (fun _ _ _ h => h) ?_
       refine smR 2 rfl <| nR <| wDn (by kernel_rfl) <| tRt ?_
       (have h2 : (r8node u f deep wh seen set x).2 = (r8sets f.types (r8list u f (deep + 1) ⟨false, true, [], r8of f.types x.params, r8of f.types x.outs⟩ (seen ++ x.params) (r8sets f.types set x.params (List.replicate x.params.length 0)).2 ka).2 x.outs (List.replicate x.outs.length 0)).2 := (by rw [r8node_loop _ _ _ _ _ _ hbare hk11 hkids]; simp_all [andT, andS, r8end]; done)
        rw [h2]
        refine rOk rfl ?_ (po2 rfl rfl)
        clear h2
        rw [r8node_loop _ _ _ _ _ _ hbare hk11 hkids]
        simp_all [andT, andS, r8end]
        done)
      refine ryV rfl rfl rfl (lEA rfl rfl uT43 rfl tS43 (lb rfl)) <| nR <| wO 17 (by kernel_rfl) <| wY rfl rfl rfl (fun k (h : _) => by (simp at h ⊢; omega)) nw (fun _ _ => ocq (sc_r8Closed _) ent53 rfl rfl) <| wR 4 [18, 19, 20, 21, 22, 23, 24, 25, 26, 27] (by kernel_rfl) (fun _ _ _ h => h) <| smR 4 rfl ?_
      refine WR.split (t := 145) rfl (fun hb145 => ?_) (fun hb145 => ?_)
      ·refine smR 5 rfl <| ryV rfl rfl rfl (oSm uT35 rfl) <| nR <| wO 28 (by kernel_rfl) <| wY rfl rfl rfl (fun k (h : _) => by (simp at h ⊢; omega)) (new_one rfl) (fun _ _ => ok_makeSlice (k := 252) (s := ⟨3, 1⟩) rfl rfl rfl uT35 tZ3 tC3 rfl (by decide) (by omega) (by omega) rfl rfl rfl rfl) <| wO 29 (by kernel_rfl) <| wY rfl rfl rfl (fun k (h : _) => by (simp at h ⊢; omega)) (nAp rfl) (fun _ _ => ok_lend (fun k => k = 252) (sc_r8sets u f (r8list u f (deep + 1) ⟨false, true, [], r8of f.types x.params, r8of f.types x.outs⟩ (seen ++ x.params) (r8sets f.types set x.params (List.replicate x.params.length 0)).2 ka).2 x.outs (List.replicate x.outs.length 0) hs2) ent95 rfl rfl (sRf _ _) (And.intro LendOf.same (And.intro LendOf.same (And.intro (LendOf.row rfl rfl (by (simp; done)) (by (simp only [List.map_replicate]; rfl))) (trivial)))) (fun k h => by subst h; rfl) (po2 rfl rfl) rfl (fun k (h : _) => by (simp only [List.mem_cons, List.not_mem_nil, or_false] at h; rcases h with rfl | rfl <;> first | exact .inl rfl | exact .inr rfl | exact .inr (by decide))) ⟨_, rfl⟩ (ck_lend (r8sets_length ..))) <| wR 0 [30, 31] (by kernel_rfl) (fun _ _ _ h => h) <| smR 2 rfl <| nR <| wDn (by kernel_rfl) <| tRt ?_
       (have h2 : (r8node u f deep wh seen set x).2 = (r8sets f.types (r8list u f (deep + 1) ⟨false, true, [], r8of f.types x.params, r8of f.types x.outs⟩ (seen ++ x.params) (r8sets f.types set x.params (List.replicate x.params.length 0)).2 ka).2 x.outs (List.replicate x.outs.length 0)).2 := (by rw [r8node_loop _ _ _ _ _ _ hbare hk11 hkids]; simp_all [andT, andS, r8end]; done)
        rw [h2]
        refine rOk rfl ?_ (po2 rfl rfl)
        clear h2
        rw [r8node_loop _ _ _ _ _ _ hbare hk11 hkids]
        simp_all [andT, andS, r8end]
        done)
      refine smR 6 rfl <| nR <| wN 28 (by kernel_rfl) (fun _ _ _ h => h) rfl rfl rfl <| wN 29 (by kernel_rfl) (fun _ _ _ h => h) rfl rfl rfl <| wR 0 [30, 31] (by kernel_rfl) (fun _ _ _ h => h) <| smR 2 rfl <| nR <| wDn (by kernel_rfl) <| tRt ?_
      (have h2 : (r8node u f deep wh seen set x).2 = (r8list u f (deep + 1) ⟨false, true, [], r8of f.types x.params, r8of f.types x.outs⟩ (seen ++ x.params) (r8sets f.types set x.params (List.replicate x.params.length 0)).2 ka).2 := (by rw [r8node_loop _ _ _ _ _ _ hbare hk11 hkids]; simp_all [andT, andS, r8end]; done)
       rw [h2]
       refine rOk rfl ?_ (po2 rfl rfl)
       clear h2
       rw [r8node_loop _ _ _ _ _ _ hbare hk11 hkids]
       simp_all [andT, andS, r8end]
       done)
     refine smR 5 rfl <| nUr rfl rfl rfl rfl rfl rfl rfl <| nR <| WA.takeNoU (i := 17) rfl (by kernel_rfl) (by kernel_rfl) (by kernel_rfl) (fun _ _ _ h => h) rfl rfl rfl rfl rfl rfl <| wR 4 [18, 19, 20, 21, 22, 23, 24, 25, 26, 27] (by kernel_rfl) (fun _ _ _ h => h) <| nUr rfl rfl rfl rfl rfl rfl rfl <| smR 9 rfl <| nR <| wN 28 (by kernel_rfl) (fun _ _ _ h => h) rfl rfl rfl <| wN 29 (by kernel_rfl) (fun _ _ _ h => h) rfl rfl rfl <| wR 0 [30, 31] (by kernel_rfl) (fun _ _ _ h => h) <| smR 2 rfl ?_
     refine nR <| wDn (by kernel_rfl) <| tRt ?_
     (have h2 : (r8node u f deep wh seen set x).2 = (r8list u f (deep + 1) ⟨false, true, [], r8of f.types x.params, r8of f.types x.outs⟩ (seen ++ x.params) (r8sets f.types set x.params (List.replicate x.params.length 0)).2 ka).2 := (by rw [r8node_loop _ _ _ _ _ _ hbare hk11 hkids]; simp_all [andT, andS, r8end]; done)
      rw [h2]
      refine rOk rfl ?_ (po2 rfl rfl)
      clear h2
      rw [r8node_loop _ _ _ _ _ _ hbare hk11 hkids]
      simp_all [andT, andS, r8end]
      done)
    refine wI rfl rfl (fun k (h : _) => by (simp at h ⊢; omega)) (new_one rfl) (fun _ _ => aLc (k := 113) rfl tZ93 rfl rfl rfl rfl) <| wO 7 (by kernel_rfl) <| wI rfl rfl (fun k (h : _) => by (simp at h ⊢; omega)) (nAp rfl) (fun _ _ => ocr (sc_r8of u f set x.outs hbo) ent93 rfl (po2 rfl rfl) rfl (fun k (h : _) => by (simp only [List.mem_cons, List.not_mem_nil, or_false] at h; rcases h with rfl | rfl <;> first | exact .inl rfl | exact .inr rfl | exact .inr (by decide))) rfl rfl) <| wR 1 [8] (by kernel_rfl) (fun _ _ _ h => h) <| rV rfl rfl (bPu rfl rfl tZ93 tP93 rfl (fbk rfl) rfl) <| nR <| wO 10 (by kernel_rfl) <| wI rfl rfl (fun k (h : _) => by (simp at h ⊢; omega)) (nOl rfl) (fun _ _ => sBA rfl rfl rfl rfl rfl (by simp) tS93 (flk rfl) (lb rfl)) <| wDn (by kernel_rfl) <| tQ <| tQ <| tDr mixed (fun k => k ∈ ([3] : List Nat)) ?_
    refine wR 14 [0, 1, 2, 3, 4, 5, 6] (by kernel_rfl) (fun _ _ _ h => h) <| smR 7 rfl <| nR <| wO 7 (by kernel_rfl) <| wI rfl rfl (fun k (h : _) => by (simp at h ⊢; omega)) (nAp rfl) (fun _ _ => ocr (sc_r8of u f set x.params hbp) ent93 rfl (po2 rfl rfl) rfl (fun k (h : _) => by (simp only [List.mem_cons, List.not_mem_nil, or_false] at h; rcases h with rfl <;> first | exact .inl rfl | exact .inr rfl | exact .inr (by decide))) rfl rfl) <| wO 8 (by kernel_rfl) <| wI rfl rfl (fun k (h : _) => by (simp at h ⊢; omega)) (nAp rfl) (fun _ _ => ocr (sc_r8types u f set x.args seen (r8of f.types x.params)) ent94 rfl (po2 rfl rfl) rfl (fun k (h : _) => .inr trivial) rfl rfl) <| wR 4 [9, 10, 11, 12, 13, 14, 15, 16] (by kernel_rfl) (fun _ _ _ h => h) <| smR 2 rfl ?_
    refine WR.split (t := 106) rfl (fun hb106 => ?_) (fun hb106 => ?_)
    ·refine smR 6 rfl <| nR <| wN 17 (by kernel_rfl) (fun _ _ _ h => h) rfl rfl rfl <| wN 18 (by kernel_rfl) (fun _ _ _ h => h) rfl rfl rfl <| wR 0 [19, 20] (by kernel_rfl) (fun _ _ _ h => h) <| smR 2 rfl <| nR <| wDn (by kernel_rfl) <| Tr.condT rfl <| tQ <| tG <| sm 1 rfl ?_
     refine nL <| tRt ?_
     (have h2 : (r8node u f deep wh seen set x).2 = set := (by rw [r8node_loop _ _ _ _ _ _ hbare hk11 hkids]; simp_all [andT, andS, r8end]; done)
      rw [h2]
      refine rOk rfl ?_ (po2 rfl rfl)
      clear h2
      rw [r8node_loop _ _ _ _ _ _ hbare hk11 hkids]
      simp_all [andT, andS, r8end]
      done)
    refine smR 5 rfl <| ryV rfl rfl rfl (oSm uT35 rfl) <| nR <| wO 17 (by kernel_rfl) <| wY rfl rfl rfl (fun k (h : _) => by (simp at h ⊢; omega)) (new_one rfl) (fun _ _ => ok_makeSlice (k := 213) (s := ⟨3, 1⟩) rfl rfl rfl uT35 tZ3 tC3 rfl (by decide) (by omega) (by omega) rfl rfl rfl rfl) <| wO 18 (by kernel_rfl) <| wY rfl rfl rfl (fun k (h : _) => by (simp at h ⊢; omega)) (nAp rfl) (fun _ _ => ok_lend (fun k => k = 213) (sc_r8sets u f set x.params (List.replicate x.params.length 0) hs) ent95 rfl rfl (sRf _ _) (And.intro LendOf.same (And.intro LendOf.same (And.intro (LendOf.row rfl rfl (by (simp; done)) (by (simp only [List.map_replicate]; rfl))) (trivial)))) (fun k h => by subst h; rfl) (po2 rfl rfl) rfl (fun k (h : _) => by (simp only [List.mem_cons, List.not_mem_nil, or_false] at h; rcases h with rfl <;> first | exact .inl rfl | exact .inr rfl | exact .inr (by decide))) ⟨_, rfl⟩ (ck_lend (r8sets_length ..))) <| wR 0 [19, 20] (by kernel_rfl) (fun _ _ _ h => h) <| smR 2 rfl <| nR <| wDn (by kernel_rfl) ?_
    refine tC rfl (fun hc116 => ?_) fun hc116 => ?_
    ·refine tQ <| tG <| sm 1 rfl <| nL <| tRt ?_
     (have h2 : (r8node u f deep wh seen set x).2 = (r8sets f.types set x.params (List.replicate x.params.length 0)).2 := (by rw [r8node_loop _ _ _ _ _ _ hbare hk11 hkids]; simp_all [andT, andS, r8end]; done)
      rw [h2]
      refine rOk rfl ?_ (po2 rfl rfl)
      clear h2
      rw [r8node_loop _ _ _ _ _ _ hbare hk11 hkids]
      simp_all [andT, andS, r8end]
      done)
    refine tSk <| tQ <| tG <| sm 1 rfl <| nL <| tQ <| Tr.grow (t := 14) (k := 114) ⟨3, 1⟩ rfl rfl rfl rfl rfl <| tG <| sm 2 rfl ?_
    refine cE rfl (aPp rfl rfl rfl rfl (by rfl) (by simp) uT35 tB3 (by decide) (hw_int) (hone_int) (by simp [maxLen, chunks]; omega) (by simp [chunks]; omega)) ?_
    refine sm 1 rfl <| nL <| tQ <| tG <| sm 3 rfl ?_
    refine cE rfl (aPp rfl rfl rfl rfl (by (simp; done)) (by simp) uT35 tB3 (by decide) (hw_int) (hone_int) (by simp [maxLen, chunks]; omega) (by simp [chunks]; omega)) ?_
    refine sm 1 rfl <| nL <| tQ <| tDr mixed (fun k => k ∈ ([3, 113] : List Nat)) <| wR 23 [0, 1, 2, 3, 4, 5, 6, 7, 8] (by kernel_rfl) (fun _ _ _ h => h) <| smR 3 rfl <| rV rfl rfl (iSq rfl rfl rfl uT41 hi0 tS44 rfl (by rfl)) <| smR 2 rfl <| rV rfl rfl (lBP rfl rfl rfl Tryz.underlying93 rfl tS93 (lb rfl) rfl (by decide)) <| smR 1 rfl <| rV rfl rfl (oB rfl rfl (i64_add rfl (by omega))) <| nR ?_
    refine wO 9 (by kernel_rfl) <| wI rfl rfl (fun k (h : _) => by (simp at h ⊢; omega)) (nAp rfl) (fun _ _ => ok_lend (fun k => k = 114) (ih ka hm0 (deep + 1) ⟨false, true, [], r8of f.types x.params, r8of f.types x.outs⟩ (seen ++ x.params) (r8sets f.types set x.params (List.replicate x.params.length 0)).2 ⟨by omega, by omega⟩ hs1 hb0) ent48 rfl rfl (sSm rfl (sSm rfl (sSm rfl (Subs.cons (fun _ _ _ _ h => sub_pv (q := whv ⟨false, true, [], r8of f.types x.params, r8of f.types x.outs⟩) (PSub.agg (ps := [vBool false, vBool true, .val (.slice none 0 0), ints (r8of f.types x.params), ints (r8of f.types x.outs)]) (And.intro (PSub.refl _) (And.intro (PSub.refl _) (And.intro PSub.nil (And.intro (PSub.refl _) (And.intro (PSub.refl _) trivial)))))) h) (sSm rfl Subs.nil))))) (And.intro LendOf.same (And.intro LendOf.same (And.intro (LendOf.row rfl rfl (by (simp; done)) (by (simp; done))) (And.intro LendOf.same (And.intro LendOf.same (trivial)))))) (fun k h => by subst h; rfl) (po2 rfl rfl) rfl (fun k (h : _) => by (simp only [List.mem_cons, List.not_mem_nil, or_false] at h; rcases h with rfl | rfl <;> first | exact .inl rfl | exact .inr rfl | exact .inr (by decide))) ⟨_, rfl⟩ (ck_lend (r8list_length ..))) <| wR 15 [10, 11, 12, 13, 14, 15, 16] (by kernel_rfl) (fun _ _ _ h => h) <| smR 1 rfl ?_
    refine WR.split (t := 134) rfl (fun hb134 => ?_) (fun hb134 => ?_)
    ·refine smR 2 rfl <| ryV rfl rfl rfl (oSm uT35 rfl) <| smR 2 rfl ?_
     refine WR.split (t := 139) rfl (fun hb139 => ?_) (fun hb139 => ?_)
     ·refine smR 1 rfl <| nR <| wN 17 (by kernel_rfl) (fun _ _ _ h => h) rfl rfl rfl <| wR 4 [18, 19, 20, 21, 22, 23, 24, 25, 26, 27] (by kernel_rfl) (fun _ _ _ h => h) <| smR 9 rfl <| ryV rfl rfl rfl (oSm uT35 rfl) <| nR <| wO 28 (by kernel_rfl) <| wY rfl rfl rfl (fun k (h : _) => by (simp at h ⊢; omega)) (new_one rfl) (fun _ _ => ok_makeSlice (k := 252) (s := ⟨3, 1⟩) rfl rfl rfl uT35 tZ3 tC3 rfl (by decide) (by omega) (by omega) rfl rfl rfl rfl) <| wO 29 (by kernel_rfl) <| wY rfl rfl rfl (fun k (h : _) => by (simp at h ⊢; omega)) (nAp rfl) (fun _ _ => ok_lend (fun k => k = 252) (sc_r8sets u f (r8list u f (deep + 1) ⟨false, true, [], r8of f.types x.params, r8of f.types x.outs⟩ (seen ++ x.params) (r8sets f.types set x.params (List.replicate x.params.length 0)).2 ka).2 x.outs (List.replicate x.outs.length 0) hs2) ent95 rfl rfl (sRf _ _) (And.intro LendOf.same (And.intro LendOf.same (And.intro (LendOf.row rfl rfl (by (simp; done)) (by (simp only [List.map_replicate]; rfl))) (trivial)))) (fun k h => by subst h; rfl) (po2 rfl rfl) rfl (fun k (h : _) => by (simp only [List.mem_cons, List.not_mem_nil, or_false] at h; rcases h with rfl | rfl <;> first | exact .inl rfl | exact .inr rfl | exact .inr (by decide))) ⟨_, rfl⟩ (ck_lend (r8sets_length ..))) <| wR 0 [30, 31] (by kernel_rfl) (fun _ _ _ h => h) ?_
      refine smR 2 rfl <| nR <| wDn (by kernel_rfl) <| tRt ?_
      (have h2 : (r8node u f deep wh seen set x).2 = (r8sets f.types (r8list u f (deep + 1) ⟨false, true, [], r8of f.types x.params, r8of f.types x.outs⟩ (seen ++ x.params) (r8sets f.types set x.params (List.replicate x.params.length 0)).2 ka).2 x.outs (List.replicate x.outs.length 0)).2 := (by rw [r8node_loop _ _ _ _ _ _ hbare hk11 hkids]; simp_all [andT, andS, r8end]; done)
       rw [h2]
       refine rOk rfl ?_ (po2 rfl rfl)
       clear h2
       rw [r8node_loop _ _ _ _ _ _ hbare hk11 hkids]
       simp_all [andT, andS, r8end]
       done)
     refine ryV rfl rfl rfl (lEA rfl rfl uT43 rfl tS43 (lb rfl)) <| nR <| wO 17 (by kernel_rfl) <| wY rfl rfl rfl (fun k (h : _) => by (simp at h ⊢; omega)) nw (fun _ _ => ocq (sc_r8Closed _) ent53 rfl rfl) <| wR 4 [18, 19, 20, 21, 22, 23, 24, 25, 26, 27] (by kernel_rfl) (fun _ _ _ h => h) <| smR 4 rfl ?_
     refine WR.split (t := 145) rfl (fun hb145 => ?_) (fun hb145 => ?_)
     ·refine smR 5 rfl <| ryV rfl rfl rfl (oSm uT35 rfl) <| nR <| wO 28 (by kernel_rfl) <| wY rfl rfl rfl (fun k (h : _) => by (simp at h ⊢; omega)) (new_one rfl) (fun _ _ => ok_makeSlice (k := 252) (s := ⟨3, 1⟩) rfl rfl rfl uT35 tZ3 tC3 rfl (by decide) (by omega) (by omega) rfl rfl rfl rfl) <| wO 29 (by kernel_rfl) <| wY rfl rfl rfl (fun k (h : _) => by (simp at h ⊢; omega)) (nAp rfl) (fun _ _ => ok_lend (fun k => k = 252) (sc_r8sets u f (r8list u f (deep + 1) ⟨false, true, [], r8of f.types x.params, r8of f.types x.outs⟩ (seen ++ x.params) (r8sets f.types set x.params (List.replicate x.params.length 0)).2 ka).2 x.outs (List.replicate x.outs.length 0) hs2) ent95 rfl rfl (sRf _ _) (And.intro LendOf.same (And.intro LendOf.same (And.intro (LendOf.row rfl rfl (by (simp; done)) (by (simp only [List.map_replicate]; rfl))) (trivial)))) (fun k h => by subst h; rfl) (po2 rfl rfl) rfl (fun k (h : _) => by (simp only [List.mem_cons, List.not_mem_nil, or_false] at h; rcases h with rfl | rfl <;> first | exact .inl rfl | exact .inr rfl | exact .inr (by decide))) ⟨_, rfl⟩ (ck_lend (r8sets_length ..))) <| wR 0 [30, 31] (by kernel_rfl) (fun _ _ _ h => h) <| smR 2 rfl <| nR <| wDn (by kernel_rfl) <| tRt ?_
      (have h2 : (r8node u f deep wh seen set x).2 = (r8sets f.types (r8list u f (deep + 1) ⟨false, true, [], r8of f.types x.params, r8of f.types x.outs⟩ (seen ++ x.params) (r8sets f.types set x.params (List.replicate x.params.length 0)).2 ka).2 x.outs (List.replicate x.outs.length 0)).2 := (by rw [r8node_loop _ _ _ _ _ _ hbare hk11 hkids]; simp_all [andT, andS, r8end]; done)
       rw [h2]
       refine rOk rfl ?_ (po2 rfl rfl)
       clear h2
       rw [r8node_loop _ _ _ _ _ _ hbare hk11 hkids]
       simp_all [andT, andS, r8end]
       done)
     refine smR 6 rfl <| nR <| wN 28 (by kernel_rfl) (fun _ _ _ h => h) rfl rfl rfl <| wN 29 (by kernel_rfl) (fun _ _ _ h => h) rfl rfl rfl <| wR 0 [30, 31] (by kernel_rfl) (fun _ _ _ h => h) <| smR 2 rfl <| nR <| wDn (by kernel_rfl) <| tRt ?_
     (have h2 : (r8node u f deep wh seen set x).2 = (r8list u f (deep + 1) ⟨false, true, [], r8of f.types x.params, r8of f.types x.outs⟩ (seen ++ x.params) (r8sets f.types set x.params (List.replicate x.params.length 0)).2 ka).2 := (by rw [r8node_loop _ _ _ _ _ _ hbare hk11 hkids]; simp_all [andT, andS, r8end]; done)
      rw [h2]
      refine rOk rfl ?_ (po2 rfl rfl)
      clear h2
      rw [r8node_loop _ _ _ _ _ _ hbare hk11 hkids]
      simp_all [andT, andS, r8end]
      done)
    refine smR 5 rfl <| nUr rfl rfl rfl rfl rfl rfl rfl <| nR <| WA.takeNoU (i := 17) rfl (by kernel_rfl) (by kernel_rfl) (by kernel_rfl) (fun _ _ _ h => h) rfl rfl rfl rfl rfl rfl <| wR 4 [18, 19, 20, 21, 22, 23, 24, 25, 26, 27] (by kernel_rfl) (fun _ _ _ h => h) <| nUr rfl rfl rfl rfl rfl rfl rfl <| smR 9 rfl <| nR <| wN 28 (by kernel_rfl) (fun _ _ _ h => h) rfl rfl rfl <| wN 29 (by kernel_rfl) (fun _ _ _ h => h) rfl rfl rfl <| wR 0 [30, 31] (by kernel_rfl) (fun _ _ _ h => h) <| smR 2 rfl ?_
    refine nR <| wDn (by kernel_rfl) <| tRt ?_
    (have h2 : (r8node u f deep wh seen set x).2 = (r8list u f (deep + 1) ⟨false, true, [], r8of f.types x.params, r8of f.types x.outs⟩ (seen ++ x.params) (r8sets f.types set x.params (List.replicate x.params.length 0)).2 ka).2 := (by rw [r8node_loop _ _ _ _ _ _ hbare hk11 hkids]; simp_all [andT, andS, r8end]; done)
     rw [h2]
     refine rOk rfl ?_ (po2 rfl rfl)
     clear h2
     rw [r8node_loop _ _ _ _ _ _ hbare hk11 hkids]
     simp_all [andT, andS, r8end]
     done)
   refine wI rfl rfl (fun k (h : _) => by (simp at h ⊢; omega)) (new_one rfl) (fun _ _ => aLc (k := 113) rfl tZ93 rfl rfl rfl rfl) <| wO 3 (by kernel_rfl) <| wI rfl rfl (fun k (h : _) => by (simp at h ⊢; omega)) (nAp rfl) (fun _ _ => ocr (sc_r8of u f set x.params hbp) ent93 rfl (po2 rfl rfl) rfl (fun k (h : _) => by (simp only [List.mem_cons, List.not_mem_nil, or_false] at h; rcases h with rfl | rfl <;> first | exact .inl rfl | exact .inr rfl | exact .inr (by decide))) rfl rfl) <| wO 7 (by kernel_rfl) <| wI rfl rfl (fun k (h : _) => by (simp at h ⊢; omega)) (nAp rfl) (fun _ _ => ocr (sc_r8of u f set x.outs hbo) ent93 rfl (po2 rfl rfl) rfl (fun k (h : _) => by (simp only [List.mem_cons, List.not_mem_nil, or_false] at h; rcases h with rfl | rfl <;> first | exact .inl rfl | exact .inr rfl | exact .inr (by decide))) rfl rfl) <| wR 1 [8] (by kernel_rfl) (fun _ _ _ h => h) <| rV rfl rfl (bPu rfl rfl tZ93 tP93 rfl (fbk rfl) rfl) <| nR <| wO 10 (by kernel_rfl) <| wI rfl rfl (fun k (h : _) => by (simp at h ⊢; omega)) (nOl rfl) (fun _ _ => sBA rfl rfl rfl rfl rfl (by simp) tS93 (flk rfl) (lb rfl)) <| wDn (by kernel_rfl) <| tQ ?_
   refine tQ <| tDr mixed (fun k => k ∈ ([3] : List Nat)) <| wR 14 [0, 1, 2, 3, 4, 5, 6] (by kernel_rfl) (fun _ _ _ h => h) <| smR 7 rfl <| nR <| wO 7 (by kernel_rfl) <| wI rfl rfl (fun k (h : _) => by (simp at h ⊢; omega)) (nAp rfl) (fun _ _ => ocr (sc_r8of u f set x.params hbp) ent93 rfl (po2 rfl rfl) rfl (fun k (h : _) => by (simp only [List.mem_cons, List.not_mem_nil, or_false] at h; rcases h with rfl <;> first | exact .inl rfl | exact .inr rfl | exact .inr (by decide))) rfl rfl) <| wO 8 (by kernel_rfl) <| wI rfl rfl (fun k (h : _) => by (simp at h ⊢; omega)) (nAp rfl) (fun _ _ => ocr (sc_r8types u f set x.args seen (r8of f.types x.params)) ent94 rfl (po2 rfl rfl) rfl (fun k (h : _) => .inr trivial) rfl rfl) <| wR 4 [9, 10, 11, 12, 13, 14, 15, 16] (by kernel_rfl) (fun _ _ _ h => h) <| smR 2 rfl ?_
   refine WR.split (t := 106) rfl (fun hb106 => ?_) (fun hb106 => ?_)
   ·refine smR 6 rfl <| nR <| wN 17 (by kernel_rfl) (fun _ _ _ h => h) rfl rfl rfl <| wN 18 (by kernel_rfl) (fun _ _ _ h => h) rfl rfl rfl <| wR 0 [19, 20] (by kernel_rfl) (fun _ _ _ h => h) <| smR 2 rfl <| nR <| wDn (by kernel_rfl) <| Tr.condT rfl <| tQ <| tG <| sm 1 rfl ?_
    refine nL <| tRt ?_
    (have h2 : (r8node u f deep wh seen set x).2 = set := (by rw [r8node_loop _ _ _ _ _ _ hbare hk11 hkids]; simp_all [andT, andS, r8end]; done)
     rw [h2]
     refine rOk rfl ?_ (po2 rfl rfl)
     clear h2
     rw [r8node_loop _ _ _ _ _ _ hbare hk11 hkids]
     simp_all [andT, andS, r8end]
     done)
   refine smR 5 rfl <| ryV rfl rfl rfl (oSm uT35 rfl) <| nR <| wO 17 (by kernel_rfl) <| wY rfl rfl rfl (fun k (h : _) => by (simp at h ⊢; omega)) (new_one rfl) (fun _ _ => ok_makeSlice (k := 213) (s := ⟨3, 1⟩) rfl rfl rfl uT35 tZ3 tC3 rfl (by decide) (by omega) (by omega) rfl rfl rfl rfl) <| wO 18 (by kernel_rfl) <| wY rfl rfl rfl (fun k (h : _) => by (simp at h ⊢; omega)) (nAp rfl) (fun _ _ => ok_lend (fun k => k = 213) (sc_r8sets u f set x.params (List.replicate x.params.length 0) hs) ent95 rfl rfl (sRf _ _) (And.intro LendOf.same (And.intro LendOf.same (And.intro (LendOf.row rfl rfl (by (simp; done)) (by (simp only [List.map_replicate]; rfl))) (trivial)))) (fun k h => by subst h; rfl) (po2 rfl rfl) rfl (fun k (h : _) => by (simp only [List.mem_cons, List.not_mem_nil, or_false] at h; rcases h with rfl <;> first | exact .inl rfl | exact .inr rfl | exact .inr (by decide))) ⟨_, rfl⟩ (ck_lend (r8sets_length ..))) <| wR 0 [19, 20] (by kernel_rfl) (fun _ _ _ h => h) <| smR 2 rfl <| nR <| wDn (by kernel_rfl) ?_
   refine tC rfl (fun hc116 => ?_) fun hc116 => ?_
   ·refine tQ <| tG <| sm 1 rfl <| nL <| tRt ?_
    (have h2 : (r8node u f deep wh seen set x).2 = (r8sets f.types set x.params (List.replicate x.params.length 0)).2 := (by rw [r8node_loop _ _ _ _ _ _ hbare hk11 hkids]; simp_all [andT, andS, r8end]; done)
     rw [h2]
     refine rOk rfl ?_ (po2 rfl rfl)
     clear h2
     rw [r8node_loop _ _ _ _ _ _ hbare hk11 hkids]
     simp_all [andT, andS, r8end]
     done)
   refine tSk <| tQ <| tG <| sm 1 rfl <| nL <| tQ <| Tr.grow (t := 14) (k := 114) ⟨3, 1⟩ rfl rfl rfl rfl rfl <| tG <| sm 2 rfl ?_
   refine cE rfl (aPp rfl rfl rfl rfl (by rfl) (by simp) uT35 tB3 (by decide) (hw_int) (hone_int) (by simp [maxLen, chunks]; omega) (by simp [chunks]; omega)) ?_
   refine sm 1 rfl <| nL <| tQ <| tG <| sm 3 rfl ?_
   refine cE rfl (aPp rfl rfl rfl rfl (by (simp; done)) (by simp) uT35 tB3 (by decide) (hw_int) (hone_int) (by simp [maxLen, chunks]; omega) (by simp [chunks]; omega)) ?_
   refine sm 1 rfl <| nL <| tQ <| tDr mixed (fun k => k ∈ ([3, 113] : List Nat)) <| wR 23 [0, 1, 2, 3, 4, 5, 6, 7, 8] (by kernel_rfl) (fun _ _ _ h => h) <| smR 3 rfl <| rV rfl rfl (iSq rfl rfl rfl uT41 hi0 tS44 rfl (by rfl)) <| smR 2 rfl <| rV rfl rfl (lBP rfl rfl rfl Tryz.underlying93 rfl tS93 (lb rfl) rfl (by decide)) <| smR 1 rfl <| rV rfl rfl (oB rfl rfl (i64_add rfl (by omega))) <| nR ?_
   refine wO 9 (by kernel_rfl) <| wI rfl rfl (fun k (h : _) => by (simp at h ⊢; omega)) (nAp rfl) (fun _ _ => ok_lend (fun k => k = 114) (ih ka hm0 (deep + 1) ⟨false, true, [], r8of f.types x.params, r8of f.types x.outs⟩ (seen ++ x.params) (r8sets f.types set x.params (List.replicate x.params.length 0)).2 ⟨by omega, by omega⟩ hs1 hb0) ent48 rfl rfl (sSm rfl (sSm rfl (sSm rfl (Subs.cons (fun _ _ _ _ h => sub_pv (q := whv ⟨false, true, [], r8of f.types x.params, r8of f.types x.outs⟩) (PSub.agg (ps := [vBool false, vBool true, .val (.slice none 0 0), ints (r8of f.types x.params), ints (r8of f.types x.outs)]) (And.intro (PSub.refl _) (And.intro (PSub.refl _) (And.intro PSub.nil (And.intro (PSub.refl _) (And.intro (PSub.refl _) trivial)))))) h) (sSm rfl Subs.nil))))) (And.intro LendOf.same (And.intro LendOf.same (And.intro (LendOf.row rfl rfl (by (simp; done)) (by (simp; done))) (And.intro LendOf.same (And.intro LendOf.same (trivial)))))) (fun k h => by subst h; rfl) (po2 rfl rfl) rfl (fun k (h : _) => by (simp only [List.mem_cons, List.not_mem_nil, or_false] at h; rcases h with rfl | rfl <;> first | exact .inl rfl | exact .inr rfl | exact .inr (by decide))) ⟨_, rfl⟩ (ck_lend (r8list_length ..))) <| wR 15 [10, 11, 12, 13, 14, 15, 16] (by kernel_rfl) (fun _ _ _ h => h) <| smR 1 rfl ?_
   refine WR.split (t := 134) rfl (fun hb134 => ?_) (fun hb134 => ?_)
   ·refine smR 2 rfl <| ryV rfl rfl rfl (oSm uT35 rfl) <| smR 2 rfl ?_
    refine WR.split (t := 139) rfl (fun hb139 => ?_) (fun hb139 => ?_)
    ·refine smR 1 rfl <| nR <| wN 17 (by kernel_rfl) (fun _ _ _ h => h) rfl rfl rfl <| wR 4 [18, 19, 20, 21, 22, 23, 24, 25, 26, 27] (by kernel_rfl) (fun _ _ _ h => h) <| smR 9 rfl <| ryV rfl rfl rfl (oSm uT35 rfl) <| nR <| wO 28 (by kernel_rfl) <| wY rfl rfl rfl (fun k (h : _) => by (simp at h ⊢; omega)) (new_one rfl) (fun _ _ => ok_makeSlice (k := 252) (s := ⟨3, 1⟩) rfl rfl rfl uT35 tZ3 tC3 rfl (by decide) (by omega) (by omega) rfl rfl rfl rfl) <| wO 29 (by kernel_rfl) <| wY rfl rfl rfl (fun k (h : _) => by (simp at h ⊢; omega)) (nAp rfl) (fun _ _ => ok_lend (fun k => k = 252) (sc_r8sets u f (r8list u f (deep + 1) ⟨false, true, [], r8of f.types x.params, r8of f.types x.outs⟩ (seen ++ x.params) (r8sets f.types set x.params (List.replicate x.params.length 0)).2 ka).2 x.outs (List.replicate x.outs.length 0) hs2) ent95 rfl rfl (sRf _ _) (And.intro LendOf.same (And.intro LendOf.same (And.intro (LendOf.row rfl rfl (by (simp; done)) (by (simp only [List.map_replicate]; rfl))) (trivial)))) (fun k h => by subst h; rfl) (po2 rfl rfl) rfl (fun k (h : _) => by (simp only [List.mem_cons, List.not_mem_nil, or_false] at h; rcases h with rfl | rfl <;> first | exact .inl rfl | exact .inr rfl | exact .inr (by decide))) ⟨_, rfl⟩ (ck_lend (r8sets_length ..))) <| wR 0 [30, 31] (by kernel_rfl) (fun _ _ _ h => h) ?_
     refine smR 2 rfl <| nR <| wDn (by kernel_rfl) <| tRt ?_
     (have h2 : (r8node u f deep wh seen set x).2 = (r8sets f.types (r8list u f (deep + 1) ⟨false, true, [], r8of f.types x.params, r8of f.types x.outs⟩ (seen ++ x.params) (r8sets f.types set x.params (List.replicate x.params.length 0)).2 ka).2 x.outs (List.replicate x.outs.length 0)).2 := (by rw [r8node_loop _ _ _ _ _ _ hbare hk11 hkids]; simp_all [andT, andS, r8end]; done)
      rw [h2]
      refine rOk rfl ?_ (po2 rfl rfl)
      clear h2
      rw [r8node_loop _ _ _ _ _ _ hbare hk11 hkids]
      simp_all [andT, andS, r8end]
      done)
    refine ryV rfl rfl rfl (lEA rfl rfl uT43 rfl tS43 (lb rfl)) <| nR <| wO 17 (by kernel_rfl) <| wY rfl rfl rfl (fun k (h : _) => by (simp at h ⊢; omega)) nw (fun _ _ => ocq (sc_r8Closed _) ent53 rfl rfl) <| wR 4 [18, 19, 20, 21, 22, 23, 24, 25, 26, 27] (by kernel_rfl) (fun _ _ _ h => h) <| smR 4 rfl ?_
    refine WR.split (t := 145) rfl (fun hb145 => ?_) (fun hb145 => ?_)
    ·refine smR 5 rfl <| ryV rfl rfl rfl (oSm uT35 rfl) <| nR <| wO 28 (by kernel_rfl) <| wY rfl rfl rfl (fun k (h : _) => by (simp at h ⊢; omega)) (new_one rfl) (fun _ _ => ok_makeSlice (k := 252) (s := ⟨3, 1⟩) rfl rfl rfl uT35 tZ3 tC3 rfl (by decide) (by omega) (by omega) rfl rfl rfl rfl) <| wO 29 (by kernel_rfl) <| wY rfl rfl rfl (fun k (h : _) => by (simp at h ⊢; omega)) (nAp rfl) (fun _ _ => ok_lend (fun k => k = 252) (sc_r8sets u f (r8list u f (deep + 1) ⟨false, true, [], r8of f.types x.params, r8of f.types x.outs⟩ (seen ++ x.params) (r8sets f.types set x.params (List.replicate x.params.length 0)).2 ka).2 x.outs (List.replicate x.outs.length 0) hs2) ent95 rfl rfl (sRf _ _) (And.intro LendOf.same (And.intro LendOf.same (And.intro (LendOf.row rfl rfl (by (simp; done)) (by (simp only [List.map_replicate]; rfl))) (trivial)))) (fun k h => by subst h; rfl) (po2 rfl rfl) rfl (fun k (h : _) => by (simp only [List.mem_cons, List.not_mem_nil, or_false] at h; rcases h with rfl | rfl <;> first | exact .inl rfl | exact .inr rfl | exact .inr (by decide))) ⟨_, rfl⟩ (ck_lend (r8sets_length ..))) <| wR 0 [30, 31] (by kernel_rfl) (fun _ _ _ h => h) <| smR 2 rfl <| nR <| wDn (by kernel_rfl) <| tRt ?_
     (have h2 : (r8node u f deep wh seen set x).2 = (r8sets f.types (r8list u f (deep + 1) ⟨false, true, [], r8of f.types x.params, r8of f.types x.outs⟩ (seen ++ x.params) (r8sets f.types set x.params (List.replicate x.params.length 0)).2 ka).2 x.outs (List.replicate x.outs.length 0)).2 := (by rw [r8node_loop _ _ _ _ _ _ hbare hk11 hkids]; simp_all [andT, andS, r8end]; done)
      rw [h2]
      refine rOk rfl ?_ (po2 rfl rfl)
      clear h2
      rw [r8node_loop _ _ _ _ _ _ hbare hk11 hkids]
      simp_all [andT, andS, r8end]
      done)
    refine smR 6 rfl <| nR <| wN 28 (by kernel_rfl) (fun _ _ _ h => h) rfl rfl rfl <| wN 29 (by kernel_rfl) (fun _ _ _ h => h) rfl rfl rfl <| wR 0 [30, 31] (by kernel_rfl) (fun _ _ _ h => h) <| smR 2 rfl <| nR <| wDn (by kernel_rfl) <| tRt ?_
    (have h2 : (r8node u f deep wh seen set x).2 = (r8list u f (deep + 1) ⟨false, true, [], r8of f.types x.params, r8of f.types x.outs⟩ (seen ++ x.params) (r8sets f.types set x.params (List.replicate x.params.length 0)).2 ka).2 := (by rw [r8node_loop _ _ _ _ _ _ hbare hk11 hkids]; simp_all [andT, andS, r8end]; done)
     rw [h2]
     refine rOk rfl ?_ (po2 rfl rfl)
     clear h2
     rw [r8node_loop _ _ _ _ _ _ hbare hk11 hkids]
     simp_all [andT, andS, r8end]
     done)
   refine smR 5 rfl <| nUr rfl rfl rfl rfl rfl rfl rfl <| nR <| WA.takeNoU (i := 17) rfl (by kernel_rfl) (by kernel_rfl) (by kernel_rfl) (fun _ _ _ h => h) rfl rfl rfl rfl rfl rfl <| wR 4 [18, 19, 20, 21, 22, 23, 24, 25, 26, 27] (by kernel_rfl) (fun _ _ _ h => h) <| nUr rfl rfl rfl rfl rfl rfl rfl <| smR 9 rfl <| nR <| wN 28 (by kernel_rfl) (fun _ _ _ h => h) rfl rfl rfl <| wN 29 (by kernel_rfl) (fun _ _ _ h => h) rfl rfl rfl <| wR 0 [30, 31] (by kernel_rfl) (fun _ _ _ h => h) <| smR 2 rfl ?_
   refine nR <| wDn (by kernel_rfl) <| tRt ?_
   (have h2 : (r8node u f deep wh seen set x).2 = (r8list u f (deep + 1) ⟨false, true, [], r8of f.types x.params, r8of f.types x.outs⟩ (seen ++ x.params) (r8sets f.types set x.params (List.replicate x.params.length 0)).2 ka).2 := (by rw [r8node_loop _ _ _ _ _ _ hbare hk11 hkids]; simp_all [andT, andS, r8end]; done)
    rw [h2]
    refine rOk rfl ?_ (po2 rfl rfl)
    clear h2
    rw [r8node_loop _ _ _ _ _ _ hbare hk11 hkids]
    simp_all [andT, andS, r8end]
    done)
  refine tSk <| tQ <| tG <| sm 1 rfl <| cV rfl (lEA rfl rfl uT43 rfl tS43 (lb rfl)) <| sm 1 rfl <| cV rfl (lEA rfl rfl Tryz.underlying93 rfl tS93 (lb rfl)) <| cE rfl (ocr (sc_r8simple u f set hs hg x seen wh) ent96 rfl (po2 rfl rfl) rfl (fun k (h : _) => .inr h) rfl rfl) <| sm 1 rfl <| nL <| tRt ?_
  rw [r8node_simple _ _ _ _ _ _ hbare hc20 hc85]
  exact rOk rfl rfl (po2 rfl rfl)
theorem sc_r8list_aux (N : Nat) : ∀ (u : Un) (f : Fl) (hg : ∀ g ∈ u.flows, 0 ≤ g.params ∧ g.params ≤ g.types.length) (l : List Nd) (deep : Int) (wh : Wh) (all : List Int) (set : List Bool) (hd : 0 ≤ deep ∧ deep ≤ 101) (hs : set.length = f.types.length) (hb : all.length + lsW l ≤ 1073741824), SizeOf.sizeOf l < N → SC Tryz.prog 48 [.ptr 3 0, .pv (nodes l), .pv (ints all), .pv (whv wh), iInt deep] (ckHp u f 4 set) (fun k => k = 3) (iBool (r8list u f deep wh all set l).1) (ckHp u f 4 (r8list u f deep wh all set l).2) := by
  induction N with
  | zero => intro u f hg l deep wh all set hd hs hb hN; exact absurd hN (Nat.not_lt_zero _)
  | succ N ih =>
    intro u f hg l deep wh all set hd hs hb hN
    refine SC.of Tryz.func48 rfl (lb rfl) fun F ρ w => ?_
    refine Tr.lenOf (t := 1) rfl (fun hl => ?_)
    simp only [List.length_map] at hl
    refine tQ <| tG <| cE rfl (ok_box rfl rfl) <| sm 1 rfl <| nL <| tQ <| tG <| sm 1 rfl <| nL <| tQ <| Tr.grow (t := 11) (k := 111) ⟨3, 1⟩ rfl rfl rfl rfl rfl <| tG ?_
    refine sm 2 rfl ?_
    refine cE rfl (aPp rfl rfl rfl rfl (by rfl) (by simp) uT35 tB3 (by decide) (hw_int) (hone_int) (by simp [maxLen, chunks]; omega) (by simp [chunks]; omega)) ?_
    refine sm 1 rfl <| nL <| tQ <| tQ <| tG <| sm 1 rfl <| nL <| tBk <| Tr.sub (Sub.of (fr' := [(12, iInt 0), (11, .sl 111 all.length), (8, .pv (.ept [vBool wh.If, vBool wh.Loop, ints wh.Yield, ints wh.Next, ints wh.Left] 0)), (0, .ptr 3 0), (1, .pv (nodes l)), (4, iInt deep)]) ⟨rfl, congrArg (fun z => some (IV.sl 111 z)) (by simp), rfl, rfl, rfl, rfl, trivial⟩) <| Tr.heap (σ' := look ((111, some (.row ⟨3, 1⟩ (all.map eInt))) :: up (ckHp u f 4 set))) (fun _ => congrFun look_shadow _) ?_
    refine Tr.loop (fun fr σ m => ∃ (k : Nat) (al : List Int) (st : List Bool), (k ≤ l.length) ∧ (r8go u f deep wh all set l = r8go u f deep wh al st (l.drop k)) ∧ (st.length = f.types.length) ∧ (al.length + lsW (l.drop k) ≤ 1073741824) ∧ fr = [(12, iInt k), (11, .sl 111 al.length), (8, .pv (.ept [vBool wh.If, vBool wh.Loop, ints wh.Yield, ints wh.Next, ints wh.Left] 0)), (0, .ptr 3 0), (1, .pv (nodes l)), (4, iInt deep)] ∧ σ = look ((111, some (.row ⟨3, 1⟩ (al.map eInt))) :: up (ckHp u f 4 st)) ∧ m = l.length - k) (n := l.length - 0) ?_ ?_
    ·exact ⟨0, all, set, Nat.zero_le _, rfl, hs, hb, rfl, rfl, rfl⟩
    rintro fr σ m ⟨k, al, st, hI0, hI1, hI2, hI3, rfl, rfl, rfl⟩
    refine tQ <| tQ <| tG <| sm 2 rfl <| cV rfl (oSm uT44 rfl) <| sm 1 rfl <| nL ?_
    refine tC rfl (fun hc19 => ?_) fun hc19 => ?_
    ·have hlt : k < l.length := by simpa using hc19
     have hd2 := List.drop_eq_getElem_cons hlt
     have hm := List.getElem_mem hlt
     have hi := nodes_get (List.getElem?_eq_getElem hlt)
     generalize l[k] = x at hd2 hm hi
     have hxo : x.outs.length ≤ ndW x := by have := ndW_eq x; omega
     have hbn : al.length + ndW x ≤ 1073741824 := by rw [hd2] at hI3; simp only [lsW] at hI3; omega
     refine tSk <| tQ <| tBk <| tQ <| tQ <| tDr mixed (fun k => k ∈ ([3] : List Nat)) <| wR 16 [0, 1, 2, 3, 4, 5, 6, 7, 8, 9, 10] (by kernel_rfl) (fun _ _ _ h => h) <| smR 3 rfl ?_
     refine WR.split (t := 24) rfl (fun hb24 => ?_) (fun hb24 => ?_)
     ·refine smR 8 rfl <| nR <| wN 11 (by kernel_rfl) (fun _ _ _ h => h) rfl rfl rfl <| wR 3 [12, 13, 14, 15, 16, 17, 18, 20, 21, 22, 23, 24] (by kernel_rfl) (fun _ _ _ h => h) <| smR 12 rfl <| nR <| wN 19 (by kernel_rfl) (fun _ _ _ h => h) rfl rfl rfl <| wR 0 [25, 26] (by kernel_rfl) (fun _ _ _ h => h) <| smR 2 rfl <| nR <| wDn (by kernel_rfl) <| Tr.condT rfl ?_
      refine tQ <| tG <| sm 1 rfl <| nL <| tRt ?_
      (have h2 : r8list u f deep wh all set l = (false, st) := by
         rw [r8list_ne hlt, hI1, hd2]
         unfold r8go
         rw [if_pos (by simpa using hb24)]
       rw [h2]
       exact rOk rfl rfl (po2 rfl rfl))
     refine smR 3 rfl <| ryV rfl rfl rfl (iSq rfl rfl rfl uT44 hi tS43 rfl (by rfl)) <| ryV rfl rfl rfl (lEA rfl rfl uT43 rfl tS43 (lb rfl)) <| smR 1 rfl <| ryV rfl rfl rfl (lEA rfl rfl Tryz.underlying93 rfl tS93 (lb rfl)) <| smR 1 rfl <| nR <| wO 11 (by kernel_rfl) <| wY rfl rfl rfl (fun k (h : _) => by (simp at h ⊢; omega)) (nAp rfl) (fun _ _ => ok_lend (fun k => k = 111) (sc_r8node u f hg x deep ⟨hd.1, by simp at hb24; omega⟩ wh al st hI2 hbn (fun q hq deep w all set hd hs hb => ih u f hg q deep w all set hd hs hb (Nat.lt_of_lt_of_le (kid_lt hm rfl hq) (Nat.le_of_lt_succ hN)))) ent73 rfl rfl (sRf _ _) (And.intro LendOf.same (And.intro LendOf.same (And.intro (LendOf.row rfl rfl (by (simp; done)) (by rfl)) (And.intro LendOf.same (And.intro LendOf.same (trivial)))))) (fun k h => by subst h; rfl) (po2 rfl rfl) rfl (fun k (h : _) => by (simp only [List.mem_cons, List.not_mem_nil, or_false] at h; rcases h with rfl <;> first | exact .inl rfl | exact .inr rfl | exact .inr (by decide))) ⟨_, rfl⟩ (ck_lend (r8node_length ..))) <| wR 3 [12, 13, 14, 15, 16, 17, 18, 20, 21, 22, 23, 24] (by kernel_rfl) (fun _ _ _ h => h) <| smR 3 rfl ?_
     refine WR.split (t := 36) rfl (fun hb36 => ?_) (fun hb36 => ?_)
     ·refine smR 9 rfl <| nR <| wN 19 (by kernel_rfl) (fun _ _ _ h => h) rfl rfl rfl <| wR 0 [25, 26] (by kernel_rfl) (fun _ _ _ h => h) <| smR 2 rfl <| nR <| wDn (by kernel_rfl) <| Tr.condT rfl <| tQ <| tG <| sm 1 rfl <| nL ?_
      refine tRt ?_
      (have h2 : r8list u f deep wh all set l = (false, (r8node u f deep wh al st x).2) := by
         rw [r8list_ne hlt, hI1, hd2]
         unfold r8go
         rw [if_neg (by simpa using hb24)]
         have hn1 : (r8node u f deep wh al st x).1 = false := by simpa using hb36
         simp [andT, hn1]
       rw [h2]
       exact rOk rfl rfl (po2 rfl rfl))
     refine smR 2 rfl <| ryV rfl rfl rfl (iSq rfl rfl rfl uT44 hi tS43 rfl (by rfl)) <| ryV rfl rfl rfl (lEA rfl rfl uT43 rfl tS43 (lb rfl)) <| smR 2 rfl <| ryV rfl rfl rfl (oSm uT44 rfl) <| ryV rfl rfl rfl (oB rfl rfl (i64_sub rfl (by omega))) <| smR 1 rfl <| nR <| wO 19 (by kernel_rfl) <| wY rfl rfl rfl (fun k (h : _) => by (simp at h ⊢; omega)) nw (fun _ _ => ocq (sc_r8Closed _) ent53 rfl rfl) <| wR 0 [25, 26] (by kernel_rfl) (fun _ _ _ h => h) <| ryV rfl rfl rfl (ok_neq_bool rfl rfl rfl Tryz.underlying4) ?_
     refine smR 1 rfl <| nR <| wDn (by kernel_rfl) ?_
     refine tC rfl (fun hc48 => ?_) fun hc48 => ?_
     ·refine tQ <| tG <| sm 1 rfl <| nL <| tRt ?_
      (have h2 : r8list u f deep wh all set l = (false, (r8node u f deep wh al st x).2) := by
         rw [r8list_ne hlt, hI1, hd2]
         unfold r8go
         rw [if_neg (by simpa using hb24)]
         have hn1 : (r8node u f deep wh al st x).1 = true := by simpa using hb36
         have hcl : (r8Closed x != (l.drop (k + 1)).isEmpty) = true := by rw [drop_isEmpty hlt]; simpa using hc48
         simp [andT, hn1, hcl]
       rw [h2]
       exact rOk rfl rfl (po2 rfl rfl))
     refine tSk <| tG <| sm 3 rfl <| cV rfl (iSq rfl rfl rfl uT44 hi tS43 rfl (by rfl)) <| sm 2 rfl ?_
     refine cE rfl (aPp rfl rfl rfl rfl (by (simp; done)) (by simp) uT35 tB3 (by decide) (hw_int) (hone_int) (by simp [maxLen, chunks]; omega) (by simp [chunks]; omega)) ?_
     refine sm 1 rfl <| nL <| tG <| sm 1 rfl <| cV rfl (oB rfl rfl (i64_add rfl (by omega))) <| sm 1 rfl <| nL ?_
     refine ⟨_, _, ?_, Sub.of (fr' := [(12, iInt (k + 1)), (11, .sl 111 (al ++ x.outs).length), (8, .pv (.ept [vBool wh.If, vBool wh.Loop, ints wh.Yield, ints wh.Next, ints wh.Left] 0)), (0, .ptr 3 0), (1, .pv (nodes l)), (4, iInt deep)]) ⟨rfl, congrArg (fun z => some (IV.sl 111 z)) (by simp), rfl, rfl, rfl, rfl, trivial⟩, (k + 1), (al ++ x.outs), (r8node u f deep wh al st x).2, ?_, ?_, ?_, ?_, rfl, ck_row', rfl⟩
     ·omega
     ·omega
     ·rw [hI1, hd2]
      have hn1 : (r8node u f deep wh al st x).1 = true := by simpa using hb36
      have hcl : (r8Closed x != (l.drop (k + 1)).isEmpty) = false := by rw [drop_isEmpty hlt]; simpa using hc48
      have hdp : ¬ deep > 100 := by simpa using hb24
      conv => lhs; unfold r8go
      simp only [if_neg hdp, andT, hn1, hcl, if_true]
      rfl
     ·exact (r8node_length ..).trans hI2
     rw [hd2] at hI3; have hWx := ndW_eq x; simp only [lsW] at hI3; simp only [List.length_append]; omega
    refine tEx <| tQ <| tG <| sm 1 rfl <| cV rfl (oSm uT44 rfl) <| sm 2 rfl <| nL <| tRt ?_
    have hge : l.length ≤ k := by simpa using hc19
    have hgo : r8go u f deep wh all set l = (true, st) := by rw [hI1, List.drop_eq_nil_of_le hge]; simp [r8go]
    have h2 : (r8list u f deep wh all set l) = (decide ((l.length : Int) > 0), st) := by
      unfold r8list ne
      rw [hgo]
      cases l <;> simp <;> omega
    rw [h2]
    exact rOk rfl rfl (po2 rfl rfl)
theorem sc_r8list (u : Un) (f : Fl) (hg : ∀ g ∈ u.flows, 0 ≤ g.params ∧ g.params ≤ g.types.length) (l : List Nd) (deep : Int) (wh : Wh) (all : List Int) (set : List Bool) (hd : 0 ≤ deep ∧ deep ≤ 101) (hs : set.length = f.types.length) (hb : all.length + lsW l ≤ 1073741824) : SC Tryz.prog 48 [.ptr 3 0, .pv (nodes l), .pv (ints all), .pv (whv wh), iInt deep] (ckHp u f 4 set) (fun k => k = 3) (iBool (r8list u f deep wh all set l).1) (ckHp u f 4 (r8list u f deep wh all set l).2) := sc_r8list_aux _ u f hg l deep wh all set hd hs hb (Nat.lt_succ_self _)
theorem ba_sz (s : ByteArray) : s.data.toList.length = s.size := rfl
theorem ba_loop (s : ByteArray) : ∀ (n i : Nat) (acc : List UInt8), s.size - i = n → ByteArray.toList.loop s i acc = acc.reverse ++ s.data.toList.drop i
  | 0, i, acc, h => by
    rw [ByteArray.toList.loop]
    have : ¬ i < s.size := by omega
    rw [if_neg this, List.drop_eq_nil_of_le (by rw [ba_sz]; omega)]
    simp
  | n + 1, i, acc, h => by
    rw [ByteArray.toList.loop]
    have hi : i < s.size := by omega
    rw [if_pos hi, ba_loop s n (i + 1) _ (by omega)]
    have hi2 : i < s.data.toList.length := by rw [ba_sz]; exact hi
    rw [List.drop_eq_getElem_cons hi2]
    have hget : s.get! i = s.data.toList[i] := by
      show s.data[i]! = _
      rw [getElem!_pos s.data i hi]
      rfl
    simp [hget]
theorem ba_toList (s : ByteArray) : s.toList = s.data.toList := by
  rw [ByteArray.toList, ba_loop s _ 0 [] rfl]; simp
theorem ba_len (s : ByteArray) : s.toList.length = s.size := by rw [ba_toList]; rfl
theorem ba_get {s : ByteArray} {i : Nat} (h : i < s.toList.length) : s[i]? = some (s.toList[i]) := by
  have h2 : i < s.size := by rwa [ba_len] at h
  rw [getElem?_pos s i h2]
  congr 1
  simp only [ba_toList]
  rfl
def isLetter (n : Int) : Bool := (decide (n ≥ 97) && decide (n ≤ 122)) || (decide (n ≥ 65) && decide (n ≤ 90)) || n == 95
def isDigit (n : Int) : Bool := decide (n ≥ 48) && decide (n ≤ 57)
def isLD (b : UInt8) : Bool := isLetter b.toNat || isDigit b.toNat
def isWord (s : ByteArray) : Bool := s.toList == ByteArray.toList ⟨#[105, 110, 116]⟩ || s.toList == ByteArray.toList ⟨#[98, 111, 111, 108]⟩ || s.toList == ByteArray.toList ⟨#[105, 102]⟩ || s.toList == ByteArray.toList ⟨#[101, 108, 115, 101]⟩ || s.toList == ByteArray.toList ⟨#[119, 104, 105, 108, 101]⟩ || s.toList == ByteArray.toList ⟨#[98, 114, 101, 97, 107]⟩ || s.toList == ByteArray.toList ⟨#[99, 111, 110, 116, 105, 110, 117, 101]⟩ || s.toList == ByteArray.toList ⟨#[114, 101, 116, 117, 114, 110]⟩ || s.toList == ByteArray.toList ⟨#[112, 114, 105, 110, 116]⟩ || s.toList == ByteArray.toList ⟨#[114, 101, 97, 100]⟩ || s.toList == ByteArray.toList ⟨#[116, 114, 117, 101]⟩ || s.toList == ByteArray.toList ⟨#[102, 97, 108, 115, 101]⟩ || s.toList == ByteArray.toList ⟨#[105, 56]⟩ || s.toList == ByteArray.toList ⟨#[105, 49, 54]⟩ || s.toList == ByteArray.toList ⟨#[105, 51, 50]⟩ || s.toList == ByteArray.toList ⟨#[117, 56]⟩ || s.toList == ByteArray.toList ⟨#[117, 49, 54]⟩ || s.toList == ByteArray.toList ⟨#[117, 51, 50]⟩
def isName (s : ByteArray) : Bool := !(s.toList == []) && decide ((s.size : Int) ≤ 20) && isLetter (s.toList.headD 0).toNat && !isWord s && s.toList.all isLD
mutual
def wtN : Nd → Nat
  | .mk _ _ _ name args outs params kids => args.length + outs.length + params.length + name.size + wtK kids
def wtL : List Nd → Nat
  | [] => 0
  | x :: r => wtN x + wtL r
def wtK : List (List Nd) → Nat
  | [] => 0
  | l :: r => 1 + (l.length + wtL l) + wtK r
end
theorem wtN_eq (x : Nd) : wtN x = x.args.length + x.outs.length + x.params.length + x.name.size + wtK x.kids := by cases x; simp [wtN, Nd.args, Nd.outs, Nd.params, Nd.kids, Nd.name]
def r8nodes (l : List Nd) : Nat := l.length + wtL l
def wtA : List Ar → Nat
  | [] => 0
  | a :: r => a.name.size + wtA r
def wtF : List Fl → Nat
  | [] => 0
  | f :: r => f.name.size + f.types.length + r8nodes f.body + wtF r
def r8Weight (u : Un) : Nat := u.arrays.length + u.flows.length + wtA u.arrays + wtF u.flows
mutual
def sameN : Nd → Nd → Bool
  | .mk k o n s a u p ks, .mk k' o' n' s' a' u' p' ks' => k == k' && o == o' && n == n' && s.toList == s'.toList && ks.length == ks'.length && a == a' && u == u' && p == p' && sameK ks ks'
def sameL : List Nd → List Nd → Bool
  | [], [] => true
  | x :: a, y :: b => sameN x y && sameL a b
  | _, _ => false
def sameK : List (List Nd) → List (List Nd) → Bool
  | [], [] => true
  | x :: a, y :: b => sameL x y && sameK a b
  | _, _ => false
end
def sameH (x y : Nd) : Bool := x.kind == y.kind && x.op == y.op && x.n == y.n && x.name.toList == y.name.toList && x.kids.length == y.kids.length && x.args == y.args && x.outs == y.outs && x.params == y.params
theorem sameN_eq (x y : Nd) : sameN x y = (sameH x y && sameK x.kids y.kids) := by cases x; cases y; simp [sameN, sameH, Nd.kind, Nd.op, Nd.n, Nd.name, Nd.args, Nd.outs, Nd.params, Nd.kids]
theorem sameL_len : ∀ {a b : List Nd}, a.length ≠ b.length → sameL a b = false
  | [], [], h => absurd rfl h
  | [], _ :: _, _ => by simp [sameL]
  | _ :: _, [], _ => by simp [sameL]
  | x :: a, y :: b, h => by simp [sameL, sameL_len (a := a) (b := b) (by simpa using h)]
def sameF (f g : Fl) : Bool := f.name.toList == g.name.toList && f.ty == g.ty && f.params == g.params && f.types == g.types && sameL f.body g.body
def sameFs : List Fl → List Fl → Bool
  | [], [] => true
  | x :: a, y :: b => sameF x y && sameFs a b
  | _, _ => false
def sameA (f g : Ar) : Bool := f.name.toList == g.name.toList && f.size == g.size
def sameAs : List Ar → List Ar → Bool
  | [], [] => true
  | x :: a, y :: b => sameA x y && sameAs a b
  | _, _ => false
def r8Same (u v : Un) : Bool := u.arrays.length == v.arrays.length && u.flows.length == v.flows.length && sameAs u.arrays v.arrays && sameFs u.flows v.flows
theorem look_two {a b : Nat} {x y : Option HO} {hp : Hp} {f : Nat → Option HO} (h1 : f a = x) (h2 : f b = y) (h3 : ∀ k, k ≠ a → k ≠ b → f k = look hp k) (hab : a ≠ b) : f = look ((a, x) :: (b, y) :: hp) := by
  funext k
  simp only [look]
  by_cases ha : a = k
  · subst ha; simp [h1]
  · by_cases hb : b = k
    · subst hb; simp [beq_ne hab, h2]
    · simp [beq_ne ha, beq_ne hb, h3 k (Ne.symm ha) (Ne.symm hb)]
theorem sc_r2letter (n : Int) : SC Tryz.prog 70 [.pv (vU8 n)] [] (fun _ => False) (iBool (isLetter n)) [] := by
  refine SC.of Tryz.func70 rfl (lb rfl) fun F ρ w => ?_
  refine tQ <| tG <| sm 1 rfl <| nL <| tQ <| tG <| sm 3 rfl ?_
  refine wS 5 rfl (fun hb5 => ?_) fun hb5 => ?_
  ·refine sm 4 rfl ?_
   refine wS 9 rfl (fun hb9 => ?_) fun hb9 => ?_
   ·refine sm 3 rfl <| nUu rfl rfl rfl rfl rfl rfl <| nUu rfl rfl rfl rfl rfl rfl <| sm 7 rfl <| nL <| tRt <| rOk rfl ?_ nPo
    unfold isLetter
    first | (simp_all; done) | (simp_all <;> omega)
   refine sm 3 rfl ?_
   refine wS 12 rfl (fun hb12 => ?_) fun hb12 => ?_
   ·refine sm 5 rfl ?_
    refine wS 17 rfl (fun hb17 => ?_) fun hb17 => ?_
    ·refine sm 4 rfl <| nL <| tRt <| rOk rfl ?_ nPo
     unfold isLetter
     first | (simp_all; done) | (simp_all <;> omega)
    refine sm 4 rfl <| nL <| tRt <| rOk rfl ?_ nPo
    unfold isLetter
    first | (simp_all; done) | (simp_all <;> omega)
   refine sm 9 rfl <| nL <| tRt <| rOk rfl ?_ nPo
   unfold isLetter
   first | (simp_all; done) | (simp_all <;> omega)
  refine sm 7 rfl ?_
  refine wS 12 rfl (fun hb12 => ?_) fun hb12 => ?_
  ·refine sm 5 rfl ?_
   refine wS 17 rfl (fun hb17 => ?_) fun hb17 => ?_
   ·refine sm 4 rfl <| nL <| tRt <| rOk rfl ?_ nPo
    unfold isLetter
    first | (simp_all; done) | (simp_all <;> omega)
   refine sm 4 rfl <| nL <| tRt <| rOk rfl ?_ nPo
   unfold isLetter
   first | (simp_all; done) | (simp_all <;> omega)
  refine sm 9 rfl <| nL <| tRt <| rOk rfl ?_ nPo
  unfold isLetter
  first | (simp_all; done) | (simp_all <;> omega)
theorem sc_r2digit (n : Int) : SC Tryz.prog 72 [.pv (vU8 n)] [] (fun _ => False) (iBool (isDigit n)) [] := by
  refine SC.of Tryz.func72 rfl (lb rfl) fun F ρ w => ?_
  refine tQ <| tG <| sm 1 rfl <| nL <| tQ <| tG <| sm 3 rfl ?_
  refine wS 5 rfl (fun hb5 => ?_) fun hb5 => ?_
  ·refine sm 4 rfl <| nL <| tRt <| rOk rfl ?_ nPo
   unfold isDigit
   first | (simp_all; done) | (simp_all <;> omega)
  refine sm 4 rfl <| nL <| tRt <| rOk rfl ?_ nPo
  unfold isDigit
  first | (simp_all; done) | (simp_all <;> omega)
theorem sc_r2Word (s : ByteArray) : SC Tryz.prog 71 [iStr s] [] (fun _ => False) (iBool (isWord s)) [] := by
  refine SC.of Tryz.func71 rfl (lb rfl) fun F ρ w => ?_
  refine tQ <| tG <| sm 1 rfl <| nL <| tQ <| tQ <| tG <| sm 1 rfl <| nL <| tBk <| tQ <| tQ ?_
  refine tG <| cV rfl (bSt rfl rfl rfl rfl) <| sm 1 rfl <| nL ?_
  refine tC rfl (fun hc4 => ?_) fun hc4 => ?_
  ·refine tSk ?_
   refine tC rfl (fun hc4 => ?_) fun hc4 => ?_
   ·refine tQ <| tG <| sm 1 rfl <| nL <| tRt <| rOk rfl ?_ nPo
    refine congrArg (fun b => iBool b) ?_
    simp_all [isWord]
   refine tSk <| tQ <| tG <| sm 1 rfl <| nL <| tRt <| rOk rfl ?_ nPo
   refine congrArg (fun b => iBool b) ?_
   simp_all [isWord]
  refine tQ <| tG <| cV rfl (bSt rfl rfl rfl rfl) <| sm 1 rfl <| nL ?_
  refine tC rfl (fun hc4 => ?_) fun hc4 => ?_
  ·refine tSk ?_
   refine tC rfl (fun hc4 => ?_) fun hc4 => ?_
   ·refine tQ <| tG <| sm 1 rfl <| nL <| tRt <| rOk rfl ?_ nPo
    refine congrArg (fun b => iBool b) ?_
    simp_all [isWord]
   refine tSk <| tQ <| tG <| sm 1 rfl <| nL <| tRt <| rOk rfl ?_ nPo
   refine congrArg (fun b => iBool b) ?_
   simp_all [isWord]
  refine tQ <| tG <| cV rfl (bSt rfl rfl rfl rfl) <| sm 1 rfl <| nL ?_
  refine tC rfl (fun hc4 => ?_) fun hc4 => ?_
  ·refine tSk ?_
   refine tC rfl (fun hc4 => ?_) fun hc4 => ?_
   ·refine tQ <| tG <| sm 1 rfl <| nL <| tRt <| rOk rfl ?_ nPo
    refine congrArg (fun b => iBool b) ?_
    simp_all [isWord]
   refine tSk <| tQ <| tG <| sm 1 rfl <| nL <| tRt <| rOk rfl ?_ nPo
   refine congrArg (fun b => iBool b) ?_
   simp_all [isWord]
  refine tQ <| tG <| cV rfl (bSt rfl rfl rfl rfl) <| sm 1 rfl <| nL ?_
  refine tC rfl (fun hc4 => ?_) fun hc4 => ?_
  ·refine tSk ?_
   refine tC rfl (fun hc4 => ?_) fun hc4 => ?_
   ·refine tQ <| tG <| sm 1 rfl <| nL <| tRt <| rOk rfl ?_ nPo
    refine congrArg (fun b => iBool b) ?_
    simp_all [isWord]
   refine tSk <| tQ <| tG <| sm 1 rfl <| nL <| tRt <| rOk rfl ?_ nPo
   refine congrArg (fun b => iBool b) ?_
   simp_all [isWord]
  refine tQ <| tG <| cV rfl (bSt rfl rfl rfl rfl) <| sm 1 rfl <| nL ?_
  refine tC rfl (fun hc4 => ?_) fun hc4 => ?_
  ·refine tSk ?_
   refine tC rfl (fun hc4 => ?_) fun hc4 => ?_
   ·refine tQ <| tG <| sm 1 rfl <| nL <| tRt <| rOk rfl ?_ nPo
    refine congrArg (fun b => iBool b) ?_
    simp_all [isWord]
   refine tSk <| tQ <| tG <| sm 1 rfl <| nL <| tRt <| rOk rfl ?_ nPo
   refine congrArg (fun b => iBool b) ?_
   simp_all [isWord]
  refine tQ <| tG <| cV rfl (bSt rfl rfl rfl rfl) <| sm 1 rfl <| nL ?_
  refine tC rfl (fun hc4 => ?_) fun hc4 => ?_
  ·refine tSk ?_
   refine tC rfl (fun hc4 => ?_) fun hc4 => ?_
   ·refine tQ <| tG <| sm 1 rfl <| nL <| tRt <| rOk rfl ?_ nPo
    refine congrArg (fun b => iBool b) ?_
    simp_all [isWord]
   refine tSk <| tQ <| tG <| sm 1 rfl <| nL <| tRt <| rOk rfl ?_ nPo
   refine congrArg (fun b => iBool b) ?_
   simp_all [isWord]
  refine tQ <| tG <| cV rfl (bSt rfl rfl rfl rfl) <| sm 1 rfl <| nL ?_
  refine tC rfl (fun hc4 => ?_) fun hc4 => ?_
  ·refine tSk ?_
   refine tC rfl (fun hc4 => ?_) fun hc4 => ?_
   ·refine tQ <| tG <| sm 1 rfl <| nL <| tRt <| rOk rfl ?_ nPo
    refine congrArg (fun b => iBool b) ?_
    simp_all [isWord]
   refine tSk <| tQ <| tG <| sm 1 rfl <| nL <| tRt <| rOk rfl ?_ nPo
   refine congrArg (fun b => iBool b) ?_
   simp_all [isWord]
  refine tQ <| tG <| cV rfl (bSt rfl rfl rfl rfl) <| sm 1 rfl <| nL ?_
  refine tC rfl (fun hc4 => ?_) fun hc4 => ?_
  ·refine tSk ?_
   refine tC rfl (fun hc4 => ?_) fun hc4 => ?_
   ·refine tQ <| tG <| sm 1 rfl <| nL <| tRt <| rOk rfl ?_ nPo
    refine congrArg (fun b => iBool b) ?_
    simp_all [isWord]
   refine tSk <| tQ <| tG <| sm 1 rfl <| nL <| tRt <| rOk rfl ?_ nPo
   refine congrArg (fun b => iBool b) ?_
   simp_all [isWord]
  refine tQ <| tG <| cV rfl (bSt rfl rfl rfl rfl) <| sm 1 rfl <| nL ?_
  refine tC rfl (fun hc4 => ?_) fun hc4 => ?_
  ·refine tSk ?_
   refine tC rfl (fun hc4 => ?_) fun hc4 => ?_
   ·refine tQ <| tG <| sm 1 rfl <| nL <| tRt <| rOk rfl ?_ nPo
    refine congrArg (fun b => iBool b) ?_
    simp_all [isWord]
   refine tSk <| tQ <| tG <| sm 1 rfl <| nL <| tRt <| rOk rfl ?_ nPo
   refine congrArg (fun b => iBool b) ?_
   simp_all [isWord]
  refine tQ <| tG <| cV rfl (bSt rfl rfl rfl rfl) <| sm 1 rfl <| nL ?_
  refine tC rfl (fun hc4 => ?_) fun hc4 => ?_
  ·refine tSk ?_
   refine tC rfl (fun hc4 => ?_) fun hc4 => ?_
   ·refine tQ <| tG <| sm 1 rfl <| nL <| tRt <| rOk rfl ?_ nPo
    refine congrArg (fun b => iBool b) ?_
    simp_all [isWord]
   refine tSk <| tQ <| tG <| sm 1 rfl <| nL <| tRt <| rOk rfl ?_ nPo
   refine congrArg (fun b => iBool b) ?_
   simp_all [isWord]
  refine tQ <| tG <| cV rfl (bSt rfl rfl rfl rfl) <| sm 1 rfl <| nL ?_
  refine tC rfl (fun hc4 => ?_) fun hc4 => ?_
  ·refine tSk ?_
   refine tC rfl (fun hc4 => ?_) fun hc4 => ?_
   ·refine tQ <| tG <| sm 1 rfl <| nL <| tRt <| rOk rfl ?_ nPo
    refine congrArg (fun b => iBool b) ?_
    simp_all [isWord]
   refine tSk <| tQ <| tG <| sm 1 rfl <| nL <| tRt <| rOk rfl ?_ nPo
   refine congrArg (fun b => iBool b) ?_
   simp_all [isWord]
  refine tQ <| tG <| cV rfl (bSt rfl rfl rfl rfl) <| sm 1 rfl <| nL ?_
  refine tC rfl (fun hc4 => ?_) fun hc4 => ?_
  ·refine tSk ?_
   refine tC rfl (fun hc4 => ?_) fun hc4 => ?_
   ·refine tQ <| tG <| sm 1 rfl <| nL <| tRt <| rOk rfl ?_ nPo
    refine congrArg (fun b => iBool b) ?_
    simp_all [isWord]
   refine tSk <| tQ <| tG <| sm 1 rfl <| nL <| tRt <| rOk rfl ?_ nPo
   refine congrArg (fun b => iBool b) ?_
   simp_all [isWord]
  refine tQ <| tG <| cV rfl (bSt rfl rfl rfl rfl) <| sm 1 rfl <| nL ?_
  refine tC rfl (fun hc4 => ?_) fun hc4 => ?_
  ·refine tSk ?_
   refine tC rfl (fun hc4 => ?_) fun hc4 => ?_
   ·refine tQ <| tG <| sm 1 rfl <| nL <| tRt <| rOk rfl ?_ nPo
    refine congrArg (fun b => iBool b) ?_
    simp_all [isWord]
   refine tSk <| tQ <| tG <| sm 1 rfl <| nL <| tRt <| rOk rfl ?_ nPo
   refine congrArg (fun b => iBool b) ?_
   simp_all [isWord]
  refine tQ <| tG <| cV rfl (bSt rfl rfl rfl rfl) <| sm 1 rfl <| nL ?_
  refine tC rfl (fun hc4 => ?_) fun hc4 => ?_
  ·refine tSk ?_
   refine tC rfl (fun hc4 => ?_) fun hc4 => ?_
   ·refine tQ <| tG <| sm 1 rfl <| nL <| tRt <| rOk rfl ?_ nPo
    refine congrArg (fun b => iBool b) ?_
    simp_all [isWord]
   refine tSk <| tQ <| tG <| sm 1 rfl <| nL <| tRt <| rOk rfl ?_ nPo
   refine congrArg (fun b => iBool b) ?_
   simp_all [isWord]
  refine tQ <| tG <| cV rfl (bSt rfl rfl rfl rfl) <| sm 1 rfl <| nL ?_
  refine tC rfl (fun hc4 => ?_) fun hc4 => ?_
  ·refine tSk ?_
   refine tC rfl (fun hc4 => ?_) fun hc4 => ?_
   ·refine tQ <| tG <| sm 1 rfl <| nL <| tRt <| rOk rfl ?_ nPo
    refine congrArg (fun b => iBool b) ?_
    simp_all [isWord]
   refine tSk <| tQ <| tG <| sm 1 rfl <| nL <| tRt <| rOk rfl ?_ nPo
   refine congrArg (fun b => iBool b) ?_
   simp_all [isWord]
  refine tQ <| tG <| cV rfl (bSt rfl rfl rfl rfl) <| sm 1 rfl <| nL ?_
  refine tC rfl (fun hc4 => ?_) fun hc4 => ?_
  ·refine tSk ?_
   refine tC rfl (fun hc4 => ?_) fun hc4 => ?_
   ·refine tQ <| tG <| sm 1 rfl <| nL <| tRt <| rOk rfl ?_ nPo
    refine congrArg (fun b => iBool b) ?_
    simp_all [isWord]
   refine tSk <| tQ <| tG <| sm 1 rfl <| nL <| tRt <| rOk rfl ?_ nPo
   refine congrArg (fun b => iBool b) ?_
   simp_all [isWord]
  refine tQ <| tG <| cV rfl (bSt rfl rfl rfl rfl) <| sm 1 rfl <| nL ?_
  refine tC rfl (fun hc4 => ?_) fun hc4 => ?_
  ·refine tSk ?_
   refine tC rfl (fun hc4 => ?_) fun hc4 => ?_
   ·refine tQ <| tG <| sm 1 rfl <| nL <| tRt <| rOk rfl ?_ nPo
    refine congrArg (fun b => iBool b) ?_
    simp_all [isWord]
   refine tSk <| tQ <| tG <| sm 1 rfl <| nL <| tRt <| rOk rfl ?_ nPo
   refine congrArg (fun b => iBool b) ?_
   simp_all [isWord]
  refine tG <| cV rfl (bSt rfl rfl rfl rfl) <| sm 1 rfl <| nL ?_
  refine tC rfl (fun hc4 => ?_) fun hc4 => ?_
  ·refine tQ <| tG <| sm 1 rfl <| nL <| tRt <| rOk rfl ?_ nPo
   refine congrArg (fun b => iBool b) ?_
   simp_all [isWord]
  refine tSk <| tQ <| tG <| sm 1 rfl <| nL <| tRt <| rOk rfl ?_ nPo
  refine congrArg (fun b => iBool b) ?_
  simp_all [isWord]
theorem sc_r2Name (s : ByteArray) : SC Tryz.prog 46 [iStr s] [] (fun _ => False) (iBool (isName s)) [] := by
  refine SC.of Tryz.func46 rfl (lb rfl) fun F ρ w => ?_
  have hsz : s.size ≤ 9223372036854775807 ∨ 9223372036854775807 < s.size := by omega
  refine tQ <| tG <| sm 1 rfl <| nL <| tQ <| tQ <| tG <| sm 1 rfl <| cV rfl (bSt rfl rfl rfl rfl) <| sm 1 rfl ?_
  refine wS 6 rfl (fun hb6 => ?_) fun hb6 => ?_
  ·refine sm 14 rfl <| nL <| Tr.condT rfl <| tQ <| tG <| sm 1 rfl <| nL <| tRt <| rOk rfl ?_ nPo
   refine congrArg (fun b => iBool b) ?_
   simp_all [isName]
  have hne : s.toList ≠ [] := by simpa using hb6
  obtain ⟨b0, r0, hs0⟩ := List.exists_cons_of_ne_nil hne
  have hi0 : s[0]? = some b0 := by rw [ba_get (i := 0) (by rw [hs0]; simp)]; simp [hs0]
  refine sm 1 rfl <| yV rfl rfl (ok_len_str rfl rfl uT9) <| sm 3 rfl ?_
  refine wS 11 rfl (fun hb11 => ?_) fun hb11 => ?_
  ·refine sm 9 rfl <| nL <| Tr.condT rfl <| tQ <| tG <| sm 1 rfl <| nL <| tRt <| rOk rfl ?_ nPo
   refine congrArg (fun b => iBool b) ?_
   (have h20 : ¬ ((s.size : Int) ≤ 20) := by simp at hb11; omega
    simp [isName, h20]; done)
  refine sm 1 rfl <| yV rfl rfl (ok_index_str rfl rfl rfl uT9 (by assumption) (by rfl)) <| WL.yes rfl rfl rfl rfl rfl rfl (ok_callq (sc_r2letter _) ent70 rfl rfl (sRf _ _) rfl) <| sm 3 rfl ?_
  refine wS 17 rfl (fun hb17 => ?_) fun hb17 => ?_
  ·refine sm 3 rfl <| nL <| Tr.condT rfl <| tQ <| tG <| sm 1 rfl <| nL <| tRt <| rOk rfl ?_ nPo
   refine congrArg (fun b => iBool b) ?_
   simp_all [isName]
  refine sm 1 rfl <| WL.yes rfl rfl rfl rfl rfl rfl (ok_callq (sc_r2Word _) ent71 rfl rfl (sRf _ _) rfl) <| sm 1 rfl <| nL ?_
  refine tC rfl (fun hc20 => ?_) fun hc20 => ?_
  ·refine tQ <| tG <| sm 1 rfl <| nL <| tRt <| rOk rfl ?_ nPo
   refine congrArg (fun b => iBool b) ?_
   simp_all [isName]
  refine tSk <| tQ <| tQ <| tG <| sm 1 rfl <| nL <| tBk <| Tr.sub (Sub.of (fr' := [(3, iInt 0), (0, iStr s)]) ⟨rfl, rfl, trivial⟩) ?_
  refine Tr.loop (fun fr σ m => ∃ (k : Nat), (k ≤ s.toList.length) ∧ (s.toList.all isLD = (s.toList.drop k).all isLD) ∧ fr = [(3, iInt k), (0, iStr s)] ∧ σ = look [] ∧ m = s.toList.length - k) (n := s.toList.length - 0) ?_ ?_
  ·exact ⟨0, Nat.zero_le _, rfl, rfl, rfl, rfl⟩
  rintro fr σ m ⟨k, hI0, hI1, rfl, rfl, rfl⟩
  refine tQ <| tQ <| tG <| sm 2 rfl <| cV rfl (ok_len_str rfl rfl uT9) <| sm 1 rfl <| nL ?_
  refine tC rfl (fun hc24 => ?_) fun hc24 => ?_
  ·have hlt : k < s.toList.length := by rw [ba_len]; simpa using hc24
   have hd := List.drop_eq_getElem_cons hlt
   have hi := ba_get hlt
   generalize s.toList[k] = b at hd hi
   have hl20 : s.toList.length ≤ 20 := by rw [ba_len]; simp at hb11; omega
   refine tSk <| tQ <| tBk <| tQ <| tG <| sm 2 rfl <| cV rfl (ok_index_str rfl rfl rfl uT9 (by assumption) (by rfl)) <| cE rfl (ocq (sc_r2letter _) ent70 rfl rfl) <| sm 2 rfl ?_
   refine wS 32 rfl (fun hb32 => ?_) fun hb32 => ?_
   ·refine sm 2 rfl <| yV rfl rfl (ok_index_str rfl rfl rfl uT9 (by assumption) (by rfl)) <| WL.yes rfl rfl rfl rfl rfl rfl (ok_callq (sc_r2digit _) ent72 rfl rfl (sRf _ _) rfl) <| sm 2 rfl <| nL ?_
    refine tC rfl (fun hc38 => ?_) fun hc38 => ?_
    ·refine tQ <| tG <| sm 1 rfl <| nL <| tRt <| rOk rfl ?_ nPo
     have hb : isLD b = false := by simp_all [isLD]
     have hall : s.toList.all isLD = false := by rw [hI1, hd]; simp [hb]
     simp [isName, hall]
    refine tSk <| tG <| sm 1 rfl <| cV rfl (oB rfl rfl (i64_add rfl (by omega))) <| sm 1 rfl <| nL ?_
    refine ⟨_, _, ?_, Sub.of (fr' := [(3, iInt (k + 1)), (0, iStr s)]) ⟨rfl, rfl, trivial⟩, (k + 1), ?_, ?_, rfl, rfl, rfl⟩
    ·omega
    ·omega
    have hb : isLD b = true := by simp_all [isLD]
    rw [hI1, hd]; simp [hb]
   refine sm 6 rfl <| nL <| Tr.condF rfl <| tSk <| tG <| sm 1 rfl <| cV rfl (oB rfl rfl (i64_add rfl (by omega))) <| sm 1 rfl <| nL ?_
   refine ⟨_, _, ?_, Sub.of (fr' := [(3, iInt (k + 1)), (0, iStr s)]) ⟨rfl, rfl, trivial⟩, (k + 1), ?_, ?_, rfl, rfl, rfl⟩
   ·omega
   ·omega
   have hb : isLD b = true := by simp_all [isLD]
   rw [hI1, hd]; simp [hb]
  refine tEx <| tQ <| tG <| sm 1 rfl <| nL <| tRt <| rOk rfl ?_ nPo
  have hge : s.toList.length ≤ k := by rw [ba_len]; simpa using hc24
  have hall : s.toList.all isLD = true := by rw [hI1, List.drop_eq_nil_of_le hge]; rfl
  refine congrArg (fun b => iBool b) ?_
  simp_all [isName]
theorem sc_r8sameInts (a b : List Int) : SC Tryz.prog 27 [.pv (ints a), .pv (ints b)] [] (fun _ => False) (iBool (a == b)) [] := by
  refine SC.of Tryz.func27 rfl (lb rfl) fun F ρ w => ?_
  refine Tr.lenOf (t := 0) rfl (fun hl => ?_)
  simp only [List.length_map] at hl
  refine Tr.lenOf (t := 1) rfl (fun hl2 => ?_)
  simp only [List.length_map] at hl2
  refine tQ <| tG <| sm 1 rfl <| nL <| tQ <| tQ <| tG <| sm 1 rfl <| cV rfl (oSm uT35 rfl) <| sm 1 rfl <| cV rfl (oSm uT35 rfl) <| sm 1 rfl ?_
  refine nL ?_
  refine tC rfl (fun hc10 => ?_) fun hc10 => ?_
  ·refine tQ <| tG <| sm 1 rfl <| nL <| tRt <| rOk rfl ?_ nPo
   have hne : a ≠ b := by intro h; subst h; simp at hc10
   simp [hne]
  have hlen : a.length = b.length := by simp at hc10; omega
  refine tSk <| tQ <| tQ <| tG <| sm 1 rfl <| nL <| tBk <| Tr.sub (Sub.of (fr' := [(5, iInt 0), (0, .pv (ints a)), (1, .pv (ints b))]) ⟨rfl, rfl, rfl, trivial⟩) ?_
  refine Tr.loop (fun fr σ m => ∃ (k : Nat), (k ≤ a.length) ∧ ((a == b) = (a.drop k == b.drop k)) ∧ fr = [(5, iInt k), (0, .pv (ints a)), (1, .pv (ints b))] ∧ σ = look [] ∧ m = a.length - k) (n := a.length - 0) ?_ ?_
  ·exact ⟨0, Nat.zero_le _, rfl, rfl, rfl, rfl⟩
  rintro fr σ m ⟨k, hI0, hI1, rfl, rfl, rfl⟩
  refine tQ <| tQ <| tG <| sm 2 rfl <| cV rfl (oSm uT35 rfl) <| sm 1 rfl <| nL ?_
  refine tC rfl (fun hc14 => ?_) fun hc14 => ?_
  ·have hlt : k < a.length := by simpa using hc14
   have hd := List.drop_eq_getElem_cons hlt
   have hm := List.getElem_mem hlt
   have hi := map_get (f := eInt) (List.getElem?_eq_getElem hlt)
   generalize a[k] = x at hd hm hi
   have hltw : k < b.length := by omega
   have hdw := List.drop_eq_getElem_cons hltw
   have hw := map_get (f := eInt) (List.getElem?_eq_getElem hltw)
   generalize b[k] = y at hdw hw
   refine tSk <| tQ <| tBk <| tQ <| Tr.still mixed (by kernel_rfl) rfl <| smS 2 rfl <| sV rfl (iSq rfl rfl rfl uT35 hi tS3 rfl (by rfl)) <| smS 3 rfl <| sV rfl (iSq rfl rfl rfl uT35 hw tS3 rfl (by rfl)) <| smS 2 rfl <| WS.nil ?_
   refine tC rfl (fun hc25 => ?_) fun hc25 => ?_
   ·refine tQ <| tG <| sm 1 rfl <| nL <| tRt <| rOk rfl ?_ nPo
    have hxy : x ≠ y := by simpa using hc25
    rw [hI1, hd, hdw]
    simp [hxy]
   refine tSk <| tG <| sm 1 rfl <| cV rfl (oB rfl rfl (i64_add rfl (by omega))) <| sm 1 rfl <| nL ?_
   refine ⟨_, _, ?_, Sub.of (fr' := [(5, iInt (k + 1)), (0, .pv (ints a)), (1, .pv (ints b))]) ⟨rfl, rfl, rfl, trivial⟩, (k + 1), ?_, ?_, rfl, rfl, rfl⟩
   ·omega
   ·omega
   rw [hI1, hd, hdw]
   have : x = y := by simpa using hc25
   simp [this]
  refine tEx <| tQ <| tG <| sm 1 rfl <| nL <| tRt <| rOk rfl ?_ nPo
  have hge : a.length ≤ k := by simpa using hc14
  rw [hI1, List.drop_eq_nil_of_le hge, List.drop_eq_nil_of_le (by omega)]
  rfl
theorem sc_r8nodes_aux (N : Nat) : ∀ (l : List Nd) (hb : r8nodes l ≤ 4611686018427387904), SizeOf.sizeOf l < N → SC Tryz.prog 18 [.pv (nodes l)] [] (fun _ => False) (iInt (r8nodes l)) [] := by
  induction N with
  | zero => intro l hb hN; exact absurd hN (Nat.not_lt_zero _)
  | succ N ih =>
    intro l hb hN
    refine SC.of Tryz.func18 rfl (lb rfl) fun F ρ w => ?_
    refine Tr.lenOf (t := 0) rfl (fun hl => ?_)
    simp only [List.length_map] at hl
    refine tQ <| tG <| sm 1 rfl <| nL <| tQ <| tG <| sm 1 rfl <| cV rfl (oSm uT44 rfl) <| sm 1 rfl <| nL <| tQ <| tQ ?_
    refine tG <| sm 1 rfl <| nL <| tBk <| Tr.sub (Sub.of (fr' := [(4, iInt 0), (3, iInt l.length), (0, .pv (nodes l))]) ⟨rfl, rfl, rfl, trivial⟩) ?_
    refine Tr.loop (fun fr σ m => ∃ (k : Nat) (n : Nat), (k ≤ l.length) ∧ (n + wtL (l.drop k) = r8nodes l) ∧ fr = [(4, iInt k), (3, iInt n), (0, .pv (nodes l))] ∧ σ = look [] ∧ m = l.length - k) (n := l.length - 0) ?_ ?_
    ·exact ⟨0, l.length, Nat.zero_le _, rfl, rfl, rfl, rfl⟩
    rintro fr σ m ⟨k, n, hI0, hI1, rfl, rfl, rfl⟩
    refine tQ <| tQ <| tG <| sm 2 rfl <| cV rfl (oSm uT44 rfl) <| sm 1 rfl <| nL ?_
    refine tC rfl (fun hc11 => ?_) fun hc11 => ?_
    ·have hlt : k < l.length := by simpa using hc11
     have hd := List.drop_eq_getElem_cons hlt
     have hm := List.getElem_mem hlt
     have hi := nodes_get (List.getElem?_eq_getElem hlt)
     generalize l[k] = x at hd hm hi
     have hstep : wtL (x :: l.drop (k + 1)) = wtN x + wtL (l.drop (k + 1)) := rfl
     have hx := wtN_eq x
     rw [hd, hstep, hx] at hI1
     refine tSk <| tQ <| tBk <| tQ <| Tr.still mixed (by kernel_rfl) rfl <| smS 3 rfl <| sV rfl (iSq rfl rfl rfl uT44 (by assumption) tS43 rfl (by rfl)) <| smS 2 rfl <| sV rfl (oSm uT35 rfl) <| sV rfl (oB rfl rfl (i64_add rfl (by omega))) <| smS 2 rfl <| sV rfl (iSq rfl rfl rfl uT44 (by assumption) tS43 rfl (by rfl)) ?_
     refine smS 2 rfl <| sV rfl (oSm uT35 rfl) <| sV rfl (oB rfl rfl (i64_add rfl (by omega))) <| smS 2 rfl <| sV rfl (iSq rfl rfl rfl uT44 (by assumption) tS43 rfl (by rfl)) <| smS 2 rfl <| sV rfl (oSm uT35 rfl) <| sV rfl (oB rfl rfl (i64_add rfl (by omega))) <| smS 2 rfl <| sV rfl (iSq rfl rfl rfl uT44 (by assumption) tS43 rfl (by rfl)) <| smS 2 rfl <| sV rfl (ok_len_str rfl rfl uT9) ?_
     refine sV rfl (oB rfl rfl (i64_add rfl (by omega))) <| smS 1 rfl <| WS.nil <| tQ <| tG <| sm 1 rfl <| nL <| tBk ?_
     have hstart : n + x.args.length + x.outs.length + x.params.length + x.name.size + wtK (x.kids.drop 0) + wtL (l.drop (k + 1)) = r8nodes l := by rw [List.drop_zero]; omega
     refine Tr.sub (Sub.of (fr' := [(5, iInt 0), (4, iInt k), (3, iInt (n + x.args.length + x.outs.length + x.params.length + x.name.size)), (0, .pv (nodes l))]) ⟨rfl, rfl, congrArg (fun z => some (iInt z)) (by rfl), rfl, trivial⟩) ?_
     refine Tr.loop (fun fr σ m => ∃ (i : Nat) (acc : Nat), (i ≤ x.kids.length) ∧ (acc + wtK (x.kids.drop i) + wtL (l.drop (k + 1)) = r8nodes l) ∧ fr = [(5, iInt i), (4, iInt k), (3, iInt acc), (0, .pv (nodes l))] ∧ σ = look [] ∧ m = x.kids.length - i) (n := x.kids.length - 0) ?_ ?_
     ·exact ⟨0, (n + x.args.length + x.outs.length + x.params.length + x.name.size), Nat.zero_le _, hstart, rfl, rfl, rfl⟩
     rintro fr σ m ⟨i, acc, hJ0, hJ1, rfl, rfl, rfl⟩
     refine tQ <| tQ <| tG <| sm 3 rfl <| cV rfl (iSq rfl rfl rfl uT44 (by assumption) tS43 rfl (by rfl)) <| sm 2 rfl ?_
     refine WL.lenOf (t := 48) rfl (fun hl2 => ?_)
     simp only [List.length_map] at hl2
     refine cV rfl (oSm uT41 rfl) <| sm 1 rfl <| nL ?_
     refine tC rfl (fun hc50 => ?_) fun hc50 => ?_
     ·have hlt2 : i < x.kids.length := by simpa using hc50
      have hd2 := List.drop_eq_getElem_cons hlt2
      have hm2 := List.getElem_mem hlt2
      have hi2 := map_get (f := eKid) (List.getElem?_eq_getElem hlt2)
      generalize x.kids[i] = q at hd2 hm2 hi2
      have hdec : SizeOf.sizeOf q < N := Nat.lt_of_lt_of_le (kid_lt hm rfl hm2) (Nat.le_of_lt_succ hN)
      have hJ1' := hJ1
      rw [hd2, show wtK (q :: x.kids.drop (i + 1)) = 1 + (q.length + wtL q) + wtK (x.kids.drop (i + 1)) from rfl] at hJ1'
      have hqq : r8nodes q = q.length + wtL q := rfl
      have hbq : r8nodes q ≤ 4611686018427387904 := by unfold r8nodes at *; omega
      refine tSk <| tQ <| tBk <| tG <| sm 1 rfl <| cV rfl (oB rfl rfl (i64_add rfl (by omega))) <| sm 2 rfl <| cV rfl (iSq rfl rfl rfl uT44 (by assumption) tS43 rfl (by rfl)) <| sm 3 rfl <| cV rfl (iSq rfl rfl rfl uT41 (by assumption) tS44 rfl (by rfl)) <| sm 1 rfl <| cE rfl (ocq (ih q hbq hdec) ent18 rfl rfl) ?_
      refine cV rfl (oB rfl rfl (i64_add rfl (by omega))) <| sm 1 rfl <| nL <| tG <| sm 1 rfl <| cV rfl (oB rfl rfl (i64_add rfl (by omega))) <| sm 1 rfl <| nL ?_
      refine ⟨_, _, ?_, Sub.of (fr' := [(5, iInt (i + 1)), (4, iInt k), (3, iInt (acc + 1 + r8nodes q)), (0, .pv (nodes l))]) ⟨rfl, rfl, congrArg (fun z => some (iInt z)) (by rfl), rfl, trivial⟩, (i + 1), (acc + 1 + r8nodes q), ?_, ?_, rfl, rfl, rfl⟩
      ·omega
      ·omega
      have hq : wtK (q :: x.kids.drop (i + 1)) = 1 + (q.length + wtL q) + wtK (x.kids.drop (i + 1)) := rfl
      rw [hd2, hq] at hJ1
      unfold r8nodes at *
      omega
     refine tEx <| tG <| sm 1 rfl <| cV rfl (oB rfl rfl (i64_add rfl (by omega))) <| sm 1 rfl <| nL ?_
     refine ⟨_, _, ?_, Sub.of (fr' := [(4, iInt (k + 1)), (3, iInt acc), (0, .pv (nodes l))]) ⟨rfl, rfl, rfl, trivial⟩, (k + 1), acc, ?_, ?_, rfl, rfl, rfl⟩
     ·omega
     ·omega
     have hz : wtK (x.kids.drop i) = 0 := by rw [List.drop_eq_nil_of_le (by simpa using hc50)]; rfl
     omega
    refine tEx <| tQ <| tG <| sm 2 rfl <| nL <| tRt <| rOk rfl ?_ nPo
    have hge : l.length ≤ k := by simpa using hc11
    rw [List.drop_eq_nil_of_le hge] at hI1
    simp only [wtL, Nat.add_zero] at hI1
    rw [← hI1]
theorem sc_r8nodes (l : List Nd) (hb : r8nodes l ≤ 4611686018427387904) : SC Tryz.prog 18 [.pv (nodes l)] [] (fun _ => False) (iInt (r8nodes l)) [] := sc_r8nodes_aux _ l hb (Nat.lt_succ_self _)
theorem sc_r8sameNodes_aux (N : Nat) : ∀ (a b : List Nd), SizeOf.sizeOf a < N → SC Tryz.prog 28 [.pv (nodes a), .pv (nodes b)] [] (fun _ => False) (iBool (sameL a b)) [] := by
  induction N with
  | zero => intro a b hN; exact absurd hN (Nat.not_lt_zero _)
  | succ N ih =>
    intro a b hN
    refine SC.of Tryz.func28 rfl (lb rfl) fun F ρ w => ?_
    refine Tr.lenOf (t := 0) rfl (fun hl => ?_)
    simp only [List.length_map] at hl
    refine Tr.lenOf (t := 1) rfl (fun hl2 => ?_)
    simp only [List.length_map] at hl2
    refine tQ <| tG <| sm 1 rfl <| nL <| tQ <| tQ <| tG <| sm 1 rfl <| cV rfl (oSm uT44 rfl) <| sm 1 rfl <| cV rfl (oSm uT44 rfl) <| sm 1 rfl ?_
    refine nL ?_
    refine tC rfl (fun hc13 => ?_) fun hc13 => ?_
    ·refine tQ <| tG <| sm 1 rfl <| nL <| tRt <| rOk rfl ?_ nPo
     rw [sameL_len (by intro h; simp [h] at hc13)]
    have hlen : a.length = b.length := by simp at hc13; omega
    refine tSk <| tQ <| tQ <| tG <| sm 1 rfl <| nL <| tBk <| Tr.sub (Sub.of (fr' := [(5, iInt 0), (0, .pv (nodes a)), (1, .pv (nodes b))]) ⟨rfl, rfl, rfl, trivial⟩) ?_
    refine Tr.loop (fun fr σ m => ∃ (k : Nat), (k ≤ a.length) ∧ (sameL a b = sameL (a.drop k) (b.drop k)) ∧ fr = [(5, iInt k), (0, .pv (nodes a)), (1, .pv (nodes b))] ∧ σ = look [] ∧ m = a.length - k) (n := a.length - 0) ?_ ?_
    ·exact ⟨0, Nat.zero_le _, rfl, rfl, rfl, rfl⟩
    rintro fr σ m ⟨k, hI0, hI1, rfl, rfl, rfl⟩
    refine tQ <| tQ <| tG <| sm 2 rfl <| cV rfl (oSm uT44 rfl) <| sm 1 rfl <| nL ?_
    refine tC rfl (fun hc17 => ?_) fun hc17 => ?_
    ·have hlt : k < a.length := by simpa using hc17
     have hd := List.drop_eq_getElem_cons hlt
     have hm := List.getElem_mem hlt
     have hi := nodes_get (List.getElem?_eq_getElem hlt)
     generalize a[k] = x at hd hm hi
     have hltw : k < b.length := by omega
     have hdw := List.drop_eq_getElem_cons hltw
     have hw := nodes_get (List.getElem?_eq_getElem hltw)
     generalize b[k] = y at hdw hw
     refine tSk <| tQ <| tBk <| tQ ?_
     refine Tr.cut (fr' := [(7, .ptr 107 0), (6, .ptr 106 0), (5, iInt k), (0, .pv (nodes a)), (1, .pv (nodes b))]) (σ' := look [(106, some (.box [iInt x.kind, iInt x.op, iInt x.n, iStr x.name, .pv (ints x.args), .pv (ints x.outs), .pv (ints x.params), .pv (kids x.kids)])), (107, some (.box [iInt y.kind, iInt y.op, iInt y.n, iStr y.name, .pv (ints y.args), .pv (ints y.outs), .pv (ints y.params), .pv (kids y.kids)]))]) ?_ ?_
     ·refine tDr mixed (fun k => k ∈ ([] : List Nat)) <| wR 4 [0, 1, 2, 3, 4, 5, 6, 7] (by kernel_rfl) (fun _ _ _ h => pn h.1) <| smR 2 rfl <| rV rfl rfl (iSq rfl rfl rfl uT44 hi tS43 rfl (by rfl)) <| rV rfl rfl (lEA rfl rfl uT43 rfl tS43 (lb rfl)) <| smR 2 rfl <| rV rfl rfl (iSq rfl rfl rfl uT44 hw tS43 rfl (by rfl)) <| rV rfl rfl (lEA rfl rfl uT43 rfl tS43 (lb rfl)) <| nR <| WA.all (rs := [8, 9]) (by kernel_rfl) (by simp) ?_
      refine fmc ⟨?_, fmc ⟨?_, by simp⟩⟩
      ·refine wI rfl rfl nf (new_one rfl) (fun _ _ => aLc (k := 106) rfl tZ43 rfl rfl rfl rfl) <| wO 9 (by kernel_rfl) <| wI rfl rfl nf (new_one rfl) (fun _ _ => aLc (k := 107) rfl tZ43 rfl rfl rfl rfl) <| wO 10 (by kernel_rfl) <| wI rfl rfl nf (nOl rfl) (fun _ _ => sBA rfl rfl rfl rfl rfl (by simp) tS43 (flk rfl) (lb rfl)) <| wO 11 (by kernel_rfl) <| wI rfl rfl nf (nOl rfl) (fun _ _ => sBA rfl rfl rfl rfl rfl (by simp) tS43 (flk rfl) (lb rfl)) <| wDn (by kernel_rfl) ?_
       refine ⟨rfl, Sub.of ⟨rfl, rfl, rfl, rfl, rfl, trivial⟩, ?_⟩
       exact look_two rfl rfl (fun k h1 h2 => by simp [look, beq_ne (Ne.symm h1), beq_ne (Ne.symm h2)]) (by decide)
      refine wI rfl rfl nf (new_one rfl) (fun _ _ => aLc (k := 107) rfl tZ43 rfl rfl rfl rfl) <| wO 8 (by kernel_rfl) <| wI rfl rfl nf (new_one rfl) (fun _ _ => aLc (k := 106) rfl tZ43 rfl rfl rfl rfl) <| wO 10 (by kernel_rfl) <| wI rfl rfl nf (nOl rfl) (fun _ _ => sBA rfl rfl rfl rfl rfl (by simp) tS43 (flk rfl) (lb rfl)) <| wO 11 (by kernel_rfl) <| wI rfl rfl nf (nOl rfl) (fun _ _ => sBA rfl rfl rfl rfl rfl (by simp) tS43 (flk rfl) (lb rfl)) <| wDn (by kernel_rfl) ?_
      refine ⟨rfl, Sub.of ⟨rfl, rfl, rfl, rfl, rfl, trivial⟩, ?_⟩
      exact look_two rfl rfl (fun k h1 h2 => by simp [look, beq_ne (Ne.symm h1), beq_ne (Ne.symm h2)]) (by decide)
     refine Tr.freezeBox (t := 6) (k := 106) rfl rfl rfl <| Tr.freezeBox (t := 7) (k := 107) rfl rfl rfl <| Tr.heap (σ' := look []) (fun k => by simp only [look]; cases Nat.beq 107 k <;> cases Nat.beq 106 k <;> rfl) <| tQ <| tQ <| tG <| sm 6 rfl ?_
     refine wS 33 rfl (fun hb33 => ?_) fun hb33 => ?_
     ·refine sm 53 rfl <| nL <| Tr.condT rfl <| tQ <| tG <| sm 1 rfl <| nL <| tRt <| rOk rfl ?_ nPo
      have hsh : sameH x y = false := by
        clear hd hdw hm hi hw hI1
        simp_all [sameH]
      rw [hI1, hd, hdw]
      simp [sameL, sameN_eq, hsh]
     refine sm 7 rfl ?_
     refine wS 40 rfl (fun hb40 => ?_) fun hb40 => ?_
     ·refine sm 46 rfl <| nL <| Tr.condT rfl <| tQ <| tG <| sm 1 rfl <| nL <| tRt <| rOk rfl ?_ nPo
      have hsh : sameH x y = false := by
        clear hd hdw hm hi hw hI1
        simp_all [sameH]
      rw [hI1, hd, hdw]
      simp [sameL, sameN_eq, hsh]
     refine sm 7 rfl ?_
     refine wS 47 rfl (fun hb47 => ?_) fun hb47 => ?_
     ·refine sm 39 rfl <| nL <| Tr.condT rfl <| tQ <| tG <| sm 1 rfl <| nL <| tRt <| rOk rfl ?_ nPo
      have hsh : sameH x y = false := by
        clear hd hdw hm hi hw hI1
        simp_all [sameH]
      rw [hI1, hd, hdw]
      simp [sameL, sameN_eq, hsh]
     refine sm 4 rfl <| yV rfl rfl (bSt rfl rfl rfl rfl) <| sm 2 rfl ?_
     refine wS 54 rfl (fun hb54 => ?_) fun hb54 => ?_
     ·refine sm 32 rfl <| nL <| Tr.condT rfl <| tQ <| tG <| sm 1 rfl <| nL <| tRt <| rOk rfl ?_ nPo
      have hsh : sameH x y = false := by
        clear hd hdw hm hi hw hI1
        simp_all [sameH]
      rw [hI1, hd, hdw]
      simp [sameL, sameN_eq, hsh]
     refine sm 2 rfl <| yV rfl rfl (oSm uT41 rfl) <| sm 2 rfl <| yV rfl rfl (oSm uT41 rfl) <| sm 3 rfl ?_
     refine wS 63 rfl (fun hb63 => ?_) fun hb63 => ?_
     ·refine sm 23 rfl <| nL <| Tr.condT rfl <| tQ <| tG <| sm 1 rfl <| nL <| tRt <| rOk rfl ?_ nPo
      have hsh : sameH x y = false := by
        clear hd hdw hm hi hw hI1
        (simp_all [sameH] <;> omega)
      rw [hI1, hd, hdw]
      simp [sameL, sameN_eq, hsh]
     refine sm 4 rfl <| WL.yes rfl rfl rfl rfl rfl rfl (ok_callq (sc_r8sameInts _ _) ent27 rfl rfl (sRf _ _) rfl) <| sm 3 rfl ?_
     refine wS 71 rfl (fun hb71 => ?_) fun hb71 => ?_
     ·refine sm 15 rfl <| nL <| Tr.condT rfl <| tQ <| tG <| sm 1 rfl <| nL <| tRt <| rOk rfl ?_ nPo
      have hsh : sameH x y = false := by
        clear hd hdw hm hi hw hI1
        simp_all [sameH]
      rw [hI1, hd, hdw]
      simp [sameL, sameN_eq, hsh]
     refine sm 4 rfl <| WL.yes rfl rfl rfl rfl rfl rfl (ok_callq (sc_r8sameInts _ _) ent27 rfl rfl (sRf _ _) rfl) <| sm 3 rfl ?_
     refine wS 79 rfl (fun hb79 => ?_) fun hb79 => ?_
     ·refine sm 7 rfl <| nL <| Tr.condT rfl <| tQ <| tG <| sm 1 rfl <| nL <| tRt <| rOk rfl ?_ nPo
      have hsh : sameH x y = false := by
        clear hd hdw hm hi hw hI1
        simp_all [sameH]
      rw [hI1, hd, hdw]
      simp [sameL, sameN_eq, hsh]
     refine sm 4 rfl <| WL.yes rfl rfl rfl rfl rfl rfl (ok_callq (sc_r8sameInts _ _) ent27 rfl rfl (sRf _ _) rfl) <| sm 2 rfl <| nL ?_
     refine tC rfl (fun hc86 => ?_) fun hc86 => ?_
     ·refine tQ <| tG <| sm 1 rfl <| nL <| tRt <| rOk rfl ?_ nPo
      have hsh : sameH x y = false := by
        clear hd hdw hm hi hw hI1
        simp_all [sameH]
      rw [hI1, hd, hdw]
      simp [sameL, sameN_eq, hsh]
     refine tSk <| tQ <| tG <| sm 1 rfl <| nL <| tBk ?_
     have hsh : sameH x y = true := by
       clear hd hdw hm hi hw
       (simp_all [sameH] <;> omega)
     have hkl : x.kids.length = y.kids.length := by
       clear hd hdw hm hi hw
       simp_all [sameH]
     have hstart : sameL a b = (sameK (x.kids.drop 0) (y.kids.drop 0) && sameL (a.drop (k + 1)) (b.drop (k + 1))) := by
       rw [hI1, hd, hdw]
       simp [sameL, sameN_eq, hsh]
     refine Tr.sub (Sub.of (fr' := [(8, iInt 0), (7, .pv (.ept [vInt y.kind, vInt y.op, vInt y.n, vStr y.name, ints y.args, ints y.outs, ints y.params, kids y.kids] 0)), (6, .pv (.ept [vInt x.kind, vInt x.op, vInt x.n, vStr x.name, ints x.args, ints x.outs, ints x.params, kids x.kids] 0)), (5, iInt k), (0, .pv (nodes a)), (1, .pv (nodes b))]) ⟨rfl, rfl, rfl, rfl, rfl, rfl, trivial⟩) ?_
     refine Tr.loop (fun fr σ m => ∃ (i : Nat), (i ≤ x.kids.length) ∧ (sameL a b = (sameK (x.kids.drop i) (y.kids.drop i) && sameL (a.drop (k + 1)) (b.drop (k + 1)))) ∧ fr = [(8, iInt i), (7, .pv (.ept [vInt y.kind, vInt y.op, vInt y.n, vStr y.name, ints y.args, ints y.outs, ints y.params, kids y.kids] 0)), (6, .pv (.ept [vInt x.kind, vInt x.op, vInt x.n, vStr x.name, ints x.args, ints x.outs, ints x.params, kids x.kids] 0)), (5, iInt k), (0, .pv (nodes a)), (1, .pv (nodes b))] ∧ σ = look [] ∧ m = x.kids.length - i) (n := x.kids.length - 0) ?_ ?_
     ·exact ⟨0, Nat.zero_le _, hstart, rfl, rfl, rfl⟩
     rintro fr σ m ⟨i, hJ0, hJ1, rfl, rfl, rfl⟩
     refine tQ <| tQ <| tG <| sm 3 rfl ?_
     refine WL.lenOf (t := 89) rfl (fun hl3 => ?_)
     simp only [List.length_map] at hl3
     refine cV rfl (oSm uT41 rfl) <| sm 1 rfl <| nL ?_
     refine tC rfl (fun hc91 => ?_) fun hc91 => ?_
     ·have hlt2 : i < x.kids.length := by simpa using hc91
      have hd2 := List.drop_eq_getElem_cons hlt2
      have hm2 := List.getElem_mem hlt2
      have hi2 := map_get (f := eKid) (List.getElem?_eq_getElem hlt2)
      generalize x.kids[i] = p at hd2 hm2 hi2
      have hdec : SizeOf.sizeOf p < N := Nat.lt_of_lt_of_le (kid_lt hm rfl hm2) (Nat.le_of_lt_succ hN)
      have hltw2 : i < y.kids.length := by omega
      have hdw2 := List.drop_eq_getElem_cons hltw2
      have hw2 := map_get (f := eKid) (List.getElem?_eq_getElem hltw2)
      generalize y.kids[i] = q at hdw2 hw2
      refine tSk <| tQ <| tBk <| tQ <| tDr mixed (fun k => k ∈ ([] : List Nat)) <| wR 2 [0, 1, 2, 3, 4, 5, 6, 7, 8, 9] (by kernel_rfl) (fun _ _ _ h => h) <| smR 3 rfl <| rV rfl rfl (iSq rfl rfl rfl uT41 hi2 tS44 rfl (by rfl)) <| smR 4 rfl <| rV rfl rfl (iSq rfl rfl rfl uT41 hw2 tS44 rfl (by rfl)) <| smR 1 rfl <| nR ?_
      refine wO 10 (by kernel_rfl) <| wI rfl rfl nf nw (fun _ _ => ocq (ih p q hdec) ent28 rfl rfl) <| wR 0 [11] (by kernel_rfl) (fun _ _ _ h => h) <| smR 1 rfl <| nR <| wDn (by kernel_rfl) ?_
      refine tC rfl (fun hc105 => ?_) fun hc105 => ?_
      ·refine tQ <| tG <| sm 1 rfl <| nL <| tRt <| rOk rfl ?_ nPo
       have hpq : sameL p q = false := by simpa using hc105
       rw [hJ1, hd2, hdw2]
       simp [sameK, hpq]
      refine tSk <| tG <| sm 1 rfl <| cV rfl (oB rfl rfl (i64_add rfl (by omega))) <| sm 1 rfl <| nL ?_
      refine ⟨_, _, ?_, Sub.of (fr' := [(8, iInt (i + 1)), (7, .pv (.ept [vInt y.kind, vInt y.op, vInt y.n, vStr y.name, ints y.args, ints y.outs, ints y.params, kids y.kids] 0)), (6, .pv (.ept [vInt x.kind, vInt x.op, vInt x.n, vStr x.name, ints x.args, ints x.outs, ints x.params, kids x.kids] 0)), (5, iInt k), (0, .pv (nodes a)), (1, .pv (nodes b))]) ⟨rfl, rfl, rfl, rfl, rfl, rfl, trivial⟩, (i + 1), ?_, ?_, rfl, rfl, rfl⟩
      ·omega
      ·omega
      rw [hJ1, hd2, hdw2]
      have : sameL p q = true := by simpa using hc105
      simp [sameK, this]
     refine tEx <| tG <| sm 1 rfl <| cV rfl (oB rfl rfl (i64_add rfl (by omega))) <| sm 1 rfl <| nL ?_
     refine ⟨_, _, ?_, Sub.of (fr' := [(5, iInt (k + 1)), (0, .pv (nodes a)), (1, .pv (nodes b))]) ⟨rfl, rfl, rfl, trivial⟩, (k + 1), ?_, ?_, rfl, rfl, rfl⟩
     ·omega
     ·omega
     have hz1 : x.kids.drop i = [] := List.drop_eq_nil_of_le (by simpa using hc91)
     have hz2 : y.kids.drop i = [] := List.drop_eq_nil_of_le (by rw [← hkl]; simpa using hc91)
     rw [hJ1, hz1, hz2]
     simp [sameK]
    refine tEx <| tQ <| tG <| sm 1 rfl <| nL <| tRt <| rOk rfl ?_ nPo
    have hge : a.length ≤ k := by simpa using hc17
    rw [hI1, List.drop_eq_nil_of_le hge, List.drop_eq_nil_of_le (by omega)]
    rfl
theorem sc_r8sameNodes (a b : List Nd) : SC Tryz.prog 28 [.pv (nodes a), .pv (nodes b)] [] (fun _ => False) (iBool (sameL a b)) [] := sc_r8sameNodes_aux _ a b (Nat.lt_succ_self _)
section
variable {P : Program} {c : Cx} {R1 : Nat → Prop} {o : Oper} {fr : Fr} {hp : Hp}
theorem ok_boxOwn {t : TypeId} {x : Operand} {k : Nat} {cs : List IV} (ho : o.op = .box t x) (hx : fr.ev x = some (.agg cs)) (hσ : look hp k = none) (hc : c.σ k = none) (hfr : nmFr k fr = false) (hhp : nmHp k hp = false) (hcs : nm.nms k cs = false) :
    Ok P c o fr (look hp) (.ptr k 0) (look ((k, some (.box cs)) :: hp)) := by
  intro ρ w a K Q h hK
  obtain ⟨vs, u, hv, hl, hvu, hr⟩ := (h.ev hx).inv_agg
  have hrun : (execOp a.eval o).run P w = .ok (.value (.pointer (some ⟨w.heap.size, 0, none⟩))) (w.alloc (.cells vs t)) := by
    have hn : (newVar t (.agg vs)).run P w = .ok ⟨w.heap.size, 0, none⟩ (w.alloc (.cells vs t)) := rfl
    simp only [execOp, ho, hv, Instr.box, Sem.run_bind, hn, Result.andThen_ok]
    rfl
  unfold Oper.wp
  rw [hrun]
  refine hK (locUpd ρ k (some (w.heap.size, 1))) _ _ (h.alloc hσ hc hfr hhp 1 _ _ fun keep _ => ?_) (.ptr _ _ _ fun cs' _ => ⟨w.heap.size, 1, locUpd_same, rfl⟩)
  exact .box _ t vs u (heap_new w _) hl hvu fun j x hj => keep _ _ (hr j x hj) (nms_mem hcs (List.mem_of_getElem? hj))
theorem ok_neq_strint {t t2 : TypeId} {x y : Operand} {s s' : ByteArray} {n n' : Int} {f0 f1 : Field} {σ : Heap'} (ho : o.op = .binOp .neq t x y t2) (hx : fr.ev x = some (.pv (.agg [vStr s, vInt n]))) (hy : fr.ev y = some (.pv (.agg [vStr s', vInt n'])))
    (hu : P.underlying t = some (.struct #[f0, f1])) (h0 : P.underlying f0.type = some .string) (h1 : P.underlying f1.type = some (.int .i64)) (ho0 : f0.offset = 0) (ho1 : f1.offset = 1) (hn0 : f0.name ≠ "_") (hn1 : f1.name ≠ "_") (hs : P.stoodInHeld t = false) (hg : P.eqGuardType P.depth t = false) :
    OkV P c R1 o fr σ (.pv (vBool (!(s.toList == s'.toList && n == n')))) := by
  have inv : ∀ {F : Nat → Prop} {ρ : Loc} {w : World} {v : Value} {s : ByteArray} {n : Int}, RepI F ρ σ w (.pv (.agg [vStr s, vInt n])) v → v = .agg #[.string s, .int .i64 n] := by
    intro F ρ w v s n h
    cases h with
    | pv _ _ h =>
      cases h with
      | agg _ vs u hl hv hr =>
        have h0 := hv 0 _ rfl; have h1 := hv 1 _ rfl
        have r0 := hr 0 _ rfl; have r1 := hr 1 _ rfl
        cases hu0 : u 0 <;> rw [hu0] at r0 <;> cases r0
        cases hu1 : u 1 <;> rw [hu1] at r1 <;> cases r1
        rw [hu0] at h0; rw [hu1] at h1
        congr 1
        apply Array.ext_getElem?
        intro i
        match i with
        | 0 => simpa using h0
        | 1 => simpa using h1
        | i + 2 => rw [Array.getElem?_eq_none (by simp at hl; omega), Array.getElem?_eq_none (by simp)]
  intro ρ w a h
  have e1 := inv (h.ev hx)
  have e2 := inv (h.ev hy)
  have hfs : P.fieldsOf t = #[f0, f1] := by simp [Program.fieldsOf, hu]
  refine ⟨_, fun w2 _ => ?_, mkVal _⟩
  have hp0 : ∀ (s : ByteArray) (n : Int), (part f0.type #[.string s, .int .i64 n] f0.offset).run P w2 = .ok (.string s) w2 := fun s n => by simp [part, run_isAgg h0, TypeDesc.isRow, ho0, Sem.run_bind]
  have hp1 : ∀ (s : ByteArray) (n : Int), (part f1.type #[.string s, .int .i64 n] f1.offset).run P w2 = .ok (.int .i64 n) w2 := fun s n => by simp [part, run_isAgg h1, TypeDesc.isRow, ho1, Sem.run_bind]
  have heq : (Op.equalIn 10000 t (.agg #[.string s, .int .i64 n]) (.agg #[.string s', .int .i64 n'])).run P w2 = .ok (s.toList == s'.toList && n == n') w2 := by
    rw [run_equalIn_struct w2 9999 t _ _ (by rw [hfs]; exact hu) hs, hfs]
    have hi9 : (Op.equalIn 9999 f1.type (.int .i64 n) (.int .i64 n')).run P w2 = .ok (n == n') w2 := run_equalIn_int w2 9998 f1.type .i64 .i64 n n' h1
    have hs9 : (Op.equalIn 9999 f0.type (.string s) (.string s')).run P w2 = .ok (s.toList == s'.toList) w2 := run_equalIn_string w2 9998 f0.type s s' h0
    simp only [Op.eqFields, hn0, hn1, Sem.run_bind, hp0, hp1, Result.andThen_ok, ne_eq, not_false_eq_true, if_true, hs9]
    cases hb : (s.toList == s'.toList)
    ·simp
    simp only [Bool.not_true, Bool.false_eq_true, if_false, Sem.run_bind, hp1, Result.andThen_ok, hi9]
    cases hc : (n == n') <;> simp
  simp [execOp, ho, e1, e2, Sem.run_bind, run_eqGuard_agg w2 .neq t x y _ _ hg, run_neq_struct, heq]
def firm1 (hp : Hp) : IV → Prop
  | .pv (.agg _) => True
  | .pv p => p.one = true
  | .agg _ => True
  | .fn .. => True
  | .sl k len => ∃ s els, look hp k = some (.row s els) ∧ els.length = len
  | .ptr k _ => ∃ cs, look hp k = some (.box cs)
  | .mp k => ∃ es, look hp k = some (.map es)
  | _ => False
def firmHp (hp : Hp) : List (Nat × IV) → Prop
  | [] => True
  | (_, x) :: r => firm1 hp x ∧ firmHp hp r
theorem firmHp_ok : ∀ {xs : List (Nat × IV)}, firmHp hp xs → firmParts (look hp) xs
  | (i, x) :: r, h, p, hq, hn => by
    rcases List.mem_cons.1 hq with rfl | hq
    ·have h1 := h.1
     cases x with
     | pv q => cases q <;> first | exact h1 | (simp [IV.parts] at hn)
     | agg => simp [IV.parts] at hn
     | fn => trivial
     | tup => exact h1.elim
     | rpt => exact h1.elim
     | _ => exact h1
    exact firmHp_ok h.2 p hq hn
def keyB : Value → Value → Bool
  | .int _ a, .int _ b => a == b
  | .string a, .string b => a.toList == b.toList
  | _, _ => false
def isKeyB : TypeDesc → Value → Bool
  | .int k, .int k' _ => k' == k
  | .string, .string _ => true
  | _, _ => false
theorem isKeyB_key {d : TypeDesc} {v : Value} (h : isKeyB d v = true) : MapKept.IsKey d v := by
  cases d <;> cases v <;> simp_all [isKeyB, MapKept.IsKey]
theorem keyB_iff {d : TypeDesc} {a b : Value} (ha : isKeyB d a = true) (hb : isKeyB d b = true) : keyB a b = true ↔ a = b := by
  cases d <;> cases a <;> cases b <;> first
    | (simp_all [isKeyB, keyB]; done)
    | (simp only [keyB, beq_iff_eq, Value.string.injEq]
       exact ⟨fun h => MapKept.bytes_beq _ _ |>.1 (by rw [beq_toListBytes]; simpa using h), fun h => by rw [h]⟩)
def mfind (k : Value) : List (Value × PV) → Option PV
  | [] => none
  | (a, p) :: r => if keyB k a then some p else mfind k r
def mput (k : Value) (v : PV) : List (Value × PV) → List (Value × PV)
  | [] => [(k, v)]
  | (a, p) :: r => if keyB k a then (k, v) :: r else (a, p) :: mput k v r
theorem find_map {d : TypeDesc} {k : Value} (hk : isKeyB d k = true) : ∀ (es : List (Value × PV)) (l : List MapEntry) (i : Nat), l.length = es.length → (∀ e ∈ es, isKeyB d e.1 = true) → (∀ (j : Nat) (a : Value) (p : PV), es[j]? = some (a, p) → ∃ m : MapEntry, l[j]? = some m ∧ m.key = a) →
    (Instr.findNow d k l i = some none ∧ mfind k es = none ∧ ∀ v, mput k v es = es ++ [(k, v)]) ∨ ∃ j m p, Instr.findNow d k l i = some (some (i + j, m.val)) ∧ l[j]? = some m ∧ m.key = k ∧ es[j]? = some (k, p) ∧ mfind k es = some p ∧ ∀ v, mput k v es = es.set j (k, v)
  | [], [], _, _, _, _ => .inl ⟨rfl, rfl, fun _ => rfl⟩
  | (a, p) :: es, m :: l, i, hl, he, h => by
    have h0 : m.key = a := by obtain ⟨m', hm', e⟩ := h 0 a p rfl; cases hm'; exact e
    have ha := he (a, p) (.head _)
    obtain ⟨r, hr, hiff⟩ := MapKept.sameNow_of_keys (isKeyB_key hk) (isKeyB_key ha)
    rw [← h0] at hr
    cases r with
    | true =>
      have hka : k = a := hiff.1 rfl
      have hb : keyB k a = true := (keyB_iff hk ha).2 hka
      exact .inr ⟨0, m, p, by simp [Instr.findNow, hr], rfl, h0.trans hka.symm, by simp [hka], by simp [mfind, hb], fun v => by simp [mput, hb]⟩
    | false =>
      have hb : keyB k a = false := by
        cases hb : keyB k a with
        | false => rfl
        | true => have := hiff.2 ((keyB_iff hk ha).1 hb); cases this
      rcases find_map hk es l (i + 1) (by simpa using hl) (fun e h' => he e (.tail _ h')) (fun j a p hj => by simpa using h (j + 1) a p (by simpa using hj)) with ⟨h1, h2, h3⟩ | ⟨j, m', p', h1, h2, h3, h4, h5, h6⟩
      ·exact .inl ⟨by simp [Instr.findNow, hr, h1], by simp [mfind, hb, h2], fun v => by simp [mput, hb, h3]⟩
      exact .inr ⟨j + 1, m', p', by simp [Instr.findNow, hr, h1]; omega, by simpa using h2, h3, by simpa using h4, by simp [mfind, hb, h5], fun v => by simp [mput, hb, h6]⟩
theorem RepO.inv_map {F : Nat → Prop} {ρ : Loc} {σ : Heap'} {w : World} {b cc : Nat} {es : List (Value × PV)} (h : RepO F ρ σ w b cc (.map es)) :
    ∃ (a : Array MapEntry) (t : Nat) (u : Nat → Value), w.heap[b]? = some (.map a t) ∧ a.size = es.length ∧ (∀ i k p, es[i]? = some (k, p) → ∃ m : MapEntry, a[i]? = some m ∧ m.key = k ∧ m.val = u i) ∧ ∀ i k p, es[i]? = some (k, p) → RepP (owned F ρ) w p (u i) := by
  cases h with
  | map _ a t u h hl hv hr => exact ⟨a, t, u, h, hl, hv, hr⟩
theorem All.mapAt {ρ : Loc} {w : World} {a : Act} (h : All c ρ (look hp) w fr a) {x : Operand} {k : Nat} {es : List (Value × PV)} (hx : fr.ev x = some (.mp k)) (hk : look hp k = some (.map es)) :
    ∃ (b cc : Nat) (r : Array MapEntry) (t : Nat) (u : Nat → Value), a.eval x = .map (some b) ∧ ρ k = some (b, cc) ∧ w.heap[b]? = some (.map r t) ∧ r.size = es.length ∧ (∀ i k p, es[i]? = some (k, p) → ∃ m : MapEntry, r[i]? = some m ∧ m.key = k ∧ m.val = u i) ∧ ∀ i k p, es[i]? = some (k, p) → RepP (owned c.F ρ) w p (u i) := by
  have hr := h.ev hx
  generalize hv : a.eval x = v at hr
  cases hr with
  | mp _ _ hh =>
    obtain ⟨b, cc, hρ, rfl⟩ := hh es hk
    obtain ⟨o1, h1, h2⟩ := h.rel.obj k b cc hρ
    rw [hk] at h1; cases h1
    obtain ⟨r, t, u, h3, h4, h5, h6⟩ := h2.inv_map
    exact ⟨b, cc, r, t, u, rfl, hρ, h3, h4, h5, h6⟩
theorem ok_makeMap {t : TypeId} {k : Nat} (ho : o.op = .makeMap t none) (hσ : look hp k = none) (hc : c.σ k = none) (hfr : nmFr k fr = false) (hhp : nmHp k hp = false) :
    Ok P c o fr (look hp) (.mp k) (look ((k, some (.map [])) :: hp)) := by
  intro ρ w a K Q h hK
  have hrun : (execOp a.eval o).run P w = .ok (.value (.map (some w.heap.size))) (w.alloc (.map #[] 0)) := by
    have hn : (newObj (.map #[] 0)).run P w = .ok w.heap.size (w.alloc (.map #[] 0)) := rfl
    simp [execOp, ho, Instr.makeMap, Sem.run_bind, hn]
  unfold Oper.wp
  rw [hrun]
  refine hK (locUpd ρ k (some (w.heap.size, 1))) _ _ (h.alloc hσ hc hfr hhp 1 _ _ fun keep _ => ?_) (.mp _ _ fun es' _ => ⟨w.heap.size, 1, locUpd_same, rfl⟩)
  exact .map [] #[] 0 (fun _ => undef) (heap_new w _) rfl (fun i k p hi => by simp at hi) fun i k p hi => by simp at hi
theorem ok_mapUpdate {t kt et : TypeId} {d : TypeDesc} {x y z : Operand} {k : Nat} {es : List (Value × PV)} {kv : Value} {p : PV} (ho : o.op = .mapUpdate t x y z) (hx : fr.ev x = some (.mp k)) (hy : fr.ev y = some (.pv (.val kv))) (hz : fr.ev z = some (.pv p)) (hk : look hp k = some (.map es))
    (hR : ¬ c.R k) (hu : P.underlying t = some (.map kt et)) (hd : P.underlying kt = some d) (hkv : isKeyB d kv = true) (hes : ∀ e ∈ es, isKeyB d e.1 = true) : Ok P c o fr (look hp) (.pv (.val undef)) (look ((k, some (.map (mput kv p es))) :: hp)) := by
  refine ok_skip fun ρ w a h => ?_
  obtain ⟨b, cc, r, ck, u, hv, hρ, h3, h4, h5, h6⟩ := h.mapAt hx hk
  have hzr : RepP (owned c.F ρ) w p (a.eval z) := by
    have := h.ev hz
    generalize a.eval z = vz at this
    cases this with
    | pv _ _ hp => exact hp
  have hkey := MapKept.run_checkKey (w := w) hd (isKeyB_key hkv) false 9999
  have hset : ∀ o', (setObj b o').run P w = .ok () { w with heap := w.heap.setIfInBounds b o' } := fun o' => MapKept.run_setObj_map o' h3
  have hb : b < w.heap.size := (Array.getElem?_eq_some_iff.1 h3).1
  have hsame : ∀ v : Value, isKeyB d v = true → Instr.sameBits 10000 v v = true := by
    intro v hv
    cases d <;> cases v <;> simp_all [isKeyB, Instr.sameBits, MapKept.bytes_beq]
  rcases find_map hkv es r.toList 0 (by simpa using h4) hes (fun j a p hj => by obtain ⟨m, hm, e, _⟩ := h5 j a p hj; exact ⟨m, by simpa using hm, e⟩) with ⟨h1, h2, h7⟩ | ⟨j, m, q, h1, h2, h3', h4', h5', h7⟩
  ·have hfind := MapKept.run_findKey (P := P) (w := w) (kt := kt) hd h1
   refine ⟨ρ, { w with heap := w.heap.setIfInBounds b (.map (r.push ⟨kv, a.eval z, ck⟩) (ck + 1)) }, by simp [execOp, ho, hv, ev_val h hy, Instr.mapUpdate, Sem.run_bind, run_underlying hu, MapKept.run_getObj_map h3, hkey, hfind, hset], ?_⟩
   refine h.write hρ hk trivial hR rfl rfl rfl (by simp) (fun j hj => by simp [Ne.symm hj]) fun keep keepP => ?_
   refine .map _ (r.push ⟨kv, a.eval z, ck⟩) (ck + 1) (fun i => if i = es.length then a.eval z else u i) (by simp [hb]) (by simp [h7, h4]) (fun i k' p' hi => ?_) fun i k' p' hi => ?_
   ·rw [h7] at hi
    by_cases e : i = es.length
    ·subst e
     simp only [List.getElem?_concat_length, Option.some.injEq, Prod.mk.injEq] at hi
     obtain ⟨rfl, rfl⟩ := hi
     exact ⟨⟨kv, a.eval z, ck⟩, by rw [← h4]; simp, rfl, by simp⟩
    have hlt : i < es.length := by
      have := (List.getElem?_eq_some_iff.1 hi).1
      simp at this; omega
    rw [List.getElem?_append_left hlt] at hi
    obtain ⟨m, hm, e1, e2⟩ := h5 i k' p' hi
    refine ⟨m, ?_, e1, by simp [e, e2]⟩
    rw [Array.getElem?_push, if_neg (by omega)]
    exact hm
   rw [h7] at hi
   by_cases e : i = es.length
   ·subst e
    simp only [List.getElem?_concat_length, Option.some.injEq, Prod.mk.injEq] at hi
    obtain ⟨rfl, rfl⟩ := hi
    simpa using keepP _ _ hzr
   have hlt : i < es.length := by
     have := (List.getElem?_eq_some_iff.1 hi).1
     simp at this; omega
   rw [List.getElem?_append_left hlt] at hi
   simpa [e] using keepP _ _ (h6 i k' p' hi)
  have hfind := MapKept.run_findKey (P := P) (w := w) (kt := kt) hd h1
  have hj : r[0 + j]? = some m := by simpa using h2
  have hstay : (Instr.keyThatStays kv kv).run P w = .ok kv w := by simp [Instr.keyThatStays, hsame kv hkv]
  refine ⟨ρ, { w with heap := w.heap.setIfInBounds b (.map (r.modify (0 + j) fun e => { e with key := kv, val := a.eval z }) ck) }, ?_, ?_⟩
  ·simp only [execOp, ho, hv, ev_val h hy, Instr.mapUpdate, Sem.run_bind, run_underlying hu, MapKept.run_getObj_map h3, hkey, hfind, Result.andThen_ok, hj, Option.map_some, Option.getD_some, h3', hstay, hset]
   rfl
  refine h.write hρ hk trivial hR rfl rfl rfl (by simp) (fun j hj => by simp [Ne.symm hj]) fun keep keepP => ?_
  have hjl : j < es.length := (List.getElem?_eq_some_iff.1 h4').1
  refine .map _ (r.modify (0 + j) fun e => { e with key := kv, val := a.eval z }) ck (fun i => if i = j then a.eval z else u i) (by simp [hb]) (by simp [h7, h4]) (fun i k' p' hi => ?_) fun i k' p' hi => ?_
  ·rw [h7] at hi
   by_cases e : i = j
   ·subst e
    rw [List.getElem?_set_self hjl] at hi
    cases hi
    refine ⟨{ m with key := kv, val := a.eval z }, ?_, rfl, by simp⟩
    simp only [Nat.zero_add, Array.getElem?_modify, if_true] at hj ⊢
    rw [hj]; rfl
   rw [List.getElem?_set_ne (Ne.symm e)] at hi
   obtain ⟨m', hm', e1, e2⟩ := h5 i k' p' hi
   refine ⟨m', ?_, e1, by simp [e, e2]⟩
   simp only [Nat.zero_add, Array.getElem?_modify, if_neg (Ne.symm e)]
   exact hm'
  rw [h7] at hi
  by_cases e : i = j
  ·subst e
   rw [List.getElem?_set_self hjl] at hi
   cases hi
   simpa using keepP _ _ hzr
  rw [List.getElem?_set_ne (Ne.symm e)] at hi
  simpa [e] using keepP _ _ (h6 i k' p' hi)
theorem ok_insert {t kt et : TypeId} {d : TypeDesc} {x y z : Operand} {k : Nat} {es : List (Value × PV)} {kv : Value} {p : PV} (ho : o.op = .insert t x y z) (hx : fr.ev x = some (.mp k)) (hy : fr.ev y = some (.pv (.val kv))) (hz : fr.ev z = some (.pv p)) (hk : look hp k = some (.map es))
    (hR : ¬ c.R k) (hu : P.underlying t = some (.map kt et)) (hd : P.underlying kt = some d) (hkv : isKeyB d kv = true) (hes : ∀ e ∈ es, isKeyB d e.1 = true) : Ok P c o fr (look hp) (.pv (.val undef)) (look ((k, some (.map (mput kv p es))) :: hp)) := by
  refine ok_skip fun ρ w a h => ?_
  obtain ⟨b, cc, r, ck, u, hv, hρ, h3, h4, h5, h6⟩ := h.mapAt hx hk
  have hzr : RepP (owned c.F ρ) w p (a.eval z) := by
    have := h.ev hz
    generalize a.eval z = vz at this
    cases this with
    | pv _ _ hp => exact hp
  have hkey := MapKept.run_checkKey (w := w) hd (isKeyB_key hkv) false 9999
  have hset : ∀ o', (setObj b o').run P w = .ok () { w with heap := w.heap.setIfInBounds b o' } := fun o' => MapKept.run_setObj_map o' h3
  have hb : b < w.heap.size := (Array.getElem?_eq_some_iff.1 h3).1
  have hsame : ∀ v : Value, isKeyB d v = true → Instr.sameBits 10000 v v = true := by
    intro v hv
    cases d <;> cases v <;> simp_all [isKeyB, Instr.sameBits, MapKept.bytes_beq]
  rcases find_map hkv es r.toList 0 (by simpa using h4) hes (fun j a p hj => by obtain ⟨m, hm, e, _⟩ := h5 j a p hj; exact ⟨m, by simpa using hm, e⟩) with ⟨h1, h2, h7⟩ | ⟨j, m, q, h1, h2, h3', h4', h5', h7⟩
  ·have hfind := MapKept.run_findKey (P := P) (w := w) (kt := kt) hd h1
   refine ⟨ρ, { w with heap := w.heap.setIfInBounds b (.map (r.push ⟨kv, a.eval z, ck⟩) (ck + 1)) }, by simp [execOp, ho, hv, ev_val h hy, Instr.mapUpdate, Sem.run_bind, run_underlying hu, MapKept.run_getObj_map h3, hkey, hfind, hset], ?_⟩
   refine h.write hρ hk trivial hR rfl rfl rfl (by simp) (fun j hj => by simp [Ne.symm hj]) fun keep keepP => ?_
   refine .map _ (r.push ⟨kv, a.eval z, ck⟩) (ck + 1) (fun i => if i = es.length then a.eval z else u i) (by simp [hb]) (by simp [h7, h4]) (fun i k' p' hi => ?_) fun i k' p' hi => ?_
   ·rw [h7] at hi
    by_cases e : i = es.length
    ·subst e
     simp only [List.getElem?_concat_length, Option.some.injEq, Prod.mk.injEq] at hi
     obtain ⟨rfl, rfl⟩ := hi
     exact ⟨⟨kv, a.eval z, ck⟩, by rw [← h4]; simp, rfl, by simp⟩
    have hlt : i < es.length := by
      have := (List.getElem?_eq_some_iff.1 hi).1
      simp at this; omega
    rw [List.getElem?_append_left hlt] at hi
    obtain ⟨m, hm, e1, e2⟩ := h5 i k' p' hi
    refine ⟨m, ?_, e1, by simp [e, e2]⟩
    rw [Array.getElem?_push, if_neg (by omega)]
    exact hm
   rw [h7] at hi
   by_cases e : i = es.length
   ·subst e
    simp only [List.getElem?_concat_length, Option.some.injEq, Prod.mk.injEq] at hi
    obtain ⟨rfl, rfl⟩ := hi
    simpa using keepP _ _ hzr
   have hlt : i < es.length := by
     have := (List.getElem?_eq_some_iff.1 hi).1
     simp at this; omega
   rw [List.getElem?_append_left hlt] at hi
   simpa [e] using keepP _ _ (h6 i k' p' hi)
  have hfind := MapKept.run_findKey (P := P) (w := w) (kt := kt) hd h1
  have hj : r[0 + j]? = some m := by simpa using h2
  have hstay : (Instr.keyThatStays kv kv).run P w = .ok kv w := by simp [Instr.keyThatStays, hsame kv hkv]
  refine ⟨ρ, { w with heap := w.heap.setIfInBounds b (.map (r.modify (0 + j) fun e => { e with key := kv, val := a.eval z }) ck) }, ?_, ?_⟩
  ·simp only [execOp, ho, hv, ev_val h hy, Instr.mapUpdate, Sem.run_bind, run_underlying hu, MapKept.run_getObj_map h3, hkey, hfind, Result.andThen_ok, hj, Option.map_some, Option.getD_some, h3', hstay, hset]
   rfl
  refine h.write hρ hk trivial hR rfl rfl rfl (by simp) (fun j hj => by simp [Ne.symm hj]) fun keep keepP => ?_
  have hjl : j < es.length := (List.getElem?_eq_some_iff.1 h4').1
  refine .map _ (r.modify (0 + j) fun e => { e with key := kv, val := a.eval z }) ck (fun i => if i = j then a.eval z else u i) (by simp [hb]) (by simp [h7, h4]) (fun i k' p' hi => ?_) fun i k' p' hi => ?_
  ·rw [h7] at hi
   by_cases e : i = j
   ·subst e
    rw [List.getElem?_set_self hjl] at hi
    cases hi
    refine ⟨{ m with key := kv, val := a.eval z }, ?_, rfl, by simp⟩
    simp only [Nat.zero_add, Array.getElem?_modify, if_true] at hj ⊢
    rw [hj]; rfl
   rw [List.getElem?_set_ne (Ne.symm e)] at hi
   obtain ⟨m', hm', e1, e2⟩ := h5 i k' p' hi
   refine ⟨m', ?_, e1, by simp [e, e2]⟩
   simp only [Nat.zero_add, Array.getElem?_modify, if_neg (Ne.symm e)]
   exact hm'
  rw [h7] at hi
  by_cases e : i = j
  ·subst e
   rw [List.getElem?_set_self hjl] at hi
   cases hi
   simpa using keepP _ _ hzr
  rw [List.getElem?_set_ne (Ne.symm e)] at hi
  simpa [e] using keepP _ _ (h6 i k' p' hi)
theorem run_lookup {t kt et : TypeId} {d : TypeDesc} {b ck : Nat} {r : Array MapEntry} {kv z : Value} {es : List (Value × PV)} (commaOk : Bool) (hl : r.size = es.length) (h5 : ∀ (j : Nat) (a : Value) (p : PV), es[j]? = some (a, p) → ∃ m : MapEntry, r[j]? = some m ∧ m.key = a)
    (hu : P.underlying t = some (.map kt et)) (hd : P.underlying kt = some d) (hkv : isKeyB d kv = true) (hes : ∀ e ∈ es, isKeyB d e.1 = true) (hzv : ((P.info? et).bind (·.zero)) = some z) :
    (mfind kv es = none ∧ ∀ w : World, w.heap[b]? = some (.map r ck) → (Instr.lookup t (.map (some b)) kv commaOk).run P w = .ok (if commaOk then .tuple #[z, .bool false] else z) w) ∨
    ∃ (j : Nat) (m : MapEntry) (p : PV), r[j]? = some m ∧ es[j]? = some (kv, p) ∧ mfind kv es = some p ∧ ∀ w : World, w.heap[b]? = some (.map r ck) → (Instr.lookup t (.map (some b)) kv commaOk).run P w = .ok (if commaOk then .tuple #[m.val, .bool true] else m.val) w := by
  have hz : ∀ w, (zeroValue et).run P w = .ok z w := by
    intro w
    cases hq : P.info? et with
    | none => simp [hq] at hzv
    | some i => simp [hq] at hzv; simp [zeroValue, typeInfo, hq, hzv]
  rcases find_map hkv es r.toList 0 (by simpa using hl) hes (fun j a p hj => by obtain ⟨m, hm, e⟩ := h5 j a p hj; exact ⟨m, by simpa using hm, e⟩) with ⟨h1, h2, h7⟩ | ⟨j, m, q, h1, h2, h3', h4', h5', h7⟩
  ·refine .inl ⟨h2, fun w hb => ?_⟩
   have hkey := MapKept.run_checkKey (w := w) hd (isKeyB_key hkv) r.isEmpty 9999
   have hfind := MapKept.run_findKey (P := P) (w := w) (kt := kt) hd h1
   simp only [Instr.lookup, Sem.run_bind, run_underlying hu, MapKept.run_getObj_map hb, Sem.run_pure, hkey, hfind, hz, Result.andThen_ok]
  refine .inr ⟨j, m, q, by simpa using h2, h4', h5', fun w hb => ?_⟩
  have hkey := MapKept.run_checkKey (w := w) hd (isKeyB_key hkv) r.isEmpty 9999
  have hfind := MapKept.run_findKey (P := P) (w := w) (kt := kt) hd h1
  simp only [Instr.lookup, Sem.run_bind, run_underlying hu, MapKept.run_getObj_map hb, Sem.run_pure, hkey, hfind, hz, Result.andThen_ok]
theorem ok_lookup {t kt et : TypeId} {d : TypeDesc} {x y : Operand} {k : Nat} {es : List (Value × PV)} {kv z : Value} (ho : o.op = .lookup t x y false) (hx : fr.ev x = some (.mp k)) (hy : fr.ev y = some (.pv (.val kv))) (hk : look hp k = some (.map es))
    (hu : P.underlying t = some (.map kt et)) (hd : P.underlying kt = some d) (hkv : isKeyB d kv = true) (hes : ∀ e ∈ es, isKeyB d e.1 = true) (hzv : ((P.info? et).bind (·.zero)) = some z) (hR : R1 k) : OkV P c R1 o fr (look hp) (.pv ((mfind kv es).getD (.val z))) := by
  intro ρ w a h
  obtain ⟨b, cc, r, ck, u, hv, hρ, h3, h4, h5, h6⟩ := h.mapAt hx hk
  have h3' : ∀ w2, SameFor c.F R1 ρ w w2 → w2.heap[b]? = some (.map r ck) := fun w2 h2 => (h2 b (h.rel.lt hρ) (.inr ⟨k, cc, hR, hρ⟩)).trans h3
  rcases run_lookup (b := b) (ck := ck) false h4 (fun j a p hj => by obtain ⟨m, h1, h2, _⟩ := h5 j a p hj; exact ⟨m, h1, h2⟩) hu hd hkv hes hzv with ⟨h1, h2⟩ | ⟨j, m, p, h1, h2, h7, h8⟩
  ·refine ⟨z, fun w2 hw2 => ?_, by rw [h1]; exact mkVal _⟩
   simp [execOp, ho, hv, ev_val h hy, Sem.run_bind, h2 w2 (h3' w2 hw2)]
  obtain ⟨m', hm', _, e2⟩ := h5 j kv p h2
  rw [h1] at hm'; cases hm'
  refine ⟨m.val, fun w2 hw2 => by simp [execOp, ho, hv, ev_val h hy, Sem.run_bind, h8 w2 (h3' w2 hw2)], ?_⟩
  rw [h7, e2]
  exact .pv _ _ (h6 j kv p h2)
theorem ok_lookup2 {t kt et : TypeId} {d : TypeDesc} {x y : Operand} {k : Nat} {es : List (Value × PV)} {kv z : Value} (ho : o.op = .lookup t x y true) (hx : fr.ev x = some (.mp k)) (hy : fr.ev y = some (.pv (.val kv))) (hk : look hp k = some (.map es))
    (hu : P.underlying t = some (.map kt et)) (hd : P.underlying kt = some d) (hkv : isKeyB d kv = true) (hes : ∀ e ∈ es, isKeyB d e.1 = true) (hzv : ((P.info? et).bind (·.zero)) = some z) (hR : R1 k) : OkV P c R1 o fr (look hp) (.tup [.pv ((mfind kv es).getD (.val z)), iBool (mfind kv es).isSome]) := by
  intro ρ w a h
  obtain ⟨b, cc, r, ck, u, hv, hρ, h3, h4, h5, h6⟩ := h.mapAt hx hk
  have h3' : ∀ w2, SameFor c.F R1 ρ w w2 → w2.heap[b]? = some (.map r ck) := fun w2 h2 => (h2 b (h.rel.lt hρ) (.inr ⟨k, cc, hR, hρ⟩)).trans h3
  have two : ∀ {p : PV} {v : Value} {g : Bool}, RepP (owned c.F ρ) w p v → RepI c.F ρ (look hp) w (.tup [.pv p, iBool g]) (.tuple #[v, .bool g]) := fun {p v g} hp => .tup _ _ (fun j => if j = 0 then v else .bool g) rfl (fun j x hj => by
      match j, hj with
      | 0, hj => rfl
      | 1, hj => rfl
      | j + 2, hj => simp at hj) fun j x hj => by
      match j, hj with
      | 0, hj => cases hj; exact .pv _ _ hp
      | 1, hj => cases hj; exact mkVal _
      | j + 2, hj => simp at hj
  rcases run_lookup (b := b) (ck := ck) true h4 (fun j a p hj => by obtain ⟨m, h1, h2, _⟩ := h5 j a p hj; exact ⟨m, h1, h2⟩) hu hd hkv hes hzv with ⟨h1, h2⟩ | ⟨j, m, p, h1, h2, h7, h8⟩
  ·refine ⟨.tuple #[z, .bool false], fun w2 hw2 => ?_, by rw [h1]; exact two (.val _)⟩
   simp [execOp, ho, hv, ev_val h hy, Sem.run_bind, h2 w2 (h3' w2 hw2)]
  obtain ⟨m', hm', _, e2⟩ := h5 j kv p h2
  rw [h1] at hm'; cases hm'
  refine ⟨.tuple #[m.val, .bool true], fun w2 hw2 => by simp [execOp, ho, hv, ev_val h hy, Sem.run_bind, h8 w2 (h3' w2 hw2)], ?_⟩
  rw [h7, e2]
  exact two (h6 j kv p h2)
theorem ok_len_map {t kt et : TypeId} {x : Operand} {k : Nat} {es : List (Value × PV)} (ho : o.op = .call { callee := .builtin .len, args := #[x], argTypes := #[t] }) (hx : fr.ev x = some (.mp k)) (hk : look hp k = some (.map es)) (hu : P.underlying t = some (.map kt et)) (hR : R1 k) :
    OkV P c R1 o fr (look hp) (.pv (vInt es.length)) := by
  intro ρ w a h
  obtain ⟨b, cc, r, ck, u, hv, hρ, h3, h4, h5, h6⟩ := h.mapAt hx hk
  refine ⟨_, fun w2 h2 => ?_, mkVal _⟩
  have h3' := (h2 b (h.rel.lt hρ) (.inr ⟨k, cc, hR, hρ⟩)).trans h3
  simp [execOp, ho, hv, resolve, Sem.run_bind, invoke, builtin, Builtin.len_, run_underlying hu, goInt, MapKept.run_getObj_map h3', h4]
end
end Go.Proofs.YtiflpehjefhnmaaGreat
