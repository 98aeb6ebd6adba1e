/- PART 2 of 5 of a proof: see the last part. -/
import Derived.Test.YthbcibeddfacbaaGreatSa1
set_option maxRecDepth 8000
set_option maxHeartbeats 2000000
set_option linter.unusedSimpArgs false
set_option linter.unusedVariables false
set_option linter.unusedSectionVars false
namespace Go.Proofs.YthbcibeddfacbaaGreat
open Go
theorem zc8 (N : Nat) : ∀ (l : List Nd), SizeOf.sizeOf l < N -> SC Tryz.prog 77 [.pv (z07 l)] [] (fun _ => False) (iBool (z11 l)) [] := by
  induction N with
  | zero => intro l hN; exact absurd hN (Nat.not_lt_zero _)
  | succ N ih =>
    intro l hN
    refine SC.of Tryz.func77 rfl (lb rfl) fun F ρ w => ?_
    refine Tr.lenOf (t := 0) rfl (fun hl => ?_)
    simp only [List.length_map] at hl
    refine tQ <| tG <| sm 1 rfl <| nL <| tQ <| tQ <| tG <| sm 1 rfl <| nL <| tBk <| Tr.sub (Sub.of (fr' := [(3, iInt 0), (0, .pv (z07 l))]) ⟨rfl, rfl, trivial⟩) ?_
    refine Tr.loop (fun fr σ m => ∃ (k : Nat), (k <= l.length) /\ (z11 l = z11 (l.drop k)) /\ fr = [(3, iInt k), (0, .pv (z07 l))] /\ σ = look [] /\ m = l.length - k) (n := l.length - 0) ?_ ?_
    ·exact ⟨0, Nat.zero_le _, rfl, rfl, rfl, rfl⟩
    rintro fr σ m ⟨k, hI0, hI1, rfl, rfl, rfl⟩
    refine tQ <| tQ <| tG <| sm 2 rfl <| cV rfl (oSm uT44 rfl) <| sm 1 rfl <| nL ?_
    refine tC rfl (fun hc8 => ?_) fun hc8 => ?_
    ·have hlt : k < l.length := by simpa using hc8
     have hd := List.drop_eq_getElem_cons hlt
     have hm := List.getElem_mem hlt
     have hi := z20 (List.getElem?_eq_getElem hlt)
     generalize l[k] = x at hd hm hi
     refine tSk <| tQ <| tBk <| tQ <| tQ <| tG <| sm 2 rfl <| cV rfl (iSq rfl rfl rfl uT44 (by assumption) tS43 rfl (by rfl)) <| sm 3 rfl <| nL ?_
     refine tC rfl (fun hc16 => ?_) fun hc16 => ?_
     ·refine tQ <| tG <| sm 1 rfl <| nL <| tRt <| rOk rfl ?_ nPo
      rw [hI1, hd]
      simp_all [z11, z3v]
     refine tSk <| tQ <| tG <| sm 1 rfl <| nL <| tBk ?_
     have hstart : z11 l = ((x.kind == 10 && z21 (x.kids.drop 0)) || z11 (l.drop (k + 1))) := by
       rw [hI1, hd]
       have h14 : (x.kind == 14) = false := by simpa using hc16
       simp [z11, z3v, h14]
     refine Tr.sub (Sub.of (fr' := [(4, iInt 0), (3, iInt k), (0, .pv (z07 l))]) ⟨rfl, rfl, rfl, trivial⟩) ?_
     refine Tr.loop (fun fr σ m => ∃ (i : Nat), (i <= x.kids.length) /\ (z11 l = ((x.kind == 10 && z21 (x.kids.drop i)) || z11 (l.drop (k + 1)))) /\ fr = [(4, iInt i), (3, iInt k), (0, .pv (z07 l))] /\ σ = look [] /\ m = x.kids.length - i) (n := x.kids.length - 0) ?_ ?_
     ·exact ⟨0, Nat.zero_le _, hstart, rfl, rfl, rfl⟩
     rintro fr σ m ⟨i, hJ0, hJ1, rfl, rfl, rfl⟩
     refine tQ <| tQ <| tG <| sm 3 rfl <| cV rfl (iSq rfl rfl rfl uT44 (by assumption) tS43 rfl (by rfl)) <| sm 2 rfl ?_
     refine WL.lenOf (t := 22) rfl (fun hl2 => ?_)
     simp only [List.length_map] at hl2
     refine cV rfl (oSm uT41 rfl) <| sm 2 rfl ?_
     refine wS 25 rfl (fun hb25 => ?_) fun hb25 => ?_
     ·refine sm 2 rfl <| yV rfl rfl (iSq rfl rfl rfl uT44 (by assumption) tS43 rfl (by rfl)) <| sm 4 rfl <| nL ?_
      refine tC rfl (fun hc32 => ?_) fun hc32 => ?_
      ·have hlt2 : i < x.kids.length := by simpa using hb25
       have hd2 := List.drop_eq_getElem_cons hlt2
       have hm2 := List.getElem_mem hlt2
       have hi2 := z0c (f := eKid) (List.getElem?_eq_getElem hlt2)
       generalize x.kids[i] = q at hd2 hm2 hi2
       have hdec : SizeOf.sizeOf q < N := Nat.lt_of_lt_of_le (z62 hm rfl hm2) (Nat.le_of_lt_succ hN)
       refine tSk <| tQ <| tBk <| tQ <| tG <| sm 2 rfl <| cV rfl (iSq rfl rfl rfl uT44 (by assumption) tS43 rfl (by rfl)) <| sm 3 rfl <| cV rfl (iSq rfl rfl rfl uT41 (by assumption) tS44 rfl (by rfl)) <| sm 1 rfl <| cE rfl (ocq (ih _ hdec) ent77 rfl rfl) <| nL ?_
       refine tC rfl (fun hc43 => ?_) fun hc43 => ?_
       ·refine tQ <| tG <| sm 1 rfl <| nL <| tRt <| rOk rfl ?_ nPo
        rw [hJ1, hd2]
        simp at hc32
        simp [z21, hc32, hc43]
       refine tSk <| tG <| sm 1 rfl <| cV rfl (oB rfl rfl (z05 rfl oM0)) <| sm 1 rfl <| nL ?_
       refine ⟨_, _, ?_, Sub.of (fr' := [(4, iInt (i + 1)), (3, iInt k), (0, .pv (z07 l))]) ⟨rfl, rfl, rfl, trivial⟩, (i + 1), ?_, ?_, rfl, rfl, rfl⟩
       ·omega
       ·omega
       rw [hJ1, hd2]
       simp [z21, hc43]
      refine tEx <| tG <| sm 1 rfl <| cV rfl (oB rfl rfl (z05 rfl oM0)) <| sm 1 rfl <| nL ?_
      refine ⟨_, _, ?_, Sub.of (fr' := [(3, iInt (k + 1)), (0, .pv (z07 l))]) ⟨rfl, rfl, trivial⟩, (k + 1), ?_, ?_, rfl, rfl, rfl⟩
      ·omega
      ·omega
      first
      | (have h10 : (x.kind == 10) = false := by simpa using hc32
         rw [hJ1, h10]; simp)
      | (rw [hJ1, List.drop_eq_nil_of_le (by simpa using hb25)]; simp [z21])
     refine sm 7 rfl <| nL <| Tr.condF rfl <| tEx <| tG <| sm 1 rfl <| cV rfl (oB rfl rfl (z05 rfl oM0)) <| sm 1 rfl <| nL ?_
     refine ⟨_, _, ?_, Sub.of (fr' := [(3, iInt (k + 1)), (0, .pv (z07 l))]) ⟨rfl, rfl, trivial⟩, (k + 1), ?_, ?_, rfl, rfl, rfl⟩
     ·omega
     ·omega
     first
     | (have h10 : (x.kind == 10) = false := by simpa using hc32
        rw [hJ1, h10]; simp)
     | (rw [hJ1, List.drop_eq_nil_of_le (by simpa using hb25)]; simp [z21])
    refine tEx <| tQ <| tG <| sm 1 rfl <| nL <| tRt <| rOk rfl ?_ nPo
    have hge : l.length <= k := by simpa using hc8
    rw [hI1, List.drop_eq_nil_of_le hge]
    rfl
theorem zc7 (l : List Nd) : SC Tryz.prog 77 [.pv (z07 l)] [] (fun _ => False) (iBool (z11 l)) [] := zc8 _ l (Nat.lt_succ_self _)
def r8op (x : Nd) : Bool := x.kind == 3 || x.kind == 4
def z1j (x : Nd) : Bool := x.kind == 1 || x.kind == 2
def z0w (x : Nd) : Bool := x.kind == 5 || x.kind == 6 || x.kind == 7
def r8kn (x : Nd) : Int := if x.kind == 11 then 1 else if x.kind == 10 then 2 else 0
def z0m (x : Nd) : Bool := (r8op x || x.op == 0) && (z1j x || x.n == 0) && (z0w x || x.name.toList == []) && (x.kids.length : Int) == r8kn x && (x.kind == 11 || (x.params.length : Int) == 0)
def z9d (b : Bool) : List PV := [vBool b]
def z55 (tys seen : List Int) (v w : Int) : Bool := !(decide (v < 0) || decide (v ≥ tys.length) || !seen.contains v || (w != 0 && (tys.getD v.toNat 0 != w)))
def z17 (tys seen : List Int) : List Int -> List Int -> Bool
  | v :: r, w :: ws => z55 tys seen v w && z17 tys seen r ws
  | _, _ => true
def z0h (tys seen l want : List Int) : Bool := (l.length : Int) == want.length && z17 tys seen l want
def z66 (tys : List Int) (set : List Bool) (v w : Int) : Bool := decide (v < 0) || decide (v ≥ tys.length) || set.getD v.toNat false || (w != 0 && (tys.getD v.toNat 0 != w))
def z1e (tys : List Int) : List Bool -> List Int -> List Int -> Bool × List Bool
  | set, v :: r, w :: ws => if z66 tys set v w then (false, set) else z1e tys (set.set v.toNat true) r ws
  | set, _, _ => (true, set)
def z0j (tys : List Int) (set : List Bool) (l want : List Int) : Bool × List Bool :=
  if (l.length : Int) == want.length then z1e tys set l want else (false, set)
theorem z6g (tys : List Int) : ∀ (l want : List Int) (set : List Bool), (z1e tys set l want).2.length = set.length
  | [], _, _ => by simp [z1e]
  | _ :: _, [], _ => by simp [z1e]
  | v :: r, w :: ws, set => by
    simp only [z1e]
    split
    · rfl
    · rw [z6g tys r ws]; simp
theorem z0t (tys : List Int) (set : List Bool) (l want : List Int) : (z0j tys set l want).2.length = set.length := by
  unfold z0j
  split
  · exact z6g ..
  · rfl
def z6e (tys : List Int) (v : Int) : Bool := decide (0 <= v) && decide (v < tys.length)
def r8of (tys l : List Int) : List Int := if l.all (z6e tys) then l.map fun v => tys.getD v.toNat 0 else []
structure Wh where
  If : Bool
  Loop : Bool
  Yield : List Int
  Next : List Int
  Left : List Int
abbrev whv (w : Wh) : PV := .agg [vBool w.If, vBool w.Loop, ints w.Yield, ints w.Next, ints w.Left]
def ckBox (u : Un) (f : Fl) (n : Nat) : List IV := [.pv (arrs u.arrays), .pv (flws u.flows), iStr f.name, iInt f.ty, iInt f.params, .pv (ints f.types), .pv (z07 f.body), .sl 4 n]
def ckHp (u : Un) (f : Fl) (bt : TypeId) (set : List Bool) : List (Nat × HO) := [(3, .box (ckBox u f (set.map z9d).length)), (4, .row ⟨bt, 1⟩ (set.map z9d))]
theorem zu4 {u : Un} {f : Fl} {bt : TypeId} {set : List Bool} {i : Nat} : ∀ k, look ((4, some (.row ⟨bt, 1⟩ ((set.map z9d).set i [vBool true]))) :: up (ckHp u f bt set)) k = look (up (ckHp u f bt (set.set i true))) k := by
  intro k
  simp only [ckHp, up, List.map_cons, List.map_nil, look, List.length_map, List.length_set]
  by_cases h4 : 4 = k
  · subst h4
    simp [List.map_set, z9d, show Nat.beq 3 4 = false from rfl]
  · by_cases h3 : 3 = k
    · subst h3; simp [show Nat.beq 4 3 = false from rfl]
    · simp [z00 h3, z00 h4]
theorem y20 (x : Nd) : SC Tryz.prog 94 [.pv (ndv x)] [] (fun _ => False) (iBool (z0m x)) [] := by
  refine SC.of Tryz.func94 rfl (lb rfl) fun F ρ w => ?_
  refine tQ <| tG <| cE rfl (z13 rfl rfl) <| sm 1 rfl <| nL <| tQ ?_
  refine Tr.cut (fr' := [(3, iBool (r8op x)), (1, .pv (.ept [vInt x.kind, vInt x.op, vInt x.n, vStr x.name, ints x.args, ints x.outs, ints x.params, kids x.kids] 0))]) (σ' := look []) ?_ ?_
  ·refine tG <| sm 4 rfl ?_
   refine wS 10 rfl (fun hb10 => ?_) fun hb10 => ?_
   ·refine sm 5 rfl <| nL ?_
    refine ⟨rfl, Sub.of ⟨?_, ?_, trivial⟩, rfl⟩
    all_goals first | rfl | (refine congrArg some ?_; simp_all [r8op]; done)
   refine sm 5 rfl <| nL ?_
   refine ⟨rfl, Sub.of ⟨?_, ?_, trivial⟩, rfl⟩
   all_goals first | rfl | (refine congrArg some ?_; simp_all [r8op]; done)
  refine tQ ?_
  refine Tr.cut (fr' := [(4, iBool (z1j x)), (3, iBool (r8op x)), (1, .pv (.ept [vInt x.kind, vInt x.op, vInt x.n, vStr x.name, ints x.args, ints x.outs, ints x.params, kids x.kids] 0))]) (σ' := look []) ?_ ?_
  ·refine tG <| sm 4 rfl ?_
   refine wS 18 rfl (fun hb18 => ?_) fun hb18 => ?_
   ·refine sm 5 rfl <| nL ?_
    refine ⟨rfl, Sub.of ⟨?_, ?_, ?_, trivial⟩, rfl⟩
    all_goals first | rfl | (refine congrArg some ?_; simp_all [z1j]; done)
   refine sm 5 rfl <| nL ?_
   refine ⟨rfl, Sub.of ⟨?_, ?_, ?_, trivial⟩, rfl⟩
   all_goals first | rfl | (refine congrArg some ?_; simp_all [z1j]; done)
  refine tQ ?_
  refine Tr.cut (fr' := [(5, iBool (z0w x)), (4, iBool (z1j x)), (3, iBool (r8op x)), (1, .pv (.ept [vInt x.kind, vInt x.op, vInt x.n, vStr x.name, ints x.args, ints x.outs, ints x.params, kids x.kids] 0))]) (σ' := look []) ?_ ?_
  ·refine tG <| sm 4 rfl ?_
   refine wS 26 rfl (fun hb26 => ?_) fun hb26 => ?_
   ·refine sm 10 rfl <| nL ?_
    refine ⟨rfl, Sub.of ⟨?_, ?_, ?_, ?_, trivial⟩, rfl⟩
    all_goals first | rfl | (refine congrArg some ?_; simp_all [z0w]; done)
   refine sm 5 rfl ?_
   refine wS 31 rfl (fun hb31 => ?_) fun hb31 => ?_
   ·refine sm 5 rfl <| nL ?_
    refine ⟨rfl, Sub.of ⟨?_, ?_, ?_, ?_, trivial⟩, rfl⟩
    all_goals first | rfl | (refine congrArg some ?_; simp_all [z0w]; done)
   refine sm 5 rfl <| nL ?_
   refine ⟨rfl, Sub.of ⟨?_, ?_, ?_, ?_, trivial⟩, rfl⟩
   all_goals first | rfl | (refine congrArg some ?_; simp_all [z0w]; done)
  refine tQ <| tG <| sm 1 rfl <| nL <| tQ <| tQ <| tG <| sm 3 rfl <| nL ?_
  refine Tr.cut (fr' := [(6, iInt (if x.kind == 10 then 2 else 0)), (5, iBool (z0w x)), (4, iBool (z1j x)), (3, iBool (r8op x)), (1, .pv (.ept [vInt x.kind, vInt x.op, vInt x.n, vStr x.name, ints x.args, ints x.outs, ints x.params, kids x.kids] 0))]) (σ' := look []) ?_ ?_
  ·refine tC rfl (fun hc38 => ?_) fun hc38 => ?_
   ·refine tG <| sm 1 rfl <| nL ?_
    refine ⟨rfl, Sub.of ⟨?_, ?_, ?_, ?_, ?_, trivial⟩, rfl⟩
    all_goals first | rfl | (refine congrArg some ?_; simp_all; done)
   refine tSk ?_
   refine ⟨rfl, Sub.of ⟨?_, ?_, ?_, ?_, ?_, trivial⟩, rfl⟩
   all_goals first | rfl | (refine congrArg some ?_; simp_all; done)
  refine tQ <| tQ <| tG <| sm 3 rfl <| nL ?_
  refine Tr.cut (fr' := [(6, iInt (r8kn x)), (5, iBool (z0w x)), (4, iBool (z1j x)), (3, iBool (r8op x)), (1, .pv (.ept [vInt x.kind, vInt x.op, vInt x.n, vStr x.name, ints x.args, ints x.outs, ints x.params, kids x.kids] 0))]) (σ' := look []) ?_ ?_
  ·refine tC rfl (fun hc41 => ?_) fun hc41 => ?_
   ·refine tG <| sm 1 rfl <| nL ?_
    refine ⟨rfl, Sub.of ⟨?_, ?_, ?_, ?_, ?_, trivial⟩, rfl⟩
    all_goals first | rfl | (refine congrArg some ?_; simp_all [r8kn]; done)
   refine tSk ?_
   refine ⟨rfl, Sub.of ⟨?_, ?_, ?_, ?_, ?_, trivial⟩, rfl⟩
   all_goals first | rfl | (refine congrArg some ?_; simp_all [r8kn]; done)
  refine tQ <| tG <| sm 2 rfl ?_
  refine wS 43 rfl (fun hb43 => ?_) fun hb43 => ?_
  ·refine sm 7 rfl ?_
   refine wS 50 rfl (fun hb50 => ?_) fun hb50 => ?_
   ·refine sm 8 rfl ?_
    refine wS 58 rfl (fun hb58 => ?_) fun hb58 => ?_
    ·refine sm 8 rfl <| yV rfl rfl (oSm uT41 rfl) <| sm 4 rfl ?_
     refine wS 71 rfl (fun hb71 => ?_) fun hb71 => ?_
     ·refine sm 4 rfl ?_
      refine wS 75 rfl (fun hb75 => ?_) fun hb75 => ?_
      ·refine sm 7 rfl <| nL <| tRt <| rOk rfl ?_ nPo
       simp_all [z0m]
      refine sm 2 rfl <| yV rfl rfl (oSm uT35 rfl) <| sm 4 rfl <| nL <| tRt <| rOk rfl ?_ nPo
      simp_all [z0m]
     refine sm 4 rfl <| nUu rfl rfl rfl rfl rfl rfl <| nUu rfl rfl rfl rfl rfl rfl <| nUu rfl rfl rfl rfl rfl rfl <| nUu rfl rfl rfl rfl rfl rfl <| sm 3 rfl <| nL <| tRt <| rOk rfl ?_ nPo
     simp_all [z0m]
    refine sm 2 rfl <| yV rfl rfl (bSt rfl rfl rfl rfl) <| sm 3 rfl ?_
    refine wS 64 rfl (fun hb64 => ?_) fun hb64 => ?_
    ·refine sm 2 rfl <| yV rfl rfl (oSm uT41 rfl) <| sm 4 rfl ?_
     refine wS 71 rfl (fun hb71 => ?_) fun hb71 => ?_
     ·refine sm 4 rfl ?_
      refine wS 75 rfl (fun hb75 => ?_) fun hb75 => ?_
      ·refine sm 7 rfl <| nL <| tRt <| rOk rfl ?_ nPo
       simp_all [z0m]
      refine sm 2 rfl <| yV rfl rfl (oSm uT35 rfl) <| sm 4 rfl <| nL <| tRt <| rOk rfl ?_ nPo
      simp_all [z0m]
     refine sm 4 rfl <| nUu rfl rfl rfl rfl rfl rfl <| nUu rfl rfl rfl rfl rfl rfl <| nUu rfl rfl rfl rfl rfl rfl <| nUu rfl rfl rfl rfl rfl rfl <| sm 3 rfl <| nL <| tRt <| rOk rfl ?_ nPo
     simp_all [z0m]
    refine sm 11 rfl <| nUu rfl rfl rfl rfl rfl rfl <| nUu rfl rfl rfl rfl rfl rfl <| nUu rfl rfl rfl rfl rfl rfl <| nUu rfl rfl rfl rfl rfl rfl <| sm 3 rfl <| nL <| tRt <| rOk rfl ?_ nPo
    simp_all [z0m]
   refine sm 6 rfl ?_
   refine wS 56 rfl (fun hb56 => ?_) fun hb56 => ?_
   ·refine sm 2 rfl ?_
    refine wS 58 rfl (fun hb58 => ?_) fun hb58 => ?_
    ·refine sm 8 rfl <| yV rfl rfl (oSm uT41 rfl) <| sm 4 rfl ?_
     refine wS 71 rfl (fun hb71 => ?_) fun hb71 => ?_
     ·refine sm 4 rfl ?_
      refine wS 75 rfl (fun hb75 => ?_) fun hb75 => ?_
      ·refine sm 7 rfl <| nL <| tRt <| rOk rfl ?_ nPo
       simp_all [z0m]
      refine sm 2 rfl <| yV rfl rfl (oSm uT35 rfl) <| sm 4 rfl <| nL <| tRt <| rOk rfl ?_ nPo
      simp_all [z0m]
     refine sm 4 rfl <| nUu rfl rfl rfl rfl rfl rfl <| nUu rfl rfl rfl rfl rfl rfl <| nUu rfl rfl rfl rfl rfl rfl <| nUu rfl rfl rfl rfl rfl rfl <| sm 3 rfl <| nL <| tRt <| rOk rfl ?_ nPo
     simp_all [z0m]
    refine sm 2 rfl <| yV rfl rfl (bSt rfl rfl rfl rfl) <| sm 3 rfl ?_
    refine wS 64 rfl (fun hb64 => ?_) fun hb64 => ?_
    ·refine sm 2 rfl <| yV rfl rfl (oSm uT41 rfl) <| sm 4 rfl ?_
     refine wS 71 rfl (fun hb71 => ?_) fun hb71 => ?_
     ·refine sm 4 rfl ?_
      refine wS 75 rfl (fun hb75 => ?_) fun hb75 => ?_
      ·refine sm 7 rfl <| nL <| tRt <| rOk rfl ?_ nPo
       simp_all [z0m]
      refine sm 2 rfl <| yV rfl rfl (oSm uT35 rfl) <| sm 4 rfl <| nL <| tRt <| rOk rfl ?_ nPo
      simp_all [z0m]
     refine sm 4 rfl <| nUu rfl rfl rfl rfl rfl rfl <| nUu rfl rfl rfl rfl rfl rfl <| nUu rfl rfl rfl rfl rfl rfl <| nUu rfl rfl rfl rfl rfl rfl <| sm 3 rfl <| nL <| tRt <| rOk rfl ?_ nPo
     simp_all [z0m]
    refine sm 11 rfl <| nUu rfl rfl rfl rfl rfl rfl <| nUu rfl rfl rfl rfl rfl rfl <| nUu rfl rfl rfl rfl rfl rfl <| nUu rfl rfl rfl rfl rfl rfl <| sm 3 rfl <| nL <| tRt <| rOk rfl ?_ nPo
    simp_all [z0m]
   refine sm 2 rfl <| nUu rfl rfl rfl rfl rfl rfl <| nUu rfl rfl rfl rfl rfl rfl <| nUu rfl rfl rfl rfl rfl rfl <| sm 14 rfl <| nUu rfl rfl rfl rfl rfl rfl <| nUu rfl rfl rfl rfl rfl rfl <| nUu rfl rfl rfl rfl rfl rfl <| nUu rfl rfl rfl rfl rfl rfl <| sm 3 rfl <| nL <| tRt <| rOk rfl ?_ nPo
   simp_all [z0m]
  refine sm 5 rfl ?_
  refine wS 48 rfl (fun hb48 => ?_) fun hb48 => ?_
  ·refine sm 2 rfl ?_
   refine wS 50 rfl (fun hb50 => ?_) fun hb50 => ?_
   ·refine sm 8 rfl ?_
    refine wS 58 rfl (fun hb58 => ?_) fun hb58 => ?_
    ·refine sm 8 rfl <| yV rfl rfl (oSm uT41 rfl) <| sm 4 rfl ?_
     refine wS 71 rfl (fun hb71 => ?_) fun hb71 => ?_
     ·refine sm 4 rfl ?_
      refine wS 75 rfl (fun hb75 => ?_) fun hb75 => ?_
      ·refine sm 7 rfl <| nL <| tRt <| rOk rfl ?_ nPo
       simp_all [z0m]
      refine sm 2 rfl <| yV rfl rfl (oSm uT35 rfl) <| sm 4 rfl <| nL <| tRt <| rOk rfl ?_ nPo
      simp_all [z0m]
     refine sm 4 rfl <| nUu rfl rfl rfl rfl rfl rfl <| nUu rfl rfl rfl rfl rfl rfl <| nUu rfl rfl rfl rfl rfl rfl <| nUu rfl rfl rfl rfl rfl rfl <| sm 3 rfl <| nL <| tRt <| rOk rfl ?_ nPo
     simp_all [z0m]
    refine sm 2 rfl <| yV rfl rfl (bSt rfl rfl rfl rfl) <| sm 3 rfl ?_
    refine wS 64 rfl (fun hb64 => ?_) fun hb64 => ?_
    ·refine sm 2 rfl <| yV rfl rfl (oSm uT41 rfl) <| sm 4 rfl ?_
     refine wS 71 rfl (fun hb71 => ?_) fun hb71 => ?_
     ·refine sm 4 rfl ?_
      refine wS 75 rfl (fun hb75 => ?_) fun hb75 => ?_
      ·refine sm 7 rfl <| nL <| tRt <| rOk rfl ?_ nPo
       simp_all [z0m]
      refine sm 2 rfl <| yV rfl rfl (oSm uT35 rfl) <| sm 4 rfl <| nL <| tRt <| rOk rfl ?_ nPo
      simp_all [z0m]
     refine sm 4 rfl <| nUu rfl rfl rfl rfl rfl rfl <| nUu rfl rfl rfl rfl rfl rfl <| nUu rfl rfl rfl rfl rfl rfl <| nUu rfl rfl rfl rfl rfl rfl <| sm 3 rfl <| nL <| tRt <| rOk rfl ?_ nPo
     simp_all [z0m]
    refine sm 11 rfl <| nUu rfl rfl rfl rfl rfl rfl <| nUu rfl rfl rfl rfl rfl rfl <| nUu rfl rfl rfl rfl rfl rfl <| nUu rfl rfl rfl rfl rfl rfl <| sm 3 rfl <| nL <| tRt <| rOk rfl ?_ nPo
    simp_all [z0m]
   refine sm 6 rfl ?_
   refine wS 56 rfl (fun hb56 => ?_) fun hb56 => ?_
   ·refine sm 2 rfl ?_
    refine wS 58 rfl (fun hb58 => ?_) fun hb58 => ?_
    ·refine sm 8 rfl <| yV rfl rfl (oSm uT41 rfl) <| sm 4 rfl ?_
     refine wS 71 rfl (fun hb71 => ?_) fun hb71 => ?_
     ·refine sm 4 rfl ?_
      refine wS 75 rfl (fun hb75 => ?_) fun hb75 => ?_
      ·refine sm 7 rfl <| nL <| tRt <| rOk rfl ?_ nPo
       simp_all [z0m]
      refine sm 2 rfl <| yV rfl rfl (oSm uT35 rfl) <| sm 4 rfl <| nL <| tRt <| rOk rfl ?_ nPo
      simp_all [z0m]
     refine sm 4 rfl <| nUu rfl rfl rfl rfl rfl rfl <| nUu rfl rfl rfl rfl rfl rfl <| nUu rfl rfl rfl rfl rfl rfl <| nUu rfl rfl rfl rfl rfl rfl <| sm 3 rfl <| nL <| tRt <| rOk rfl ?_ nPo
     simp_all [z0m]
    refine sm 2 rfl <| yV rfl rfl (bSt rfl rfl rfl rfl) <| sm 3 rfl ?_
    refine wS 64 rfl (fun hb64 => ?_) fun hb64 => ?_
    ·refine sm 2 rfl <| yV rfl rfl (oSm uT41 rfl) <| sm 4 rfl ?_
     refine wS 71 rfl (fun hb71 => ?_) fun hb71 => ?_
     ·refine sm 4 rfl ?_
      refine wS 75 rfl (fun hb75 => ?_) fun hb75 => ?_
      ·refine sm 7 rfl <| nL <| tRt <| rOk rfl ?_ nPo
       simp_all [z0m]
      refine sm 2 rfl <| yV rfl rfl (oSm uT35 rfl) <| sm 4 rfl <| nL <| tRt <| rOk rfl ?_ nPo
      simp_all [z0m]
     refine sm 4 rfl <| nUu rfl rfl rfl rfl rfl rfl <| nUu rfl rfl rfl rfl rfl rfl <| nUu rfl rfl rfl rfl rfl rfl <| nUu rfl rfl rfl rfl rfl rfl <| sm 3 rfl <| nL <| tRt <| rOk rfl ?_ nPo
     simp_all [z0m]
    refine sm 11 rfl <| nUu rfl rfl rfl rfl rfl rfl <| nUu rfl rfl rfl rfl rfl rfl <| nUu rfl rfl rfl rfl rfl rfl <| nUu rfl rfl rfl rfl rfl rfl <| sm 3 rfl <| nL <| tRt <| rOk rfl ?_ nPo
    simp_all [z0m]
   refine sm 2 rfl <| nUu rfl rfl rfl rfl rfl rfl <| nUu rfl rfl rfl rfl rfl rfl <| nUu rfl rfl rfl rfl rfl rfl <| sm 14 rfl <| nUu rfl rfl rfl rfl rfl rfl <| nUu rfl rfl rfl rfl rfl rfl <| nUu rfl rfl rfl rfl rfl rfl <| nUu rfl rfl rfl rfl rfl rfl <| sm 3 rfl <| nL <| tRt <| rOk rfl ?_ nPo
   simp_all [z0m]
  refine sm 2 rfl <| nUu rfl rfl rfl rfl rfl rfl <| nUu rfl rfl rfl rfl rfl rfl <| nUu rfl rfl rfl rfl rfl rfl <| sm 5 rfl <| nUu rfl rfl rfl rfl rfl rfl <| nUu rfl rfl rfl rfl rfl rfl <| nUu rfl rfl rfl rfl rfl rfl <| sm 14 rfl <| nUu rfl rfl rfl rfl rfl rfl <| nUu rfl rfl rfl rfl rfl rfl <| nUu rfl rfl rfl rfl rfl rfl ?_
  refine nUu rfl rfl rfl rfl rfl rfl <| sm 3 rfl <| nL <| tRt <| rOk rfl ?_ nPo
  simp_all [z0m]
theorem z3l (x : Nd) : SC Tryz.prog 54 [.pv (ndv x)] [] (fun _ => False) (iBool (z0e x)) [] := by
  refine SC.of Tryz.func54 rfl (lb rfl) fun F ρ w => ?_
  refine tQ <| tG <| cE rfl (z13 rfl rfl) <| sm 1 rfl <| nL <| tQ <| tBk <| tQ <| tG <| sm 4 rfl ?_
  refine wS 7 rfl (fun hb7 => ?_) fun hb7 => ?_
  ·refine sm 2 rfl <| yV rfl rfl (oSm uT41 rfl) <| sm 3 rfl <| nL ?_
   refine tC rfl (fun hc3 => ?_) fun hc3 => ?_
   ·have hl : x.kids.length = 2 := by first | (simp_all; done) | (simp_all; omega)
    have h10 : x.kind = 10 := by simp_all
    have hi0 : (x.kids.map eKid)[0]? = some [z07 (kid0 x.kids)] := by rw [List.getElem?_map]; simp [kid0, eKid, hl]
    have hi1 : (x.kids.map eKid)[1]? = some [z07 (kid1 x.kids)] := by rw [List.getElem?_map]; simp [kid1, eKid, hl]
    refine tQ <| tG <| sm 2 rfl <| cV rfl (iSq rfl rfl rfl uT41 hi0 tS44 rfl (by rfl)) <| sm 1 rfl <| cE rfl (ocq (zo9 _) ent76 rfl rfl) <| sm 2 rfl ?_
    refine wS 19 rfl (fun hb19 => ?_) fun hb19 => ?_
    ·refine sm 2 rfl <| yV rfl rfl (iSq rfl rfl rfl uT41 hi1 tS44 rfl (by rfl)) <| sm 1 rfl <| WL.yes rfl rfl rfl rfl rfl rfl (z0r (zo9 _) ent76 rfl rfl (sRf _ _) rfl) <| sm 3 rfl <| nL <| tRt <| rOk rfl ?_ nPo
     simp_all [z0e]
    refine sm 8 rfl <| nL <| tRt <| rOk rfl ?_ nPo
    simp_all [z0e]
   refine tQ <| tG <| sm 4 rfl ?_
   refine wS 31 rfl (fun hb31 => ?_) fun hb31 => ?_
   ·refine sm 2 rfl <| yV rfl rfl (oSm uT41 rfl) <| sm 3 rfl <| nL ?_
    refine tC rfl (fun hc27 => ?_) fun hc27 => ?_
    ·have hl : x.kids.length = 1 := by first | (simp_all; done) | (simp_all; omega)
     have h11 : x.kind = 11 := by simp_all
     have hi0 : (x.kids.map eKid)[0]? = some [z07 (kid0 x.kids)] := by rw [List.getElem?_map]; simp [kid0, eKid, hl]
     refine tQ <| tG <| sm 2 rfl <| cV rfl (iSq rfl rfl rfl uT41 hi0 tS44 rfl (by rfl)) <| sm 1 rfl <| cE rfl (ocq (zc7 _) ent77 rfl rfl) <| sm 2 rfl <| nL <| tRt <| rOk rfl ?_ nPo
     simp_all [z0e]
    refine tSk <| tQ <| tG <| cV rfl (lEA rfl rfl uT43 rfl tS43 (lb rfl)) <| cE rfl (ocq (z5f _) y0s rfl rfl) <| sm 1 rfl <| nL <| tRt <| rOk rfl ?_ nPo
    simp_all [z0e]
   refine sm 6 rfl <| nL <| Tr.condF rfl <| tSk <| tQ <| tG <| cV rfl (lEA rfl rfl uT43 rfl tS43 (lb rfl)) <| cE rfl (ocq (z5f _) y0s rfl rfl) <| sm 1 rfl <| nL <| tRt <| rOk rfl ?_ nPo
   simp_all [z0e]
  refine sm 6 rfl <| nL <| Tr.condF rfl <| tQ <| tG <| sm 4 rfl ?_
  refine wS 31 rfl (fun hb31 => ?_) fun hb31 => ?_
  ·refine sm 2 rfl <| yV rfl rfl (oSm uT41 rfl) <| sm 3 rfl <| nL ?_
   refine tC rfl (fun hc27 => ?_) fun hc27 => ?_
   ·have hl : x.kids.length = 1 := by first | (simp_all; done) | (simp_all; omega)
    have h11 : x.kind = 11 := by simp_all
    have hi0 : (x.kids.map eKid)[0]? = some [z07 (kid0 x.kids)] := by rw [List.getElem?_map]; simp [kid0, eKid, hl]
    refine tQ <| tG <| sm 2 rfl <| cV rfl (iSq rfl rfl rfl uT41 hi0 tS44 rfl (by rfl)) <| sm 1 rfl <| cE rfl (ocq (zc7 _) ent77 rfl rfl) <| sm 2 rfl <| nL <| tRt <| rOk rfl ?_ nPo
    simp_all [z0e]
   refine tSk <| tQ <| tG <| cV rfl (lEA rfl rfl uT43 rfl tS43 (lb rfl)) <| cE rfl (ocq (z5f _) y0s rfl rfl) <| sm 1 rfl <| nL <| tRt <| rOk rfl ?_ nPo
   simp_all [z0e]
  refine sm 6 rfl <| nL <| Tr.condF rfl <| tSk <| tQ <| tG <| cV rfl (lEA rfl rfl uT43 rfl tS43 (lb rfl)) <| cE rfl (ocq (z5f _) y0s rfl rfl) <| sm 1 rfl <| nL <| tRt <| rOk rfl ?_ nPo
  simp_all [z0e]
theorem z49 (u : Un) (name : ByteArray) : SC Tryz.prog 30 [.pv u.enc, iStr name] [] (fun _ => False) (iInt (z0a name u.flows 0)) [] := by
  refine SC.of Tryz.func30 rfl (lb rfl) fun F ρ w => ?_
  refine tQ <| tG <| cE rfl (z13 rfl rfl) <| sm 1 rfl <| nL <| tQ <| tQ <| tG <| sm 1 rfl <| nL <| tBk <| Tr.sub (Sub.of (fr' := [(5, iInt 0), (2, .pv (.ept [arrs u.arrays, flws u.flows] 0)), (1, iStr name)]) ⟨rfl, rfl, rfl, trivial⟩) ?_
  refine Tr.loop (fun fr σ m => ∃ (k : Nat), (k <= u.flows.length) /\ (z0a name u.flows 0 = z0a name (u.flows.drop k) k) /\ fr = [(5, iInt k), (2, .pv (.ept [arrs u.arrays, flws u.flows] 0)), (1, iStr name)] /\ σ = look [] /\ m = u.flows.length - k) (n := u.flows.length - 0) ?_ ?_
  ·exact ⟨0, Nat.zero_le _, rfl, rfl, rfl, rfl⟩
  rintro fr σ m ⟨k, hI0, hI1, rfl, rfl, rfl⟩
  refine tQ <| tQ <| tG <| sm 3 rfl ?_
  refine WL.lenOf (t := 8) rfl (fun hl => ?_)
  simp only [List.length_map] at hl
  refine cV rfl (oSm uT23 rfl) <| sm 1 rfl <| nL ?_
  refine tC rfl (fun hc10 => ?_) fun hc10 => ?_
  ·have hlt : k < u.flows.length := by simpa using hc10
   have hd := List.drop_eq_getElem_cons hlt
   have hm := List.getElem_mem hlt
   have hi := z0c (f := Fl.enc) (List.getElem?_eq_getElem hlt)
   generalize u.flows[k] = x at hd hm hi
   refine tSk <| tQ <| tBk <| tQ <| tG <| sm 3 rfl <| cV rfl (iSq rfl rfl rfl uT23 (by assumption) tS51 rfl (by rfl)) <| sm 3 rfl <| cV rfl (bSt rfl rfl rfl rfl) <| nL ?_
   refine tC rfl (fun hc20 => ?_) fun hc20 => ?_
   ·refine tQ <| tG <| sm 2 rfl <| nL <| tRt <| rOk rfl ?_ nPo
    rw [hI1, hd]
    have h20 : eqS x.name name = true := by simpa [eqS] using hc20
    simp [z0a, h20]
   refine tSk <| tG <| sm 1 rfl <| cV rfl (oB rfl rfl (z05 rfl oM0)) <| sm 1 rfl <| nL ?_
   refine ⟨_, _, ?_, Sub.of (fr' := [(5, iInt (k + 1)), (2, .pv (.ept [arrs u.arrays, flws u.flows] 0)), (1, iStr name)]) ⟨rfl, rfl, rfl, trivial⟩, (k + 1), ?_, ?_, rfl, rfl, rfl⟩
   ·omega
   ·omega
   rw [hI1, hd]
   have h20 : eqS x.name name = false := by simpa [eqS] using hc20
   simp [z0a, h20]
  refine tEx <| tQ <| tG <| sm 1 rfl <| nL <| tRt <| rOk rfl ?_ nPo
  have hge : u.flows.length <= k := by simpa using hc10
  rw [hI1, List.drop_eq_nil_of_le hge]
  rfl
theorem z6z (u : Un) (name : ByteArray) : SC Tryz.prog 48 [.pv u.enc, iStr name] [] (fun _ => False) (iInt (z1h name u.arrays 0)) [] := by
  refine SC.of Tryz.func48 rfl (lb rfl) fun F ρ w => ?_
  refine tQ <| tG <| cE rfl (z13 rfl rfl) <| sm 1 rfl <| nL <| tQ <| tQ <| tG <| sm 1 rfl <| nL <| tBk <| Tr.sub (Sub.of (fr' := [(5, iInt 0), (2, .pv (.ept [arrs u.arrays, flws u.flows] 0)), (1, iStr name)]) ⟨rfl, rfl, rfl, trivial⟩) ?_
  refine Tr.loop (fun fr σ m => ∃ (k : Nat), (k <= u.arrays.length) /\ (z1h name u.arrays 0 = z1h name (u.arrays.drop k) k) /\ fr = [(5, iInt k), (2, .pv (.ept [arrs u.arrays, flws u.flows] 0)), (1, iStr name)] /\ σ = look [] /\ m = u.arrays.length - k) (n := u.arrays.length - 0) ?_ ?_
  ·exact ⟨0, Nat.zero_le _, rfl, rfl, rfl, rfl⟩
  rintro fr σ m ⟨k, hI0, hI1, rfl, rfl, rfl⟩
  refine tQ <| tQ <| tG <| sm 3 rfl ?_
  refine WL.lenOf (t := 8) rfl (fun hl => ?_)
  simp only [List.length_map] at hl
  refine cV rfl (oSm uT22 rfl) <| sm 1 rfl <| nL ?_
  refine tC rfl (fun hc10 => ?_) fun hc10 => ?_
  ·have hlt : k < u.arrays.length := by simpa using hc10
   have hd := List.drop_eq_getElem_cons hlt
   have hm := List.getElem_mem hlt
   have hi := z0c (f := Ar.enc) (List.getElem?_eq_getElem hlt)
   generalize u.arrays[k] = x at hd hm hi
   refine tSk <| tQ <| tBk <| tQ <| tG <| sm 3 rfl <| cV rfl (iSq rfl rfl rfl uT22 (by assumption) tS49 rfl (by rfl)) <| sm 3 rfl <| cV rfl (bSt rfl rfl rfl rfl) <| nL ?_
   refine tC rfl (fun hc20 => ?_) fun hc20 => ?_
   ·refine tQ <| tG <| sm 2 rfl <| nL <| tRt <| rOk rfl ?_ nPo
    rw [hI1, hd]
    have h20 : eqS x.name name = true := by simpa [eqS] using hc20
    simp [z1h, h20]
   refine tSk <| tG <| sm 1 rfl <| cV rfl (oB rfl rfl (z05 rfl oM0)) <| sm 1 rfl <| nL ?_
   refine ⟨_, _, ?_, Sub.of (fr' := [(5, iInt (k + 1)), (2, .pv (.ept [arrs u.arrays, flws u.flows] 0)), (1, iStr name)]) ⟨rfl, rfl, rfl, trivial⟩, (k + 1), ?_, ?_, rfl, rfl, rfl⟩
   ·omega
   ·omega
   rw [hI1, hd]
   have h20 : eqS x.name name = false := by simpa [eqS] using hc20
   simp [z1h, h20]
  refine tEx <| tQ <| tG <| sm 1 rfl <| nL <| tRt <| rOk rfl ?_ nPo
  have hge : u.arrays.length <= k := by simpa using hc10
  rw [hI1, List.drop_eq_nil_of_le hge]
  rfl
theorem z19 (u : Un) (f : Fl) (set : List Bool) (l seen want : List Int) : SC Tryz.prog 96 [.ptr 3 0, .pv (ints l), .pv (ints seen), .pv (ints want)] (ckHp u f 4 set) (fun _ => True) (iBool (z0h f.types seen l want)) (ckHp u f 4 set) := by
  refine SC.of Tryz.func96 rfl (lb rfl) fun F ρ w => ?_
  refine Tr.lenOf (t := 1) rfl (fun hl => ?_)
  simp only [List.length_map] at hl
  refine Tr.lenOf (t := 3) rfl (fun hl3 => ?_)
  simp only [List.length_map] at hl3
  refine tQ <| tG <| sm 1 rfl <| nL <| tQ <| tQ <| tG <| sm 1 rfl <| cV rfl (oSm uT35 rfl) <| sm 1 rfl <| cV rfl (oSm uT35 rfl) <| sm 1 rfl ?_
  refine nL ?_
  refine tC rfl (fun hc14 => ?_) fun hc14 => ?_
  ·refine tQ <| tG <| sm 1 rfl <| nL <| tRt <| rOk rfl ?_ (fun _ _ h => h)
   have : ((l.length : Int) == want.length) = false := by simpa using hc14
   simp [z0h, this]
  have hlen : l.length = want.length := by simp at hc14; omega
  refine tSk <| tQ <| tQ <| tG <| sm 1 rfl <| nL <| tBk <| Tr.sub (Sub.of (fr' := [(9, iInt 0), (0, .ptr 3 0), (1, .pv (ints l)), (2, .pv (ints seen)), (3, .pv (ints want))]) ⟨rfl, rfl, rfl, rfl, rfl, trivial⟩) ?_
  refine Tr.loop (fun fr σ m => ∃ (k : Nat), (k <= l.length) /\ (z17 f.types seen l want = z17 f.types seen (l.drop k) (want.drop k)) /\ fr = [(9, iInt k), (0, .ptr 3 0), (1, .pv (ints l)), (2, .pv (ints seen)), (3, .pv (ints want))] /\ σ = look (up (ckHp u f 4 set)) /\ m = l.length - k) (n := l.length - 0) ?_ ?_
  ·exact ⟨0, Nat.zero_le _, rfl, rfl, rfl, rfl⟩
  rintro fr σ m ⟨k, hI0, hI1, rfl, rfl, rfl⟩
  refine tQ <| tQ <| tG <| sm 2 rfl <| cV rfl (oSm uT35 rfl) <| sm 1 rfl <| nL ?_
  refine tC rfl (fun hc18 => ?_) fun hc18 => ?_
  ·have hlt : k < l.length := by simpa using hc18
   have hd := List.drop_eq_getElem_cons hlt
   have hm := List.getElem_mem hlt
   have hi := z0c (f := eInt) (List.getElem?_eq_getElem hlt)
   generalize l[k] = x at hd hm hi
   have hltw : k < want.length := by omega
   have hdw := List.drop_eq_getElem_cons hltw
   have hw := z0c (f := eInt) (List.getElem?_eq_getElem hltw)
   generalize want[k] = y at hdw hw
   refine tSk <| tQ <| tBk <| tQ <| tDr z15 (fun _ => True) <| wR 28 [0, 1, 2, 3, 4, 5, 6, 7, 8, 9, 10, 11, 12, 13, 14, 15, 16, 17, 18, 19, 20, 21, 22, 23] kR0 h30 <| smR 2 rfl <| rV rfl rfl (iSq rfl rfl rfl uT35 hi tS3 rfl (by rfl)) <| smR 3 rfl ?_
   refine WR.split (t := 26) rfl (fun hb26 => ?_) (fun hb26 => ?_)
   ·refine smR 18 rfl <| nR <| wN 24 kR0 h30 rfl rfl rfl <| wR 0 [25, 26, 27, 28, 29, 30, 31, 32, 33, 34, 35, 36, 37, 38, 39, 40, 41, 42, 43, 44, 45, 46, 47, 48, 49, 50, 51] kR0 h30 <| smR 9 rfl <| nUr rfl rfl rfl rfl rfl rfl rfl <| nUr rfl rfl rfl rfl rfl rfl rfl <| nUr rfl rfl rfl rfl rfl rfl rfl <| nUr rfl rfl rfl rfl rfl rfl rfl <| nUr rfl rfl rfl rfl rfl rfl rfl <| nUr rfl rfl rfl rfl rfl rfl rfl <| nUr rfl rfl rfl rfl rfl rfl rfl ?_
    refine nUr rfl rfl rfl rfl rfl rfl rfl <| nUr rfl rfl rfl rfl rfl rfl rfl <| nUr rfl rfl rfl rfl rfl rfl rfl <| nUr rfl rfl rfl rfl rfl rfl rfl <| nUr rfl rfl rfl rfl rfl rfl rfl <| nUr rfl rfl rfl rfl rfl rfl rfl <| nUr rfl rfl rfl rfl rfl rfl rfl <| nUr rfl rfl rfl rfl rfl rfl rfl <| nUr rfl rfl rfl rfl rfl rfl rfl <| smR 2 rfl <| nR <| wDn kR0 ?_
    refine Tr.condT rfl <| tQ <| tG <| sm 1 rfl <| nL <| tRt <| rOk rfl ?_ (fun _ _ h => h)
    have hu : z55 f.types seen x y = false := by (try clear hvx); simp_all [z55]
    simp [z0h, hI1, hd, hdw, z17, hu]
   refine smR 2 rfl <| ryV rfl rfl rfl (iSq rfl rfl rfl uT35 hi tS3 rfl (by rfl)) <| smR 2 rfl <| ryV rfl rfl rfl (nCk rfl rfl rfl) <| smR 2 rfl <| ryV rfl rfl rfl (oLb uT35 rfl rfl rfl trivial) <| ryV rfl rfl rfl (oSm uT35 rfl) <| smR 3 rfl ?_
   refine WR.split (t := 39) rfl (fun hb39 => ?_) (fun hb39 => ?_)
   ·refine smR 5 rfl <| nR <| wN 24 kR0 h30 rfl rfl rfl <| wR 0 [25, 26, 27, 28, 29, 30, 31, 32, 33, 34, 35, 36, 37, 38, 39, 40, 41, 42, 43, 44, 45, 46, 47, 48, 49, 50, 51] kR0 h30 <| smR 9 rfl <| nUr rfl rfl rfl rfl rfl rfl rfl <| nUr rfl rfl rfl rfl rfl rfl rfl <| nUr rfl rfl rfl rfl rfl rfl rfl <| nUr rfl rfl rfl rfl rfl rfl rfl <| nUr rfl rfl rfl rfl rfl rfl rfl <| nUr rfl rfl rfl rfl rfl rfl rfl <| nUr rfl rfl rfl rfl rfl rfl rfl ?_
    refine nUr rfl rfl rfl rfl rfl rfl rfl <| nUr rfl rfl rfl rfl rfl rfl rfl <| nUr rfl rfl rfl rfl rfl rfl rfl <| nUr rfl rfl rfl rfl rfl rfl rfl <| nUr rfl rfl rfl rfl rfl rfl rfl <| nUr rfl rfl rfl rfl rfl rfl rfl <| nUr rfl rfl rfl rfl rfl rfl rfl <| nUr rfl rfl rfl rfl rfl rfl rfl <| nUr rfl rfl rfl rfl rfl rfl rfl <| smR 2 rfl <| nR <| wDn kR0 ?_
    refine Tr.condT rfl <| tQ <| tG <| sm 1 rfl <| nL <| tRt <| rOk rfl ?_ (fun _ _ h => h)
    have hu : z55 f.types seen x y = false := by (try clear hvx); simp_all [z55]
    simp [z0h, hI1, hd, hdw, z17, hu]
   have hv0 : x.toNat < f.types.length := by simp at hb26 hb39; omega
   have hvx : x = ((x.toNat : Nat) : Int) := by simp at hb26; omega
   have hty : (f.types.map eInt)[x.toNat]? = some [vInt (f.types.getD x.toNat 0)] := by rw [List.getElem?_map]; simp [eInt, List.getD, hv0]
   refine smR 3 rfl <| ryV rfl rfl rfl (iSq rfl rfl rfl uT35 hi tS3 rfl (by rfl)) <| smR 1 rfl <| nR <| wO 24 kR0 <| wY rfl rfl rfl (fun _ _ => trivial) nw (fun _ _ => ocq (sc_r8in _ _) ent109 rfl rfl) <| wR 0 [25, 26, 27, 28, 29, 30, 31, 32, 33, 34, 35, 36, 37, 38, 39, 40, 41, 42, 43, 44, 45, 46, 47, 48, 49, 50, 51] kR0 h30 <| smR 3 rfl ?_
   refine WR.split (t := 48) rfl (fun hb48 => ?_) (fun hb48 => ?_)
   ·refine smR 6 rfl <| nUr rfl rfl rfl rfl rfl rfl rfl <| nUr rfl rfl rfl rfl rfl rfl rfl <| nUr rfl rfl rfl rfl rfl rfl rfl <| nUr rfl rfl rfl rfl rfl rfl rfl <| nUr rfl rfl rfl rfl rfl rfl rfl <| nUr rfl rfl rfl rfl rfl rfl rfl <| nUr rfl rfl rfl rfl rfl rfl rfl <| nUr rfl rfl rfl rfl rfl rfl rfl <| nUr rfl rfl rfl rfl rfl rfl rfl <| nUr rfl rfl rfl rfl rfl rfl rfl <| nUr rfl rfl rfl rfl rfl rfl rfl ?_
    refine nUr rfl rfl rfl rfl rfl rfl rfl <| nUr rfl rfl rfl rfl rfl rfl rfl <| nUr rfl rfl rfl rfl rfl rfl rfl <| nUr rfl rfl rfl rfl rfl rfl rfl <| nUr rfl rfl rfl rfl rfl rfl rfl <| smR 2 rfl <| nR <| wDn kR0 <| Tr.condT rfl <| tQ <| tG <| sm 1 rfl ?_
    refine nL <| tRt <| rOk rfl ?_ (fun _ _ h => h)
    have hu : z55 f.types seen x y = false := by (try clear hvx); simp_all [z55]
    simp [z0h, hI1, hd, hdw, z17, hu]
   refine smR 2 rfl <| ryV rfl rfl rfl (iSq rfl rfl rfl uT35 hw tS3 rfl (by rfl)) <| smR 3 rfl ?_
   refine WR.split (t := 54) rfl (fun hb54 => ?_) (fun hb54 => ?_)
   ·refine smR 1 rfl <| ryV rfl rfl rfl (nCk rfl rfl rfl) <| smR 2 rfl <| ryV rfl rfl rfl (oLb uT35 rfl rfl rfl trivial) <| smR 2 rfl <| ryV rfl rfl rfl (iSq rfl rfl rfl uT35 hi tS3 rfl (by rfl)) <| smR 1 rfl <| ryV rfl rfl rfl (iSq rfl rfl rfl uT35 hty tS3 rfl oM0) <| smR 3 rfl <| ryV rfl rfl rfl (iSq rfl rfl rfl uT35 hw tS3 rfl (by rfl)) <| smR 4 rfl <| nR ?_
    refine wDn kR0 ?_
    refine tC rfl (fun hc72 => ?_) fun hc72 => ?_
    ·refine tQ <| tG <| sm 1 rfl <| nL <| tRt <| rOk rfl ?_ (fun _ _ h => h)
     have hu : z55 f.types seen x y = false := by (try clear hvx); simp_all [z55]
     simp [z0h, hI1, hd, hdw, z17, hu]
    refine tSk <| tG <| sm 1 rfl <| cV rfl (oB rfl rfl (z05 rfl oM0)) <| sm 1 rfl <| nL ?_
    refine ⟨_, _, ?_, Sub.of (fr' := [(9, iInt (k + 1)), (0, .ptr 3 0), (1, .pv (ints l)), (2, .pv (ints seen)), (3, .pv (ints want))]) ⟨rfl, rfl, rfl, rfl, rfl, trivial⟩, (k + 1), ?_, ?_, rfl, rfl, rfl⟩
    ·omega
    ·omega
    rw [hI1, hd, hdw]
    have hu : z55 f.types seen x y = true := by (try clear hvx); simp_all [z55]
    simp [z17, hu]
   refine smR 18 rfl <| nR <| wDn kR0 <| Tr.condF rfl <| tSk <| tG <| sm 1 rfl <| cV rfl (oB rfl rfl (z05 rfl oM0)) <| sm 1 rfl <| nL ?_
   refine ⟨_, _, ?_, Sub.of (fr' := [(9, iInt (k + 1)), (0, .ptr 3 0), (1, .pv (ints l)), (2, .pv (ints seen)), (3, .pv (ints want))]) ⟨rfl, rfl, rfl, rfl, rfl, trivial⟩, (k + 1), ?_, ?_, rfl, rfl, rfl⟩
   ·omega
   ·omega
   rw [hI1, hd, hdw]
   have hu : z55 f.types seen x y = true := by (try clear hvx); simp_all [z55]
   simp [z17, hu]
  refine tEx <| tQ <| tG <| sm 1 rfl <| nL <| tRt <| rOk rfl ?_ (fun _ _ h => h)
  have hge : l.length <= k := by simpa using hc18
  have : ((l.length : Int) == want.length) = true := by simpa using congrArg Nat.cast hlen
  simp [z0h, hI1, List.drop_eq_nil_of_le hge, z17, this]
theorem z1b (u : Un) (f : Fl) (set : List Bool) (l want : List Int) (hs : set.length = f.types.length) : SC Tryz.prog 97 [.ptr 3 0, .pv (ints l), .pv (ints want)] (ckHp u f 4 set) (fun k => k = 3) (iBool (z0j f.types set l want).1) (ckHp u f 4 (z0j f.types set l want).2) := by
  refine SC.of Tryz.func97 rfl (lb rfl) fun F ρ w => ?_
  refine Tr.lenOf (t := 1) rfl (fun hl => ?_)
  simp only [List.length_map] at hl
  refine Tr.lenOf (t := 2) rfl (fun hl3 => ?_)
  simp only [List.length_map] at hl3
  refine tQ <| tG <| sm 1 rfl <| nL <| tQ <| tQ <| tG <| sm 1 rfl <| cV rfl (oSm uT35 rfl) <| sm 1 rfl <| cV rfl (oSm uT35 rfl) <| sm 1 rfl ?_
  refine nL ?_
  refine tC rfl (fun hc12 => ?_) fun hc12 => ?_
  ·refine tQ <| tG <| sm 1 rfl <| nL <| tRt <| rOk rfl ?_ ?_
   ·have : ((l.length : Int) == want.length) = false := by simpa using hc12
    simp [z0j, this]
   have : ((l.length : Int) == want.length) = false := by simpa using hc12
   simp only [z0j, this]
   exact fun _ _ h => h
  have hlen : l.length = want.length := by simp at hc12; omega
  refine tSk <| tQ <| tQ <| tG <| sm 1 rfl <| nL <| tBk <| Tr.sub (Sub.of (fr' := [(7, iInt 0), (0, .ptr 3 0), (1, .pv (ints l)), (2, .pv (ints want))]) ⟨rfl, rfl, rfl, rfl, trivial⟩) ?_
  refine Tr.loop (fun fr σ m => ∃ (k : Nat) (st : List Bool), (k <= l.length) /\ (z1e f.types set l want = z1e f.types st (l.drop k) (want.drop k)) /\ (st.length = f.types.length) /\ fr = [(7, iInt k), (0, .ptr 3 0), (1, .pv (ints l)), (2, .pv (ints want))] /\ σ = look (up (ckHp u f 4 st)) /\ m = l.length - k) (n := l.length - 0) ?_ ?_
  ·exact ⟨0, set, Nat.zero_le _, rfl, hs, rfl, rfl, rfl⟩
  rintro fr σ m ⟨k, st, hI0, hI1, hI2, rfl, rfl, rfl⟩
  refine tQ <| tQ <| tG <| sm 2 rfl <| cV rfl (oSm uT35 rfl) <| sm 1 rfl <| nL ?_
  refine tC rfl (fun hc16 => ?_) fun hc16 => ?_
  ·have hlt : k < l.length := by simpa using hc16
   have hd := List.drop_eq_getElem_cons hlt
   have hm := List.getElem_mem hlt
   have hi := z0c (f := eInt) (List.getElem?_eq_getElem hlt)
   generalize l[k] = x at hd hm hi
   have hltw : k < want.length := by omega
   have hdw := List.drop_eq_getElem_cons hltw
   have hw := z0c (f := eInt) (List.getElem?_eq_getElem hltw)
   generalize want[k] = y at hdw hw
   refine tSk <| tQ <| tBk <| tQ <| tQ <| Tr.still z15 kR0 rfl <| smS 2 rfl <| sV rfl (iSq rfl rfl rfl uT35 hi tS3 rfl (by rfl)) <| smS 3 rfl ?_
   refine WS.split (t := 24) rfl (fun hb24 => ?_) (fun hb24 => ?_)
   ·refine smS 31 rfl <| WS.noU rfl rfl rfl rfl rfl rfl <| WS.noU rfl rfl rfl rfl rfl rfl <| WS.noU rfl rfl rfl rfl rfl rfl <| WS.noU rfl rfl rfl rfl rfl rfl <| WS.noU rfl rfl rfl rfl rfl rfl <| WS.noU rfl rfl rfl rfl rfl rfl <| WS.noU rfl rfl rfl rfl rfl rfl <| WS.noU rfl rfl rfl rfl rfl rfl <| WS.noU rfl rfl rfl rfl rfl rfl <| WS.noU rfl rfl rfl rfl rfl rfl <| WS.noU rfl rfl rfl rfl rfl rfl ?_
    refine WS.noU rfl rfl rfl rfl rfl rfl <| WS.noU rfl rfl rfl rfl rfl rfl <| WS.noU rfl rfl rfl rfl rfl rfl <| WS.noU rfl rfl rfl rfl rfl rfl <| WS.noU rfl rfl rfl rfl rfl rfl <| smS 2 rfl <| WS.nil <| Tr.condT rfl <| tQ <| tG <| sm 1 rfl <| nL ?_
    refine tRt ?_
    have hu : z66 f.types st x y = true := by (try clear hvx); simp_all [z66]
    have hsum : z0j f.types set l want = (false, st) := by simp [z0j, hlen, hI1, hd, hdw, z1e, hu]
    rw [hsum]
    exact rOk rfl rfl (fun _ _ h => h)
   refine smS 2 rfl <| syV rfl rfl (iSq rfl rfl rfl uT35 hi tS3 rfl (by rfl)) <| smS 2 rfl <| syV rfl rfl (nCk rfl rfl rfl) <| smS 3 rfl <| syV rfl rfl (oSm uT35 rfl) <| smS 3 rfl ?_
   refine WS.split (t := 37) rfl (fun hb37 => ?_) (fun hb37 => ?_)
   ·refine smS 18 rfl <| WS.noU rfl rfl rfl rfl rfl rfl <| WS.noU rfl rfl rfl rfl rfl rfl <| WS.noU rfl rfl rfl rfl rfl rfl <| WS.noU rfl rfl rfl rfl rfl rfl <| WS.noU rfl rfl rfl rfl rfl rfl <| WS.noU rfl rfl rfl rfl rfl rfl <| WS.noU rfl rfl rfl rfl rfl rfl <| WS.noU rfl rfl rfl rfl rfl rfl <| WS.noU rfl rfl rfl rfl rfl rfl <| WS.noU rfl rfl rfl rfl rfl rfl <| WS.noU rfl rfl rfl rfl rfl rfl ?_
    refine WS.noU rfl rfl rfl rfl rfl rfl <| WS.noU rfl rfl rfl rfl rfl rfl <| WS.noU rfl rfl rfl rfl rfl rfl <| WS.noU rfl rfl rfl rfl rfl rfl <| WS.noU rfl rfl rfl rfl rfl rfl <| smS 2 rfl <| WS.nil <| Tr.condT rfl <| tQ <| tG <| sm 1 rfl <| nL ?_
    refine tRt ?_
    have hu : z66 f.types st x y = true := by (try clear hvx); simp_all [z66]
    have hsum : z0j f.types set l want = (false, st) := by simp [z0j, hlen, hI1, hd, hdw, z1e, hu]
    rw [hsum]
    exact rOk rfl rfl (fun _ _ h => h)
   have hv0 : x.toNat < f.types.length := by simp at hb24 hb37; omega
   have hvx : x = ((x.toNat : Nat) : Int) := by simp at hb24; omega
   have hty : (f.types.map eInt)[x.toNat]? = some [vInt (f.types.getD x.toNat 0)] := by rw [List.getElem?_map]; simp [eInt, List.getD, hv0]
   have hst : (st.map z9d)[x.toNat]? = some [vBool (st.getD x.toNat false)] := by rw [List.getElem?_map]; simp [z9d, List.getD, hI2, hv0]
   have hstl : x.toNat < (st.map z9d).length := by simpa [hI2] using hv0
   refine smS 1 rfl <| syV rfl rfl (nCk rfl rfl rfl) <| smS 4 rfl <| syV rfl rfl (iSq rfl rfl rfl uT35 hi tS3 rfl (by rfl)) <| smS 1 rfl <| syV rfl rfl (iRw rfl rfl rfl rfl rfl Tryz.underlying87 tS4 (by assumption) oM0) <| syV rfl rfl (lRw rfl rfl rfl rfl (Nat.add_zero _).symm (by assumption) rfl Tryz.underlying4 rfl trivial) <| smS 2 rfl ?_
   refine WS.split (t := 49) rfl (fun hb49 => ?_) (fun hb49 => ?_)
   ·refine smS 6 rfl <| WS.noU rfl rfl rfl rfl rfl rfl <| WS.noU rfl rfl rfl rfl rfl rfl <| WS.noU rfl rfl rfl rfl rfl rfl <| WS.noU rfl rfl rfl rfl rfl rfl <| WS.noU rfl rfl rfl rfl rfl rfl <| WS.noU rfl rfl rfl rfl rfl rfl <| WS.noU rfl rfl rfl rfl rfl rfl <| WS.noU rfl rfl rfl rfl rfl rfl <| WS.noU rfl rfl rfl rfl rfl rfl <| WS.noU rfl rfl rfl rfl rfl rfl <| WS.noU rfl rfl rfl rfl rfl rfl ?_
    refine WS.noU rfl rfl rfl rfl rfl rfl <| WS.noU rfl rfl rfl rfl rfl rfl <| WS.noU rfl rfl rfl rfl rfl rfl <| WS.noU rfl rfl rfl rfl rfl rfl <| WS.noU rfl rfl rfl rfl rfl rfl <| smS 2 rfl <| WS.nil <| Tr.condT rfl <| tQ <| tG <| sm 1 rfl <| nL ?_
    refine tRt ?_
    have hu : z66 f.types st x y = true := by (try clear hvx); simp_all [z66]
    have hsum : z0j f.types set l want = (false, st) := by simp [z0j, hlen, hI1, hd, hdw, z1e, hu]
    rw [hsum]
    exact rOk rfl rfl (fun _ _ h => h)
   refine smS 2 rfl <| syV rfl rfl (iSq rfl rfl rfl uT35 hw tS3 rfl (by rfl)) <| smS 3 rfl ?_
   refine WS.split (t := 55) rfl (fun hb55 => ?_) (fun hb55 => ?_)
   ·refine smS 1 rfl <| syV rfl rfl (nCk rfl rfl rfl) <| smS 5 rfl <| syV rfl rfl (iSq rfl rfl rfl uT35 hi tS3 rfl (by rfl)) <| smS 1 rfl <| syV rfl rfl (iSq rfl rfl rfl uT35 hty tS3 rfl oM0) <| smS 3 rfl <| syV rfl rfl (iSq rfl rfl rfl uT35 hw tS3 rfl (by rfl)) <| smS 4 rfl <| WS.nil ?_
    refine tC rfl (fun hc73 => ?_) fun hc73 => ?_
    ·refine tQ <| tG <| sm 1 rfl <| nL <| tRt ?_
     have hu : z66 f.types st x y = true := by (try clear hvx); simp_all [z66]
     have hsum : z0j f.types set l want = (false, st) := by simp [z0j, hlen, hI1, hd, hdw, z1e, hu]
     rw [hsum]
     exact rOk rfl rfl (fun _ _ h => h)
    refine tSk <| tDr z15 (fun k => k ∈ ([3] : List Nat)) <| wR 1 [0, 1, 2, 3, 4, 5, 6, 7, 8] kR0 h30 <| smR 1 rfl <| rV rfl rfl (nCk rfl rfl rfl) <| smR 1 rfl <| rV rfl rfl (oLb Tryz.underlying87 rfl rfl rfl dC0) <| smR 2 rfl <| rV rfl rfl (iSq rfl rfl rfl uT35 hi tS3 rfl (by rfl)) <| smR 1 rfl <| rV rfl rfl (iRw rfl rfl rfl rfl rfl Tryz.underlying87 tS4 (by assumption) oM0) <| nR ?_
    refine wO 9 kR0 <| wI rfl rfl (fun k (h : _) => by (simp at h ⊢; omega)) (nOl rfl) (fun _ _ => z1l rfl rfl rfl rfl rfl (Nat.add_zero _).symm (by assumption) sI0 tS4 rfl sI0) <| wDn kR0 <| tG <| sm 1 rfl <| cV rfl (oB rfl rfl (z05 rfl oM0)) <| sm 1 rfl <| nL ?_
    refine ⟨_, _, ?_, Sub.of (fr' := [(7, iInt (k + 1)), (0, .ptr 3 0), (1, .pv (ints l)), (2, .pv (ints want))]) ⟨rfl, rfl, rfl, rfl, trivial⟩, (k + 1), (st.set x.toNat true), ?_, ?_, ?_, rfl, (funext zu4), rfl⟩
    ·omega
    ·omega
    ·rw [hI1, hd, hdw]
     have hu : z66 f.types st x y = false := by (try clear hvx); simp_all [z66]
     simp [z1e, hu]
    simpa using hI2
   refine smS 18 rfl <| WS.nil <| Tr.condF rfl <| tSk <| tDr z15 (fun k => k ∈ ([3] : List Nat)) <| wR 1 [0, 1, 2, 3, 4, 5, 6, 7, 8] kR0 h30 <| smR 1 rfl <| rV rfl rfl (nCk rfl rfl rfl) <| smR 1 rfl <| rV rfl rfl (oLb Tryz.underlying87 rfl rfl rfl dC0) <| smR 2 rfl <| rV rfl rfl (iSq rfl rfl rfl uT35 hi tS3 rfl (by rfl)) ?_
   refine smR 1 rfl <| rV rfl rfl (iRw rfl rfl rfl rfl rfl Tryz.underlying87 tS4 (by assumption) oM0) <| nR <| wO 9 kR0 <| wI rfl rfl (fun k (h : _) => by (simp at h ⊢; omega)) (nOl rfl) (fun _ _ => z1l rfl rfl rfl rfl rfl (Nat.add_zero _).symm (by assumption) sI0 tS4 rfl sI0) <| wDn kR0 <| tG <| sm 1 rfl <| cV rfl (oB rfl rfl (z05 rfl oM0)) <| sm 1 rfl <| nL ?_
   refine ⟨_, _, ?_, Sub.of (fr' := [(7, iInt (k + 1)), (0, .ptr 3 0), (1, .pv (ints l)), (2, .pv (ints want))]) ⟨rfl, rfl, rfl, rfl, trivial⟩, (k + 1), (st.set x.toNat true), ?_, ?_, ?_, rfl, (funext zu4), rfl⟩
   ·omega
   ·omega
   ·rw [hI1, hd, hdw]
    have hu : z66 f.types st x y = false := by (try clear hvx); simp_all [z66]
    simp [z1e, hu]
   simpa using hI2
  refine tEx <| tQ <| tG <| sm 1 rfl <| nL <| tRt ?_
  have hge : l.length <= k := by simpa using hc16
  have hsum : z0j f.types set l want = (true, st) := by simp [z0j, hlen, hI1, List.drop_eq_nil_of_le hge, z1e]
  rw [hsum]
  exact rOk rfl rfl (fun _ _ h => h)
def z24 (op : Int) : Bool := decide (op ≥ 20) && decide (op <= 28)
def z2v (op : Int) : Bool := decide (op ≥ 1) && decide (op <= 17)
def z08 (op : Int) : Int × Int :=
  if op == 18 || op == 19 || op == 22 then (2, 2) else if op == 16 || op == 17 then (0, 2)
  else if decide (op ≥ 12) && decide (op <= 15) then (1, 2) else (1, 1)
def z52 (tys acc : List Int) : List Int -> List Int
  | [] => acc
  | v :: r => if z6e tys v then z52 tys (acc ++ [tys.getD v.toNat 0]) r else []
theorem zn9 (tys : List Int) : ∀ (l acc : List Int), z52 tys acc l = if l.all (z6e tys) then acc ++ l.map (fun v => tys.getD v.toNat 0) else []
  | [], acc => by simp [z52]
  | v :: r, acc => by
    simp only [z52, List.all_cons, List.map_cons]
    cases h : z6e tys v <;> simp [zn9 tys r]
theorem y1n (tys l : List Int) : r8of tys l = z52 tys [] l := by rw [zn9]; simp [r8of]
theorem zz7 (op : Int) : SC Tryz.prog 111 [iInt op] [] (fun _ => False) (iBool (z24 op)) [] := by
  refine SC.of Tryz.func111 rfl (lb rfl) fun F ρ w => ?_
  refine tQ <| tG <| sm 1 rfl <| nL <| tQ <| tG <| sm 3 rfl ?_
  refine wS 5 rfl (fun hb5 => ?_) fun hb5 => ?_
  ·refine sm 4 rfl <| nL <| tRt <| rOk rfl ?_ nPo
   first | (simp_all [z24]; done) | (simp_all [z24]; omega)
  refine sm 4 rfl <| nL <| tRt <| rOk rfl ?_ nPo
  first | (simp_all [z24]; done) | (simp_all [z24]; omega)
theorem zz8 (op : Int) : SC Tryz.prog 112 [iInt op] [] (fun _ => False) (iBool (z2v op)) [] := by
  refine SC.of Tryz.func112 rfl (lb rfl) fun F ρ w => ?_
  refine tQ <| tG <| sm 1 rfl <| nL <| tQ <| tG <| sm 3 rfl ?_
  refine wS 5 rfl (fun hb5 => ?_) fun hb5 => ?_
  ·refine sm 4 rfl <| nL <| tRt <| rOk rfl ?_ nPo
   first | (simp_all [z2v]; done) | (simp_all [z2v]; omega)
  refine sm 4 rfl <| nL <| tRt <| rOk rfl ?_ nPo
  first | (simp_all [z2v]; done) | (simp_all [z2v]; omega)
theorem z9c (op : Int) : SC Tryz.prog 110 [iInt op] [] (fun _ => False) (.tup [iInt (z08 op).1, iInt (z08 op).2]) [] := by
  refine SC.of Tryz.func110 rfl (lb rfl) fun F ρ w => ?_
  refine tQ <| tG <| sm 2 rfl <| nL <| tQ <| tBk <| tQ <| tG <| sm 3 rfl ?_
  refine wS 7 rfl (fun hb7 => ?_) fun hb7 => ?_
  ·refine sm 8 rfl <| nL <| Tr.condT rfl <| tQ <| tG <| sm 2 rfl <| nL <| tRt <| rOk rfl ?_ nPo
   first | (simp_all [z08]; done) | (simp_all [z08]; split <;> first | omega | (simp; done))
  refine sm 4 rfl ?_
  refine wS 11 rfl (fun hb11 => ?_) fun hb11 => ?_
  ·refine sm 4 rfl <| nL <| Tr.condT rfl <| tQ <| tG <| sm 2 rfl <| nL <| tRt <| rOk rfl ?_ nPo
   first | (simp_all [z08]; done) | (simp_all [z08]; split <;> first | omega | (simp; done))
  refine sm 4 rfl <| nL ?_
  refine tC rfl (fun hc4 => ?_) fun hc4 => ?_
  ·refine tQ <| tG <| sm 2 rfl <| nL <| tRt <| rOk rfl ?_ nPo
   first | (simp_all [z08]; done) | (simp_all [z08]; split <;> first | omega | (simp; done))
  refine tQ <| tG <| sm 3 rfl ?_
  refine wS 18 rfl (fun hb18 => ?_) fun hb18 => ?_
  ·refine sm 4 rfl <| nL <| Tr.condT rfl <| tQ <| tG <| sm 2 rfl <| nL <| tRt <| rOk rfl ?_ nPo
   first | (simp_all [z08]; done) | (simp_all [z08]; split <;> first | omega | (simp; done))
  refine sm 4 rfl <| nL ?_
  refine tC rfl (fun hc15 => ?_) fun hc15 => ?_
  ·refine tQ <| tG <| sm 2 rfl <| nL <| tRt <| rOk rfl ?_ nPo
   first | (simp_all [z08]; done) | (simp_all [z08]; split <;> first | omega | (simp; done))
  refine tQ <| tG <| sm 3 rfl ?_
  refine wS 25 rfl (fun hb25 => ?_) fun hb25 => ?_
  ·refine sm 4 rfl <| nL ?_
   refine tC rfl (fun hc22 => ?_) fun hc22 => ?_
   ·refine tQ <| tG <| sm 2 rfl <| nL <| tRt <| rOk rfl ?_ nPo
    first | (simp_all [z08]; done) | (simp_all [z08]; split <;> first | omega | (simp; done))
   refine tSk <| tQ <| tG <| sm 2 rfl <| nL <| tRt <| rOk rfl ?_ nPo
   first | (simp_all [z08]; done) | (simp_all [z08]; split <;> first | omega | (simp; done))
  refine sm 4 rfl <| nL <| Tr.condF rfl <| tSk <| tQ <| tG <| sm 2 rfl <| nL <| tRt <| rOk rfl ?_ nPo
  first | (simp_all [z08]; done) | (simp_all [z08]; split <;> first | omega | (simp; done))
theorem z57 (u : Un) (f : Fl) (set : List Bool) (l : List Int) (hb : l.length <= 1073741824) : SC Tryz.prog 95 [.ptr 3 0, .pv (ints l)] (ckHp u f 4 set) (fun k => k < 100) (.pv (ints (r8of f.types l))) (ckHp u f 4 set) := by
  refine SC.of Tryz.func95 rfl (lb rfl) fun F ρ w => ?_
  refine Tr.lenOf (t := 1) rfl (fun hl => ?_)
  simp only [List.length_map] at hl
  rw [y1n]
  refine tQ <| tG <| sm 1 rfl <| nL <| tQ <| tG <| sm 1 rfl <| nL <| tQ <| tQ <| tG <| sm 1 rfl ?_
  refine nL <| tBk <| Tr.grow (t := 5) (k := 105) ⟨3, 1⟩ rfl rfl rfl rfl rfl <| Tr.sub (Sub.of (fr' := [(6, iInt 0), (5, .sl 105 0), (0, .ptr 3 0), (1, .pv (ints l))]) ⟨rfl, rfl, rfl, rfl, trivial⟩) ?_
  refine Tr.loop (fun fr σ m => ∃ (k : Nat) (st : List Int), (k <= l.length) /\ (st.length = k) /\ (z52 f.types [] l = z52 f.types st (l.drop k)) /\ fr = [(6, iInt k), (5, .sl 105 k), (0, .ptr 3 0), (1, .pv (ints l))] /\ σ = look ((105, some (.row ⟨3, 1⟩ (st.map eInt))) :: up (ckHp u f 4 set)) /\ m = l.length - k) (n := l.length - 0) ?_ ?_
  ·exact ⟨0, [], Nat.zero_le _, rfl, rfl, rfl, rfl, rfl⟩
  rintro fr σ m ⟨k, st, hI0, hI1, hI2, rfl, rfl, rfl⟩
  refine tQ <| tQ <| tG <| sm 2 rfl <| cV rfl (oSm uT35 rfl) <| sm 1 rfl <| nL ?_
  refine tC rfl (fun hc10 => ?_) fun hc10 => ?_
  ·have hlt : k < l.length := by simpa using hc10
   have hd := List.drop_eq_getElem_cons hlt
   have hm := List.getElem_mem hlt
   have hi := z0c (f := eInt) (List.getElem?_eq_getElem hlt)
   generalize l[k] = x at hd hm hi
   refine tSk <| tQ <| tBk <| tQ <| tQ <| Tr.still z15 kR0 rfl <| smS 2 rfl <| sV rfl (iSq rfl rfl rfl uT35 hi tS3 rfl (by rfl)) <| smS 3 rfl ?_
   refine WS.split (t := 18) rfl (fun hb18 => ?_) (fun hb18 => ?_)
   ·refine smS 12 rfl <| WS.nil <| Tr.condT rfl <| tQ <| tG <| sm 1 rfl <| nL <| tRt ?_
    have hin : z6e f.types x = false := by simp [z6e] at *; omega
    rw [hI2, hd]
    simp only [z52, hin]
    exact ⟨⟨_, rfl, fun _ _ _ _ h => z37 h⟩, (po2 rfl rfl)⟩
   refine smS 2 rfl <| syV rfl rfl (iSq rfl rfl rfl uT35 hi tS3 rfl (by rfl)) <| smS 2 rfl <| syV rfl rfl (nCk rfl rfl rfl) <| smS 3 rfl <| syV rfl rfl (oSm uT35 rfl) <| smS 2 rfl <| WS.nil ?_
   refine tC rfl (fun hc30 => ?_) fun hc30 => ?_
   ·refine tQ <| tG <| sm 1 rfl <| nL <| tRt ?_
    have hin : z6e f.types x = false := by simp [z6e] at *; omega
    rw [hI2, hd]
    simp only [z52, hin]
    exact ⟨⟨_, rfl, fun _ _ _ _ h => z37 h⟩, (po2 rfl rfl)⟩
   have hv0 : x.toNat < f.types.length := by simp at *; omega
   have hvx : x = ((x.toNat : Nat) : Int) := by simp at *; omega
   have hin : z6e f.types x = true := by simp [z6e]; omega
   have hty : (f.types.map eInt)[x.toNat]? = some [vInt (f.types.getD x.toNat 0)] := by rw [List.getElem?_map]; simp [eInt, List.getD, hv0]
   refine tSk <| tDr z15 (fun k => k < 100) <| wR 3 [0, 1, 2, 3, 4, 5, 6, 7, 8, 9, 10, 11] kR0 h30 <| smR 2 rfl <| rV rfl rfl (nCk rfl rfl rfl) <| smR 2 rfl <| rV rfl rfl (oLb uT35 rfl rfl rfl dC0) <| smR 2 rfl <| rV rfl rfl (iSq rfl rfl rfl uT35 (by assumption) tS3 rfl (by rfl)) <| smR 1 rfl <| rV rfl rfl (iSq rfl rfl rfl uT35 hty tS3 rfl oM0) <| smR 1 rfl ?_
   refine nR <| wO 12 kR0 <| wI rfl rfl (fun k (h : _) => h) nw (fun _ _ => bSl rfl rfl uT35 tZ3 tS3 rfl rfl rfl rfl (fbk rfl) rfl) <| wO 13 kR0 ?_
   refine wI rfl rfl (fun k (h : _) => h) (nOl rfl) (fun _ _ => aPp rfl rfl rfl rfl (by (simp; omega)) sI0 uT35 tB3 dC0 (by simp [z09]) (by (simp [z09, PV.one]; rfl)) (by simp [maxLen, z09]; omega) (by simp [z09]; omega)) ?_
   refine wR 0 [14] kR0 h30 <| smR 1 rfl <| nR <| wDn kR0 <| tG <| sm 1 rfl <| cV rfl (oB rfl rfl (z05 rfl oM0)) <| sm 1 rfl <| nL ?_
   refine ⟨_, _, ?_, Sub.of (fr' := [(6, iInt (k + 1)), (5, .sl 105 (k + 1)), (0, .ptr 3 0), (1, .pv (ints l))]) ⟨rfl, rfl, rfl, rfl, trivial⟩, (k + 1), (st ++ [f.types.getD x.toNat 0]), ?_, ?_, ?_, rfl, zi1, rfl⟩
   ·omega
   ·omega
   ·simp [hI1]
   rw [hI2, hd]
   simp [z52, hin]
  refine tEx <| tQ ?_
  refine Tr.freeze (t := 5) (k := 105) rfl rfl (by simpa using hI1) ?_
  refine tG <| sm 2 rfl <| nL <| tRt <| rOk rfl ?_ (po2 rfl rfl)
  have hge : l.length <= k := by simpa using hc10
  rw [hI2, List.drop_eq_nil_of_le hge]
  rfl
def andS (b : Bool) (set : List Bool) (r : Bool × List Bool) : Bool × List Bool := if b then r else (false, set)
def z0k (u : Un) (f : Fl) (set : List Bool) (x : Nd) (seen : List Int) : Bool × List Bool :=
  if decide (z0a x.name u.flows 0 ≥ 0) = true then
    match u.flows[(z0a x.name u.flows 0).toNat]? with
    | some g => andS (z0h f.types seen x.args (g.types.take g.params.toNat)) set (z0j f.types set x.outs [g.ty])
    | none => (false, set)
  else (false, set)
def z01 (u : Un) (f : Fl) (set : List Bool) (x : Nd) (seen : List Int) (w : Wh) : Bool × List Bool :=
  if x.kind == 1 then andS (z0h f.types seen x.args []) set (z0j f.types set x.outs [1])
  else if x.kind == 2 then andS ((x.n == 0 || x.n == 1) && z0h f.types seen x.args []) set (z0j f.types set x.outs [2])
  else if x.kind == 3 then andS (z24 x.op && z0h f.types seen x.args [(z08 x.op).1]) set (z0j f.types set x.outs [(z08 x.op).2])
  else if x.kind == 4 then andS (z2v x.op && z0h f.types seen x.args [(z08 x.op).1, (z08 x.op).1] && f.types.getD (x.args.getD 0 0).toNat 0 == f.types.getD (x.args.getD 1 0).toNat 0) set (z0j f.types set x.outs [(z08 x.op).2])
  else if x.kind == 5 then andS (decide (z1h x.name u.arrays 0 ≥ 0) && z0h f.types seen x.args [1]) set (z0j f.types set x.outs [1])
  else if x.kind == 6 then (decide (z1h x.name u.arrays 0 ≥ 0) && z0h f.types seen x.args [1, 1] && (x.outs.length : Int) == 0, set)
  else if x.kind == 7 then z0k u f set x seen
  else if x.kind == 8 then andS ((x.args.length : Int) == 0) set (z0j f.types set x.outs [1])
  else if x.kind == 9 then (z0h f.types seen x.args [1] && (x.outs.length : Int) == 0, set)
  else if x.kind == 12 then (w.If && z0h f.types seen x.args w.Yield && (x.outs.length : Int) == 0, set)
  else if x.kind == 13 then (w.Loop && z0h f.types seen x.args w.Next && (x.outs.length : Int) == 0, set)
  else if x.kind == 14 then (w.Loop && z0h f.types seen x.args w.Left && (x.outs.length : Int) == 0, set)
  else if x.kind == 15 then (z0h f.types seen x.args [f.ty] && (x.outs.length : Int) == 0, set)
  else (false, set)
theorem z9a (name : ByteArray) : ∀ (l : List Fl) (i : Int), z0a name l i ≠ -1 -> i ≥ 0 -> i <= z0a name l i /\ ∃ g, l[(z0a name l i - i).toNat]? = some g /\ eqS g.name name = true
  | [], i, h, _ => absurd rfl h
  | g :: r, i, h, h0 => by
    simp only [z0a] at h ⊢
    split
    ·rename_i hq
     exact ⟨Int.le_refl _, g, by simp, hq⟩
    rename_i hq
    rw [if_neg hq] at h
    obtain ⟨h1, g', h2, h3⟩ := z9a name r (i + 1) h oM0
    refine ⟨by omega, g', ?_, h3⟩
    rw [show (z0a name r (i + 1) - i).toNat = (z0a name r (i + 1) - (i + 1)).toNat + 1 by omega]
    simpa using h2
theorem z5d {name : ByteArray} {l : List Fl} (h : z0a name l 0 ≥ 0) : ∃ g, l[(z0a name l 0).toNat]? = some g /\ eqS g.name name = true := by
  obtain ⟨_, g, h2, h3⟩ := z9a name l 0 oM0 oM0
  exact ⟨g, by simpa using h2, h3⟩
theorem zc1 {tys seen : List Int} {v w : Int} (h : z55 tys seen v w = true) : 0 <= v /\ v.toNat < tys.length := by
  simp [z55] at h
  omega
theorem zs2 {tys seen l : List Int} {t1 t2 : Int} (h : z0h tys seen l [t1, t2] = true) : ∃ a b, l = [a, b] /\ 0 <= a /\ a.toNat < tys.length /\ 0 <= b /\ b.toNat < tys.length := by
  match l with
  | [] => simp [z0h] at h
  | [a] => simp [z0h] at h
  | [a, b] =>
    simp [z0h, z17] at h
    have h1 := zc1 h.1
    have h2 := zc1 h.2
    exact ⟨a, b, rfl, h1.1, h1.2, h2.1, h2.2⟩
  | a :: b :: c :: r => simp [z0h] at h; omega
theorem zt0 (u : Un) (f : Fl) (set : List Bool) (hs : set.length = f.types.length) (hg : ∀ g ∈ u.flows, 0 <= g.params /\ g.params <= g.types.length) (x : Nd) (seen : List Int) (wh : Wh) : SC Tryz.prog 98 [.ptr 3 0, .pv (ndv x), .pv (ints seen), .pv (whv wh)] (ckHp u f 4 set) (fun k => k = 3) (iBool (z01 u f set x seen wh).1) (ckHp u f 4 (z01 u f set x seen wh).2) := by
  refine SC.of Tryz.func98 rfl (lb rfl) fun F ρ w => ?_
  refine tQ <| tG <| cE rfl (z13 rfl rfl) <| cE rfl (z13 rfl rfl) <| sm 1 rfl <| nL <| tQ <| tG <| cE rfl (bSl rfl rfl uT35 tZ3 tS3 rfl rfl rfl rfl (fbk rfl) rfl) <| cE rfl (bSl rfl rfl uT35 tZ3 tS3 rfl rfl rfl rfl (fbk rfl) rfl) <| sm 2 rfl <| nL ?_
  refine tQ <| tQ <| tG <| sm 2 rfl <| nL <| tBk <| tQ <| tG <| sm 2 rfl <| nL ?_
  refine tC rfl (fun hc20 => ?_) fun hc20 => ?_
  ·refine tQ <| tG <| sm 4 rfl <| cE rfl (z1w (z19 u f set x.args seen []) z65 rfl rfl (sSm rfl (sSm rfl (sSm rfl (Subs.cons (fun _ _ _ _ h => z37 h) Subs.nil)))) (po2 rfl rfl) rfl (fun _ _ => trivial) rfl rfl) <| sm 1 rfl ?_
   refine wS 27 rfl (fun hb27 => ?_) fun hb27 => ?_
   ·refine sm 4 rfl <| WL.yes rfl rfl rfl rfl rfl rfl (z1w (z1b u f set x.outs [1] hs) z54 rfl rfl (sRf _ _) (po2 rfl rfl) rfl (fun k (h : _) => h) rfl rfl) <| sm 2 rfl <| nL <| tRt ?_
    (have h2 : (z01 u f set x seen wh).2 = (z0j f.types set x.outs [1]).2 := (by (try clear hkn hgp); simp_all [z01, andS, z0k]; done)
     rw [h2]
     refine rOk rfl ?_ (po2 rfl rfl)
     clear h2
     try (clear hkn hgp)
     simp_all [z01, andS, z0k]
     done)
   refine sm 7 rfl <| nL <| tRt ?_
   (have h2 : (z01 u f set x seen wh).2 = set := (by (try clear hkn hgp); simp_all [z01, andS, z0k]; done)
    rw [h2]
    refine rOk rfl ?_ (po2 rfl rfl)
    clear h2
    try (clear hkn hgp)
    simp_all [z01, andS, z0k]
    done)
  refine tQ <| tG <| sm 2 rfl <| nL ?_
  refine tC rfl (fun hc34 => ?_) fun hc34 => ?_
  ·refine tQ <| tG <| sm 4 rfl ?_
   refine wS 39 rfl (fun hb39 => ?_) fun hb39 => ?_
   ·refine sm 9 rfl <| WL.yes rfl rfl rfl rfl rfl rfl (z1w (z19 u f set x.args seen []) z65 rfl rfl (sSm rfl (sSm rfl (sSm rfl (Subs.cons (fun _ _ _ _ h => z37 h) Subs.nil)))) (po2 rfl rfl) rfl (fun _ _ => trivial) rfl rfl) <| sm 2 rfl ?_
    refine wS 51 rfl (fun hb51 => ?_) fun hb51 => ?_
    ·refine sm 4 rfl <| WL.yes rfl rfl rfl rfl rfl rfl (z1w (z1b u f set x.outs [2] hs) z54 rfl rfl (sRf _ _) (po2 rfl rfl) rfl (fun k (h : _) => h) rfl rfl) <| sm 2 rfl <| nL <| tRt ?_
     (have h2 : (z01 u f set x seen wh).2 = (z0j f.types set x.outs [2]).2 := (by (try clear hkn hgp); simp_all [z01, andS, z0k]; done)
      rw [h2]
      refine rOk rfl ?_ (po2 rfl rfl)
      clear h2
      try (clear hkn hgp)
      simp_all [z01, andS, z0k]
      done)
    refine sm 7 rfl <| nL <| tRt ?_
    (have h2 : (z01 u f set x seen wh).2 = set := (by (try clear hkn hgp); simp_all [z01, andS, z0k]; done)
     rw [h2]
     refine rOk rfl ?_ (po2 rfl rfl)
     clear h2
     try (clear hkn hgp)
     simp_all [z01, andS, z0k]
     done)
   refine sm 5 rfl ?_
   refine wS 44 rfl (fun hb44 => ?_) fun hb44 => ?_
   ·refine sm 4 rfl <| WL.yes rfl rfl rfl rfl rfl rfl (z1w (z19 u f set x.args seen []) z65 rfl rfl (sSm rfl (sSm rfl (sSm rfl (Subs.cons (fun _ _ _ _ h => z37 h) Subs.nil)))) (po2 rfl rfl) rfl (fun _ _ => trivial) rfl rfl) <| sm 2 rfl ?_
    refine wS 51 rfl (fun hb51 => ?_) fun hb51 => ?_
    ·refine sm 4 rfl <| WL.yes rfl rfl rfl rfl rfl rfl (z1w (z1b u f set x.outs [2] hs) z54 rfl rfl (sRf _ _) (po2 rfl rfl) rfl (fun k (h : _) => h) rfl rfl) <| sm 2 rfl <| nL <| tRt ?_
     (have h2 : (z01 u f set x seen wh).2 = (z0j f.types set x.outs [2]).2 := (by (try clear hkn hgp); simp_all [z01, andS, z0k]; done)
      rw [h2]
      refine rOk rfl ?_ (po2 rfl rfl)
      clear h2
      try (clear hkn hgp)
      simp_all [z01, andS, z0k]
      done)
    refine sm 7 rfl <| nL <| tRt ?_
    (have h2 : (z01 u f set x seen wh).2 = set := (by (try clear hkn hgp); simp_all [z01, andS, z0k]; done)
     rw [h2]
     refine rOk rfl ?_ (po2 rfl rfl)
     clear h2
     try (clear hkn hgp)
     simp_all [z01, andS, z0k]
     done)
   refine sm 14 rfl <| nL <| tRt ?_
   (have h2 : (z01 u f set x seen wh).2 = set := (by (try clear hkn hgp); simp_all [z01, andS, z0k]; done)
    rw [h2]
    refine rOk rfl ?_ (po2 rfl rfl)
    clear h2
    try (clear hkn hgp)
    simp_all [z01, andS, z0k]
    done)
  refine tQ <| tG <| sm 2 rfl <| nL ?_
  refine tC rfl (fun hc58 => ?_) fun hc58 => ?_
  ·refine tQ <| tG <| sm 2 rfl <| cE rfl (ocq (z9c _) ent110 rfl rfl) <| sm 1 rfl <| cV rfl (z0d rfl rfl rfl) <| cV rfl (z0d rfl rfl rfl) <| sm 2 rfl <| nL <| tQ <| tG <| sm 2 rfl ?_
   refine cE rfl (ocq (zz7 _) ent111 rfl rfl) <| sm 1 rfl ?_
   refine wS 69 rfl (fun hb69 => ?_) fun hb69 => ?_
   ·refine sm 5 rfl <| WL.yes rfl rfl rfl rfl rfl rfl (bSl rfl rfl uT35 tZ3 tS3 rfl rfl rfl rfl (fbk rfl) rfl) <| WL.yes rfl rfl rfl rfl rfl rfl (z1w (z19 u f set x.args seen [(z08 x.op).1]) z65 rfl rfl (sRf _ _) (po2 rfl rfl) rfl (fun _ _ => trivial) rfl rfl) <| sm 2 rfl ?_
    refine wS 78 rfl (fun hb78 => ?_) fun hb78 => ?_
    ·refine sm 4 rfl <| WL.yes rfl rfl rfl rfl rfl rfl (bSl rfl rfl uT35 tZ3 tS3 rfl rfl rfl rfl (fbk rfl) rfl) <| WL.yes rfl rfl rfl rfl rfl rfl (z1w (z1b u f set x.outs [(z08 x.op).2] hs) z54 rfl rfl (sRf _ _) (po2 rfl rfl) rfl (fun k (h : _) => h) rfl rfl) <| sm 2 rfl <| nL <| tRt ?_
     (have h2 : (z01 u f set x seen wh).2 = (z0j f.types set x.outs [(z08 x.op).2]).2 := (by (try clear hkn hgp); simp_all [z01, andS, z0k]; done)
      rw [h2]
      refine rOk rfl ?_ (po2 rfl rfl)
      clear h2
      try (clear hkn hgp)
      simp_all [z01, andS, z0k]
      done)
    refine sm 8 rfl <| nL <| tRt ?_
    (have h2 : (z01 u f set x seen wh).2 = set := (by (try clear hkn hgp); simp_all [z01, andS, z0k]; done)
     rw [h2]
     refine rOk rfl ?_ (po2 rfl rfl)
     clear h2
     try (clear hkn hgp)
     simp_all [z01, andS, z0k]
     done)
   refine sm 17 rfl <| nL <| tRt ?_
   (have h2 : (z01 u f set x seen wh).2 = set := (by (try clear hkn hgp); simp_all [z01, andS, z0k]; done)
    rw [h2]
    refine rOk rfl ?_ (po2 rfl rfl)
    clear h2
    try (clear hkn hgp)
    simp_all [z01, andS, z0k]
    done)
  refine tQ <| tG <| sm 2 rfl <| nL ?_
  refine tC rfl (fun hc86 => ?_) fun hc86 => ?_
  ·refine tQ <| tG <| sm 2 rfl <| cE rfl (ocq (z9c _) ent110 rfl rfl) <| sm 1 rfl <| cV rfl (z0d rfl rfl rfl) <| cV rfl (z0d rfl rfl rfl) <| sm 2 rfl <| nL <| tQ <| tDr z15 (fun k => k ∈ ([3] : List Nat)) <| wR 45 [0, 1] kR0 h30 ?_
   refine smR 2 rfl <| nR <| wO 2 kR0 <| wI rfl rfl (fun k (h : _) => by (simp at h ⊢; omega)) nw (fun _ _ => ocq (zz8 _) ent112 rfl rfl) <| wR 37 [3, 4, 5, 6, 7, 8, 9] kR0 h30 <| smR 1 rfl ?_
   refine WR.split (t := 97) rfl (fun hb97 => ?_) (fun hb97 => ?_)
   ·refine smR 6 rfl <| nR <| wO 10 kR0 <| wY rfl rfl rfl (fun k (h : _) => by (simp at h ⊢; omega)) nw (fun _ _ => bSl rfl rfl uT35 tZ3 tS3 rfl rfl rfl rfl (fbk rfl) rfl) <| wO 11 kR0 <| wY rfl rfl rfl (fun k (h : _) => by (simp at h ⊢; omega)) (nAp rfl) (fun _ _ => z1w (z19 u f set x.args seen [(z08 x.op).1, (z08 x.op).1]) z65 rfl rfl (sRf _ _) (po2 rfl rfl) rfl (fun _ _ => trivial) rfl rfl) <| wR 4 [12, 13, 14, 15, 16, 17, 18, 19, 20, 21, 22, 23, 24, 25, 26, 27, 28, 29, 30, 31, 32, 33, 34, 35, 36, 37, 38, 39, 40, 41, 42] kR0 h30 <| smR 2 rfl ?_
    refine WR.split (t := 107) rfl (fun hb107 => ?_) (fun hb107 => ?_)
    ·obtain ⟨a, b, hab, ha0, hal, hb0, hbl⟩ := zs2 (by simpa using hb107)
     have hi0 : (x.args.map eInt)[0]? = some [vInt a] := by rw [hab]; rfl
     have hi1 : (x.args.map eInt)[1]? = some [vInt b] := by rw [hab]; rfl
     have hta : (f.types.map eInt)[a.toNat]? = some [vInt (f.types.getD a.toNat 0)] := by rw [List.getElem?_map]; simp [eInt, List.getD, hal]
     have htb : (f.types.map eInt)[b.toNat]? = some [vInt (f.types.getD b.toNat 0)] := by rw [List.getElem?_map]; simp [eInt, List.getD, hbl]
     refine smR 1 rfl <| ryV rfl rfl rfl (nCk rfl rfl rfl) <| smR 2 rfl <| ryV rfl rfl rfl (oLb uT35 rfl rfl rfl dC0) <| smR 2 rfl <| ryV rfl rfl rfl (iSq rfl rfl rfl uT35 hi0 tS3 rfl (by rfl)) <| smR 1 rfl <| ryV rfl rfl rfl (iSq rfl rfl rfl uT35 hta tS3 rfl oM0) <| smR 2 rfl <| ryV rfl rfl rfl (nCk rfl rfl rfl) <| smR 2 rfl <| ryV rfl rfl rfl (oLb uT35 rfl rfl rfl dC0) ?_
     refine smR 2 rfl <| ryV rfl rfl rfl (iSq rfl rfl rfl uT35 hi1 tS3 rfl (by rfl)) <| smR 1 rfl <| ryV rfl rfl rfl (iSq rfl rfl rfl uT35 htb tS3 rfl oM0) <| smR 4 rfl ?_
     refine WR.split (t := 132) rfl (fun hb132 => ?_) (fun hb132 => ?_)
     ·refine smR 4 rfl <| nR <| wO 43 kR0 <| wY rfl rfl rfl (fun k (h : _) => by (simp at h ⊢; omega)) nw (fun _ _ => bSl rfl rfl uT35 tZ3 tS3 rfl rfl rfl rfl (fbk rfl) rfl) <| wO 44 kR0 <| wY rfl rfl rfl (fun k (h : _) => by (simp at h ⊢; omega)) (nAp rfl) (fun _ _ => z1w (z1b u f set x.outs [(z08 x.op).2] hs) z54 rfl rfl (sRf _ _) (po2 rfl rfl) rfl (fun k (h : _) => by (simpa using h)) rfl rfl) <| wR 0 [45, 46] kR0 h30 <| smR 2 rfl <| nR <| wDn kR0 <| tRt ?_
      (have h2 : (z01 u f set x seen wh).2 = (z0j f.types set x.outs [(z08 x.op).2]).2 := (by (try clear hkn hgp); simp_all [z01, andS, z0k]; done)
       rw [h2]
       refine rOk rfl ?_ (po2 rfl rfl)
       clear h2
       try (clear hkn hgp)
       simp_all [z01, andS, z0k]
       done)
     refine smR 4 rfl <| nR <| wN 43 kR0 h30 rfl rfl rfl <| wN 44 kR0 h30 rfl rfl rfl <| wR 0 [45, 46] kR0 h30 <| smR 2 rfl <| nR <| wDn kR0 <| tRt ?_
     (have h2 : (z01 u f set x seen wh).2 = set := (by (try clear hkn hgp); simp_all [z01, andS, z0k]; done)
      rw [h2]
      refine rOk rfl ?_ (po2 rfl rfl)
      clear h2
      try (clear hkn hgp)
      simp_all [z01, andS, z0k]
      done)
    refine smR 29 rfl <| nR <| wN 43 kR0 h30 rfl rfl rfl <| wN 44 kR0 h30 rfl rfl rfl <| wR 0 [45, 46] kR0 h30 <| smR 2 rfl <| nR <| wDn kR0 <| tRt ?_
    (have h2 : (z01 u f set x seen wh).2 = set := (by (try clear hkn hgp); simp_all [z01, andS, z0k]; done)
     rw [h2]
     refine rOk rfl ?_ (po2 rfl rfl)
     clear h2
     try (clear hkn hgp)
     simp_all [z01, andS, z0k]
     done)
   refine smR 6 rfl <| nR <| wN 10 kR0 h30 rfl rfl rfl <| wN 11 kR0 h30 rfl rfl rfl <| wR 4 [12, 13, 14, 15, 16, 17, 18, 19, 20, 21, 22, 23, 24, 25, 26, 27, 28, 29, 30, 31, 32, 33, 34, 35, 36, 37, 38, 39, 40, 41, 42] kR0 h30 <| smR 31 rfl <| nR <| wN 43 kR0 h30 rfl rfl rfl <| wN 44 kR0 h30 rfl rfl rfl <| wR 0 [45, 46] kR0 h30 <| smR 2 rfl <| nR ?_
   refine wDn kR0 <| tRt ?_
   (have h2 : (z01 u f set x seen wh).2 = set := (by (try clear hkn hgp); simp_all [z01, andS, z0k]; done)
    rw [h2]
    refine rOk rfl ?_ (po2 rfl rfl)
    clear h2
    try (clear hkn hgp)
    simp_all [z01, andS, z0k]
    done)
  refine tQ <| tG <| sm 2 rfl <| nL ?_
  refine tC rfl (fun hc140 => ?_) fun hc140 => ?_
  ·refine tQ <| tDr z15 (fun k => k ∈ ([3] : List Nat)) <| wR 18 [0, 1, 2, 3, 4, 5] kR0 h30 <| smR 1 rfl <| rV rfl rfl (nCk rfl rfl rfl) <| smR 1 rfl <| rV rfl rfl (lBP rfl rfl rfl uT25 rfl tS25 (lb rfl) rfl dC0) <| smR 2 rfl <| nR <| wO 6 kR0 <| wI rfl rfl (fun k (h : _) => by (simp at h ⊢; omega)) nw (fun _ _ => ocq (z6z _ _) ent48 rfl rfl) <| wR 10 [7, 8, 9, 10, 11, 12, 13] kR0 h30 ?_
   refine smR 2 rfl ?_
   refine WR.split (t := 150) rfl (fun hb150 => ?_) (fun hb150 => ?_)
   ·refine smR 5 rfl <| nR <| wO 14 kR0 <| wY rfl rfl rfl (fun k (h : _) => by (simp at h ⊢; omega)) (nAp rfl) (fun _ _ => z1w (z19 u f set x.args seen [1]) z65 rfl rfl (sRf _ _) (po2 rfl rfl) rfl (fun _ _ => trivial) rfl rfl) <| wR 3 [15, 16, 17, 18, 19, 20] kR0 h30 <| smR 2 rfl ?_
    refine WR.split (t := 158) rfl (fun hb158 => ?_) (fun hb158 => ?_)
    ·refine smR 4 rfl <| nR <| wO 21 kR0 <| wY rfl rfl rfl (fun k (h : _) => by (simp at h ⊢; omega)) (nAp rfl) (fun _ _ => z1w (z1b u f set x.outs [1] hs) z54 rfl rfl (sRf _ _) (po2 rfl rfl) rfl (fun k (h : _) => by (simpa using h)) rfl rfl) <| wR 0 [22, 23] kR0 h30 <| smR 2 rfl <| nR <| wDn kR0 <| tRt ?_
     (have h2 : (z01 u f set x seen wh).2 = (z0j f.types set x.outs [1]).2 := (by (try clear hkn hgp); simp_all [z01, andS, z0k]; done)
      rw [h2]
      refine rOk rfl ?_ (po2 rfl rfl)
      clear h2
      try (clear hkn hgp)
      simp_all [z01, andS, z0k]
      done)
    refine smR 4 rfl <| nR <| wN 21 kR0 h30 rfl rfl rfl <| wR 0 [22, 23] kR0 h30 <| smR 2 rfl <| nR <| wDn kR0 <| tRt ?_
    (have h2 : (z01 u f set x seen wh).2 = set := (by (try clear hkn hgp); simp_all [z01, andS, z0k]; done)
     rw [h2]
     refine rOk rfl ?_ (po2 rfl rfl)
     clear h2
     try (clear hkn hgp)
     simp_all [z01, andS, z0k]
     done)
   refine smR 5 rfl <| nR <| wN 14 kR0 h30 rfl rfl rfl <| wR 3 [15, 16, 17, 18, 19, 20] kR0 h30 <| smR 6 rfl <| nR <| wN 21 kR0 h30 rfl rfl rfl <| wR 0 [22, 23] kR0 h30 <| smR 2 rfl <| nR <| wDn kR0 <| tRt ?_
   (have h2 : z01 u f set x seen wh = (false, set) := (by unfold z01 z0k andS; simp only [*]; simp)
    rw [h2]
    exact rOk rfl rfl (po2 rfl rfl))
  refine tQ <| tG <| sm 2 rfl <| nL ?_
  refine tC rfl (fun hc165 => ?_) fun hc165 => ?_
  ·refine tQ <| tDr z15 (fun k => k ∈ ([3] : List Nat)) <| wR 17 [0, 1, 2, 3, 4, 5] kR0 h30 <| smR 1 rfl <| rV rfl rfl (nCk rfl rfl rfl) <| smR 1 rfl <| rV rfl rfl (lBP rfl rfl rfl uT25 rfl tS25 (lb rfl) rfl dC0) <| smR 2 rfl <| nR <| wO 6 kR0 <| wI rfl rfl (fun k (h : _) => by (simp at h ⊢; omega)) nw (fun _ _ => ocq (z6z _ _) ent48 rfl rfl) <| wR 10 [7, 8, 9, 10, 11, 12] kR0 h30 ?_
   refine smR 2 rfl ?_
   refine WR.split (t := 175) rfl (fun hb175 => ?_) (fun hb175 => ?_)
   ·refine smR 4 rfl <| nR <| wO 13 kR0 <| wY rfl rfl rfl (fun k (h : _) => by (simp at h ⊢; omega)) nw (fun _ _ => bSl rfl rfl uT35 tZ3 tS3 rfl rfl rfl rfl (fbk rfl) rfl) <| wO 14 kR0 <| wY rfl rfl rfl (fun k (h : _) => by (simp at h ⊢; omega)) (nAp rfl) (fun _ _ => z1w (z19 u f set x.args seen [1, 1]) z65 rfl rfl (sRf _ _) (po2 rfl rfl) rfl (fun _ _ => trivial) rfl rfl) <| wR 0 [15, 16, 17, 18, 19, 20, 21, 22] kR0 h30 <| smR 2 rfl ?_
    refine WR.split (t := 183) rfl (fun hb183 => ?_) (fun hb183 => ?_)
    ·refine smR 2 rfl <| ryV rfl rfl rfl (oSm uT35 rfl) <| smR 3 rfl <| nR <| wDn kR0 <| tRt ?_
     (have h2 : (z01 u f set x seen wh).2 = set := (by (try clear hkn hgp); simp_all [z01, andS, z0k]; done)
      rw [h2]
      refine rOk rfl ?_ (po2 rfl rfl)
      clear h2
      try (clear hkn hgp)
      simp_all [z01, andS, z0k]
      done)
    refine smR 6 rfl <| nR <| wDn kR0 <| tRt ?_
    (have h2 : (z01 u f set x seen wh).2 = set := (by (try clear hkn hgp); simp_all [z01, andS, z0k]; done)
     rw [h2]
     refine rOk rfl ?_ (po2 rfl rfl)
     clear h2
     try (clear hkn hgp)
     simp_all [z01, andS, z0k]
     done)
   refine smR 4 rfl <| nR <| wN 13 kR0 h30 rfl rfl rfl <| wN 14 kR0 h30 rfl rfl rfl <| wR 0 [15, 16, 17, 18, 19, 20, 21, 22] kR0 h30 <| smR 8 rfl <| nR <| wDn kR0 <| tRt ?_
   (have h2 : z01 u f set x seen wh = (false, set) := (by unfold z01 z0k andS; simp only [*]; simp)
    rw [h2]
    exact rOk rfl rfl (po2 rfl rfl))
  refine tQ <| tG <| sm 2 rfl <| nL ?_
  refine tC rfl (fun hc189 => ?_) fun hc189 => ?_
  ·refine tQ <| tDr z15 (fun k => k ∈ ([3] : List Nat)) <| wR 2 [0, 1, 2, 3, 4, 5] kR0 h30 <| smR 1 rfl <| rV rfl rfl (nCk rfl rfl rfl) <| smR 1 rfl <| rV rfl rfl (lBP rfl rfl rfl uT25 rfl tS25 (lb rfl) rfl dC0) <| smR 2 rfl <| nR <| wO 6 kR0 <| wI rfl rfl (fun k (h : _) => by (simp at h ⊢; omega)) nw (fun _ _ => ocq (z49 _ _) zw7 rfl rfl) <| wR 0 [7] kR0 h30 ?_
   refine smR 1 rfl <| nR <| wDn kR0 <| tQ <| tDr z15 (fun k => k ∈ ([3] : List Nat)) <| wR 19 [0, 1, 2, 3, 4, 5, 6, 7, 8, 9, 10, 11, 12, 13, 14, 15, 16, 17, 18, 19, 20, 21, 22, 23, 24, 25] kR0 h30 <| smR 3 rfl ?_
   refine WR.split (t := 200) rfl (fun hb200 => ?_) (fun hb200 => ?_)
   ·have hk0 : z0a x.name u.flows 0 ≥ 0 := by simpa using hb200
    obtain ⟨g, hgk, _⟩ := z5d hk0
    obtain ⟨hgp0, hgpl⟩ := hg g (List.mem_of_getElem? hgk)
    have hgp : g.params = (g.params.toNat : Int) := by omega
    have hgi : (u.flows.map Fl.enc)[(z0a x.name u.flows 0).toNat]? = some (Fl.enc g) := by rw [List.getElem?_map, hgk]; rfl
    have hkn : z0a x.name u.flows 0 = ((z0a x.name u.flows 0).toNat : Int) := by omega
    refine smR 5 rfl <| ryV rfl rfl rfl (nCk rfl rfl rfl) <| smR 2 rfl <| ryV rfl rfl rfl (oLb uT23 rfl rfl rfl dC0) <| smR 1 rfl <| ryV rfl rfl rfl (iSq rfl rfl rfl uT23 hgi tS51 rfl oM0) <| smR 3 rfl <| ryV rfl rfl rfl (nCk rfl rfl rfl) <| smR 2 rfl <| ryV rfl rfl rfl (oLb uT23 rfl rfl rfl dC0) <| smR 1 rfl <| ryV rfl rfl rfl (iSq rfl rfl rfl uT23 hgi tS51 rfl oM0) ?_
    refine smR 2 rfl ?_
    refine ryV rfl rfl rfl (z50 (j := g.params.toNat) rfl rfl uT35 tS3 (.inl ⟨rfl, rfl⟩) (.inr ⟨_, _, rfl, congrArg (fun z => some (IV.pv (.val (.int .i64 z)))) hgp⟩) (Nat.zero_le _) (by simp; omega) (by simp [eInt])) ?_
    refine nR <| wO 26 kR0 ?_
    refine wY rfl rfl rfl (fun k (h : _) => by (simp at h ⊢; omega)) (nAp rfl) (fun _ _ => z1w (z19 u f set x.args seen (g.types.take g.params.toNat)) z65 rfl rfl (sSm rfl (sSm rfl (sSm rfl (sSm (by simp [ints, List.map_take]) Subs.nil)))) (po2 rfl rfl) rfl (fun _ _ => trivial) rfl rfl) ?_
    refine wR 4 [27, 28, 29, 30, 31, 32, 33, 34, 35, 36, 37, 38, 39, 40] kR0 h30 <| smR 2 rfl ?_
    refine WR.split (t := 226) rfl (fun hb226 => ?_) (fun hb226 => ?_)
    ·refine smR 4 rfl <| ryV rfl rfl rfl (nCk rfl rfl rfl) <| smR 2 rfl <| ryV rfl rfl rfl (oLb uT23 rfl rfl rfl dC0) <| smR 1 rfl <| ryV rfl rfl rfl (iSq rfl rfl rfl uT23 hgi tS51 rfl oM0) <| smR 2 rfl <| nR <| wO 41 kR0 <| wY rfl rfl rfl (fun k (h : _) => by (simp at h ⊢; omega)) nw (fun _ _ => bSl rfl rfl uT35 tZ3 tS3 rfl rfl rfl rfl (fbk rfl) rfl) <| wO 42 kR0 <| wY rfl rfl rfl (fun k (h : _) => by (simp at h ⊢; omega)) (nAp rfl) (fun _ _ => z1w (z1b u f set x.outs [g.ty] hs) z54 rfl rfl (sRf _ _) (po2 rfl rfl) rfl (fun k (h : _) => by (simpa using h)) rfl rfl) ?_
     refine wR 0 [43, 44] kR0 h30 <| smR 2 rfl <| nR <| wDn kR0 <| tRt ?_
     (have h2 : (z01 u f set x seen wh).2 = (z0j f.types set x.outs [g.ty]).2 := (by (try clear hkn hgp); simp_all [z01, andS, z0k]; done)
      rw [h2]
      refine rOk rfl ?_ (po2 rfl rfl)
      clear h2
      try (clear hkn hgp)
      simp_all [z01, andS, z0k]
      done)
    refine smR 12 rfl <| nR <| wN 41 kR0 h30 rfl rfl rfl <| wN 42 kR0 h30 rfl rfl rfl <| wR 0 [43, 44] kR0 h30 <| smR 2 rfl <| nR <| wDn kR0 <| tRt ?_
    (have h2 : (z01 u f set x seen wh).2 = set := (by (try clear hkn hgp); simp_all [z01, andS, z0k]; done)
     rw [h2]
     refine rOk rfl ?_ (po2 rfl rfl)
     clear h2
     try (clear hkn hgp)
     simp_all [z01, andS, z0k]
     done)
   refine smR 23 rfl <| nR <| wN 26 kR0 h30 rfl rfl rfl <| wR 4 [27, 28, 29, 30, 31, 32, 33, 34, 35, 36, 37, 38, 39, 40] kR0 h30 <| smR 14 rfl <| nR <| wN 41 kR0 h30 rfl rfl rfl <| wN 42 kR0 h30 rfl rfl rfl <| wR 0 [43, 44] kR0 h30 <| smR 2 rfl <| nR <| wDn kR0 ?_
   refine tRt ?_
   (have h2 : z01 u f set x seen wh = (false, set) := (by unfold z01 z0k andS; simp only [*]; simp)
    rw [h2]
    exact rOk rfl rfl (po2 rfl rfl))
  refine tQ <| tG <| sm 2 rfl <| nL ?_
  refine tC rfl (fun hc242 => ?_) fun hc242 => ?_
  ·refine tQ <| tG <| sm 2 rfl <| cV rfl (oSm uT35 rfl) <| sm 2 rfl ?_
   refine wS 248 rfl (fun hb248 => ?_) fun hb248 => ?_
   ·refine sm 4 rfl <| WL.yes rfl rfl rfl rfl rfl rfl (z1w (z1b u f set x.outs [1] hs) z54 rfl rfl (sRf _ _) (po2 rfl rfl) rfl (fun k (h : _) => h) rfl rfl) <| sm 2 rfl <| nL <| tRt ?_
    (have h2 : (z01 u f set x seen wh).2 = (z0j f.types set x.outs [1]).2 := (by (try clear hkn hgp); simp_all [z01, andS, z0k]; done)
     rw [h2]
     refine rOk rfl ?_ (po2 rfl rfl)
     clear h2
     try (clear hkn hgp)
     simp_all [z01, andS, z0k]
     done)
   refine sm 7 rfl <| nL <| tRt ?_
   (have h2 : (z01 u f set x seen wh).2 = set := (by (try clear hkn hgp); simp_all [z01, andS, z0k]; done)
    rw [h2]
    refine rOk rfl ?_ (po2 rfl rfl)
    clear h2
    try (clear hkn hgp)
    simp_all [z01, andS, z0k]
    done)
  refine tQ <| tG <| sm 2 rfl <| nL ?_
  refine tC rfl (fun hc255 => ?_) fun hc255 => ?_
  ·refine tQ <| tG <| sm 5 rfl <| cE rfl (z1w (z19 u f set x.args seen [1]) z65 rfl rfl (sRf _ _) (po2 rfl rfl) rfl (fun _ _ => trivial) rfl rfl) <| sm 1 rfl ?_
   refine wS 263 rfl (fun hb263 => ?_) fun hb263 => ?_
   ·refine sm 2 rfl <| yV rfl rfl (oSm uT35 rfl) <| sm 3 rfl <| nL <| tRt ?_
    (have h2 : (z01 u f set x seen wh).2 = set := (by (try clear hkn hgp); simp_all [z01, andS, z0k]; done)
     rw [h2]
     refine rOk rfl ?_ (po2 rfl rfl)
     clear h2
     try (clear hkn hgp)
     simp_all [z01, andS, z0k]
     done)
   refine sm 6 rfl <| nL <| tRt ?_
   (have h2 : (z01 u f set x seen wh).2 = set := (by (try clear hkn hgp); simp_all [z01, andS, z0k]; done)
    rw [h2]
    refine rOk rfl ?_ (po2 rfl rfl)
    clear h2
    try (clear hkn hgp)
    simp_all [z01, andS, z0k]
    done)
  refine tQ <| tG <| sm 2 rfl <| nL ?_
  refine tC rfl (fun hc269 => ?_) fun hc269 => ?_
  ·refine tQ <| tG <| sm 3 rfl ?_
   refine wS 273 rfl (fun hb273 => ?_) fun hb273 => ?_
   ·refine sm 6 rfl <| WL.yes rfl rfl rfl rfl rfl rfl (z1w (z19 u f set x.args seen wh.Yield) z65 rfl rfl (sRf _ _) (po2 rfl rfl) rfl (fun _ _ => trivial) rfl rfl) <| sm 2 rfl ?_
    refine wS 282 rfl (fun hb282 => ?_) fun hb282 => ?_
    ·refine sm 2 rfl <| yV rfl rfl (oSm uT35 rfl) <| sm 3 rfl <| nL <| tRt ?_
     (have h2 : (z01 u f set x seen wh).2 = set := (by (try clear hkn hgp); simp_all [z01, andS, z0k]; done)
      rw [h2]
      refine rOk rfl ?_ (po2 rfl rfl)
      clear h2
      try (clear hkn hgp)
      simp_all [z01, andS, z0k]
      done)
    refine sm 6 rfl <| nL <| tRt ?_
    (have h2 : (z01 u f set x seen wh).2 = set := (by (try clear hkn hgp); simp_all [z01, andS, z0k]; done)
     rw [h2]
     refine rOk rfl ?_ (po2 rfl rfl)
     clear h2
     try (clear hkn hgp)
     simp_all [z01, andS, z0k]
     done)
   refine sm 15 rfl <| nL <| tRt ?_
   (have h2 : (z01 u f set x seen wh).2 = set := (by (try clear hkn hgp); simp_all [z01, andS, z0k]; done)
    rw [h2]
    refine rOk rfl ?_ (po2 rfl rfl)
    clear h2
    try (clear hkn hgp)
    simp_all [z01, andS, z0k]
    done)
  refine tQ <| tG <| sm 2 rfl <| nL ?_
  refine tC rfl (fun hc288 => ?_) fun hc288 => ?_
  ·refine tQ <| tG <| sm 3 rfl ?_
   refine wS 292 rfl (fun hb292 => ?_) fun hb292 => ?_
   ·refine sm 6 rfl <| WL.yes rfl rfl rfl rfl rfl rfl (z1w (z19 u f set x.args seen wh.Next) z65 rfl rfl (sRf _ _) (po2 rfl rfl) rfl (fun _ _ => trivial) rfl rfl) <| sm 2 rfl ?_
    refine wS 301 rfl (fun hb301 => ?_) fun hb301 => ?_
    ·refine sm 2 rfl <| yV rfl rfl (oSm uT35 rfl) <| sm 3 rfl <| nL <| tRt ?_
     (have h2 : (z01 u f set x seen wh).2 = set := (by (try clear hkn hgp); simp_all [z01, andS, z0k]; done)
      rw [h2]
      refine rOk rfl ?_ (po2 rfl rfl)
      clear h2
      try (clear hkn hgp)
      simp_all [z01, andS, z0k]
      done)
    refine sm 6 rfl <| nL <| tRt ?_
    (have h2 : (z01 u f set x seen wh).2 = set := (by (try clear hkn hgp); simp_all [z01, andS, z0k]; done)
     rw [h2]
     refine rOk rfl ?_ (po2 rfl rfl)
     clear h2
     try (clear hkn hgp)
     simp_all [z01, andS, z0k]
     done)
   refine sm 15 rfl <| nL <| tRt ?_
   (have h2 : (z01 u f set x seen wh).2 = set := (by (try clear hkn hgp); simp_all [z01, andS, z0k]; done)
    rw [h2]
    refine rOk rfl ?_ (po2 rfl rfl)
    clear h2
    try (clear hkn hgp)
    simp_all [z01, andS, z0k]
    done)
  refine tQ <| tG <| sm 2 rfl <| nL ?_
  refine tC rfl (fun hc307 => ?_) fun hc307 => ?_
  ·refine tQ <| tG <| sm 3 rfl ?_
   refine wS 311 rfl (fun hb311 => ?_) fun hb311 => ?_
   ·refine sm 6 rfl <| WL.yes rfl rfl rfl rfl rfl rfl (z1w (z19 u f set x.args seen wh.Left) z65 rfl rfl (sRf _ _) (po2 rfl rfl) rfl (fun _ _ => trivial) rfl rfl) <| sm 2 rfl ?_
    refine wS 320 rfl (fun hb320 => ?_) fun hb320 => ?_
    ·refine sm 2 rfl <| yV rfl rfl (oSm uT35 rfl) <| sm 3 rfl <| nL <| tRt ?_
     (have h2 : (z01 u f set x seen wh).2 = set := (by (try clear hkn hgp); simp_all [z01, andS, z0k]; done)
      rw [h2]
      refine rOk rfl ?_ (po2 rfl rfl)
      clear h2
      try (clear hkn hgp)
      simp_all [z01, andS, z0k]
      done)
    refine sm 6 rfl <| nL <| tRt ?_
    (have h2 : (z01 u f set x seen wh).2 = set := (by (try clear hkn hgp); simp_all [z01, andS, z0k]; done)
     rw [h2]
     refine rOk rfl ?_ (po2 rfl rfl)
     clear h2
     try (clear hkn hgp)
     simp_all [z01, andS, z0k]
     done)
   refine sm 15 rfl <| nL <| tRt ?_
   (have h2 : (z01 u f set x seen wh).2 = set := (by (try clear hkn hgp); simp_all [z01, andS, z0k]; done)
    rw [h2]
    refine rOk rfl ?_ (po2 rfl rfl)
    clear h2
    try (clear hkn hgp)
    simp_all [z01, andS, z0k]
    done)
  refine tQ <| tG <| sm 2 rfl <| nL ?_
  refine tC rfl (fun hc326 => ?_) fun hc326 => ?_
  ·refine tQ <| tDr z15 (fun k => k ∈ ([3] : List Nat)) <| wR 9 [0, 1, 2, 3, 4, 5, 6, 7, 8] kR0 h30 <| smR 5 rfl <| rV rfl rfl (nCk rfl rfl rfl) <| smR 2 rfl <| rV rfl rfl (oLb uT3 rfl rfl rfl dC0) <| nR <| wO 9 kR0 <| wI rfl rfl (fun k (h : _) => by (simp at h ⊢; omega)) nw (fun _ _ => bSl rfl rfl uT35 tZ3 tS3 rfl rfl rfl rfl (fbk rfl) rfl) <| wO 10 kR0 <| wI rfl rfl (fun k (h : _) => by (simp at h ⊢; omega)) (nAp rfl) (fun _ _ => z1w (z19 u f set x.args seen [f.ty]) z65 rfl rfl (sRf _ _) (po2 rfl rfl) rfl (fun _ _ => trivial) rfl rfl) ?_
   refine wR 0 [11, 12, 13, 14, 15, 16, 17] kR0 h30 <| smR 1 rfl ?_
   refine WR.split (t := 339) rfl (fun hb339 => ?_) (fun hb339 => ?_)
   ·refine smR 2 rfl <| ryV rfl rfl rfl (oSm uT35 rfl) <| smR 3 rfl <| nR <| wDn kR0 <| tRt ?_
    (have h2 : (z01 u f set x seen wh).2 = set := (by (try clear hkn hgp); simp_all [z01, andS, z0k]; done)
     rw [h2]
     refine rOk rfl ?_ (po2 rfl rfl)
     clear h2
     try (clear hkn hgp)
     simp_all [z01, andS, z0k]
     done)
   refine smR 6 rfl <| nR <| wDn kR0 <| tRt ?_
   (have h2 : (z01 u f set x seen wh).2 = set := (by (try clear hkn hgp); simp_all [z01, andS, z0k]; done)
    rw [h2]
    refine rOk rfl ?_ (po2 rfl rfl)
    clear h2
    try (clear hkn hgp)
    simp_all [z01, andS, z0k]
    done)
  refine tSk <| tQ <| tG <| sm 1 rfl <| nL <| tRt ?_
  (have h2 : (z01 u f set x seen wh).2 = set := (by (try clear hkn hgp); simp_all [z01, andS, z0k]; done)
   rw [h2]
   refine rOk rfl ?_ (po2 rfl rfl)
   clear h2
   try (clear hkn hgp)
   simp_all [z01, andS, z0k]
   done)
section
variable {P : Program} {c : Cx} {o : Oper} {fr : Fr}
inductive LendOf (σ : Heap') (Ls : Nat -> Prop) : IV -> IV -> Prop
  | same {x : IV} : LendOf σ Ls x x
  | row {L n : Nat} {s : RT} {els els' : List (List PV)} (hL : Ls L) (hσ : σ L = some (.row s els)) (hn : els.length = n) (he : els = els') : LendOf σ Ls (.sl L n) (.pv (.seq els'))
def lends (σ : Heap') (Ls : Nat -> Prop) : List IV -> List IV -> Prop
  | [], [] => True
  | x :: xs, y :: ys => LendOf σ Ls x y /\ lends σ Ls xs ys
  | _, _ => False
theorem zm3 {σ σ' : Heap'} {Ls : Nat -> Prop} {F F' : Nat -> Prop} {ρ ρ' : Loc} {w : World} : ∀ {xs ys : List IV} {vs : List Value}, lends σ Ls xs ys -> RepL F ρ σ w xs vs ->
    (∀ x y v, LendOf σ Ls x y -> RepI F ρ σ w x v -> RepI F' ρ' σ' w y v) -> RepL F' ρ' σ' w ys vs
  | [], [], vs, _, h, _ => ⟨h.1, fun j x hj => by simp at hj⟩
  | x :: xs, y :: ys, [], _, h, _ => by have := h.1; simp at this
  | x :: xs, y :: ys, v :: vs, hl, h, hf => by
    have ih := zm3 (vs := vs) hl.2 ⟨by simpa using h.1, fun j z hj => h.2 (j + 1) z (by simpa using hj)⟩ hf
    refine ⟨by have := ih.1; simp [this], fun j z hj => ?_⟩
    cases j with
    | zero =>
      cases hj
      obtain ⟨u, hu, hr⟩ := h.2 0 x rfl
      exact ⟨u, hu, hf _ _ _ hl.1 hr⟩
    | succ j => exact ih.2 j z (by simpa using hj)
def zv4 : PV -> Bool
  | .val _ => true
  | _ => false
def zb7 : HO -> Bool
  | .row _ els => els.all fun el => el.all zv4
  | _ => false
theorem zy2 {x : PV} (h : zv4 x = true) : ∃ v, x = .val v := by cases x <;> first | exact ⟨_, rfl⟩ | cases h
theorem RepO.plain {F F' : Nat -> Prop} {ρ ρ' : Loc} {σ σ' : Heap'} {w : World} {b c : Nat} {ob : HO} (h : RepO F ρ σ w b c ob) (hp : zb7 ob = true) : RepO F' ρ' σ' w b c ob := by
  cases h with
  | box => cases hp
  | map => cases hp
  | row s els a u h hs hl hm hw hv hr =>
    refine .row s els a u h hs hl hm hw hv fun i el hi j x hj => ?_
    obtain ⟨v, rfl⟩ := zy2 (List.all_eq_true.1 (List.all_eq_true.1 hp el (List.mem_of_getElem? hi)) x (List.mem_of_getElem? hj))
    have := hr i el hi j _ hj
    generalize u i j = z at this
    cases this
    exact .val v
open Classical in
theorem SC.lend {Ls : Nat -> Prop} {xs : List IV} {f : FuncId} {args : List IV} {pre post : List (Nat × HO)} {R : Nat -> Prop} {r : IV} {hp : Hp} {ρ : Loc} {w : World} {a : Act} {vs : List Value} (hsc : SC P f args pre R r post)
    (h : All c ρ (look hp) w fr a) (hlend : lends (look hp) Ls xs args) (hLs : ∀ k, Ls k -> look (up pre) k = none) (hargs : RepL c.F ρ (look hp) w xs vs) (hpre : ∀ k o, look (up pre) k = some o -> look hp k = some o) (hdom : pre.map (·.1) = post.map (·.1))
    (hR : ∀ k, c.R k -> look (up pre) k = none ∨ R k) (hr : ∃ z, r = .pv (.val z)) (hpost : ∀ k ob, look (up post) k = some ob -> zb7 ob = true ∨ (R k /\ look (up pre) k = some ob)) :
    Calls P f vs.toArray w fun e w' => ∃ ρ' v, e = .returned v /\ All c ρ' (look (up post ++ hp)) w' fr a /\ RepI c.F ρ' (look (up post ++ hp)) w' r v := by
  have hd : ∀ k, look (up pre) k = none ↔ look (up post) k = none := fun k => by rw [z1y, z1y, hdom]
  let ρ1 : Loc := fun k => if look (up pre) k = none then none else ρ k
  let F1 : Nat -> Prop := fun b => c.F b ∨ ∃ k cc, ρ k = some (b, cc) /\ look (up pre) k = none /\ ¬ Ls k
  have h1in : ∀ k, look (up pre) k ≠ none -> ρ1 k = ρ k := fun k hk => if_neg hk
  have h1out : ∀ k, look (up pre) k = none -> ρ1 k = none := fun k hk => if_pos hk
  have h1 : ∀ k l, ρ1 k = some l -> look (up pre) k ≠ none /\ ρ k = some l := fun k l hk => by
    by_cases e : look (up pre) k = none
    ·rw [h1out k e] at hk; cases hk
    exact ⟨e, (h1in k e) ▸ hk⟩
  have hown1 : ∀ b, owned F1 ρ1 b -> owned c.F ρ b := fun b hb => by
    rcases hb with (hb | ⟨k, cc, hk, _, _⟩) | ⟨k, cc, hk⟩
    ·exact .inl hb
    ·exact .inr ⟨k, cc, hk⟩
    exact .inr ⟨k, cc, (h1 k _ hk).2⟩
  have hconv : ∀ x : IV, ¬ Names (fun k => ¬ ∀ o, look (up pre) k = some o -> look hp k = some o /\ ρ1 k = ρ k) x := fun x hx => by
    obtain ⟨k, hk⟩ := hx.some
    exact hk fun o ho => ⟨hpre k o ho, h1in k (by simp [ho])⟩
  have hrel1 : RelH F1 ρ1 (look (up pre)) w := by
    refine ⟨fun k k' b cc cc' hk hk' => h.rel.inj k k' b cc cc' (h1 _ _ hk).2 (h1 _ _ hk').2, fun k b cc hk hb => ?_, fun b hb => ?_, fun k b cc hk => ?_, fun k o hk hρ => ?_⟩
    ·rcases hb with hb | ⟨k', cc', hk', hn, _⟩
     ·exact h.rel.apart k b cc (h1 _ _ hk).2 hb
     obtain rfl := h.rel.inj _ _ _ _ _ (h1 _ _ hk).2 hk'
     exact (h1 _ _ hk).1 hn
    ·rcases hb with hb | ⟨k', cc', hk', _, _⟩
     ·exact h.rel.old b hb
     exact h.rel.lt hk'
    ·obtain ⟨hne, hk2⟩ := h1 _ _ hk
     obtain ⟨o1, ho1, ho2⟩ := h.rel.obj k b cc hk2
     cases hl : look (up pre) k with
     | none => exact absurd hl hne
     | some o2 =>
       rw [hpre k o2 hl] at ho1; cases ho1
       exact ⟨_, rfl, ho2.conv hown1 fun x _ => hconv x⟩
    rw [h1in k (by simp [hk])] at hρ
    exact h.rel.real k o (hpre k o hk) hρ
  have hLown : ∀ L b cc, Ls L -> ρ L = some (b, cc) -> ¬ owned F1 ρ1 b := fun L b cc hL hb ho => by
    rcases ho with (ho | ⟨k', cc', hk', hn, hnl⟩) | ⟨k', cc', hk'⟩
    ·exact h.rel.apart L b cc hb ho
    ·obtain rfl := h.rel.inj _ _ _ _ _ hb hk'; exact hnl hL
    obtain ⟨hne, hk2⟩ := h1 _ _ hk'
    obtain rfl := h.rel.inj _ _ _ _ _ hb hk2
    exact hne (hLs _ hL)
  refine (hsc F1 ρ1 w vs hrel1 (zm3 hlend hargs (fun x y v hxy hx => ?_))).mono ?_
  ·cases hxy with
   | same => exact hx.conv hown1 (hconv x)
   | row hL hσ hn he =>
     subst he
     cases hx with
     | sl _ _ _ hh =>
       rcases (hh _ _ hσ).2 hn with ⟨b, cc, hρ, rfl⟩ | ⟨hρ, hz, rfl⟩
       ·obtain ⟨o1, ho1, ho2⟩ := h.rel.obj _ b cc hρ
        rw [hσ] at ho1; cases ho1
        cases ho2 with
        | row _ els r u h3 h4 h5 h6 h7 h8 h9 =>
          subst hn
          refine .pv _ _ (.seq _ (some ⟨b, 0, none⟩) cc b 0 u (fun _ => rfl) (fun _ => ⟨hLown _ _ _ hL hρ, h.rel.lt hρ⟩) h5 h6 (fun i el hi j x hj => ?_) (fun i el hi j x hj => (h9 i el hi j x hj).own hown1))
          rw [z4d h3, h7 el (List.mem_of_getElem? hi)]
          simpa using h8 i el hi j x hj
       have : _ = [] := List.eq_nil_of_length_eq_zero (hn.trans hz)
       subst this
       subst hz
       exact .pv _ _ (.seq [] none 0 0 0 (fun _ _ => undef) sI0 sI0 sI0 (by simp [maxLen]) sI0 sI0)
  rintro e w' ⟨ρ2, v, rfl, hv, hrel2, t⟩
  let ρ' : Loc := fun k => if look (up pre) k = none then ρ k else ρ2 k
  have h2in : ∀ k, look (up pre) k ≠ none -> ρ' k = ρ2 k := fun k hk => if_neg hk
  have h2out : ∀ k, look (up pre) k = none -> ρ' k = ρ k := fun k hk => if_pos hk
  have h2none : ∀ k, look (up pre) k = none -> ρ2 k = none := fun k hk => by
    cases h3 : ρ2 k with
    | none => rfl
    | some l =>
      obtain ⟨o1, ho1, _⟩ := hrel2.obj k l.1 l.2 h3
      rw [(hd k).1 hk] at ho1; cases ho1
  have h2 : ∀ k l, ρ2 k = some l -> look (up pre) k ≠ none := fun k l hk e => by rw [h2none k e] at hk; cases hk
  have hσin : ∀ k, look (up pre) k ≠ none -> look (up post ++ hp) k = look (up post) k := fun k hk => by
    rw [z28]
    cases h3 : look (up post) k with
    | none => exact absurd ((hd k).2 h3) hk
    | some o => rfl
  have hσout : ∀ k, look (up pre) k = none -> look (up post ++ hp) k = look hp k := fun k hk => by
    rw [z28, (hd k).1 hk]; rfl
  have T : Trans c.F (fun k => look (up pre) k = none ∨ R k) ρ (look hp) w ρ' (look (up post ++ hp)) w' := by
    refine ⟨t.os, t.tape, t.output, t.size, fun b hb hall => t.blk b hb fun k cc hk => ?_, fun k b cc hk hb => ?_, fun k cs cs' e1 e2 => ?_, fun k cs cs' e1 e2 => ?_, fun k s s' els els' e1 e2 hl => ?_, fun k s s' els els' e1 e2 => ?_, fun k cs' e2 => ?_, fun k cs' e2 => ?_, fun k s els' e2 => ?_⟩
    ·obtain ⟨hne, hk2⟩ := h1 _ _ hk
     exact (hall k cc hk2).resolve_left hne
    ·by_cases e : look (up pre) k = none
     ·rwa [h2out k e] at hk
     rw [h2in k e] at hk; exact (h1 _ _ (t.own k b cc hk hb)).2
    all_goals by_cases e : look (up pre) k = none
    ·exact h2out k e
    ·cases h3 : look (up pre) k with
     | none => exact absurd h3 e
     | some o =>
       rw [hpre k o h3] at e1; cases e1
       rw [hσin k e] at e2
       rw [h2in k e, t.box k _ _ h3 e2, h1in k e]
    ·exact h2out k e
    ·cases h3 : look (up pre) k with
     | none => exact absurd h3 e
     | some o =>
       rw [hpre k o h3] at e1; cases e1
       rw [hσin k e] at e2
       rw [h2in k e, t.map k _ _ h3 e2, h1in k e]
    ·exact h2out k e
    ·cases h3 : look (up pre) k with
     | none => exact absurd h3 e
     | some o =>
       rw [hpre k o h3] at e1; cases e1
       rw [hσin k e] at e2
       rw [h2in k e, t.row k _ _ _ _ h3 e2 hl, h1in k e]
    ·rw [hσout k e, e1] at e2; cases e2; exact Nat.le_refl _
    ·cases h3 : look (up pre) k with
     | none => exact absurd h3 e
     | some o =>
       rw [hpre k o h3] at e1; cases e1
       rw [hσin k e] at e2
       exact t.grow k _ _ _ _ h3 e2
    ·rw [hσout k e] at e2; exact .inr ⟨_, e2⟩
    ·rw [hσin k e] at e2
     rcases t.kindB k _ e2 with h3 | ⟨cs, h3⟩
     ·exact absurd h3 e
     exact .inr ⟨cs, hpre k _ h3⟩
    ·rw [hσout k e] at e2; exact .inr ⟨_, e2⟩
    ·rw [hσin k e] at e2
     rcases t.kindM k _ e2 with h3 | ⟨cs, h3⟩
     ·exact absurd h3 e
     exact .inr ⟨cs, hpre k _ h3⟩
    ·rw [hσout k e] at e2; exact .inr ⟨_, e2⟩
    rw [hσin k e] at e2
    rcases t.kindR k _ _ e2 with h3 | ⟨cs, h3⟩
    ·exact absurd h3 e
    exact .inr ⟨cs, hpre k _ h3⟩
  have hnone : ∀ k, ¬ (look hp k = none /\ look (up post ++ hp) k ≠ none) := fun k hk => by
    by_cases e : look (up pre) k = none
    ·rw [hσout k e] at hk; exact hk.2 hk.1
    cases h3 : look (up pre) k with
    | none => exact e h3
    | some o => rw [hpre k o h3] at hk; cases hk.1
  have hnn : ∀ x : IV, ¬ Names (fun k => look hp k = none /\ look (up post ++ hp) k ≠ none) x := fun x hx => by
    obtain ⟨k, hk⟩ := hx.some
    exact hnone k hk
  have hmix : ∀ k k' b cc cc', look (up pre) k = none -> ρ k = some (b, cc) -> ρ2 k' = some (b, cc') -> k = k' := fun k k' b cc cc' e hk hk' => by
    by_cases hL : Ls k
    ·have := h1 _ _ (t.own k' b cc' hk' (h.rel.lt hk))
     exact h.rel.inj _ _ _ _ _ hk this.2
    exact absurd (.inr ⟨k, cc, hk, e, hL⟩) (hrel2.apart _ _ _ hk')
  refine ⟨ρ', v, rfl, h.step T hR ⟨fun k k' b cc cc' hk hk' => ?_, fun k b cc hk hb => ?_, fun b hb => Nat.lt_of_lt_of_le (h.rel.old b hb) t.size, fun k b cc hk => ?_, fun k o hk hρ => ?_⟩ (fun k e1 e2 => absurd ⟨e1, e2⟩ (hnone k)) fun _ x _ => hnn x, by obtain ⟨z, rfl⟩ := hr; obtain rfl := hv.val; exact z2s _⟩
  ·by_cases e : look (up pre) k = none <;> by_cases e' : look (up pre) k' = none
   ·rw [h2out k e] at hk; rw [h2out k' e'] at hk'; exact h.rel.inj _ _ _ _ _ hk hk'
   ·rw [h2out k e] at hk; rw [h2in k' e'] at hk'
    exact hmix k k' b cc cc' e hk hk'
   ·rw [h2in k e] at hk; rw [h2out k' e'] at hk'
    exact (hmix k' k b cc' cc e' hk' hk).symm
   rw [h2in k e] at hk; rw [h2in k' e'] at hk'; exact hrel2.inj _ _ _ _ _ hk hk'
  ·by_cases e : look (up pre) k = none
   ·rw [h2out k e] at hk; exact h.rel.apart _ _ _ hk hb
   rw [h2in k e] at hk; exact hrel2.apart _ _ _ hk (.inl hb)
  ·by_cases e : look (up pre) k = none
   ·rw [h2out k e] at hk
    obtain ⟨o1, ho1, ho2⟩ := h.rel.obj k b cc hk
    refine ⟨o1, (hσout k e).trans ho1, ho2.keep T (t.blk b (h.rel.lt hk) fun k' cc' hk' => ?_) fun x _ => hnn x⟩
    obtain ⟨hne, hk2⟩ := h1 _ _ hk'
    obtain rfl := h.rel.inj _ _ _ _ _ hk hk2
    exact absurd e hne
   rw [h2in k e] at hk
   obtain ⟨o1, ho1, ho2⟩ := hrel2.obj k b cc hk
   refine ⟨o1, (hσin k e).trans ho1, ?_⟩
   rcases hpost k o1 ho1 with hpl | ⟨hRk, hpr⟩
   ·exact ho2.plain hpl
   have hsame : ρ2 k = ρ k := by
     rw [<- h1in k e]
     cases o1 with
     | box cs => exact t.box k _ _ hpr ho1
     | row s els => exact t.row k _ _ _ _ hpr ho1 rfl
     | map es => exact t.map k _ _ hpr ho1
   rw [hsame] at hk
   obtain ⟨o3, ho3, ho4⟩ := h.rel.obj k b cc hk
   rw [hpre k _ hpr] at ho3; cases ho3
   refine ho4.keep T (t.blk b (h.rel.lt hk) fun k' cc' hk' => ?_) fun x _ => hnn x
   obtain ⟨hne, hk2⟩ := h1 _ _ hk'
   obtain rfl := h.rel.inj _ _ _ _ _ hk hk2
   exact hRk
  by_cases e : look (up pre) k = none
  ·rw [hσout k e] at hk; rw [h2out k e] at hρ; exact h.rel.real k o hk hρ
  rw [hσin k e] at hk; rw [h2in k e] at hρ; exact hrel2.real k o hk hρ
theorem z29 (Ls : Nat -> Prop) {ys : List IV} {f : FuncId} {os : Array Operand} {tys : Array TypeId} {xs args : List IV} {pre post : List (Nat × HO)} {R : Nat -> Prop} {r : IV} {hp : Hp} (hsc : SC P f args pre R r post) (hf : z04 P f)
    (ho : o.op = .call { callee := .value (.func f), args := os, argTypes := tys }) (hx : evs fr os.toList = some xs) (hs : Subs (look hp) xs ys) (hlend : lends (look hp) Ls ys args) (hLs : ∀ k, Ls k -> look (up pre) k = none) (hpre : ∀ k o, look (up pre) k = some o -> look hp k = some o) (hdom : pre.map (·.1) = post.map (·.1))
    (hR : ∀ k, c.R k -> look (up pre) k = none ∨ R k) (hr : ∃ z, r = .pv (.val z)) (hpost : ∀ k ob, look (up post) k = some ob -> zb7 ob = true ∨ (R k /\ look (up pre) k = some ob)) : Ok P c o fr (look hp) r (look (up post ++ hp)) := by
  intro ρ w a K Q h hK
  obtain ⟨fn, hfn, hname, hbody⟩ := hf
  have hargs := hs _ _ _ _ (z7c h hx)
  have hrun : (execOp a.eval o).run P w = .ok (.enter f (os.toList.map a.eval).toArray) w := by
    have hcall : (callFunc f (os.toList.map a.eval).toArray).run P w = .ok (.enter f (os.toList.map a.eval).toArray) w := by
      unfold callFunc
      simp only [Sem.run_bind]
      show (Result.andThen (.ok P w) _) = _
      simp only [Result.andThen_ok, hfn, hname, hbody]
      rfl
    simp only [execOp, ho, resolve, Act.eval, Deferred.ofValue, Sem.run_bind, Sem.run_pure, Result.andThen_ok, invoke]
    rw [<- hcall]
    congr 2
    apply Array.ext'
    simp
  unfold Oper.wp
  rw [hrun, Oper.upon_enter]
  refine (hsc.lend h hlend hLs hargs hpre hdom hR hr hpost).mono ?_
  rintro e w' ⟨ρ', v, rfl, h1, h2⟩
  exact hK ρ' w' v h1 h2
end
def andT (r : Bool × List Bool) (k : List Bool -> Bool × List Bool) : Bool × List Bool := if r.1 then k r.2 else (false, r.2)
def ne (l : List Nd) (r : Bool × List Bool) : Bool × List Bool := if l.isEmpty then (false, r.2) else r
mutual
def ndW : Nd -> Nat
  | .mk _ _ _ _ args outs params kids => 1 + args.length + outs.length + params.length + kdW kids
def lsW : List Nd -> Nat
  | [] => 0
  | x :: r => ndW x + lsW r
def kdW : List (List Nd) -> Nat
  | [] => 0
  | l :: r => 1 + lsW l + kdW r
end
def z14 (f : Fl) (x : Nd) (set : List Bool) : Bool × List Bool :=
  andS ((x.outs.length : Int) == 0 || !z0e x) set (z0j f.types set x.outs (List.replicate x.outs.length 0))
mutual
def z0v (u : Un) (f : Fl) (deep : Int) (w : Wh) (seen : List Int) (set : List Bool) : Nd -> Bool × List Bool
  | .mk kind op n name args outs params kids =>
    if !z0m (.mk kind op n name args outs params kids) then (false, set)
    else if kind == 10 then
      if z0h f.types seen args [2] then
        match kids with
        | a :: b :: _ =>
          andT (ne a (r8go u f (deep + 1) ⟨true, w.Loop, r8of f.types outs, w.Next, w.Left⟩ seen set a)) fun s1 =>
          andT (ne b (r8go u f (deep + 1) ⟨true, w.Loop, r8of f.types outs, w.Next, w.Left⟩ seen s1 b)) fun s2 =>
          z14 f (.mk kind op n name args outs params kids) s2
        | _ => (false, set)
      else (false, set)
    else if kind == 11 then
      if z0h f.types seen args (r8of f.types params) then
        andT (z0j f.types set params (List.replicate params.length 0)) fun s1 =>
        match kids with
        | a :: _ =>
          andT (ne a (r8go u f (deep + 1) ⟨false, true, [], r8of f.types params, r8of f.types outs⟩ (seen ++ params) s1 a)) fun s2 =>
          z14 f (.mk kind op n name args outs params kids) s2
        | _ => (false, s1)
      else (false, set)
    else z01 u f set (.mk kind op n name args outs params kids) seen w
def r8go (u : Un) (f : Fl) (deep : Int) (w : Wh) (all : List Int) (set : List Bool) : List Nd -> Bool × List Bool
  | [] => (true, set)
  | x :: r =>
    if deep > 100 then (false, set)
    else andT (z0v u f deep w all set x) fun s1 =>
      if z0e x != r.isEmpty then (false, s1)
      else r8go u f deep w (all ++ x.outs) s1 r
end
def z0f (u : Un) (f : Fl) (deep : Int) (w : Wh) (all : List Int) (set : List Bool) (l : List Nd) : Bool × List Bool := ne l (r8go u f deep w all set l)
theorem z9t {b : Bool} {set : List Bool} {r : Bool × List Bool} {n : Nat} (h1 : set.length = n) (h2 : r.2.length = n) : (andS b set r).2.length = n := by unfold andS; split <;> assumption
theorem z4c {r : Bool × List Bool} {k : List Bool -> Bool × List Bool} {n : Nat} (h1 : r.2.length = n) (h2 : ∀ s, s.length = n -> (k s).2.length = n) : (andT r k).2.length = n := by
  unfold andT; split
  ·exact h2 _ h1
  exact h1
theorem z82 {l : List Nd} {r : Bool × List Bool} {n : Nat} (h : r.2.length = n) : (ne l r).2.length = n := by unfold ne; split <;> exact h
theorem zx2 {p : Prop} [Decidable p] {a b : Bool × List Bool} {n : Nat} (h1 : a.2.length = n) (h2 : b.2.length = n) : (if p then a else b).2.length = n := by split <;> assumption
theorem zc0 (u : Un) (f : Fl) (set : List Bool) (x : Nd) (seen : List Int) (w : Wh) : (z01 u f set x seen w).2.length = set.length := by
  have hS : ∀ b l t, (andS b set (z0j f.types set l t)).2.length = set.length := fun b l t => z9t rfl (z0t ..)
  unfold z01 z0k
  repeat' (first | exact hS _ _ _ | exact rfl | refine zx2 ?_ ?_ | split)
theorem z9b {f : Fl} {x : Nd} {set : List Bool} {n : Nat} (h : set.length = n) : (z14 f x set).2.length = n := z9t h ((z0t ..).trans h)
mutual
theorem z5p (u : Un) (f : Fl) : ∀ (x : Nd) (deep : Int) (w : Wh) (seen : List Int) (set : List Bool), (z0v u f deep w seen set x).2.length = set.length
  | .mk kind op n name args outs params kids, deep, w, seen, set => by
    unfold z0v
    split
    ·rfl
    split
    ·split
     ·match kids with
      | [] => rfl
      | [_] => rfl
      | a :: b :: _ =>
        refine z4c (z82 (z4m u f a ..)) fun s hs => z4c (z82 ((z4m u f b ..).trans hs)) fun s hs => z9b hs
     rfl
    split
    ·split
     ·refine z4c (z0t ..) fun s hs => ?_
      match kids with
      | [] => exact hs
      | a :: _ => exact z4c (z82 ((z4m u f a ..).trans hs)) fun s hs => z9b hs
     rfl
    exact zc0 ..
theorem z4m (u : Un) (f : Fl) : ∀ (l : List Nd) (deep : Int) (w : Wh) (all : List Int) (set : List Bool), (r8go u f deep w all set l).2.length = set.length
  | [], _, _, _, _ => by simp [r8go]
  | x :: r, deep, w, all, set => by
    unfold r8go
    split
    ·rfl
    refine z4c (z5p u f x ..) fun s hs => ?_
    split
    ·exact hs
    exact (z4m u f r ..).trans hs
end
theorem z2a (u : Un) (f : Fl) (deep : Int) (w : Wh) (all : List Int) (set : List Bool) (l : List Nd) : (z0f u f deep w all set l).2.length = set.length := z82 (z4m ..)
theorem z2d {u : Un} {f : Fl} {bt : TypeId} {set set' : List Bool} (h : set'.length = set.length) : ∀ k ob, look (up (ckHp u f bt set')) k = some ob -> zb7 ob = true ∨ (k = 3 /\ look (up (ckHp u f bt set)) k = some ob) := by
  intro k ob hk
  have hm := z3k hk
  simp only [ckHp, List.mem_cons, List.not_mem_nil, or_false, Prod.mk.injEq] at hm
  rcases hm with ⟨rfl, rfl⟩ | ⟨rfl, rfl⟩
  ·exact .inr ⟨rfl, by simp [ckHp, up, look, h]⟩
  refine .inl ?_
  simp [zb7, z9d, zv4]
theorem z7g {x : Nd} (h : z0m x = true) : (x.kids.length : Int) = r8kn x := by
  simp only [z0m, Bool.and_eq_true, beq_iff_eq] at h
  exact h.1.2
theorem z30 {x : Nd} (h : z0m x = true) (hk : x.kind = 10) : ∃ a b, x.kids = [a, b] := by
  have := z7g h
  simp [r8kn, hk] at this
  match hx : x.kids with
  | [] => simp [hx] at this
  | [a] => simp [hx] at this
  | [a, b] => exact ⟨a, b, rfl⟩
  | a :: b :: c :: r => simp [hx] at this; omega
theorem z22 {x : Nd} (h : z0m x = true) (hk : x.kind = 11) : ∃ a, x.kids = [a] := by
  have := z7g h
  simp [r8kn, hk] at this
  match hx : x.kids with
  | [] => simp [hx] at this
  | [a] => exact ⟨a, rfl⟩
  | a :: b :: r => simp [hx] at this; omega
theorem z7h (u : Un) (f : Fl) (deep : Int) (w : Wh) (seen : List Int) (set : List Bool) {x : Nd} (h : z0m x = false) : z0v u f deep w seen set x = (false, set) := by
  cases x; unfold z0v; simp [h]
theorem z0z (u : Un) (f : Fl) (deep : Int) (w : Wh) (seen : List Int) (set : List Bool) {x : Nd} {a b : List Nd} (h : z0m x = true) (hk : x.kind = 10) (hx : x.kids = [a, b]) :
    z0v u f deep w seen set x = if z0h f.types seen x.args [2] then
        andT (z0f u f (deep + 1) ⟨true, w.Loop, r8of f.types x.outs, w.Next, w.Left⟩ seen set a) fun s1 =>
        andT (z0f u f (deep + 1) ⟨true, w.Loop, r8of f.types x.outs, w.Next, w.Left⟩ seen s1 b) fun s2 => z14 f x s2
      else (false, set) := by
  cases x; simp only [Nd.kind, Nd.kids, Nd.args, Nd.outs] at *; subst hk hx; unfold z0v; simp [h, z0f]; rfl
theorem z0b (u : Un) (f : Fl) (deep : Int) (w : Wh) (seen : List Int) (set : List Bool) {x : Nd} {a : List Nd} (h : z0m x = true) (hk : x.kind = 11) (hx : x.kids = [a]) :
    z0v u f deep w seen set x = if z0h f.types seen x.args (r8of f.types x.params) then
        andT (z0j f.types set x.params (List.replicate x.params.length 0)) fun s1 =>
        andT (z0f u f (deep + 1) ⟨false, true, [], r8of f.types x.params, r8of f.types x.outs⟩ (seen ++ x.params) s1 a) fun s2 => z14 f x s2
      else (false, set) := by
  cases x; simp only [Nd.kind, Nd.kids, Nd.args, Nd.outs, Nd.params] at *; subst hk hx; unfold z0v; simp [h, z0f]; rfl
theorem z5q (u : Un) (f : Fl) (deep : Int) (w : Wh) (seen : List Int) (set : List Bool) {x : Nd} (h : z0m x = true) (h1 : (x.kind == 10) = false) (h2 : (x.kind == 11) = false) :
    z0v u f deep w seen set x = z01 u f set x seen w := by
  cases x; simp only [Nd.kind] at *; unfold z0v; simp [h, h1, h2]
theorem z81 (x : Nd) : ndW x = 1 + x.args.length + x.outs.length + x.params.length + kdW x.kids := by cases x; simp [ndW, Nd.args, Nd.outs, Nd.params, Nd.kids]
theorem ck_row {u : Un} {f : Fl} {bt : TypeId} {s s' : List Bool} {k : Nat} {o o2 : Option HO} : look ((k, o) :: (up (ckHp u f bt s') ++ ((k, o2) :: up (ckHp u f bt s)))) = look ((k, o) :: up (ckHp u f bt s')) := by
  funext j
  simp only [look]
  cases hkj : Nat.beq k j with
  | true => rfl
  | false =>
    simp only [cond_false]
    rw [z28]
    simp only [look, hkj, cond_false, ckHp, up, List.map_cons, List.map_nil]
    cases Nat.beq 3 j <;> cases Nat.beq 4 j <;> rfl
theorem ck_row' {u : Un} {f : Fl} {bt : TypeId} {s s' : List Bool} {k : Nat} {t : RT} {al l : List Int} {o2 : Option HO} : look ((k, some (.row t (al.map eInt ++ l.map eInt))) :: (up (ckHp u f bt s') ++ ((k, o2) :: up (ckHp u f bt s)))) = look ((k, some (.row t ((al ++ l).map eInt))) :: up (ckHp u f bt s')) := by
  rw [ck_row, List.map_append]
theorem zb9 {u : Un} {f : Fl} {deep : Int} {w : Wh} {all : List Int} {set : List Bool} {l : List Nd} {k : Nat} (h : k < l.length) : z0f u f deep w all set l = r8go u f deep w all set l := by
  unfold z0f ne
  rw [if_neg]
  simp
  intro e; subst e; simp at h
theorem z4x {l : List Nd} {k : Nat} (h : k < l.length) : (l.drop (k + 1)).isEmpty = ((k : Int) == (l.length : Int) - 1) := by
  by_cases e : k + 1 = l.length
  ·rw [List.drop_eq_nil_of_le oM0]
   have : (k : Int) = (l.length : Int) - 1 := by omega
   simp [this]
  have h1 : l.drop (k + 1) ≠ [] := fun h0 => by have := congrArg List.length h0; simp at this; omega
  have h2 : ¬ (k : Int) = (l.length : Int) - 1 := by omega
  rw [beq_eq_false_iff_ne.2 h2]
  cases hq : l.drop (k + 1) with
  | nil => exact absurd hq h1
  | cons => rfl
theorem y22 (u : Un) (f : Fl) (hg : ∀ g ∈ u.flows, 0 <= g.params /\ g.params <= g.types.length) (x : Nd) (deep : Int) (hd : 0 <= deep /\ deep <= 100) (wh : Wh) (seen : List Int) (set : List Bool) (hs : set.length = f.types.length) (hb : seen.length + ndW x <= 1073741824) (ih : ∀ q ∈ x.kids, ∀ (deep : Int) (w : Wh) (all : List Int) (set : List Bool), 0 <= deep /\ deep <= 101 -> set.length = f.types.length -> all.length + lsW q <= 1073741824 -> SC Tryz.prog 49 [.ptr 3 0, .pv (z07 q), .pv (ints all), .pv (whv w), iInt deep] (ckHp u f 4 set) (fun k => k = 3) (iBool (z0f u f deep w all set q).1) (ckHp u f 4 (z0f u f deep w all set q).2)) : SC Tryz.prog 74 [.ptr 3 0, .pv (ndv x), .pv (ints seen), .pv (whv wh), iInt deep] (ckHp u f 4 set) (fun k => k = 3) (iBool (z0v u f deep wh seen set x).1) (ckHp u f 4 (z0v u f deep wh seen set x).2) := by
  refine SC.of Tryz.func74 rfl (lb rfl) fun F ρ w => ?_
  have hbW := z81 x
  have hbo : x.outs.length <= 1073741824 := by omega
  have hbp : x.params.length <= 1073741824 := by omega
  refine tQ <| tG <| cE rfl (z13 rfl rfl) <| cE rfl (z13 rfl rfl) <| sm 1 rfl <| nL <| tQ <| tQ <| tG <| cV rfl (lEA rfl rfl uT43 rfl tS43 (lb rfl)) <| cE rfl (ocq (y20 _) ent94 rfl rfl) <| sm 1 rfl ?_
  refine nL ?_
  refine tC rfl (fun hc17 => ?_) fun hc17 => ?_
  ·refine tQ <| tG <| sm 1 rfl <| nL <| tRt ?_
   have hbare : z0m x = false := by simpa using hc17
   rw [z7h _ _ _ _ _ _ hbare]
   exact rOk rfl rfl (po2 rfl rfl)
  have hbare : z0m x = true := by simpa using hc17
  refine tSk <| tQ <| tQ <| tG <| sm 2 rfl <| nL <| tBk <| tQ <| tG <| sm 2 rfl <| nL ?_
  refine tC rfl (fun hc20 => ?_) fun hc20 => ?_
  ·have hk10 : x.kind = 10 := by simpa using hc20
   obtain ⟨ka, kb, hkids⟩ := z30 hbare hk10
   have hi0 : (x.kids.map eKid)[0]? = some [z07 ka] := by rw [hkids]; rfl
   have hi1 : (x.kids.map eKid)[1]? = some [z07 kb] := by rw [hkids]; rfl
   have hm0 : ka ∈ x.kids := by rw [hkids]; simp
   have hm1 : kb ∈ x.kids := by rw [hkids]; simp
   have hkW : kdW x.kids = 1 + lsW ka + (1 + lsW kb) := by rw [hkids]; simp [kdW] <;> omega
   have hb0 : seen.length + lsW ka <= 1073741824 := by omega
   have hb1 : seen.length + lsW kb <= 1073741824 := by omega
   have hs1 : (z0f u f (deep + 1) ⟨true, wh.Loop, r8of f.types x.outs, wh.Next, wh.Left⟩ seen set ka).2.length = f.types.length := (z2a ..).trans hs
   have hs2 : (z0f u f (deep + 1) ⟨true, wh.Loop, r8of f.types x.outs, wh.Next, wh.Left⟩ seen (z0f u f (deep + 1) ⟨true, wh.Loop, r8of f.types x.outs, wh.Next, wh.Left⟩ seen set ka).2 kb).2.length = f.types.length := (z2a ..).trans hs1
   refine tQ <| tDr z15 (fun k => k ∈ ([3] : List Nat)) <| wR 4 [0, 1, 2, 3, 4, 6, 7, 8, 9] kR0 h30 <| smR 9 rfl <| nR <| WA.all (rs := [5, 11]) kR0 sI0 ?_
   refine fmc ⟨?_, fmc ⟨?_, by simp⟩⟩
   ·refine wI rfl rfl (fun k (h : _) => by (simp at h ⊢; omega)) (nAp rfl) (fun _ _ => ocr (z57 u f set x.outs hbo) ze4 rfl (po2 rfl rfl) rfl (fun k (h : _) => by (simp only [List.mem_cons, List.not_mem_nil, or_false] at h; rcases h with rfl <;> first | exact .inl rfl | exact .inr rfl | exact .inr dC0)) rfl rfl) <| wR 2 [10] kR0 h30 <| rV rfl rfl (bPu rfl rfl tZ91 tP91 rfl (fbk rfl) rfl) <| nR <| wO 11 kR0 <| wI rfl rfl (fun k (h : _) => by (simp at h ⊢; omega)) (z10 rfl) (fun _ _ => aLc (k := 111) rfl tZ91 rfl rfl rfl rfl) <| wO 12 kR0 <| wI rfl rfl (fun k (h : _) => by (simp at h ⊢; omega)) (nOl rfl) (fun _ _ => sBA rfl rfl rfl rfl rfl sI0 tS91 (flk rfl) (lb rfl)) <| wDn kR0 <| tQ <| tDr z15 (fun k => k ∈ ([3, 111] : List Nat)) <| wR 27 [0, 1, 2, 3] kR0 h30 ?_
    refine smR 4 rfl <| nR <| wO 4 kR0 <| wI rfl rfl (fun k (h : _) => by (simp at h ⊢; omega)) nw (fun _ _ => bSl rfl rfl uT35 tZ3 tS3 rfl rfl rfl rfl (fbk rfl) rfl) <| wO 5 kR0 <| wI rfl rfl (fun k (h : _) => by (simp at h ⊢; omega)) (nAp rfl) (fun _ _ => ocr (z19 u f set x.args seen [2]) z65 rfl (po2 rfl rfl) rfl (fun k (h : _) => .inr trivial) rfl rfl) <| wR 15 [6, 7, 8, 9, 10, 11, 12, 13, 14, 15] kR0 h30 <| smR 1 rfl ?_
    refine WR.split (t := 39) rfl (fun hb39 => ?_) (fun hb39 => ?_)
    ·refine smR 3 rfl <| ryV rfl rfl rfl (iSq rfl rfl rfl uT41 hi0 tS44 rfl (by rfl)) <| smR 2 rfl <| ryV rfl rfl rfl (lBP rfl rfl rfl Tryz.underlying91 rfl tS91 (lb rfl) rfl dC0) <| smR 1 rfl <| ryV rfl rfl rfl (oB rfl rfl (z05 rfl oM0)) <| nR <| wO 16 kR0 <| wY rfl rfl rfl (fun k (h : _) => by (simp at h ⊢; omega)) (nAp rfl) (fun _ _ => ocr (ih ka hm0 (deep + 1) ⟨true, wh.Loop, r8of f.types x.outs, wh.Next, wh.Left⟩ seen set ⟨by omega, by omega⟩ hs hb0) zl4 rfl (po2 rfl rfl) rfl (fun k (h : _) => by (simp only [List.mem_cons, List.not_mem_nil, or_false] at h; rcases h with rfl | rfl <;> first | exact .inl rfl | exact .inr rfl | exact .inr dC0)) rfl rfl) <| wR 3 [17, 18, 19, 20, 21, 22, 23, 24, 25, 26, 27] kR0 h30 <| smR 2 rfl ?_
     refine WR.split (t := 51) rfl (fun hb51 => ?_) (fun hb51 => ?_)
     ·refine smR 3 rfl <| ryV rfl rfl rfl (iSq rfl rfl rfl uT41 hi1 tS44 rfl (by rfl)) <| smR 2 rfl <| ryV rfl rfl rfl (lBP rfl rfl rfl Tryz.underlying91 rfl tS91 (lb rfl) rfl dC0) <| smR 1 rfl <| ryV rfl rfl rfl (oB rfl rfl (z05 rfl oM0)) <| nR <| wO 28 kR0 <| wY rfl rfl rfl (fun k (h : _) => by (simp at h ⊢; omega)) (nAp rfl) (fun _ _ => ocr (ih kb hm1 (deep + 1) ⟨true, wh.Loop, r8of f.types x.outs, wh.Next, wh.Left⟩ seen (z0f u f (deep + 1) ⟨true, wh.Loop, r8of f.types x.outs, wh.Next, wh.Left⟩ seen set ka).2 ⟨by omega, by omega⟩ hs1 hb1) zl4 rfl (po2 rfl rfl) rfl (fun k (h : _) => by (simp only [List.mem_cons, List.not_mem_nil, or_false] at h; rcases h with rfl | rfl <;> first | exact .inl rfl | exact .inr rfl | exact .inr dC0)) rfl rfl) <| wR 0 [29, 30] kR0 h30 <| smR 2 rfl <| nR ?_
      refine wDn kR0 <| tQ <| tDr z15 (fun k => k ∈ ([3] : List Nat)) <| wR 15 [0, 1, 2, 3, 4, 5, 6, 7] kR0 h30 <| smR 2 rfl ?_
      refine WR.split (t := 64) rfl (fun hb64 => ?_) (fun hb64 => ?_)
      ·refine smR 2 rfl <| ryV rfl rfl rfl (oSm uT35 rfl) <| smR 2 rfl ?_
       refine WR.split (t := 69) rfl (fun hb69 => ?_) (fun hb69 => ?_)
       ·refine smR 1 rfl <| nR <| wN 8 kR0 h30 rfl rfl rfl <| wR 4 [9, 10, 11, 12, 13, 14, 15, 16, 17, 18] kR0 h30 <| smR 9 rfl <| ryV rfl rfl rfl (oSm uT35 rfl) <| nR <| wO 19 kR0 <| wY rfl rfl rfl (fun k (h : _) => by (simp at h ⊢; omega)) (z10 rfl) (fun _ _ => z0y (k := 182) (s := ⟨3, 1⟩) rfl rfl rfl uT35 tZ3 tC3 rfl dC0 oM0 oM0 rfl rfl rfl rfl) <| wO 20 kR0 <| wY rfl rfl rfl (fun k (h : _) => by (simp at h ⊢; omega)) (nAp rfl) (fun _ _ => z29 (fun k => k = 182) (z1b u f (z0f u f (deep + 1) ⟨true, wh.Loop, r8of f.types x.outs, wh.Next, wh.Left⟩ seen (z0f u f (deep + 1) ⟨true, wh.Loop, r8of f.types x.outs, wh.Next, wh.Left⟩ seen set ka).2 kb).2 x.outs (List.replicate x.outs.length 0) hs2) z54 rfl rfl (sRf _ _) (And.intro LendOf.same (And.intro LendOf.same (And.intro (LendOf.row rfl rfl (by (simp; done)) (by (simp only [List.map_replicate]; rfl))) (trivial)))) (fun k h => by subst h; rfl) (po2 rfl rfl) rfl (fun k (h : _) => by (simp only [List.mem_cons, List.not_mem_nil, or_false] at h; rcases h with rfl <;> first | exact .inl rfl | exact .inr rfl | exact .inr dC0)) ⟨_, rfl⟩ (z2d (z0t ..))) <| wR 0 [21, 22] kR0 h30 ?_
        refine smR 2 rfl <| nR <| wDn kR0 <| tRt ?_
        (have h2 : (z0v u f deep wh seen set x).2 = (z0j f.types (z0f u f (deep + 1) ⟨true, wh.Loop, r8of f.types x.outs, wh.Next, wh.Left⟩ seen (z0f u f (deep + 1) ⟨true, wh.Loop, r8of f.types x.outs, wh.Next, wh.Left⟩ seen set ka).2 kb).2 x.outs (List.replicate x.outs.length 0)).2 := (by rw [z0z _ _ _ _ _ _ hbare hk10 hkids]; simp_all [andT, andS, z14]; done)
         rw [h2]
         refine rOk rfl ?_ (po2 rfl rfl)
         clear h2
         rw [z0z _ _ _ _ _ _ hbare hk10 hkids]
         simp_all [andT, andS, z14]
         done)
       refine ryV rfl rfl rfl (lEA rfl rfl uT43 rfl tS43 (lb rfl)) <| nR <| wO 8 kR0 <| wY rfl rfl rfl (fun k (h : _) => by (simp at h ⊢; omega)) nw (fun _ _ => ocq (z3l _) zw8 rfl rfl) <| wR 4 [9, 10, 11, 12, 13, 14, 15, 16, 17, 18] kR0 h30 <| smR 4 rfl ?_
       refine WR.split (t := 75) rfl (fun hb75 => ?_) (fun hb75 => ?_)
       ·refine smR 5 rfl <| ryV rfl rfl rfl (oSm uT35 rfl) <| nR <| wO 19 kR0 <| wY rfl rfl rfl (fun k (h : _) => by (simp at h ⊢; omega)) (z10 rfl) (fun _ _ => z0y (k := 182) (s := ⟨3, 1⟩) rfl rfl rfl uT35 tZ3 tC3 rfl dC0 oM0 oM0 rfl rfl rfl rfl) <| wO 20 kR0 <| wY rfl rfl rfl (fun k (h : _) => by (simp at h ⊢; omega)) (nAp rfl) (fun _ _ => z29 (fun k => k = 182) (z1b u f (z0f u f (deep + 1) ⟨true, wh.Loop, r8of f.types x.outs, wh.Next, wh.Left⟩ seen (z0f u f (deep + 1) ⟨true, wh.Loop, r8of f.types x.outs, wh.Next, wh.Left⟩ seen set ka).2 kb).2 x.outs (List.replicate x.outs.length 0) hs2) z54 rfl rfl (sRf _ _) (And.intro LendOf.same (And.intro LendOf.same (And.intro (LendOf.row rfl rfl (by (simp; done)) (by (simp only [List.map_replicate]; rfl))) (trivial)))) (fun k h => by subst h; rfl) (po2 rfl rfl) rfl (fun k (h : _) => by (simp only [List.mem_cons, List.not_mem_nil, or_false] at h; rcases h with rfl <;> first | exact .inl rfl | exact .inr rfl | exact .inr dC0)) ⟨_, rfl⟩ (z2d (z0t ..))) <| wR 0 [21, 22] kR0 h30 <| smR 2 rfl <| nR <| wDn kR0 <| tRt ?_
        (have h2 : (z0v u f deep wh seen set x).2 = (z0j f.types (z0f u f (deep + 1) ⟨true, wh.Loop, r8of f.types x.outs, wh.Next, wh.Left⟩ seen (z0f u f (deep + 1) ⟨true, wh.Loop, r8of f.types x.outs, wh.Next, wh.Left⟩ seen set ka).2 kb).2 x.outs (List.replicate x.outs.length 0)).2 := (by rw [z0z _ _ _ _ _ _ hbare hk10 hkids]; simp_all [andT, andS, z14]; done)
         rw [h2]
         refine rOk rfl ?_ (po2 rfl rfl)
         clear h2
         rw [z0z _ _ _ _ _ _ hbare hk10 hkids]
         simp_all [andT, andS, z14]
         done)
       refine smR 6 rfl <| nR <| wN 19 kR0 h30 rfl rfl rfl <| wN 20 kR0 h30 rfl rfl rfl <| wR 0 [21, 22] kR0 h30 <| smR 2 rfl <| nR <| wDn kR0 <| tRt ?_
       (have h2 : (z0v u f deep wh seen set x).2 = (z0f u f (deep + 1) ⟨true, wh.Loop, r8of f.types x.outs, wh.Next, wh.Left⟩ seen (z0f u f (deep + 1) ⟨true, wh.Loop, r8of f.types x.outs, wh.Next, wh.Left⟩ seen set ka).2 kb).2 := (by rw [z0z _ _ _ _ _ _ hbare hk10 hkids]; simp_all [andT, andS, z14]; done)
        rw [h2]
        refine rOk rfl ?_ (po2 rfl rfl)
        clear h2
        rw [z0z _ _ _ _ _ _ hbare hk10 hkids]
        simp_all [andT, andS, z14]
        done)
      refine smR 5 rfl <| nUr rfl rfl rfl rfl rfl rfl rfl <| nR <| WA.takeNoU (i := 8) rfl kR0 kR0 kR0 h30 rfl rfl rfl rfl rfl rfl <| wR 4 [9, 10, 11, 12, 13, 14, 15, 16, 17, 18] kR0 h30 <| nUr rfl rfl rfl rfl rfl rfl rfl <| smR 9 rfl <| nR <| wN 19 kR0 h30 rfl rfl rfl <| wN 20 kR0 h30 rfl rfl rfl <| wR 0 [21, 22] kR0 h30 <| smR 2 rfl ?_
      refine nR <| wDn kR0 <| tRt ?_
      (have h2 : (z0v u f deep wh seen set x).2 = (z0f u f (deep + 1) ⟨true, wh.Loop, r8of f.types x.outs, wh.Next, wh.Left⟩ seen (z0f u f (deep + 1) ⟨true, wh.Loop, r8of f.types x.outs, wh.Next, wh.Left⟩ seen set ka).2 kb).2 := (by rw [z0z _ _ _ _ _ _ hbare hk10 hkids]; simp_all [andT, andS, z14]; done)
       rw [h2]
       refine rOk rfl ?_ (po2 rfl rfl)
       clear h2
       rw [z0z _ _ _ _ _ _ hbare hk10 hkids]
       simp_all [andT, andS, z14]
       done)
     refine smR 9 rfl <| nR <| wN 28 kR0 h30 rfl rfl rfl <| wR 0 [29, 30] kR0 h30 <| smR 2 rfl <| nR <| wDn kR0 <| tQ <| tDr z15 (fun k => k ∈ ([3] : List Nat)) <| wR 15 [0, 1, 2, 3, 4, 5, 6, 7] kR0 h30 <| smR 7 rfl <| nUr rfl rfl rfl rfl rfl rfl rfl ?_
     refine nR <| WA.takeNoU (i := 8) rfl kR0 kR0 kR0 h30 rfl rfl rfl rfl rfl rfl <| wR 4 [9, 10, 11, 12, 13, 14, 15, 16, 17, 18] kR0 h30 <| nUr rfl rfl rfl rfl rfl rfl rfl <| smR 9 rfl <| nR <| wN 19 kR0 h30 rfl rfl rfl <| wN 20 kR0 h30 rfl rfl rfl <| wR 0 [21, 22] kR0 h30 <| smR 2 rfl <| nR <| wDn kR0 ?_
     refine tRt ?_
     (have h2 : (z0v u f deep wh seen set x).2 = (z0f u f (deep + 1) ⟨true, wh.Loop, r8of f.types x.outs, wh.Next, wh.Left⟩ seen set ka).2 := (by rw [z0z _ _ _ _ _ _ hbare hk10 hkids]; simp_all [andT, andS, z14]; done)
      rw [h2]
      refine rOk rfl ?_ (po2 rfl rfl)
      clear h2
      rw [z0z _ _ _ _ _ _ hbare hk10 hkids]
      simp_all [andT, andS, z14]
      done)
    refine smR 9 rfl <| nR <| wN 16 kR0 h30 rfl rfl rfl <| wR 3 [17, 18, 19, 20, 21, 22, 23, 24, 25, 26, 27] kR0 h30 <| smR 11 rfl <| nR <| wN 28 kR0 h30 rfl rfl rfl <| wR 0 [29, 30] kR0 h30 <| smR 2 rfl <| nR <| wDn kR0 <| tQ ?_
    refine tDr z15 (fun k => k ∈ ([3] : List Nat)) <| wR 15 [0, 1, 2, 3, 4, 5, 6, 7] kR0 h30 <| smR 7 rfl <| nUr rfl rfl rfl rfl rfl rfl rfl <| nR <| WA.takeNoU (i := 8) rfl kR0 kR0 kR0 h30 rfl rfl rfl rfl rfl rfl <| wR 4 [9, 10, 11, 12, 13, 14, 15, 16, 17, 18] kR0 h30 <| nUr rfl rfl rfl rfl rfl rfl rfl <| smR 9 rfl <| nR <| wN 19 kR0 h30 rfl rfl rfl <| wN 20 kR0 h30 rfl rfl rfl ?_
    refine wR 0 [21, 22] kR0 h30 <| smR 2 rfl <| nR <| wDn kR0 <| tRt ?_
    (have h2 : (z0v u f deep wh seen set x).2 = set := (by rw [z0z _ _ _ _ _ _ hbare hk10 hkids]; simp_all [andT, andS, z14]; done)
     rw [h2]
     refine rOk rfl ?_ (po2 rfl rfl)
     clear h2
     rw [z0z _ _ _ _ _ _ hbare hk10 hkids]
     simp_all [andT, andS, z14]
     done)
   refine wI rfl rfl (fun k (h : _) => by (simp at h ⊢; omega)) (z10 rfl) (fun _ _ => aLc (k := 111) rfl tZ91 rfl rfl rfl rfl) <| wO 5 kR0 <| wI rfl rfl (fun k (h : _) => by (simp at h ⊢; omega)) (nAp rfl) (fun _ _ => ocr (z57 u f set x.outs hbo) ze4 rfl (po2 rfl rfl) rfl (fun k (h : _) => by (simp only [List.mem_cons, List.not_mem_nil, or_false] at h; rcases h with rfl <;> first | exact .inl rfl | exact .inr rfl | exact .inr dC0)) rfl rfl) <| wR 1 [10] kR0 h30 <| rV rfl rfl (bPu rfl rfl tZ91 tP91 rfl (fbk rfl) rfl) <| nR <| wO 12 kR0 <| wI rfl rfl (fun k (h : _) => by (simp at h ⊢; omega)) (nOl rfl) (fun _ _ => sBA rfl rfl rfl rfl rfl sI0 tS91 (flk rfl) (lb rfl)) <| wDn kR0 <| tQ <| tDr z15 (fun k => k ∈ ([3, 111] : List Nat)) <| wR 27 [0, 1, 2, 3] kR0 h30 ?_
   refine smR 4 rfl <| nR <| wO 4 kR0 <| wI rfl rfl (fun k (h : _) => by (simp at h ⊢; omega)) nw (fun _ _ => bSl rfl rfl uT35 tZ3 tS3 rfl rfl rfl rfl (fbk rfl) rfl) <| wO 5 kR0 <| wI rfl rfl (fun k (h : _) => by (simp at h ⊢; omega)) (nAp rfl) (fun _ _ => ocr (z19 u f set x.args seen [2]) z65 rfl (po2 rfl rfl) rfl (fun k (h : _) => .inr trivial) rfl rfl) <| wR 15 [6, 7, 8, 9, 10, 11, 12, 13, 14, 15] kR0 h30 <| smR 1 rfl ?_
   refine WR.split (t := 39) rfl (fun hb39 => ?_) (fun hb39 => ?_)
   ·refine smR 3 rfl <| ryV rfl rfl rfl (iSq rfl rfl rfl uT41 hi0 tS44 rfl (by rfl)) <| smR 2 rfl <| ryV rfl rfl rfl (lBP rfl rfl rfl Tryz.underlying91 rfl tS91 (lb rfl) rfl dC0) <| smR 1 rfl <| ryV rfl rfl rfl (oB rfl rfl (z05 rfl oM0)) <| nR <| wO 16 kR0 <| wY rfl rfl rfl (fun k (h : _) => by (simp at h ⊢; omega)) (nAp rfl) (fun _ _ => ocr (ih ka hm0 (deep + 1) ⟨true, wh.Loop, r8of f.types x.outs, wh.Next, wh.Left⟩ seen set ⟨by omega, by omega⟩ hs hb0) zl4 rfl (po2 rfl rfl) rfl (fun k (h : _) => by (simp only [List.mem_cons, List.not_mem_nil, or_false] at h; rcases h with rfl | rfl <;> first | exact .inl rfl | exact .inr rfl | exact .inr dC0)) rfl rfl) <| wR 3 [17, 18, 19, 20, 21, 22, 23, 24, 25, 26, 27] kR0 h30 <| smR 2 rfl ?_
    refine WR.split (t := 51) rfl (fun hb51 => ?_) (fun hb51 => ?_)
    ·refine smR 3 rfl <| ryV rfl rfl rfl (iSq rfl rfl rfl uT41 hi1 tS44 rfl (by rfl)) <| smR 2 rfl <| ryV rfl rfl rfl (lBP rfl rfl rfl Tryz.underlying91 rfl tS91 (lb rfl) rfl dC0) <| smR 1 rfl <| ryV rfl rfl rfl (oB rfl rfl (z05 rfl oM0)) <| nR <| wO 28 kR0 <| wY rfl rfl rfl (fun k (h : _) => by (simp at h ⊢; omega)) (nAp rfl) (fun _ _ => ocr (ih kb hm1 (deep + 1) ⟨true, wh.Loop, r8of f.types x.outs, wh.Next, wh.Left⟩ seen (z0f u f (deep + 1) ⟨true, wh.Loop, r8of f.types x.outs, wh.Next, wh.Left⟩ seen set ka).2 ⟨by omega, by omega⟩ hs1 hb1) zl4 rfl (po2 rfl rfl) rfl (fun k (h : _) => by (simp only [List.mem_cons, List.not_mem_nil, or_false] at h; rcases h with rfl | rfl <;> first | exact .inl rfl | exact .inr rfl | exact .inr dC0)) rfl rfl) <| wR 0 [29, 30] kR0 h30 <| smR 2 rfl <| nR ?_
     refine wDn kR0 <| tQ <| tDr z15 (fun k => k ∈ ([3] : List Nat)) <| wR 15 [0, 1, 2, 3, 4, 5, 6, 7] kR0 h30 <| smR 2 rfl ?_
     refine WR.split (t := 64) rfl (fun hb64 => ?_) (fun hb64 => ?_)
     ·refine smR 2 rfl <| ryV rfl rfl rfl (oSm uT35 rfl) <| smR 2 rfl ?_
      refine WR.split (t := 69) rfl (fun hb69 => ?_) (fun hb69 => ?_)
      ·refine smR 1 rfl <| nR <| wN 8 kR0 h30 rfl rfl rfl <| wR 4 [9, 10, 11, 12, 13, 14, 15, 16, 17, 18] kR0 h30 <| smR 9 rfl <| ryV rfl rfl rfl (oSm uT35 rfl) <| nR <| wO 19 kR0 <| wY rfl rfl rfl (fun k (h : _) => by (simp at h ⊢; omega)) (z10 rfl) (fun _ _ => z0y (k := 182) (s := ⟨3, 1⟩) rfl rfl rfl uT35 tZ3 tC3 rfl dC0 oM0 oM0 rfl rfl rfl rfl) <| wO 20 kR0 <| wY rfl rfl rfl (fun k (h : _) => by (simp at h ⊢; omega)) (nAp rfl) (fun _ _ => z29 (fun k => k = 182) (z1b u f (z0f u f (deep + 1) ⟨true, wh.Loop, r8of f.types x.outs, wh.Next, wh.Left⟩ seen (z0f u f (deep + 1) ⟨true, wh.Loop, r8of f.types x.outs, wh.Next, wh.Left⟩ seen set ka).2 kb).2 x.outs (List.replicate x.outs.length 0) hs2) z54 rfl rfl (sRf _ _) (And.intro LendOf.same (And.intro LendOf.same (And.intro (LendOf.row rfl rfl (by (simp; done)) (by (simp only [List.map_replicate]; rfl))) (trivial)))) (fun k h => by subst h; rfl) (po2 rfl rfl) rfl (fun k (h : _) => by (simp only [List.mem_cons, List.not_mem_nil, or_false] at h; rcases h with rfl <;> first | exact .inl rfl | exact .inr rfl | exact .inr dC0)) ⟨_, rfl⟩ (z2d (z0t ..))) <| wR 0 [21, 22] kR0 h30 ?_
       refine smR 2 rfl <| nR <| wDn kR0 <| tRt ?_
       (have h2 : (z0v u f deep wh seen set x).2 = (z0j f.types (z0f u f (deep + 1) ⟨true, wh.Loop, r8of f.types x.outs, wh.Next, wh.Left⟩ seen (z0f u f (deep + 1) ⟨true, wh.Loop, r8of f.types x.outs, wh.Next, wh.Left⟩ seen set ka).2 kb).2 x.outs (List.replicate x.outs.length 0)).2 := (by rw [z0z _ _ _ _ _ _ hbare hk10 hkids]; simp_all [andT, andS, z14]; done)
        rw [h2]
        refine rOk rfl ?_ (po2 rfl rfl)
        clear h2
        rw [z0z _ _ _ _ _ _ hbare hk10 hkids]
        simp_all [andT, andS, z14]
        done)
      refine ryV rfl rfl rfl (lEA rfl rfl uT43 rfl tS43 (lb rfl)) <| nR <| wO 8 kR0 <| wY rfl rfl rfl (fun k (h : _) => by (simp at h ⊢; omega)) nw (fun _ _ => ocq (z3l _) zw8 rfl rfl) <| wR 4 [9, 10, 11, 12, 13, 14, 15, 16, 17, 18] kR0 h30 <| smR 4 rfl ?_
      refine WR.split (t := 75) rfl (fun hb75 => ?_) (fun hb75 => ?_)
      ·refine smR 5 rfl <| ryV rfl rfl rfl (oSm uT35 rfl) <| nR <| wO 19 kR0 <| wY rfl rfl rfl (fun k (h : _) => by (simp at h ⊢; omega)) (z10 rfl) (fun _ _ => z0y (k := 182) (s := ⟨3, 1⟩) rfl rfl rfl uT35 tZ3 tC3 rfl dC0 oM0 oM0 rfl rfl rfl rfl) <| wO 20 kR0 <| wY rfl rfl rfl (fun k (h : _) => by (simp at h ⊢; omega)) (nAp rfl) (fun _ _ => z29 (fun k => k = 182) (z1b u f (z0f u f (deep + 1) ⟨true, wh.Loop, r8of f.types x.outs, wh.Next, wh.Left⟩ seen (z0f u f (deep + 1) ⟨true, wh.Loop, r8of f.types x.outs, wh.Next, wh.Left⟩ seen set ka).2 kb).2 x.outs (List.replicate x.outs.length 0) hs2) z54 rfl rfl (sRf _ _) (And.intro LendOf.same (And.intro LendOf.same (And.intro (LendOf.row rfl rfl (by (simp; done)) (by (simp only [List.map_replicate]; rfl))) (trivial)))) (fun k h => by subst h; rfl) (po2 rfl rfl) rfl (fun k (h : _) => by (simp only [List.mem_cons, List.not_mem_nil, or_false] at h; rcases h with rfl <;> first | exact .inl rfl | exact .inr rfl | exact .inr dC0)) ⟨_, rfl⟩ (z2d (z0t ..))) <| wR 0 [21, 22] kR0 h30 <| smR 2 rfl <| nR <| wDn kR0 <| tRt ?_
       (have h2 : (z0v u f deep wh seen set x).2 = (z0j f.types (z0f u f (deep + 1) ⟨true, wh.Loop, r8of f.types x.outs, wh.Next, wh.Left⟩ seen (z0f u f (deep + 1) ⟨true, wh.Loop, r8of f.types x.outs, wh.Next, wh.Left⟩ seen set ka).2 kb).2 x.outs (List.replicate x.outs.length 0)).2 := (by rw [z0z _ _ _ _ _ _ hbare hk10 hkids]; simp_all [andT, andS, z14]; done)
        rw [h2]
        refine rOk rfl ?_ (po2 rfl rfl)
        clear h2
        rw [z0z _ _ _ _ _ _ hbare hk10 hkids]
        simp_all [andT, andS, z14]
        done)
      refine smR 6 rfl <| nR <| wN 19 kR0 h30 rfl rfl rfl <| wN 20 kR0 h30 rfl rfl rfl <| wR 0 [21, 22] kR0 h30 <| smR 2 rfl <| nR <| wDn kR0 <| tRt ?_
      (have h2 : (z0v u f deep wh seen set x).2 = (z0f u f (deep + 1) ⟨true, wh.Loop, r8of f.types x.outs, wh.Next, wh.Left⟩ seen (z0f u f (deep + 1) ⟨true, wh.Loop, r8of f.types x.outs, wh.Next, wh.Left⟩ seen set ka).2 kb).2 := (by rw [z0z _ _ _ _ _ _ hbare hk10 hkids]; simp_all [andT, andS, z14]; done)
       rw [h2]
       refine rOk rfl ?_ (po2 rfl rfl)
       clear h2
       rw [z0z _ _ _ _ _ _ hbare hk10 hkids]
       simp_all [andT, andS, z14]
       done)
     refine smR 5 rfl <| nUr rfl rfl rfl rfl rfl rfl rfl <| nR <| WA.takeNoU (i := 8) rfl kR0 kR0 kR0 h30 rfl rfl rfl rfl rfl rfl <| wR 4 [9, 10, 11, 12, 13, 14, 15, 16, 17, 18] kR0 h30 <| nUr rfl rfl rfl rfl rfl rfl rfl <| smR 9 rfl <| nR <| wN 19 kR0 h30 rfl rfl rfl <| wN 20 kR0 h30 rfl rfl rfl <| wR 0 [21, 22] kR0 h30 <| smR 2 rfl ?_
     refine nR <| wDn kR0 <| tRt ?_
     (have h2 : (z0v u f deep wh seen set x).2 = (z0f u f (deep + 1) ⟨true, wh.Loop, r8of f.types x.outs, wh.Next, wh.Left⟩ seen (z0f u f (deep + 1) ⟨true, wh.Loop, r8of f.types x.outs, wh.Next, wh.Left⟩ seen set ka).2 kb).2 := (by rw [z0z _ _ _ _ _ _ hbare hk10 hkids]; simp_all [andT, andS, z14]; done)
      rw [h2]
      refine rOk rfl ?_ (po2 rfl rfl)
      clear h2
      rw [z0z _ _ _ _ _ _ hbare hk10 hkids]
      simp_all [andT, andS, z14]
      done)
    refine smR 9 rfl <| nR <| wN 28 kR0 h30 rfl rfl rfl <| wR 0 [29, 30] kR0 h30 <| smR 2 rfl <| nR <| wDn kR0 <| tQ <| tDr z15 (fun k => k ∈ ([3] : List Nat)) <| wR 15 [0, 1, 2, 3, 4, 5, 6, 7] kR0 h30 <| smR 7 rfl <| nUr rfl rfl rfl rfl rfl rfl rfl ?_
    refine nR <| WA.takeNoU (i := 8) rfl kR0 kR0 kR0 h30 rfl rfl rfl rfl rfl rfl <| wR 4 [9, 10, 11, 12, 13, 14, 15, 16, 17, 18] kR0 h30 <| nUr rfl rfl rfl rfl rfl rfl rfl <| smR 9 rfl <| nR <| wN 19 kR0 h30 rfl rfl rfl <| wN 20 kR0 h30 rfl rfl rfl <| wR 0 [21, 22] kR0 h30 <| smR 2 rfl <| nR <| wDn kR0 ?_
    refine tRt ?_
    (have h2 : (z0v u f deep wh seen set x).2 = (z0f u f (deep + 1) ⟨true, wh.Loop, r8of f.types x.outs, wh.Next, wh.Left⟩ seen set ka).2 := (by rw [z0z _ _ _ _ _ _ hbare hk10 hkids]; simp_all [andT, andS, z14]; done)
     rw [h2]
     refine rOk rfl ?_ (po2 rfl rfl)
     clear h2
     rw [z0z _ _ _ _ _ _ hbare hk10 hkids]
     simp_all [andT, andS, z14]
     done)
   refine smR 9 rfl <| nR <| wN 16 kR0 h30 rfl rfl rfl <| wR 3 [17, 18, 19, 20, 21, 22, 23, 24, 25, 26, 27] kR0 h30 <| smR 11 rfl <| nR <| wN 28 kR0 h30 rfl rfl rfl <| wR 0 [29, 30] kR0 h30 <| smR 2 rfl <| nR <| wDn kR0 <| tQ ?_
   refine tDr z15 (fun k => k ∈ ([3] : List Nat)) <| wR 15 [0, 1, 2, 3, 4, 5, 6, 7] kR0 h30 <| smR 7 rfl <| nUr rfl rfl rfl rfl rfl rfl rfl <| nR <| WA.takeNoU (i := 8) rfl kR0 kR0 kR0 h30 rfl rfl rfl rfl rfl rfl <| wR 4 [9, 10, 11, 12, 13, 14, 15, 16, 17, 18] kR0 h30 <| nUr rfl rfl rfl rfl rfl rfl rfl <| smR 9 rfl <| nR <| wN 19 kR0 h30 rfl rfl rfl <| wN 20 kR0 h30 rfl rfl rfl ?_
   refine wR 0 [21, 22] kR0 h30 <| smR 2 rfl <| nR <| wDn kR0 <| tRt ?_
   (have h2 : (z0v u f deep wh seen set x).2 = set := (by rw [z0z _ _ _ _ _ _ hbare hk10 hkids]; simp_all [andT, andS, z14]; done)
    rw [h2]
    refine rOk rfl ?_ (po2 rfl rfl)
    clear h2
    rw [z0z _ _ _ _ _ _ hbare hk10 hkids]
    simp_all [andT, andS, z14]
    done)
  refine tQ <| tG <| sm 2 rfl <| nL ?_
  refine tC rfl (fun hc85 => ?_) fun hc85 => ?_
  ·have hk11 : x.kind = 11 := by simpa using hc85
   obtain ⟨ka, hkids⟩ := z22 hbare hk11
   have hi0 : (x.kids.map eKid)[0]? = some [z07 ka] := by rw [hkids]; rfl
   have hm0 : ka ∈ x.kids := by rw [hkids]; simp
   have hkW : kdW x.kids = 1 + lsW ka := by rw [hkids]; simp [kdW]
   have hb0 : (seen ++ x.params).length + lsW ka <= 1073741824 := by simp; omega
   have hs1 : (z0j f.types set x.params (List.replicate x.params.length 0)).2.length = f.types.length := (z0t ..).trans hs
   have hs2 : (z0f u f (deep + 1) ⟨false, true, [], r8of f.types x.params, r8of f.types x.outs⟩ (seen ++ x.params) (z0j f.types set x.params (List.replicate x.params.length 0)).2 ka).2.length = f.types.length := (z2a ..).trans hs1
   refine tQ <| tDr z15 (fun k => k ∈ ([3] : List Nat)) <| wR 5 [0, 1, 2, 4, 5, 6] kR0 h30 <| smR 6 rfl <| nR <| WA.all (rs := [3, 9]) kR0 sI0 ?_
   refine fmc ⟨?_, fmc ⟨?_, by simp⟩⟩
   ·refine wI rfl rfl (fun k (h : _) => by (simp at h ⊢; omega)) (nAp rfl) (fun _ _ => ocr (z57 u f set x.params hbp) ze4 rfl (po2 rfl rfl) rfl (fun k (h : _) => by (simp only [List.mem_cons, List.not_mem_nil, or_false] at h; rcases h with rfl <;> first | exact .inl rfl | exact .inr rfl | exact .inr dC0)) rfl rfl) <| WA.all (rs := [7, 9]) kR0 sI0 ?_
    refine fmc ⟨?_, fmc ⟨?_, by simp⟩⟩
    ·refine wI rfl rfl (fun k (h : _) => by (simp at h ⊢; omega)) (nAp rfl) (fun _ _ => ocr (z57 u f set x.outs hbo) ze4 rfl (po2 rfl rfl) rfl (fun k (h : _) => by (simp only [List.mem_cons, List.not_mem_nil, or_false] at h; rcases h with rfl <;> first | exact .inl rfl | exact .inr rfl | exact .inr dC0)) rfl rfl) <| wR 2 [8] kR0 h30 <| rV rfl rfl (bPu rfl rfl tZ91 tP91 rfl (fbk rfl) rfl) <| nR <| wO 9 kR0 <| wI rfl rfl (fun k (h : _) => by (simp at h ⊢; omega)) (z10 rfl) (fun _ _ => aLc (k := 113) rfl tZ91 rfl rfl rfl rfl) <| wO 10 kR0 <| wI rfl rfl (fun k (h : _) => by (simp at h ⊢; omega)) (nOl rfl) (fun _ _ => sBA rfl rfl rfl rfl rfl sI0 tS91 (flk rfl) (lb rfl)) <| wDn kR0 <| tQ <| tQ <| tDr z15 (fun k => k ∈ ([3] : List Nat)) ?_
     refine wR 14 [0, 1, 2, 3, 4, 5, 6] kR0 h30 <| smR 7 rfl <| nR <| wO 7 kR0 <| wI rfl rfl (fun k (h : _) => by (simp at h ⊢; omega)) (nAp rfl) (fun _ _ => ocr (z57 u f set x.params hbp) ze4 rfl (po2 rfl rfl) rfl (fun k (h : _) => by (simp only [List.mem_cons, List.not_mem_nil, or_false] at h; rcases h with rfl <;> first | exact .inl rfl | exact .inr rfl | exact .inr dC0)) rfl rfl) <| wO 8 kR0 <| wI rfl rfl (fun k (h : _) => by (simp at h ⊢; omega)) (nAp rfl) (fun _ _ => ocr (z19 u f set x.args seen (r8of f.types x.params)) z65 rfl (po2 rfl rfl) rfl (fun k (h : _) => .inr trivial) rfl rfl) <| wR 4 [9, 10, 11, 12, 13, 14, 15, 16] kR0 h30 <| smR 2 rfl ?_
     refine WR.split (t := 106) rfl (fun hb106 => ?_) (fun hb106 => ?_)
     ·refine smR 6 rfl <| nR <| wN 17 kR0 h30 rfl rfl rfl <| wN 18 kR0 h30 rfl rfl rfl <| wR 0 [19, 20] kR0 h30 <| smR 2 rfl <| nR <| wDn kR0 <| Tr.condT rfl <| tQ <| tG <| sm 1 rfl ?_
      refine nL <| tRt ?_
      (have h2 : (z0v u f deep wh seen set x).2 = set := (by rw [z0b _ _ _ _ _ _ hbare hk11 hkids]; simp_all [andT, andS, z14]; done)
       rw [h2]
       refine rOk rfl ?_ (po2 rfl rfl)
       clear h2
       rw [z0b _ _ _ _ _ _ hbare hk11 hkids]
       simp_all [andT, andS, z14]
       done)
     refine smR 5 rfl <| ryV rfl rfl rfl (oSm uT35 rfl) <| nR <| wO 17 kR0 <| wY rfl rfl rfl (fun k (h : _) => by (simp at h ⊢; omega)) (z10 rfl) (fun _ _ => z0y (k := 213) (s := ⟨3, 1⟩) rfl rfl rfl uT35 tZ3 tC3 rfl dC0 oM0 oM0 rfl rfl rfl rfl) <| wO 18 kR0 <| wY rfl rfl rfl (fun k (h : _) => by (simp at h ⊢; omega)) (nAp rfl) (fun _ _ => z29 (fun k => k = 213) (z1b u f set x.params (List.replicate x.params.length 0) hs) z54 rfl rfl (sRf _ _) (And.intro LendOf.same (And.intro LendOf.same (And.intro (LendOf.row rfl rfl (by (simp; done)) (by (simp only [List.map_replicate]; rfl))) (trivial)))) (fun k h => by subst h; rfl) (po2 rfl rfl) rfl (fun k (h : _) => by (simp only [List.mem_cons, List.not_mem_nil, or_false] at h; rcases h with rfl <;> first | exact .inl rfl | exact .inr rfl | exact .inr dC0)) ⟨_, rfl⟩ (z2d (z0t ..))) <| wR 0 [19, 20] kR0 h30 <| smR 2 rfl <| nR <| wDn kR0 ?_
     refine tC rfl (fun hc116 => ?_) fun hc116 => ?_
     ·refine tQ <| tG <| sm 1 rfl <| nL <| tRt ?_
      (have h2 : (z0v u f deep wh seen set x).2 = (z0j f.types set x.params (List.replicate x.params.length 0)).2 := (by rw [z0b _ _ _ _ _ _ hbare hk11 hkids]; simp_all [andT, andS, z14]; done)
       rw [h2]
       refine rOk rfl ?_ (po2 rfl rfl)
       clear h2
       rw [z0b _ _ _ _ _ _ hbare hk11 hkids]
       simp_all [andT, andS, z14]
       done)
     refine tSk <| tQ <| tG <| sm 1 rfl <| nL <| tQ <| Tr.grow (t := 14) (k := 114) ⟨3, 1⟩ rfl rfl rfl rfl rfl <| tG <| sm 2 rfl ?_
     refine cE rfl (aPp rfl rfl rfl rfl (by rfl) sI0 uT35 tB3 dC0 (z7u) (z4y) (by simp [maxLen, z09]; omega) (by simp [z09]; omega)) ?_
     refine sm 1 rfl <| nL <| tQ <| tG <| sm 3 rfl ?_
     refine cE rfl (aPp rfl rfl rfl rfl (by (simp; done)) sI0 uT35 tB3 dC0 (z7u) (z4y) (by simp [maxLen, z09]; omega) (by simp [z09]; omega)) ?_
     refine sm 1 rfl <| nL <| tQ <| tDr z15 (fun k => k ∈ ([3, 113] : List Nat)) <| wR 23 [0, 1, 2, 3, 4, 5, 6, 7, 8] kR0 h30 <| smR 3 rfl <| rV rfl rfl (iSq rfl rfl rfl uT41 hi0 tS44 rfl (by rfl)) <| smR 2 rfl <| rV rfl rfl (lBP rfl rfl rfl Tryz.underlying91 rfl tS91 (lb rfl) rfl dC0) <| smR 1 rfl <| rV rfl rfl (oB rfl rfl (z05 rfl oM0)) <| nR ?_
     refine wO 9 kR0 <| wI rfl rfl (fun k (h : _) => by (simp at h ⊢; omega)) (nAp rfl) (fun _ _ => z29 (fun k => k = 114) (ih ka hm0 (deep + 1) ⟨false, true, [], r8of f.types x.params, r8of f.types x.outs⟩ (seen ++ x.params) (z0j f.types set x.params (List.replicate x.params.length 0)).2 ⟨by omega, by omega⟩ hs1 hb0) zl4 rfl rfl (sSm rfl (sSm rfl (sSm rfl (Subs.cons (fun _ _ _ _ h => z42 (q := whv ⟨false, true, [], r8of f.types x.params, r8of f.types x.outs⟩) (PSub.agg (ps := [vBool false, vBool true, .val (.slice none 0 0), ints (r8of f.types x.params), ints (r8of f.types x.outs)]) (And.intro (PSub.refl _) (And.intro (PSub.refl _) (And.intro PSub.nil (And.intro (PSub.refl _) (And.intro (PSub.refl _) trivial)))))) h) (sSm rfl Subs.nil))))) (And.intro LendOf.same (And.intro LendOf.same (And.intro (LendOf.row rfl rfl (by (simp; done)) (by (simp; done))) (And.intro LendOf.same (And.intro LendOf.same (trivial)))))) (fun k h => by subst h; rfl) (po2 rfl rfl) rfl (fun k (h : _) => by (simp only [List.mem_cons, List.not_mem_nil, or_false] at h; rcases h with rfl | rfl <;> first | exact .inl rfl | exact .inr rfl | exact .inr dC0)) ⟨_, rfl⟩ (z2d (z2a ..))) <| wR 15 [10, 11, 12, 13, 14, 15, 16] kR0 h30 <| smR 1 rfl ?_
     refine WR.split (t := 134) rfl (fun hb134 => ?_) (fun hb134 => ?_)
     ·refine smR 2 rfl <| ryV rfl rfl rfl (oSm uT35 rfl) <| smR 2 rfl ?_
      refine WR.split (t := 139) rfl (fun hb139 => ?_) (fun hb139 => ?_)
      ·refine smR 1 rfl <| nR <| wN 17 kR0 h30 rfl rfl rfl <| wR 4 [18, 19, 20, 21, 22, 23, 24, 25, 26, 27] kR0 h30 <| smR 9 rfl <| ryV rfl rfl rfl (oSm uT35 rfl) <| nR <| wO 28 kR0 <| wY rfl rfl rfl (fun k (h : _) => by (simp at h ⊢; omega)) (z10 rfl) (fun _ _ => z0y (k := 252) (s := ⟨3, 1⟩) rfl rfl rfl uT35 tZ3 tC3 rfl dC0 oM0 oM0 rfl rfl rfl rfl) <| wO 29 kR0 <| wY rfl rfl rfl (fun k (h : _) => by (simp at h ⊢; omega)) (nAp rfl) (fun _ _ => z29 (fun k => k = 252) (z1b u f (z0f u f (deep + 1) ⟨false, true, [], r8of f.types x.params, r8of f.types x.outs⟩ (seen ++ x.params) (z0j f.types set x.params (List.replicate x.params.length 0)).2 ka).2 x.outs (List.replicate x.outs.length 0) hs2) z54 rfl rfl (sRf _ _) (And.intro LendOf.same (And.intro LendOf.same (And.intro (LendOf.row rfl rfl (by (simp; done)) (by (simp only [List.map_replicate]; rfl))) (trivial)))) (fun k h => by subst h; rfl) (po2 rfl rfl) rfl (fun k (h : _) => by (simp only [List.mem_cons, List.not_mem_nil, or_false] at h; rcases h with rfl | rfl <;> first | exact .inl rfl | exact .inr rfl | exact .inr dC0)) ⟨_, rfl⟩ (z2d (z0t ..))) <| wR 0 [30, 31] kR0 h30 ?_
       refine smR 2 rfl <| nR <| wDn kR0 <| tRt ?_
       (have h2 : (z0v u f deep wh seen set x).2 = (z0j f.types (z0f u f (deep + 1) ⟨false, true, [], r8of f.types x.params, r8of f.types x.outs⟩ (seen ++ x.params) (z0j f.types set x.params (List.replicate x.params.length 0)).2 ka).2 x.outs (List.replicate x.outs.length 0)).2 := (by rw [z0b _ _ _ _ _ _ hbare hk11 hkids]; simp_all [andT, andS, z14]; done)
        rw [h2]
        refine rOk rfl ?_ (po2 rfl rfl)
        clear h2
        rw [z0b _ _ _ _ _ _ hbare hk11 hkids]
        simp_all [andT, andS, z14]
        done)
      refine ryV rfl rfl rfl (lEA rfl rfl uT43 rfl tS43 (lb rfl)) <| nR <| wO 17 kR0 <| wY rfl rfl rfl (fun k (h : _) => by (simp at h ⊢; omega)) nw (fun _ _ => ocq (z3l _) zw8 rfl rfl) <| wR 4 [18, 19, 20, 21, 22, 23, 24, 25, 26, 27] kR0 h30 <| smR 4 rfl ?_
      refine WR.split (t := 145) rfl (fun hb145 => ?_) (fun hb145 => ?_)
      ·refine smR 5 rfl <| ryV rfl rfl rfl (oSm uT35 rfl) <| nR <| wO 28 kR0 <| wY rfl rfl rfl (fun k (h : _) => by (simp at h ⊢; omega)) (z10 rfl) (fun _ _ => z0y (k := 252) (s := ⟨3, 1⟩) rfl rfl rfl uT35 tZ3 tC3 rfl dC0 oM0 oM0 rfl rfl rfl rfl) <| wO 29 kR0 <| wY rfl rfl rfl (fun k (h : _) => by (simp at h ⊢; omega)) (nAp rfl) (fun _ _ => z29 (fun k => k = 252) (z1b u f (z0f u f (deep + 1) ⟨false, true, [], r8of f.types x.params, r8of f.types x.outs⟩ (seen ++ x.params) (z0j f.types set x.params (List.replicate x.params.length 0)).2 ka).2 x.outs (List.replicate x.outs.length 0) hs2) z54 rfl rfl (sRf _ _) (And.intro LendOf.same (And.intro LendOf.same (And.intro (LendOf.row rfl rfl (by (simp; done)) (by (simp only [List.map_replicate]; rfl))) (trivial)))) (fun k h => by subst h; rfl) (po2 rfl rfl) rfl (fun k (h : _) => by (simp only [List.mem_cons, List.not_mem_nil, or_false] at h; rcases h with rfl | rfl <;> first | exact .inl rfl | exact .inr rfl | exact .inr dC0)) ⟨_, rfl⟩ (z2d (z0t ..))) <| wR 0 [30, 31] kR0 h30 <| smR 2 rfl <| nR <| wDn kR0 <| tRt ?_
       (have h2 : (z0v u f deep wh seen set x).2 = (z0j f.types (z0f u f (deep + 1) ⟨false, true, [], r8of f.types x.params, r8of f.types x.outs⟩ (seen ++ x.params) (z0j f.types set x.params (List.replicate x.params.length 0)).2 ka).2 x.outs (List.replicate x.outs.length 0)).2 := (by rw [z0b _ _ _ _ _ _ hbare hk11 hkids]; simp_all [andT, andS, z14]; done)
        rw [h2]
        refine rOk rfl ?_ (po2 rfl rfl)
        clear h2
        rw [z0b _ _ _ _ _ _ hbare hk11 hkids]
        simp_all [andT, andS, z14]
        done)
      refine smR 6 rfl <| nR <| wN 28 kR0 h30 rfl rfl rfl <| wN 29 kR0 h30 rfl rfl rfl <| wR 0 [30, 31] kR0 h30 <| smR 2 rfl <| nR <| wDn kR0 <| tRt ?_
      (have h2 : (z0v u f deep wh seen set x).2 = (z0f u f (deep + 1) ⟨false, true, [], r8of f.types x.params, r8of f.types x.outs⟩ (seen ++ x.params) (z0j f.types set x.params (List.replicate x.params.length 0)).2 ka).2 := (by rw [z0b _ _ _ _ _ _ hbare hk11 hkids]; simp_all [andT, andS, z14]; done)
       rw [h2]
       refine rOk rfl ?_ (po2 rfl rfl)
       clear h2
       rw [z0b _ _ _ _ _ _ hbare hk11 hkids]
       simp_all [andT, andS, z14]
       done)
     refine smR 5 rfl <| nUr rfl rfl rfl rfl rfl rfl rfl <| nR <| WA.takeNoU (i := 17) rfl kR0 kR0 kR0 h30 rfl rfl rfl rfl rfl rfl <| wR 4 [18, 19, 20, 21, 22, 23, 24, 25, 26, 27] kR0 h30 <| nUr rfl rfl rfl rfl rfl rfl rfl <| smR 9 rfl <| nR <| wN 28 kR0 h30 rfl rfl rfl <| wN 29 kR0 h30 rfl rfl rfl <| wR 0 [30, 31] kR0 h30 <| smR 2 rfl ?_
     refine nR <| wDn kR0 <| tRt ?_
     (have h2 : (z0v u f deep wh seen set x).2 = (z0f u f (deep + 1) ⟨false, true, [], r8of f.types x.params, r8of f.types x.outs⟩ (seen ++ x.params) (z0j f.types set x.params (List.replicate x.params.length 0)).2 ka).2 := (by rw [z0b _ _ _ _ _ _ hbare hk11 hkids]; simp_all [andT, andS, z14]; done)
      rw [h2]
      refine rOk rfl ?_ (po2 rfl rfl)
      clear h2
      rw [z0b _ _ _ _ _ _ hbare hk11 hkids]
      simp_all [andT, andS, z14]
      done)
    refine wI rfl rfl (fun k (h : _) => by (simp at h ⊢; omega)) (z10 rfl) (fun _ _ => aLc (k := 113) rfl tZ91 rfl rfl rfl rfl) <| wO 7 kR0 <| wI rfl rfl (fun k (h : _) => by (simp at h ⊢; omega)) (nAp rfl) (fun _ _ => ocr (z57 u f set x.outs hbo) ze4 rfl (po2 rfl rfl) rfl (fun k (h : _) => by (simp only [List.mem_cons, List.not_mem_nil, or_false] at h; rcases h with rfl | rfl <;> first | exact .inl rfl | exact .inr rfl | exact .inr dC0)) rfl rfl) <| wR 1 [8] kR0 h30 <| rV rfl rfl (bPu rfl rfl tZ91 tP91 rfl (fbk rfl) rfl) <| nR <| wO 10 kR0 <| wI rfl rfl (fun k (h : _) => by (simp at h ⊢; omega)) (nOl rfl) (fun _ _ => sBA rfl rfl rfl rfl rfl sI0 tS91 (flk rfl) (lb rfl)) <| wDn kR0 <| tQ <| tQ <| tDr z15 (fun k => k ∈ ([3] : List Nat)) ?_
    refine wR 14 [0, 1, 2, 3, 4, 5, 6] kR0 h30 <| smR 7 rfl <| nR <| wO 7 kR0 <| wI rfl rfl (fun k (h : _) => by (simp at h ⊢; omega)) (nAp rfl) (fun _ _ => ocr (z57 u f set x.params hbp) ze4 rfl (po2 rfl rfl) rfl (fun k (h : _) => by (simp only [List.mem_cons, List.not_mem_nil, or_false] at h; rcases h with rfl <;> first | exact .inl rfl | exact .inr rfl | exact .inr dC0)) rfl rfl) <| wO 8 kR0 <| wI rfl rfl (fun k (h : _) => by (simp at h ⊢; omega)) (nAp rfl) (fun _ _ => ocr (z19 u f set x.args seen (r8of f.types x.params)) z65 rfl (po2 rfl rfl) rfl (fun k (h : _) => .inr trivial) rfl rfl) <| wR 4 [9, 10, 11, 12, 13, 14, 15, 16] kR0 h30 <| smR 2 rfl ?_
    refine WR.split (t := 106) rfl (fun hb106 => ?_) (fun hb106 => ?_)
    ·refine smR 6 rfl <| nR <| wN 17 kR0 h30 rfl rfl rfl <| wN 18 kR0 h30 rfl rfl rfl <| wR 0 [19, 20] kR0 h30 <| smR 2 rfl <| nR <| wDn kR0 <| Tr.condT rfl <| tQ <| tG <| sm 1 rfl ?_
     refine nL <| tRt ?_
     (have h2 : (z0v u f deep wh seen set x).2 = set := (by rw [z0b _ _ _ _ _ _ hbare hk11 hkids]; simp_all [andT, andS, z14]; done)
      rw [h2]
      refine rOk rfl ?_ (po2 rfl rfl)
      clear h2
      rw [z0b _ _ _ _ _ _ hbare hk11 hkids]
      simp_all [andT, andS, z14]
      done)
    refine smR 5 rfl <| ryV rfl rfl rfl (oSm uT35 rfl) <| nR <| wO 17 kR0 <| wY rfl rfl rfl (fun k (h : _) => by (simp at h ⊢; omega)) (z10 rfl) (fun _ _ => z0y (k := 213) (s := ⟨3, 1⟩) rfl rfl rfl uT35 tZ3 tC3 rfl dC0 oM0 oM0 rfl rfl rfl rfl) <| wO 18 kR0 <| wY rfl rfl rfl (fun k (h : _) => by (simp at h ⊢; omega)) (nAp rfl) (fun _ _ => z29 (fun k => k = 213) (z1b u f set x.params (List.replicate x.params.length 0) hs) z54 rfl rfl (sRf _ _) (And.intro LendOf.same (And.intro LendOf.same (And.intro (LendOf.row rfl rfl (by (simp; done)) (by (simp only [List.map_replicate]; rfl))) (trivial)))) (fun k h => by subst h; rfl) (po2 rfl rfl) rfl (fun k (h : _) => by (simp only [List.mem_cons, List.not_mem_nil, or_false] at h; rcases h with rfl <;> first | exact .inl rfl | exact .inr rfl | exact .inr dC0)) ⟨_, rfl⟩ (z2d (z0t ..))) <| wR 0 [19, 20] kR0 h30 <| smR 2 rfl <| nR <| wDn kR0 ?_
    refine tC rfl (fun hc116 => ?_) fun hc116 => ?_
    ·refine tQ <| tG <| sm 1 rfl <| nL <| tRt ?_
     (have h2 : (z0v u f deep wh seen set x).2 = (z0j f.types set x.params (List.replicate x.params.length 0)).2 := (by rw [z0b _ _ _ _ _ _ hbare hk11 hkids]; simp_all [andT, andS, z14]; done)
      rw [h2]
      refine rOk rfl ?_ (po2 rfl rfl)
      clear h2
      rw [z0b _ _ _ _ _ _ hbare hk11 hkids]
      simp_all [andT, andS, z14]
      done)
    refine tSk <| tQ <| tG <| sm 1 rfl <| nL <| tQ <| Tr.grow (t := 14) (k := 114) ⟨3, 1⟩ rfl rfl rfl rfl rfl <| tG <| sm 2 rfl ?_
    refine cE rfl (aPp rfl rfl rfl rfl (by rfl) sI0 uT35 tB3 dC0 (z7u) (z4y) (by simp [maxLen, z09]; omega) (by simp [z09]; omega)) ?_
    refine sm 1 rfl <| nL <| tQ <| tG <| sm 3 rfl ?_
    refine cE rfl (aPp rfl rfl rfl rfl (by (simp; done)) sI0 uT35 tB3 dC0 (z7u) (z4y) (by simp [maxLen, z09]; omega) (by simp [z09]; omega)) ?_
    refine sm 1 rfl <| nL <| tQ <| tDr z15 (fun k => k ∈ ([3, 113] : List Nat)) <| wR 23 [0, 1, 2, 3, 4, 5, 6, 7, 8] kR0 h30 <| smR 3 rfl <| rV rfl rfl (iSq rfl rfl rfl uT41 hi0 tS44 rfl (by rfl)) <| smR 2 rfl <| rV rfl rfl (lBP rfl rfl rfl Tryz.underlying91 rfl tS91 (lb rfl) rfl dC0) <| smR 1 rfl <| rV rfl rfl (oB rfl rfl (z05 rfl oM0)) <| nR ?_
    refine wO 9 kR0 <| wI rfl rfl (fun k (h : _) => by (simp at h ⊢; omega)) (nAp rfl) (fun _ _ => z29 (fun k => k = 114) (ih ka hm0 (deep + 1) ⟨false, true, [], r8of f.types x.params, r8of f.types x.outs⟩ (seen ++ x.params) (z0j f.types set x.params (List.replicate x.params.length 0)).2 ⟨by omega, by omega⟩ hs1 hb0) zl4 rfl rfl (sSm rfl (sSm rfl (sSm rfl (Subs.cons (fun _ _ _ _ h => z42 (q := whv ⟨false, true, [], r8of f.types x.params, r8of f.types x.outs⟩) (PSub.agg (ps := [vBool false, vBool true, .val (.slice none 0 0), ints (r8of f.types x.params), ints (r8of f.types x.outs)]) (And.intro (PSub.refl _) (And.intro (PSub.refl _) (And.intro PSub.nil (And.intro (PSub.refl _) (And.intro (PSub.refl _) trivial)))))) h) (sSm rfl Subs.nil))))) (And.intro LendOf.same (And.intro LendOf.same (And.intro (LendOf.row rfl rfl (by (simp; done)) (by (simp; done))) (And.intro LendOf.same (And.intro LendOf.same (trivial)))))) (fun k h => by subst h; rfl) (po2 rfl rfl) rfl (fun k (h : _) => by (simp only [List.mem_cons, List.not_mem_nil, or_false] at h; rcases h with rfl | rfl <;> first | exact .inl rfl | exact .inr rfl | exact .inr dC0)) ⟨_, rfl⟩ (z2d (z2a ..))) <| wR 15 [10, 11, 12, 13, 14, 15, 16] kR0 h30 <| smR 1 rfl ?_
    refine WR.split (t := 134) rfl (fun hb134 => ?_) (fun hb134 => ?_)
    ·refine smR 2 rfl <| ryV rfl rfl rfl (oSm uT35 rfl) <| smR 2 rfl ?_
     refine WR.split (t := 139) rfl (fun hb139 => ?_) (fun hb139 => ?_)
     ·refine smR 1 rfl <| nR <| wN 17 kR0 h30 rfl rfl rfl <| wR 4 [18, 19, 20, 21, 22, 23, 24, 25, 26, 27] kR0 h30 <| smR 9 rfl <| ryV rfl rfl rfl (oSm uT35 rfl) <| nR <| wO 28 kR0 <| wY rfl rfl rfl (fun k (h : _) => by (simp at h ⊢; omega)) (z10 rfl) (fun _ _ => z0y (k := 252) (s := ⟨3, 1⟩) rfl rfl rfl uT35 tZ3 tC3 rfl dC0 oM0 oM0 rfl rfl rfl rfl) <| wO 29 kR0 <| wY rfl rfl rfl (fun k (h : _) => by (simp at h ⊢; omega)) (nAp rfl) (fun _ _ => z29 (fun k => k = 252) (z1b u f (z0f u f (deep + 1) ⟨false, true, [], r8of f.types x.params, r8of f.types x.outs⟩ (seen ++ x.params) (z0j f.types set x.params (List.replicate x.params.length 0)).2 ka).2 x.outs (List.replicate x.outs.length 0) hs2) z54 rfl rfl (sRf _ _) (And.intro LendOf.same (And.intro LendOf.same (And.intro (LendOf.row rfl rfl (by (simp; done)) (by (simp only [List.map_replicate]; rfl))) (trivial)))) (fun k h => by subst h; rfl) (po2 rfl rfl) rfl (fun k (h : _) => by (simp only [List.mem_cons, List.not_mem_nil, or_false] at h; rcases h with rfl | rfl <;> first | exact .inl rfl | exact .inr rfl | exact .inr dC0)) ⟨_, rfl⟩ (z2d (z0t ..))) <| wR 0 [30, 31] kR0 h30 ?_
      refine smR 2 rfl <| nR <| wDn kR0 <| tRt ?_
      (have h2 : (z0v u f deep wh seen set x).2 = (z0j f.types (z0f u f (deep + 1) ⟨false, true, [], r8of f.types x.params, r8of f.types x.outs⟩ (seen ++ x.params) (z0j f.types set x.params (List.replicate x.params.length 0)).2 ka).2 x.outs (List.replicate x.outs.length 0)).2 := (by rw [z0b _ _ _ _ _ _ hbare hk11 hkids]; simp_all [andT, andS, z14]; done)
       rw [h2]
       refine rOk rfl ?_ (po2 rfl rfl)
       clear h2
       rw [z0b _ _ _ _ _ _ hbare hk11 hkids]
       simp_all [andT, andS, z14]
       done)
     refine ryV rfl rfl rfl (lEA rfl rfl uT43 rfl tS43 (lb rfl)) <| nR <| wO 17 kR0 <| wY rfl rfl rfl (fun k (h : _) => by (simp at h ⊢; omega)) nw (fun _ _ => ocq (z3l _) zw8 rfl rfl) <| wR 4 [18, 19, 20, 21, 22, 23, 24, 25, 26, 27] kR0 h30 <| smR 4 rfl ?_
     refine WR.split (t := 145) rfl (fun hb145 => ?_) (fun hb145 => ?_)
     ·refine smR 5 rfl <| ryV rfl rfl rfl (oSm uT35 rfl) <| nR <| wO 28 kR0 <| wY rfl rfl rfl (fun k (h : _) => by (simp at h ⊢; omega)) (z10 rfl) (fun _ _ => z0y (k := 252) (s := ⟨3, 1⟩) rfl rfl rfl uT35 tZ3 tC3 rfl dC0 oM0 oM0 rfl rfl rfl rfl) <| wO 29 kR0 <| wY rfl rfl rfl (fun k (h : _) => by (simp at h ⊢; omega)) (nAp rfl) (fun _ _ => z29 (fun k => k = 252) (z1b u f (z0f u f (deep + 1) ⟨false, true, [], r8of f.types x.params, r8of f.types x.outs⟩ (seen ++ x.params) (z0j f.types set x.params (List.replicate x.params.length 0)).2 ka).2 x.outs (List.replicate x.outs.length 0) hs2) z54 rfl rfl (sRf _ _) (And.intro LendOf.same (And.intro LendOf.same (And.intro (LendOf.row rfl rfl (by (simp; done)) (by (simp only [List.map_replicate]; rfl))) (trivial)))) (fun k h => by subst h; rfl) (po2 rfl rfl) rfl (fun k (h : _) => by (simp only [List.mem_cons, List.not_mem_nil, or_false] at h; rcases h with rfl | rfl <;> first | exact .inl rfl | exact .inr rfl | exact .inr dC0)) ⟨_, rfl⟩ (z2d (z0t ..))) <| wR 0 [30, 31] kR0 h30 <| smR 2 rfl <| nR <| wDn kR0 <| tRt ?_
      (have h2 : (z0v u f deep wh seen set x).2 = (z0j f.types (z0f u f (deep + 1) ⟨false, true, [], r8of f.types x.params, r8of f.types x.outs⟩ (seen ++ x.params) (z0j f.types set x.params (List.replicate x.params.length 0)).2 ka).2 x.outs (List.replicate x.outs.length 0)).2 := (by rw [z0b _ _ _ _ _ _ hbare hk11 hkids]; simp_all [andT, andS, z14]; done)
       rw [h2]
       refine rOk rfl ?_ (po2 rfl rfl)
       clear h2
       rw [z0b _ _ _ _ _ _ hbare hk11 hkids]
       simp_all [andT, andS, z14]
       done)
     refine smR 6 rfl <| nR <| wN 28 kR0 h30 rfl rfl rfl <| wN 29 kR0 h30 rfl rfl rfl <| wR 0 [30, 31] kR0 h30 <| smR 2 rfl <| nR <| wDn kR0 <| tRt ?_
     (have h2 : (z0v u f deep wh seen set x).2 = (z0f u f (deep + 1) ⟨false, true, [], r8of f.types x.params, r8of f.types x.outs⟩ (seen ++ x.params) (z0j f.types set x.params (List.replicate x.params.length 0)).2 ka).2 := (by rw [z0b _ _ _ _ _ _ hbare hk11 hkids]; simp_all [andT, andS, z14]; done)
      rw [h2]
      refine rOk rfl ?_ (po2 rfl rfl)
      clear h2
      rw [z0b _ _ _ _ _ _ hbare hk11 hkids]
      simp_all [andT, andS, z14]
      done)
    refine smR 5 rfl <| nUr rfl rfl rfl rfl rfl rfl rfl <| nR <| WA.takeNoU (i := 17) rfl kR0 kR0 kR0 h30 rfl rfl rfl rfl rfl rfl <| wR 4 [18, 19, 20, 21, 22, 23, 24, 25, 26, 27] kR0 h30 <| nUr rfl rfl rfl rfl rfl rfl rfl <| smR 9 rfl <| nR <| wN 28 kR0 h30 rfl rfl rfl <| wN 29 kR0 h30 rfl rfl rfl <| wR 0 [30, 31] kR0 h30 <| smR 2 rfl ?_
    refine nR <| wDn kR0 <| tRt ?_
    (have h2 : (z0v u f deep wh seen set x).2 = (z0f u f (deep + 1) ⟨false, true, [], r8of f.types x.params, r8of f.types x.outs⟩ (seen ++ x.params) (z0j f.types set x.params (List.replicate x.params.length 0)).2 ka).2 := (by rw [z0b _ _ _ _ _ _ hbare hk11 hkids]; simp_all [andT, andS, z14]; done)
     rw [h2]
     refine rOk rfl ?_ (po2 rfl rfl)
     clear h2
     rw [z0b _ _ _ _ _ _ hbare hk11 hkids]
     simp_all [andT, andS, z14]
     done)
   refine wI rfl rfl (fun k (h : _) => by (simp at h ⊢; omega)) (z10 rfl) (fun _ _ => aLc (k := 113) rfl tZ91 rfl rfl rfl rfl) <| wO 3 kR0 <| wI rfl rfl (fun k (h : _) => by (simp at h ⊢; omega)) (nAp rfl) (fun _ _ => ocr (z57 u f set x.params hbp) ze4 rfl (po2 rfl rfl) rfl (fun k (h : _) => by (simp only [List.mem_cons, List.not_mem_nil, or_false] at h; rcases h with rfl | rfl <;> first | exact .inl rfl | exact .inr rfl | exact .inr dC0)) rfl rfl) <| wO 7 kR0 <| wI rfl rfl (fun k (h : _) => by (simp at h ⊢; omega)) (nAp rfl) (fun _ _ => ocr (z57 u f set x.outs hbo) ze4 rfl (po2 rfl rfl) rfl (fun k (h : _) => by (simp only [List.mem_cons, List.not_mem_nil, or_false] at h; rcases h with rfl | rfl <;> first | exact .inl rfl | exact .inr rfl | exact .inr dC0)) rfl rfl) <| wR 1 [8] kR0 h30 <| rV rfl rfl (bPu rfl rfl tZ91 tP91 rfl (fbk rfl) rfl) <| nR <| wO 10 kR0 <| wI rfl rfl (fun k (h : _) => by (simp at h ⊢; omega)) (nOl rfl) (fun _ _ => sBA rfl rfl rfl rfl rfl sI0 tS91 (flk rfl) (lb rfl)) <| wDn kR0 <| tQ ?_
   refine tQ <| tDr z15 (fun k => k ∈ ([3] : List Nat)) <| wR 14 [0, 1, 2, 3, 4, 5, 6] kR0 h30 <| smR 7 rfl <| nR <| wO 7 kR0 <| wI rfl rfl (fun k (h : _) => by (simp at h ⊢; omega)) (nAp rfl) (fun _ _ => ocr (z57 u f set x.params hbp) ze4 rfl (po2 rfl rfl) rfl (fun k (h : _) => by (simp only [List.mem_cons, List.not_mem_nil, or_false] at h; rcases h with rfl <;> first | exact .inl rfl | exact .inr rfl | exact .inr dC0)) rfl rfl) <| wO 8 kR0 <| wI rfl rfl (fun k (h : _) => by (simp at h ⊢; omega)) (nAp rfl) (fun _ _ => ocr (z19 u f set x.args seen (r8of f.types x.params)) z65 rfl (po2 rfl rfl) rfl (fun k (h : _) => .inr trivial) rfl rfl) <| wR 4 [9, 10, 11, 12, 13, 14, 15, 16] kR0 h30 <| smR 2 rfl ?_
   refine WR.split (t := 106) rfl (fun hb106 => ?_) (fun hb106 => ?_)
   ·refine smR 6 rfl <| nR <| wN 17 kR0 h30 rfl rfl rfl <| wN 18 kR0 h30 rfl rfl rfl <| wR 0 [19, 20] kR0 h30 <| smR 2 rfl <| nR <| wDn kR0 <| Tr.condT rfl <| tQ <| tG <| sm 1 rfl ?_
    refine nL <| tRt ?_
    (have h2 : (z0v u f deep wh seen set x).2 = set := (by rw [z0b _ _ _ _ _ _ hbare hk11 hkids]; simp_all [andT, andS, z14]; done)
     rw [h2]
     refine rOk rfl ?_ (po2 rfl rfl)
     clear h2
     rw [z0b _ _ _ _ _ _ hbare hk11 hkids]
     simp_all [andT, andS, z14]
     done)
   refine smR 5 rfl <| ryV rfl rfl rfl (oSm uT35 rfl) <| nR <| wO 17 kR0 <| wY rfl rfl rfl (fun k (h : _) => by (simp at h ⊢; omega)) (z10 rfl) (fun _ _ => z0y (k := 213) (s := ⟨3, 1⟩) rfl rfl rfl uT35 tZ3 tC3 rfl dC0 oM0 oM0 rfl rfl rfl rfl) <| wO 18 kR0 <| wY rfl rfl rfl (fun k (h : _) => by (simp at h ⊢; omega)) (nAp rfl) (fun _ _ => z29 (fun k => k = 213) (z1b u f set x.params (List.replicate x.params.length 0) hs) z54 rfl rfl (sRf _ _) (And.intro LendOf.same (And.intro LendOf.same (And.intro (LendOf.row rfl rfl (by (simp; done)) (by (simp only [List.map_replicate]; rfl))) (trivial)))) (fun k h => by subst h; rfl) (po2 rfl rfl) rfl (fun k (h : _) => by (simp only [List.mem_cons, List.not_mem_nil, or_false] at h; rcases h with rfl <;> first | exact .inl rfl | exact .inr rfl | exact .inr dC0)) ⟨_, rfl⟩ (z2d (z0t ..))) <| wR 0 [19, 20] kR0 h30 <| smR 2 rfl <| nR <| wDn kR0 ?_
   refine tC rfl (fun hc116 => ?_) fun hc116 => ?_
   ·refine tQ <| tG <| sm 1 rfl <| nL <| tRt ?_
    (have h2 : (z0v u f deep wh seen set x).2 = (z0j f.types set x.params (List.replicate x.params.length 0)).2 := (by rw [z0b _ _ _ _ _ _ hbare hk11 hkids]; simp_all [andT, andS, z14]; done)
     rw [h2]
     refine rOk rfl ?_ (po2 rfl rfl)
     clear h2
     rw [z0b _ _ _ _ _ _ hbare hk11 hkids]
     simp_all [andT, andS, z14]
     done)
   refine tSk <| tQ <| tG <| sm 1 rfl <| nL <| tQ <| Tr.grow (t := 14) (k := 114) ⟨3, 1⟩ rfl rfl rfl rfl rfl <| tG <| sm 2 rfl ?_
   refine cE rfl (aPp rfl rfl rfl rfl (by rfl) sI0 uT35 tB3 dC0 (z7u) (z4y) (by simp [maxLen, z09]; omega) (by simp [z09]; omega)) ?_
   refine sm 1 rfl <| nL <| tQ <| tG <| sm 3 rfl ?_
   refine cE rfl (aPp rfl rfl rfl rfl (by (simp; done)) sI0 uT35 tB3 dC0 (z7u) (z4y) (by simp [maxLen, z09]; omega) (by simp [z09]; omega)) ?_
   refine sm 1 rfl <| nL <| tQ <| tDr z15 (fun k => k ∈ ([3, 113] : List Nat)) <| wR 23 [0, 1, 2, 3, 4, 5, 6, 7, 8] kR0 h30 <| smR 3 rfl <| rV rfl rfl (iSq rfl rfl rfl uT41 hi0 tS44 rfl (by rfl)) <| smR 2 rfl <| rV rfl rfl (lBP rfl rfl rfl Tryz.underlying91 rfl tS91 (lb rfl) rfl dC0) <| smR 1 rfl <| rV rfl rfl (oB rfl rfl (z05 rfl oM0)) <| nR ?_
   refine wO 9 kR0 <| wI rfl rfl (fun k (h : _) => by (simp at h ⊢; omega)) (nAp rfl) (fun _ _ => z29 (fun k => k = 114) (ih ka hm0 (deep + 1) ⟨false, true, [], r8of f.types x.params, r8of f.types x.outs⟩ (seen ++ x.params) (z0j f.types set x.params (List.replicate x.params.length 0)).2 ⟨by omega, by omega⟩ hs1 hb0) zl4 rfl rfl (sSm rfl (sSm rfl (sSm rfl (Subs.cons (fun _ _ _ _ h => z42 (q := whv ⟨false, true, [], r8of f.types x.params, r8of f.types x.outs⟩) (PSub.agg (ps := [vBool false, vBool true, .val (.slice none 0 0), ints (r8of f.types x.params), ints (r8of f.types x.outs)]) (And.intro (PSub.refl _) (And.intro (PSub.refl _) (And.intro PSub.nil (And.intro (PSub.refl _) (And.intro (PSub.refl _) trivial)))))) h) (sSm rfl Subs.nil))))) (And.intro LendOf.same (And.intro LendOf.same (And.intro (LendOf.row rfl rfl (by (simp; done)) (by (simp; done))) (And.intro LendOf.same (And.intro LendOf.same (trivial)))))) (fun k h => by subst h; rfl) (po2 rfl rfl) rfl (fun k (h : _) => by (simp only [List.mem_cons, List.not_mem_nil, or_false] at h; rcases h with rfl | rfl <;> first | exact .inl rfl | exact .inr rfl | exact .inr dC0)) ⟨_, rfl⟩ (z2d (z2a ..))) <| wR 15 [10, 11, 12, 13, 14, 15, 16] kR0 h30 <| smR 1 rfl ?_
   refine WR.split (t := 134) rfl (fun hb134 => ?_) (fun hb134 => ?_)
   ·refine smR 2 rfl <| ryV rfl rfl rfl (oSm uT35 rfl) <| smR 2 rfl ?_
    refine WR.split (t := 139) rfl (fun hb139 => ?_) (fun hb139 => ?_)
    ·refine smR 1 rfl <| nR <| wN 17 kR0 h30 rfl rfl rfl <| wR 4 [18, 19, 20, 21, 22, 23, 24, 25, 26, 27] kR0 h30 <| smR 9 rfl <| ryV rfl rfl rfl (oSm uT35 rfl) <| nR <| wO 28 kR0 <| wY rfl rfl rfl (fun k (h : _) => by (simp at h ⊢; omega)) (z10 rfl) (fun _ _ => z0y (k := 252) (s := ⟨3, 1⟩) rfl rfl rfl uT35 tZ3 tC3 rfl dC0 oM0 oM0 rfl rfl rfl rfl) <| wO 29 kR0 <| wY rfl rfl rfl (fun k (h : _) => by (simp at h ⊢; omega)) (nAp rfl) (fun _ _ => z29 (fun k => k = 252) (z1b u f (z0f u f (deep + 1) ⟨false, true, [], r8of f.types x.params, r8of f.types x.outs⟩ (seen ++ x.params) (z0j f.types set x.params (List.replicate x.params.length 0)).2 ka).2 x.outs (List.replicate x.outs.length 0) hs2) z54 rfl rfl (sRf _ _) (And.intro LendOf.same (And.intro LendOf.same (And.intro (LendOf.row rfl rfl (by (simp; done)) (by (simp only [List.map_replicate]; rfl))) (trivial)))) (fun k h => by subst h; rfl) (po2 rfl rfl) rfl (fun k (h : _) => by (simp only [List.mem_cons, List.not_mem_nil, or_false] at h; rcases h with rfl | rfl <;> first | exact .inl rfl | exact .inr rfl | exact .inr dC0)) ⟨_, rfl⟩ (z2d (z0t ..))) <| wR 0 [30, 31] kR0 h30 ?_
     refine smR 2 rfl <| nR <| wDn kR0 <| tRt ?_
     (have h2 : (z0v u f deep wh seen set x).2 = (z0j f.types (z0f u f (deep + 1) ⟨false, true, [], r8of f.types x.params, r8of f.types x.outs⟩ (seen ++ x.params) (z0j f.types set x.params (List.replicate x.params.length 0)).2 ka).2 x.outs (List.replicate x.outs.length 0)).2 := (by rw [z0b _ _ _ _ _ _ hbare hk11 hkids]; simp_all [andT, andS, z14]; done)
      rw [h2]
      refine rOk rfl ?_ (po2 rfl rfl)
      clear h2
      rw [z0b _ _ _ _ _ _ hbare hk11 hkids]
      simp_all [andT, andS, z14]
      done)
    refine ryV rfl rfl rfl (lEA rfl rfl uT43 rfl tS43 (lb rfl)) <| nR <| wO 17 kR0 <| wY rfl rfl rfl (fun k (h : _) => by (simp at h ⊢; omega)) nw (fun _ _ => ocq (z3l _) zw8 rfl rfl) <| wR 4 [18, 19, 20, 21, 22, 23, 24, 25, 26, 27] kR0 h30 <| smR 4 rfl ?_
    refine WR.split (t := 145) rfl (fun hb145 => ?_) (fun hb145 => ?_)
    ·refine smR 5 rfl <| ryV rfl rfl rfl (oSm uT35 rfl) <| nR <| wO 28 kR0 <| wY rfl rfl rfl (fun k (h : _) => by (simp at h ⊢; omega)) (z10 rfl) (fun _ _ => z0y (k := 252) (s := ⟨3, 1⟩) rfl rfl rfl uT35 tZ3 tC3 rfl dC0 oM0 oM0 rfl rfl rfl rfl) <| wO 29 kR0 <| wY rfl rfl rfl (fun k (h : _) => by (simp at h ⊢; omega)) (nAp rfl) (fun _ _ => z29 (fun k => k = 252) (z1b u f (z0f u f (deep + 1) ⟨false, true, [], r8of f.types x.params, r8of f.types x.outs⟩ (seen ++ x.params) (z0j f.types set x.params (List.replicate x.params.length 0)).2 ka).2 x.outs (List.replicate x.outs.length 0) hs2) z54 rfl rfl (sRf _ _) (And.intro LendOf.same (And.intro LendOf.same (And.intro (LendOf.row rfl rfl (by (simp; done)) (by (simp only [List.map_replicate]; rfl))) (trivial)))) (fun k h => by subst h; rfl) (po2 rfl rfl) rfl (fun k (h : _) => by (simp only [List.mem_cons, List.not_mem_nil, or_false] at h; rcases h with rfl | rfl <;> first | exact .inl rfl | exact .inr rfl | exact .inr dC0)) ⟨_, rfl⟩ (z2d (z0t ..))) <| wR 0 [30, 31] kR0 h30 <| smR 2 rfl <| nR <| wDn kR0 <| tRt ?_
     (have h2 : (z0v u f deep wh seen set x).2 = (z0j f.types (z0f u f (deep + 1) ⟨false, true, [], r8of f.types x.params, r8of f.types x.outs⟩ (seen ++ x.params) (z0j f.types set x.params (List.replicate x.params.length 0)).2 ka).2 x.outs (List.replicate x.outs.length 0)).2 := (by rw [z0b _ _ _ _ _ _ hbare hk11 hkids]; simp_all [andT, andS, z14]; done)
      rw [h2]
      refine rOk rfl ?_ (po2 rfl rfl)
      clear h2
      rw [z0b _ _ _ _ _ _ hbare hk11 hkids]
      simp_all [andT, andS, z14]
      done)
    refine smR 6 rfl <| nR <| wN 28 kR0 h30 rfl rfl rfl <| wN 29 kR0 h30 rfl rfl rfl <| wR 0 [30, 31] kR0 h30 <| smR 2 rfl <| nR <| wDn kR0 <| tRt ?_
    (have h2 : (z0v u f deep wh seen set x).2 = (z0f u f (deep + 1) ⟨false, true, [], r8of f.types x.params, r8of f.types x.outs⟩ (seen ++ x.params) (z0j f.types set x.params (List.replicate x.params.length 0)).2 ka).2 := (by rw [z0b _ _ _ _ _ _ hbare hk11 hkids]; simp_all [andT, andS, z14]; done)
     rw [h2]
     refine rOk rfl ?_ (po2 rfl rfl)
     clear h2
     rw [z0b _ _ _ _ _ _ hbare hk11 hkids]
     simp_all [andT, andS, z14]
     done)
   refine smR 5 rfl <| nUr rfl rfl rfl rfl rfl rfl rfl <| nR <| WA.takeNoU (i := 17) rfl kR0 kR0 kR0 h30 rfl rfl rfl rfl rfl rfl <| wR 4 [18, 19, 20, 21, 22, 23, 24, 25, 26, 27] kR0 h30 <| nUr rfl rfl rfl rfl rfl rfl rfl <| smR 9 rfl <| nR <| wN 28 kR0 h30 rfl rfl rfl <| wN 29 kR0 h30 rfl rfl rfl <| wR 0 [30, 31] kR0 h30 <| smR 2 rfl ?_
   refine nR <| wDn kR0 <| tRt ?_
   (have h2 : (z0v u f deep wh seen set x).2 = (z0f u f (deep + 1) ⟨false, true, [], r8of f.types x.params, r8of f.types x.outs⟩ (seen ++ x.params) (z0j f.types set x.params (List.replicate x.params.length 0)).2 ka).2 := (by rw [z0b _ _ _ _ _ _ hbare hk11 hkids]; simp_all [andT, andS, z14]; done)
    rw [h2]
    refine rOk rfl ?_ (po2 rfl rfl)
    clear h2
    rw [z0b _ _ _ _ _ _ hbare hk11 hkids]
    simp_all [andT, andS, z14]
    done)
  refine tSk <| tQ <| tG <| sm 1 rfl <| cV rfl (lEA rfl rfl uT43 rfl tS43 (lb rfl)) <| sm 1 rfl <| cV rfl (lEA rfl rfl Tryz.underlying91 rfl tS91 (lb rfl)) <| cE rfl (ocr (zt0 u f set hs hg x seen wh) ent98 rfl (po2 rfl rfl) rfl (fun k (h : _) => .inr h) rfl rfl) <| sm 1 rfl <| nL <| tRt ?_
  rw [z5q _ _ _ _ _ _ hbare hc20 hc85]
  exact rOk rfl rfl (po2 rfl rfl)
theorem zj1 (N : Nat) : ∀ (u : Un) (f : Fl) (hg : ∀ g ∈ u.flows, 0 <= g.params /\ g.params <= g.types.length) (l : List Nd) (deep : Int) (wh : Wh) (all : List Int) (set : List Bool) (hd : 0 <= deep /\ deep <= 101) (hs : set.length = f.types.length) (hb : all.length + lsW l <= 1073741824), SizeOf.sizeOf l < N -> SC Tryz.prog 49 [.ptr 3 0, .pv (z07 l), .pv (ints all), .pv (whv wh), iInt deep] (ckHp u f 4 set) (fun k => k = 3) (iBool (z0f u f deep wh all set l).1) (ckHp u f 4 (z0f u f deep wh all set l).2) := by
  induction N with
  | zero => intro u f hg l deep wh all set hd hs hb hN; exact absurd hN (Nat.not_lt_zero _)
  | succ N ih =>
    intro u f hg l deep wh all set hd hs hb hN
    refine SC.of Tryz.func49 rfl (lb rfl) fun F ρ w => ?_
    refine Tr.lenOf (t := 1) rfl (fun hl => ?_)
    simp only [List.length_map] at hl
    refine tQ <| tG <| cE rfl (z13 rfl rfl) <| sm 1 rfl <| nL <| tQ <| tG <| sm 1 rfl <| nL <| tQ <| Tr.grow (t := 11) (k := 111) ⟨3, 1⟩ rfl rfl rfl rfl rfl <| tG ?_
    refine sm 2 rfl ?_
    refine cE rfl (aPp rfl rfl rfl rfl (by rfl) sI0 uT35 tB3 dC0 (z7u) (z4y) (by simp [maxLen, z09]; omega) (by simp [z09]; omega)) ?_
    refine sm 1 rfl <| nL <| tQ <| tQ <| tG <| sm 1 rfl <| nL <| tBk <| Tr.sub (Sub.of (fr' := [(12, iInt 0), (11, .sl 111 all.length), (8, .pv (.ept [vBool wh.If, vBool wh.Loop, ints wh.Yield, ints wh.Next, ints wh.Left] 0)), (0, .ptr 3 0), (1, .pv (z07 l)), (4, iInt deep)]) ⟨rfl, congrArg (fun z => some (IV.sl 111 z)) sI0, rfl, rfl, rfl, rfl, trivial⟩) <| Tr.heap (σ' := look ((111, some (.row ⟨3, 1⟩ (all.map eInt))) :: up (ckHp u f 4 set))) (fun _ => congrFun za7 _) ?_
    refine Tr.loop (fun fr σ m => ∃ (k : Nat) (al : List Int) (st : List Bool), (k <= l.length) /\ (r8go u f deep wh all set l = r8go u f deep wh al st (l.drop k)) /\ (st.length = f.types.length) /\ (al.length + lsW (l.drop k) <= 1073741824) /\ fr = [(12, iInt k), (11, .sl 111 al.length), (8, .pv (.ept [vBool wh.If, vBool wh.Loop, ints wh.Yield, ints wh.Next, ints wh.Left] 0)), (0, .ptr 3 0), (1, .pv (z07 l)), (4, iInt deep)] /\ σ = look ((111, some (.row ⟨3, 1⟩ (al.map eInt))) :: up (ckHp u f 4 st)) /\ m = l.length - k) (n := l.length - 0) ?_ ?_
    ·exact ⟨0, all, set, Nat.zero_le _, rfl, hs, hb, rfl, rfl, rfl⟩
    rintro fr σ m ⟨k, al, st, hI0, hI1, hI2, hI3, rfl, rfl, rfl⟩
    refine tQ <| tQ <| tG <| sm 2 rfl <| cV rfl (oSm uT44 rfl) <| sm 1 rfl <| nL ?_
    refine tC rfl (fun hc19 => ?_) fun hc19 => ?_
    ·have hlt : k < l.length := by simpa using hc19
     have hd2 := List.drop_eq_getElem_cons hlt
     have hm := List.getElem_mem hlt
     have hi := z20 (List.getElem?_eq_getElem hlt)
     generalize l[k] = x at hd2 hm hi
     have hxo : x.outs.length <= ndW x := by have := z81 x; omega
     have hbn : al.length + ndW x <= 1073741824 := by rw [hd2] at hI3; simp only [lsW] at hI3; omega
     refine tSk <| tQ <| tBk <| tQ <| tQ <| tDr z15 (fun k => k ∈ ([3] : List Nat)) <| wR 16 [0, 1, 2, 3, 4, 5, 6, 7, 8, 9, 10] kR0 h30 <| smR 3 rfl ?_
     refine WR.split (t := 24) rfl (fun hb24 => ?_) (fun hb24 => ?_)
     ·refine smR 8 rfl <| nR <| wN 11 kR0 h30 rfl rfl rfl <| wR 3 [12, 13, 14, 15, 16, 17, 18, 20, 21, 22, 23, 24] kR0 h30 <| smR 12 rfl <| nR <| wN 19 kR0 h30 rfl rfl rfl <| wR 0 [25, 26] kR0 h30 <| smR 2 rfl <| nR <| wDn kR0 <| Tr.condT rfl ?_
      refine tQ <| tG <| sm 1 rfl <| nL <| tRt ?_
      (have h2 : z0f u f deep wh all set l = (false, st) := by
         rw [zb9 hlt, hI1, hd2]
         unfold r8go
         rw [if_pos (by simpa using hb24)]
       rw [h2]
       exact rOk rfl rfl (po2 rfl rfl))
     refine smR 3 rfl <| ryV rfl rfl rfl (iSq rfl rfl rfl uT44 hi tS43 rfl (by rfl)) <| ryV rfl rfl rfl (lEA rfl rfl uT43 rfl tS43 (lb rfl)) <| smR 1 rfl <| ryV rfl rfl rfl (lEA rfl rfl Tryz.underlying91 rfl tS91 (lb rfl)) <| smR 1 rfl <| nR <| wO 11 kR0 <| wY rfl rfl rfl (fun k (h : _) => by (simp at h ⊢; omega)) (nAp rfl) (fun _ _ => z29 (fun k => k = 111) (y22 u f hg x deep ⟨hd.1, by simp at hb24; omega⟩ wh al st hI2 hbn (fun q hq deep w all set hd hs hb => ih u f hg q deep w all set hd hs hb (Nat.lt_of_lt_of_le (z62 hm rfl hq) (Nat.le_of_lt_succ hN)))) ent74 rfl rfl (sRf _ _) (And.intro LendOf.same (And.intro LendOf.same (And.intro (LendOf.row rfl rfl (by (simp; done)) (by rfl)) (And.intro LendOf.same (And.intro LendOf.same (trivial)))))) (fun k h => by subst h; rfl) (po2 rfl rfl) rfl (fun k (h : _) => by (simp only [List.mem_cons, List.not_mem_nil, or_false] at h; rcases h with rfl <;> first | exact .inl rfl | exact .inr rfl | exact .inr dC0)) ⟨_, rfl⟩ (z2d (z5p ..))) <| wR 3 [12, 13, 14, 15, 16, 17, 18, 20, 21, 22, 23, 24] kR0 h30 <| smR 3 rfl ?_
     refine WR.split (t := 36) rfl (fun hb36 => ?_) (fun hb36 => ?_)
     ·refine smR 9 rfl <| nR <| wN 19 kR0 h30 rfl rfl rfl <| wR 0 [25, 26] kR0 h30 <| smR 2 rfl <| nR <| wDn kR0 <| Tr.condT rfl <| tQ <| tG <| sm 1 rfl <| nL ?_
      refine tRt ?_
      (have h2 : z0f u f deep wh all set l = (false, (z0v u f deep wh al st x).2) := by
         rw [zb9 hlt, hI1, hd2]
         unfold r8go
         rw [if_neg (by simpa using hb24)]
         have hn1 : (z0v u f deep wh al st x).1 = false := by simpa using hb36
         simp [andT, hn1]
       rw [h2]
       exact rOk rfl rfl (po2 rfl rfl))
     refine smR 2 rfl <| ryV rfl rfl rfl (iSq rfl rfl rfl uT44 hi tS43 rfl (by rfl)) <| ryV rfl rfl rfl (lEA rfl rfl uT43 rfl tS43 (lb rfl)) <| smR 2 rfl <| ryV rfl rfl rfl (oSm uT44 rfl) <| ryV rfl rfl rfl (oB rfl rfl (za5 rfl oM0)) <| smR 1 rfl <| nR <| wO 19 kR0 <| wY rfl rfl rfl (fun k (h : _) => by (simp at h ⊢; omega)) nw (fun _ _ => ocq (z3l _) zw8 rfl rfl) <| wR 0 [25, 26] kR0 h30 <| ryV rfl rfl rfl (zb4 rfl rfl rfl Tryz.underlying4) ?_
     refine smR 1 rfl <| nR <| wDn kR0 ?_
     refine tC rfl (fun hc48 => ?_) fun hc48 => ?_
     ·refine tQ <| tG <| sm 1 rfl <| nL <| tRt ?_
      (have h2 : z0f u f deep wh all set l = (false, (z0v u f deep wh al st x).2) := by
         rw [zb9 hlt, hI1, hd2]
         unfold r8go
         rw [if_neg (by simpa using hb24)]
         have hn1 : (z0v u f deep wh al st x).1 = true := by simpa using hb36
         have hcl : (z0e x != (l.drop (k + 1)).isEmpty) = true := by rw [z4x hlt]; simpa using hc48
         simp [andT, hn1, hcl]
       rw [h2]
       exact rOk rfl rfl (po2 rfl rfl))
     refine tSk <| tG <| sm 3 rfl <| cV rfl (iSq rfl rfl rfl uT44 hi tS43 rfl (by rfl)) <| sm 2 rfl ?_
     refine cE rfl (aPp rfl rfl rfl rfl (by (simp; done)) sI0 uT35 tB3 dC0 (z7u) (z4y) (by simp [maxLen, z09]; omega) (by simp [z09]; omega)) ?_
     refine sm 1 rfl <| nL <| tG <| sm 1 rfl <| cV rfl (oB rfl rfl (z05 rfl oM0)) <| sm 1 rfl <| nL ?_
     refine ⟨_, _, ?_, Sub.of (fr' := [(12, iInt (k + 1)), (11, .sl 111 (al ++ x.outs).length), (8, .pv (.ept [vBool wh.If, vBool wh.Loop, ints wh.Yield, ints wh.Next, ints wh.Left] 0)), (0, .ptr 3 0), (1, .pv (z07 l)), (4, iInt deep)]) ⟨rfl, congrArg (fun z => some (IV.sl 111 z)) sI0, rfl, rfl, rfl, rfl, trivial⟩, (k + 1), (al ++ x.outs), (z0v u f deep wh al st x).2, ?_, ?_, ?_, ?_, rfl, ck_row', rfl⟩
     ·omega
     ·omega
     ·rw [hI1, hd2]
      have hn1 : (z0v u f deep wh al st x).1 = true := by simpa using hb36
      have hcl : (z0e x != (l.drop (k + 1)).isEmpty) = false := by rw [z4x hlt]; simpa using hc48
      have hdp : ¬ deep > 100 := by simpa using hb24
      conv => lhs; unfold r8go
      simp only [if_neg hdp, andT, hn1, hcl, if_true]
      rfl
     ·exact (z5p ..).trans hI2
     rw [hd2] at hI3; have hWx := z81 x; simp only [lsW] at hI3; simp only [List.length_append]; omega
    refine tEx <| tQ <| tG <| sm 1 rfl <| cV rfl (oSm uT44 rfl) <| sm 2 rfl <| nL <| tRt ?_
    have hge : l.length <= k := by simpa using hc19
    have hgo : r8go u f deep wh all set l = (true, st) := by rw [hI1, List.drop_eq_nil_of_le hge]; simp [r8go]
    have h2 : (z0f u f deep wh all set l) = (decide ((l.length : Int) > 0), st) := by
      unfold z0f ne
      rw [hgo]
      cases l <;> simp <;> omega
    rw [h2]
    exact rOk rfl rfl (po2 rfl rfl)
theorem y21 (u : Un) (f : Fl) (hg : ∀ g ∈ u.flows, 0 <= g.params /\ g.params <= g.types.length) (l : List Nd) (deep : Int) (wh : Wh) (all : List Int) (set : List Bool) (hd : 0 <= deep /\ deep <= 101) (hs : set.length = f.types.length) (hb : all.length + lsW l <= 1073741824) : SC Tryz.prog 49 [.ptr 3 0, .pv (z07 l), .pv (ints all), .pv (whv wh), iInt deep] (ckHp u f 4 set) (fun k => k = 3) (iBool (z0f u f deep wh all set l).1) (ckHp u f 4 (z0f u f deep wh all set l).2) := zj1 _ u f hg l deep wh all set hd hs hb (Nat.lt_succ_self _)
theorem ba_sz (s : ByteArray) : s.data.toList.length = s.size := rfl
theorem y0d (s : ByteArray) : ∀ (n i : Nat) (acc : List UInt8), s.size - i = n -> ByteArray.toList.loop s i acc = acc.reverse ++ s.data.toList.drop i
  | 0, i, acc, h => by
    rw [ByteArray.toList.loop]
    have : ¬ i < s.size := by omega
    rw [if_neg this, List.drop_eq_nil_of_le (by rw [ba_sz]; omega)]
    simp
  | n + 1, i, acc, h => by
    rw [ByteArray.toList.loop]
    have hi : i < s.size := by omega
    rw [if_pos hi, y0d s n (i + 1) _ oM0]
    have hi2 : i < s.data.toList.length := by rw [ba_sz]; exact hi
    rw [List.drop_eq_getElem_cons hi2]
    have hget : s.get! i = s.data.toList[i] := by
      show s.data[i]! = _
      rw [getElem!_pos s.data i hi]
      rfl
    simp [hget]
theorem z9w (s : ByteArray) : s.toList = s.data.toList := by
  rw [ByteArray.toList, y0d s _ 0 [] rfl]; simp
theorem z74 (s : ByteArray) : s.toList.length = s.size := by rw [z9w]; rfl
theorem zu3 {s : ByteArray} {i : Nat} (h : i < s.toList.length) : s[i]? = some (s.toList[i]) := by
  have h2 : i < s.size := by rwa [z74] at h
  rw [getElem?_pos s i h2]
  congr 1
  simp only [z9w]
  rfl
def z1m (n : Int) : Bool := (decide (n ≥ 97) && decide (n <= 122)) || (decide (n ≥ 65) && decide (n <= 90)) || n == 95
def z5k (n : Int) : Bool := decide (n ≥ 48) && decide (n <= 57)
def isLD (b : UInt8) : Bool := z1m b.toNat || z5k b.toNat
def z0o (s : ByteArray) : Bool := s.toList == ByteArray.toList ⟨#[105, 110, 116]⟩ || s.toList == ByteArray.toList ⟨#[98, 111, 111, 108]⟩ || s.toList == ByteArray.toList ⟨#[105, 102]⟩ || s.toList == ByteArray.toList ⟨#[101, 108, 115, 101]⟩ || s.toList == ByteArray.toList ⟨#[119, 104, 105, 108, 101]⟩ || s.toList == ByteArray.toList ⟨#[98, 114, 101, 97, 107]⟩ || s.toList == ByteArray.toList ⟨#[99, 111, 110, 116, 105, 110, 117, 101]⟩ || s.toList == ByteArray.toList ⟨#[114, 101, 116, 117, 114, 110]⟩ || s.toList == ByteArray.toList ⟨#[112, 114, 105, 110, 116]⟩ || s.toList == ByteArray.toList ⟨#[114, 101, 97, 100]⟩ || s.toList == ByteArray.toList ⟨#[116, 114, 117, 101]⟩ || s.toList == ByteArray.toList ⟨#[102, 97, 108, 115, 101]⟩ || s.toList == ByteArray.toList ⟨#[105, 56]⟩ || s.toList == ByteArray.toList ⟨#[105, 49, 54]⟩ || s.toList == ByteArray.toList ⟨#[105, 51, 50]⟩ || s.toList == ByteArray.toList ⟨#[117, 56]⟩ || s.toList == ByteArray.toList ⟨#[117, 49, 54]⟩ || s.toList == ByteArray.toList ⟨#[117, 51, 50]⟩
def z3r (s : ByteArray) : Bool := !(s.toList == []) && decide ((s.size : Int) <= 20) && z1m (s.toList.headD 0).toNat && !z0o s && s.toList.all isLD
mutual
def wtN : Nd -> Nat
  | .mk _ _ _ name args outs params kids => args.length + outs.length + params.length + name.size + wtK kids
def wtL : List Nd -> Nat
  | [] => 0
  | x :: r => wtN x + wtL r
def wtK : List (List Nd) -> Nat
  | [] => 0
  | l :: r => 1 + (l.length + wtL l) + wtK r
end
theorem wtN_eq (x : Nd) : wtN x = x.args.length + x.outs.length + x.params.length + x.name.size + wtK x.kids := by cases x; simp [wtN, Nd.args, Nd.outs, Nd.params, Nd.kids, Nd.name]
def z1a (l : List Nd) : Nat := l.length + wtL l
def wtA : List Ar -> Nat
  | [] => 0
  | a :: r => a.name.size + wtA r
def wtF : List Fl -> Nat
  | [] => 0
  | f :: r => f.name.size + f.types.length + z1a f.body + wtF r
def z0x (u : Un) : Nat := u.arrays.length + u.flows.length + wtA u.arrays + wtF u.flows
mutual
def sameN : Nd -> Nd -> Bool
  | .mk k o n s a u p ks, .mk k' o' n' s' a' u' p' ks' => k == k' && o == o' && n == n' && s.toList == s'.toList && ks.length == ks'.length && a == a' && u == u' && p == p' && zo5 ks ks'
def z3x : List Nd -> List Nd -> Bool
  | [], [] => true
  | x :: a, y :: b => sameN x y && z3x a b
  | _, _ => false
def zo5 : List (List Nd) -> List (List Nd) -> Bool
  | [], [] => true
  | x :: a, y :: b => z3x x y && zo5 a b
  | _, _ => false
end
def z56 (x y : Nd) : Bool := x.kind == y.kind && x.op == y.op && x.n == y.n && x.name.toList == y.name.toList && x.kids.length == y.kids.length && x.args == y.args && x.outs == y.outs && x.params == y.params
theorem z44 (x y : Nd) : sameN x y = (z56 x y && zo5 x.kids y.kids) := by cases x; cases y; simp [sameN, z56, Nd.kind, Nd.op, Nd.n, Nd.name, Nd.args, Nd.outs, Nd.params, Nd.kids]
theorem zo6 : ∀ {a b : List Nd}, a.length ≠ b.length -> z3x a b = false
  | [], [], h => absurd rfl h
  | [], _ :: _, _ => by simp [z3x]
  | _ :: _, [], _ => by simp [z3x]
  | x :: a, y :: b, h => by simp [z3x, zo6 (a := a) (b := b) (by simpa using h)]
def z8p (f g : Fl) : Bool := f.name.toList == g.name.toList && f.ty == g.ty && f.params == g.params && f.types == g.types && z3x f.body g.body
def z41 : List Fl -> List Fl -> Bool
  | [], [] => true
  | x :: a, y :: b => z8p x y && z41 a b
  | _, _ => false
def zc4 (f g : Ar) : Bool := f.name.toList == g.name.toList && f.size == g.size
def z3w : List Ar -> List Ar -> Bool
  | [], [] => true
  | x :: a, y :: b => zc4 x y && z3w a b
  | _, _ => false
def z51 (u v : Un) : Bool := u.arrays.length == v.arrays.length && u.flows.length == v.flows.length && z3w u.arrays v.arrays && z41 u.flows v.flows
theorem z6t {a b : Nat} {x y : Option HO} {hp : Hp} {f : Nat -> Option HO} (h1 : f a = x) (h2 : f b = y) (h3 : ∀ k, k ≠ a -> k ≠ b -> f k = look hp k) (hab : a ≠ b) : f = look ((a, x) :: (b, y) :: hp) := by
  funext k
  simp only [look]
  by_cases ha : a = k
  · subst ha; simp [h1]
  · by_cases hb : b = k
    · subst hb; simp [z00 hab, h2]
    · simp [z00 ha, z00 hb, h3 k (Ne.symm ha) (Ne.symm hb)]
theorem zc6 (n : Int) : SC Tryz.prog 71 [.pv (vU8 n)] [] (fun _ => False) (iBool (z1m n)) [] := by
  refine SC.of Tryz.func71 rfl (lb rfl) fun F ρ w => ?_
  refine tQ <| tG <| sm 1 rfl <| nL <| tQ <| tG <| sm 3 rfl ?_
  refine wS 5 rfl (fun hb5 => ?_) fun hb5 => ?_
  ·refine sm 4 rfl ?_
   refine wS 9 rfl (fun hb9 => ?_) fun hb9 => ?_
   ·refine sm 3 rfl <| nUu rfl rfl rfl rfl rfl rfl <| nUu rfl rfl rfl rfl rfl rfl <| sm 7 rfl <| nL <| tRt <| rOk rfl ?_ nPo
    unfold z1m
    first | (simp_all; done) | (simp_all <;> omega)
   refine sm 3 rfl ?_
   refine wS 12 rfl (fun hb12 => ?_) fun hb12 => ?_
   ·refine sm 5 rfl ?_
    refine wS 17 rfl (fun hb17 => ?_) fun hb17 => ?_
    ·refine sm 4 rfl <| nL <| tRt <| rOk rfl ?_ nPo
     unfold z1m
     first | (simp_all; done) | (simp_all <;> omega)
    refine sm 4 rfl <| nL <| tRt <| rOk rfl ?_ nPo
    unfold z1m
    first | (simp_all; done) | (simp_all <;> omega)
   refine sm 9 rfl <| nL <| tRt <| rOk rfl ?_ nPo
   unfold z1m
   first | (simp_all; done) | (simp_all <;> omega)
  refine sm 7 rfl ?_
  refine wS 12 rfl (fun hb12 => ?_) fun hb12 => ?_
  ·refine sm 5 rfl ?_
   refine wS 17 rfl (fun hb17 => ?_) fun hb17 => ?_
   ·refine sm 4 rfl <| nL <| tRt <| rOk rfl ?_ nPo
    unfold z1m
    first | (simp_all; done) | (simp_all <;> omega)
   refine sm 4 rfl <| nL <| tRt <| rOk rfl ?_ nPo
   unfold z1m
   first | (simp_all; done) | (simp_all <;> omega)
  refine sm 9 rfl <| nL <| tRt <| rOk rfl ?_ nPo
  unfold z1m
  first | (simp_all; done) | (simp_all <;> omega)
theorem zz9 (n : Int) : SC Tryz.prog 73 [.pv (vU8 n)] [] (fun _ => False) (iBool (z5k n)) [] := by
  refine SC.of Tryz.func73 rfl (lb rfl) fun F ρ w => ?_
  refine tQ <| tG <| sm 1 rfl <| nL <| tQ <| tG <| sm 3 rfl ?_
  refine wS 5 rfl (fun hb5 => ?_) fun hb5 => ?_
  ·refine sm 4 rfl <| nL <| tRt <| rOk rfl ?_ nPo
   unfold z5k
   first | (simp_all; done) | (simp_all <;> omega)
  refine sm 4 rfl <| nL <| tRt <| rOk rfl ?_ nPo
  unfold z5k
  first | (simp_all; done) | (simp_all <;> omega)
theorem y1x (s : ByteArray) : SC Tryz.prog 72 [iStr s] [] (fun _ => False) (iBool (z0o s)) [] := by
  refine SC.of Tryz.func72 rfl (lb rfl) fun F ρ w => ?_
  refine tQ <| tG <| sm 1 rfl <| nL <| tQ <| tQ <| tG <| sm 1 rfl <| nL <| tBk <| tQ <| tQ ?_
  refine tG <| cV rfl (bSt rfl rfl rfl rfl) <| sm 1 rfl <| nL ?_
  refine tC rfl (fun hc4 => ?_) fun hc4 => ?_
  ·refine tSk ?_
   refine tC rfl (fun hc4 => ?_) fun hc4 => ?_
   ·refine tQ <| tG <| sm 1 rfl <| nL <| tRt <| rOk rfl ?_ nPo
    refine congrArg (fun b => iBool b) ?_
    simp_all [z0o]
   refine tSk <| tQ <| tG <| sm 1 rfl <| nL <| tRt <| rOk rfl ?_ nPo
   refine congrArg (fun b => iBool b) ?_
   simp_all [z0o]
  refine tQ <| tG <| cV rfl (bSt rfl rfl rfl rfl) <| sm 1 rfl <| nL ?_
  refine tC rfl (fun hc4 => ?_) fun hc4 => ?_
  ·refine tSk ?_
   refine tC rfl (fun hc4 => ?_) fun hc4 => ?_
   ·refine tQ <| tG <| sm 1 rfl <| nL <| tRt <| rOk rfl ?_ nPo
    refine congrArg (fun b => iBool b) ?_
    simp_all [z0o]
   refine tSk <| tQ <| tG <| sm 1 rfl <| nL <| tRt <| rOk rfl ?_ nPo
   refine congrArg (fun b => iBool b) ?_
   simp_all [z0o]
  refine tQ <| tG <| cV rfl (bSt rfl rfl rfl rfl) <| sm 1 rfl <| nL ?_
  refine tC rfl (fun hc4 => ?_) fun hc4 => ?_
  ·refine tSk ?_
   refine tC rfl (fun hc4 => ?_) fun hc4 => ?_
   ·refine tQ <| tG <| sm 1 rfl <| nL <| tRt <| rOk rfl ?_ nPo
    refine congrArg (fun b => iBool b) ?_
    simp_all [z0o]
   refine tSk <| tQ <| tG <| sm 1 rfl <| nL <| tRt <| rOk rfl ?_ nPo
   refine congrArg (fun b => iBool b) ?_
   simp_all [z0o]
  refine tQ <| tG <| cV rfl (bSt rfl rfl rfl rfl) <| sm 1 rfl <| nL ?_
  refine tC rfl (fun hc4 => ?_) fun hc4 => ?_
  ·refine tSk ?_
   refine tC rfl (fun hc4 => ?_) fun hc4 => ?_
   ·refine tQ <| tG <| sm 1 rfl <| nL <| tRt <| rOk rfl ?_ nPo
    refine congrArg (fun b => iBool b) ?_
    simp_all [z0o]
   refine tSk <| tQ <| tG <| sm 1 rfl <| nL <| tRt <| rOk rfl ?_ nPo
   refine congrArg (fun b => iBool b) ?_
   simp_all [z0o]
  refine tQ <| tG <| cV rfl (bSt rfl rfl rfl rfl) <| sm 1 rfl <| nL ?_
  refine tC rfl (fun hc4 => ?_) fun hc4 => ?_
  ·refine tSk ?_
   refine tC rfl (fun hc4 => ?_) fun hc4 => ?_
   ·refine tQ <| tG <| sm 1 rfl <| nL <| tRt <| rOk rfl ?_ nPo
    refine congrArg (fun b => iBool b) ?_
    simp_all [z0o]
   refine tSk <| tQ <| tG <| sm 1 rfl <| nL <| tRt <| rOk rfl ?_ nPo
   refine congrArg (fun b => iBool b) ?_
   simp_all [z0o]
  refine tQ <| tG <| cV rfl (bSt rfl rfl rfl rfl) <| sm 1 rfl <| nL ?_
  refine tC rfl (fun hc4 => ?_) fun hc4 => ?_
  ·refine tSk ?_
   refine tC rfl (fun hc4 => ?_) fun hc4 => ?_
   ·refine tQ <| tG <| sm 1 rfl <| nL <| tRt <| rOk rfl ?_ nPo
    refine congrArg (fun b => iBool b) ?_
    simp_all [z0o]
   refine tSk <| tQ <| tG <| sm 1 rfl <| nL <| tRt <| rOk rfl ?_ nPo
   refine congrArg (fun b => iBool b) ?_
   simp_all [z0o]
  refine tQ <| tG <| cV rfl (bSt rfl rfl rfl rfl) <| sm 1 rfl <| nL ?_
  refine tC rfl (fun hc4 => ?_) fun hc4 => ?_
  ·refine tSk ?_
   refine tC rfl (fun hc4 => ?_) fun hc4 => ?_
   ·refine tQ <| tG <| sm 1 rfl <| nL <| tRt <| rOk rfl ?_ nPo
    refine congrArg (fun b => iBool b) ?_
    simp_all [z0o]
   refine tSk <| tQ <| tG <| sm 1 rfl <| nL <| tRt <| rOk rfl ?_ nPo
   refine congrArg (fun b => iBool b) ?_
   simp_all [z0o]
  refine tQ <| tG <| cV rfl (bSt rfl rfl rfl rfl) <| sm 1 rfl <| nL ?_
  refine tC rfl (fun hc4 => ?_) fun hc4 => ?_
  ·refine tSk ?_
   refine tC rfl (fun hc4 => ?_) fun hc4 => ?_
   ·refine tQ <| tG <| sm 1 rfl <| nL <| tRt <| rOk rfl ?_ nPo
    refine congrArg (fun b => iBool b) ?_
    simp_all [z0o]
   refine tSk <| tQ <| tG <| sm 1 rfl <| nL <| tRt <| rOk rfl ?_ nPo
   refine congrArg (fun b => iBool b) ?_
   simp_all [z0o]
  refine tQ <| tG <| cV rfl (bSt rfl rfl rfl rfl) <| sm 1 rfl <| nL ?_
  refine tC rfl (fun hc4 => ?_) fun hc4 => ?_
  ·refine tSk ?_
   refine tC rfl (fun hc4 => ?_) fun hc4 => ?_
   ·refine tQ <| tG <| sm 1 rfl <| nL <| tRt <| rOk rfl ?_ nPo
    refine congrArg (fun b => iBool b) ?_
    simp_all [z0o]
   refine tSk <| tQ <| tG <| sm 1 rfl <| nL <| tRt <| rOk rfl ?_ nPo
   refine congrArg (fun b => iBool b) ?_
   simp_all [z0o]
  refine tQ <| tG <| cV rfl (bSt rfl rfl rfl rfl) <| sm 1 rfl <| nL ?_
  refine tC rfl (fun hc4 => ?_) fun hc4 => ?_
  ·refine tSk ?_
   refine tC rfl (fun hc4 => ?_) fun hc4 => ?_
   ·refine tQ <| tG <| sm 1 rfl <| nL <| tRt <| rOk rfl ?_ nPo
    refine congrArg (fun b => iBool b) ?_
    simp_all [z0o]
   refine tSk <| tQ <| tG <| sm 1 rfl <| nL <| tRt <| rOk rfl ?_ nPo
   refine congrArg (fun b => iBool b) ?_
   simp_all [z0o]
  refine tQ <| tG <| cV rfl (bSt rfl rfl rfl rfl) <| sm 1 rfl <| nL ?_
  refine tC rfl (fun hc4 => ?_) fun hc4 => ?_
  ·refine tSk ?_
   refine tC rfl (fun hc4 => ?_) fun hc4 => ?_
   ·refine tQ <| tG <| sm 1 rfl <| nL <| tRt <| rOk rfl ?_ nPo
    refine congrArg (fun b => iBool b) ?_
    simp_all [z0o]
   refine tSk <| tQ <| tG <| sm 1 rfl <| nL <| tRt <| rOk rfl ?_ nPo
   refine congrArg (fun b => iBool b) ?_
   simp_all [z0o]
  refine tQ <| tG <| cV rfl (bSt rfl rfl rfl rfl) <| sm 1 rfl <| nL ?_
  refine tC rfl (fun hc4 => ?_) fun hc4 => ?_
  ·refine tSk ?_
   refine tC rfl (fun hc4 => ?_) fun hc4 => ?_
   ·refine tQ <| tG <| sm 1 rfl <| nL <| tRt <| rOk rfl ?_ nPo
    refine congrArg (fun b => iBool b) ?_
    simp_all [z0o]
   refine tSk <| tQ <| tG <| sm 1 rfl <| nL <| tRt <| rOk rfl ?_ nPo
   refine congrArg (fun b => iBool b) ?_
   simp_all [z0o]
  refine tQ <| tG <| cV rfl (bSt rfl rfl rfl rfl) <| sm 1 rfl <| nL ?_
  refine tC rfl (fun hc4 => ?_) fun hc4 => ?_
  ·refine tSk ?_
   refine tC rfl (fun hc4 => ?_) fun hc4 => ?_
   ·refine tQ <| tG <| sm 1 rfl <| nL <| tRt <| rOk rfl ?_ nPo
    refine congrArg (fun b => iBool b) ?_
    simp_all [z0o]
   refine tSk <| tQ <| tG <| sm 1 rfl <| nL <| tRt <| rOk rfl ?_ nPo
   refine congrArg (fun b => iBool b) ?_
   simp_all [z0o]
  refine tQ <| tG <| cV rfl (bSt rfl rfl rfl rfl) <| sm 1 rfl <| nL ?_
  refine tC rfl (fun hc4 => ?_) fun hc4 => ?_
  ·refine tSk ?_
   refine tC rfl (fun hc4 => ?_) fun hc4 => ?_
   ·refine tQ <| tG <| sm 1 rfl <| nL <| tRt <| rOk rfl ?_ nPo
    refine congrArg (fun b => iBool b) ?_
    simp_all [z0o]
   refine tSk <| tQ <| tG <| sm 1 rfl <| nL <| tRt <| rOk rfl ?_ nPo
   refine congrArg (fun b => iBool b) ?_
   simp_all [z0o]
  refine tQ <| tG <| cV rfl (bSt rfl rfl rfl rfl) <| sm 1 rfl <| nL ?_
  refine tC rfl (fun hc4 => ?_) fun hc4 => ?_
  ·refine tSk ?_
   refine tC rfl (fun hc4 => ?_) fun hc4 => ?_
   ·refine tQ <| tG <| sm 1 rfl <| nL <| tRt <| rOk rfl ?_ nPo
    refine congrArg (fun b => iBool b) ?_
    simp_all [z0o]
   refine tSk <| tQ <| tG <| sm 1 rfl <| nL <| tRt <| rOk rfl ?_ nPo
   refine congrArg (fun b => iBool b) ?_
   simp_all [z0o]
  refine tQ <| tG <| cV rfl (bSt rfl rfl rfl rfl) <| sm 1 rfl <| nL ?_
  refine tC rfl (fun hc4 => ?_) fun hc4 => ?_
  ·refine tSk ?_
   refine tC rfl (fun hc4 => ?_) fun hc4 => ?_
   ·refine tQ <| tG <| sm 1 rfl <| nL <| tRt <| rOk rfl ?_ nPo
    refine congrArg (fun b => iBool b) ?_
    simp_all [z0o]
   refine tSk <| tQ <| tG <| sm 1 rfl <| nL <| tRt <| rOk rfl ?_ nPo
   refine congrArg (fun b => iBool b) ?_
   simp_all [z0o]
  refine tQ <| tG <| cV rfl (bSt rfl rfl rfl rfl) <| sm 1 rfl <| nL ?_
  refine tC rfl (fun hc4 => ?_) fun hc4 => ?_
  ·refine tSk ?_
   refine tC rfl (fun hc4 => ?_) fun hc4 => ?_
   ·refine tQ <| tG <| sm 1 rfl <| nL <| tRt <| rOk rfl ?_ nPo
    refine congrArg (fun b => iBool b) ?_
    simp_all [z0o]
   refine tSk <| tQ <| tG <| sm 1 rfl <| nL <| tRt <| rOk rfl ?_ nPo
   refine congrArg (fun b => iBool b) ?_
   simp_all [z0o]
  refine tG <| cV rfl (bSt rfl rfl rfl rfl) <| sm 1 rfl <| nL ?_
  refine tC rfl (fun hc4 => ?_) fun hc4 => ?_
  ·refine tQ <| tG <| sm 1 rfl <| nL <| tRt <| rOk rfl ?_ nPo
   refine congrArg (fun b => iBool b) ?_
   simp_all [z0o]
  refine tSk <| tQ <| tG <| sm 1 rfl <| nL <| tRt <| rOk rfl ?_ nPo
  refine congrArg (fun b => iBool b) ?_
  simp_all [z0o]
theorem zo7 (s : ByteArray) : SC Tryz.prog 47 [iStr s] [] (fun _ => False) (iBool (z3r s)) [] := by
  refine SC.of Tryz.func47 rfl (lb rfl) fun F ρ w => ?_
  have hsz : s.size <= 9223372036854775807 ∨ 9223372036854775807 < s.size := by omega
  refine tQ <| tG <| sm 1 rfl <| nL <| tQ <| tQ <| tG <| sm 1 rfl <| cV rfl (bSt rfl rfl rfl rfl) <| sm 1 rfl ?_
  refine wS 6 rfl (fun hb6 => ?_) fun hb6 => ?_
  ·refine sm 14 rfl <| nL <| Tr.condT rfl <| tQ <| tG <| sm 1 rfl <| nL <| tRt <| rOk rfl ?_ nPo
   refine congrArg (fun b => iBool b) ?_
   simp_all [z3r]
  have hne : s.toList ≠ [] := by simpa using hb6
  obtain ⟨b0, r0, hs0⟩ := List.exists_cons_of_ne_nil hne
  have hi0 : s[0]? = some b0 := by rw [zu3 (i := 0) (by rw [hs0]; simp)]; simp [hs0]
  refine sm 1 rfl <| yV rfl rfl (z48 rfl rfl uT9) <| sm 3 rfl ?_
  refine wS 11 rfl (fun hb11 => ?_) fun hb11 => ?_
  ·refine sm 9 rfl <| nL <| Tr.condT rfl <| tQ <| tG <| sm 1 rfl <| nL <| tRt <| rOk rfl ?_ nPo
   refine congrArg (fun b => iBool b) ?_
   (have h20 : ¬ ((s.size : Int) <= 20) := by simp at hb11; omega
    simp [z3r, h20]; done)
  refine sm 1 rfl <| yV rfl rfl (z4z rfl rfl rfl uT9 (by assumption) (by rfl)) <| WL.yes rfl rfl rfl rfl rfl rfl (z0r (zc6 _) ent71 rfl rfl (sRf _ _) rfl) <| sm 3 rfl ?_
  refine wS 17 rfl (fun hb17 => ?_) fun hb17 => ?_
  ·refine sm 3 rfl <| nL <| Tr.condT rfl <| tQ <| tG <| sm 1 rfl <| nL <| tRt <| rOk rfl ?_ nPo
   refine congrArg (fun b => iBool b) ?_
   simp_all [z3r]
  refine sm 1 rfl <| WL.yes rfl rfl rfl rfl rfl rfl (z0r (y1x _) ent72 rfl rfl (sRf _ _) rfl) <| sm 1 rfl <| nL ?_
  refine tC rfl (fun hc20 => ?_) fun hc20 => ?_
  ·refine tQ <| tG <| sm 1 rfl <| nL <| tRt <| rOk rfl ?_ nPo
   refine congrArg (fun b => iBool b) ?_
   simp_all [z3r]
  refine tSk <| tQ <| tQ <| tG <| sm 1 rfl <| nL <| tBk <| Tr.sub (Sub.of (fr' := [(3, iInt 0), (0, iStr s)]) ⟨rfl, rfl, trivial⟩) ?_
  refine Tr.loop (fun fr σ m => ∃ (k : Nat), (k <= s.toList.length) /\ (s.toList.all isLD = (s.toList.drop k).all isLD) /\ fr = [(3, iInt k), (0, iStr s)] /\ σ = look [] /\ m = s.toList.length - k) (n := s.toList.length - 0) ?_ ?_
  ·exact ⟨0, Nat.zero_le _, rfl, rfl, rfl, rfl⟩
  rintro fr σ m ⟨k, hI0, hI1, rfl, rfl, rfl⟩
  refine tQ <| tQ <| tG <| sm 2 rfl <| cV rfl (z48 rfl rfl uT9) <| sm 1 rfl <| nL ?_
  refine tC rfl (fun hc24 => ?_) fun hc24 => ?_
  ·have hlt : k < s.toList.length := by rw [z74]; simpa using hc24
   have hd := List.drop_eq_getElem_cons hlt
   have hi := zu3 hlt
   generalize s.toList[k] = b at hd hi
   have hl20 : s.toList.length <= 20 := by rw [z74]; simp at hb11; omega
   refine tSk <| tQ <| tBk <| tQ <| tG <| sm 2 rfl <| cV rfl (z4z rfl rfl rfl uT9 (by assumption) (by rfl)) <| cE rfl (ocq (zc6 _) ent71 rfl rfl) <| sm 2 rfl ?_
   refine wS 32 rfl (fun hb32 => ?_) fun hb32 => ?_
   ·refine sm 2 rfl <| yV rfl rfl (z4z rfl rfl rfl uT9 (by assumption) (by rfl)) <| WL.yes rfl rfl rfl rfl rfl rfl (z0r (zz9 _) ent73 rfl rfl (sRf _ _) rfl) <| sm 2 rfl <| nL ?_
    refine tC rfl (fun hc38 => ?_) fun hc38 => ?_
    ·refine tQ <| tG <| sm 1 rfl <| nL <| tRt <| rOk rfl ?_ nPo
     have hb : isLD b = false := by simp_all [isLD]
     have hall : s.toList.all isLD = false := by rw [hI1, hd]; simp [hb]
     simp [z3r, hall]
    refine tSk <| tG <| sm 1 rfl <| cV rfl (oB rfl rfl (z05 rfl oM0)) <| sm 1 rfl <| nL ?_
    refine ⟨_, _, ?_, Sub.of (fr' := [(3, iInt (k + 1)), (0, iStr s)]) ⟨rfl, rfl, trivial⟩, (k + 1), ?_, ?_, rfl, rfl, rfl⟩
    ·omega
    ·omega
    have hb : isLD b = true := by simp_all [isLD]
    rw [hI1, hd]; simp [hb]
   refine sm 6 rfl <| nL <| Tr.condF rfl <| tSk <| tG <| sm 1 rfl <| cV rfl (oB rfl rfl (z05 rfl oM0)) <| sm 1 rfl <| nL ?_
   refine ⟨_, _, ?_, Sub.of (fr' := [(3, iInt (k + 1)), (0, iStr s)]) ⟨rfl, rfl, trivial⟩, (k + 1), ?_, ?_, rfl, rfl, rfl⟩
   ·omega
   ·omega
   have hb : isLD b = true := by simp_all [isLD]
   rw [hI1, hd]; simp [hb]
  refine tEx <| tQ <| tG <| sm 1 rfl <| nL <| tRt <| rOk rfl ?_ nPo
  have hge : s.toList.length <= k := by rw [z74]; simpa using hc24
  have hall : s.toList.all isLD = true := by rw [hI1, List.drop_eq_nil_of_le hge]; rfl
  refine congrArg (fun b => iBool b) ?_
  simp_all [z3r]
theorem z45 (a b : List Int) : SC Tryz.prog 27 [.pv (ints a), .pv (ints b)] [] (fun _ => False) (iBool (a == b)) [] := by
  refine SC.of Tryz.func27 rfl (lb rfl) fun F ρ w => ?_
  refine Tr.lenOf (t := 0) rfl (fun hl => ?_)
  simp only [List.length_map] at hl
  refine Tr.lenOf (t := 1) rfl (fun hl2 => ?_)
  simp only [List.length_map] at hl2
  refine tQ <| tG <| sm 1 rfl <| nL <| tQ <| tQ <| tG <| sm 1 rfl <| cV rfl (oSm uT35 rfl) <| sm 1 rfl <| cV rfl (oSm uT35 rfl) <| sm 1 rfl ?_
  refine nL ?_
  refine tC rfl (fun hc10 => ?_) fun hc10 => ?_
  ·refine tQ <| tG <| sm 1 rfl <| nL <| tRt <| rOk rfl ?_ nPo
   have hne : a ≠ b := by intro h; subst h; simp at hc10
   simp [hne]
  have hlen : a.length = b.length := by simp at hc10; omega
  refine tSk <| tQ <| tQ <| tG <| sm 1 rfl <| nL <| tBk <| Tr.sub (Sub.of (fr' := [(5, iInt 0), (0, .pv (ints a)), (1, .pv (ints b))]) ⟨rfl, rfl, rfl, trivial⟩) ?_
  refine Tr.loop (fun fr σ m => ∃ (k : Nat), (k <= a.length) /\ ((a == b) = (a.drop k == b.drop k)) /\ fr = [(5, iInt k), (0, .pv (ints a)), (1, .pv (ints b))] /\ σ = look [] /\ m = a.length - k) (n := a.length - 0) ?_ ?_
  ·exact ⟨0, Nat.zero_le _, rfl, rfl, rfl, rfl⟩
  rintro fr σ m ⟨k, hI0, hI1, rfl, rfl, rfl⟩
  refine tQ <| tQ <| tG <| sm 2 rfl <| cV rfl (oSm uT35 rfl) <| sm 1 rfl <| nL ?_
  refine tC rfl (fun hc14 => ?_) fun hc14 => ?_
  ·have hlt : k < a.length := by simpa using hc14
   have hd := List.drop_eq_getElem_cons hlt
   have hm := List.getElem_mem hlt
   have hi := z0c (f := eInt) (List.getElem?_eq_getElem hlt)
   generalize a[k] = x at hd hm hi
   have hltw : k < b.length := by omega
   have hdw := List.drop_eq_getElem_cons hltw
   have hw := z0c (f := eInt) (List.getElem?_eq_getElem hltw)
   generalize b[k] = y at hdw hw
   refine tSk <| tQ <| tBk <| tQ <| Tr.still z15 kR0 rfl <| smS 2 rfl <| sV rfl (iSq rfl rfl rfl uT35 hi tS3 rfl (by rfl)) <| smS 3 rfl <| sV rfl (iSq rfl rfl rfl uT35 hw tS3 rfl (by rfl)) <| smS 2 rfl <| WS.nil ?_
   refine tC rfl (fun hc25 => ?_) fun hc25 => ?_
   ·refine tQ <| tG <| sm 1 rfl <| nL <| tRt <| rOk rfl ?_ nPo
    have hxy : x ≠ y := by simpa using hc25
    rw [hI1, hd, hdw]
    simp [hxy]
   refine tSk <| tG <| sm 1 rfl <| cV rfl (oB rfl rfl (z05 rfl oM0)) <| sm 1 rfl <| nL ?_
   refine ⟨_, _, ?_, Sub.of (fr' := [(5, iInt (k + 1)), (0, .pv (ints a)), (1, .pv (ints b))]) ⟨rfl, rfl, rfl, trivial⟩, (k + 1), ?_, ?_, rfl, rfl, rfl⟩
   ·omega
   ·omega
   rw [hI1, hd, hdw]
   have : x = y := by simpa using hc25
   simp [this]
  refine tEx <| tQ <| tG <| sm 1 rfl <| nL <| tRt <| rOk rfl ?_ nPo
  have hge : a.length <= k := by simpa using hc14
  rw [hI1, List.drop_eq_nil_of_le hge, List.drop_eq_nil_of_le oM0]
  rfl
theorem zf0 (N : Nat) : ∀ (l : List Nd) (hb : z1a l <= 4611686018427387904), SizeOf.sizeOf l < N -> SC Tryz.prog 18 [.pv (z07 l)] [] (fun _ => False) (iInt (z1a l)) [] := by
  induction N with
  | zero => intro l hb hN; exact absurd hN (Nat.not_lt_zero _)
  | succ N ih =>
    intro l hb hN
    refine SC.of Tryz.func18 rfl (lb rfl) fun F ρ w => ?_
    refine Tr.lenOf (t := 0) rfl (fun hl => ?_)
    simp only [List.length_map] at hl
    refine tQ <| tG <| sm 1 rfl <| nL <| tQ <| tG <| sm 1 rfl <| cV rfl (oSm uT44 rfl) <| sm 1 rfl <| nL <| tQ <| tQ ?_
    refine tG <| sm 1 rfl <| nL <| tBk <| Tr.sub (Sub.of (fr' := [(4, iInt 0), (3, iInt l.length), (0, .pv (z07 l))]) ⟨rfl, rfl, rfl, trivial⟩) ?_
    refine Tr.loop (fun fr σ m => ∃ (k : Nat) (n : Nat), (k <= l.length) /\ (n + wtL (l.drop k) = z1a l) /\ fr = [(4, iInt k), (3, iInt n), (0, .pv (z07 l))] /\ σ = look [] /\ m = l.length - k) (n := l.length - 0) ?_ ?_
    ·exact ⟨0, l.length, Nat.zero_le _, rfl, rfl, rfl, rfl⟩
    rintro fr σ m ⟨k, n, hI0, hI1, rfl, rfl, rfl⟩
    refine tQ <| tQ <| tG <| sm 2 rfl <| cV rfl (oSm uT44 rfl) <| sm 1 rfl <| nL ?_
    refine tC rfl (fun hc11 => ?_) fun hc11 => ?_
    ·have hlt : k < l.length := by simpa using hc11
     have hd := List.drop_eq_getElem_cons hlt
     have hm := List.getElem_mem hlt
     have hi := z20 (List.getElem?_eq_getElem hlt)
     generalize l[k] = x at hd hm hi
     have hstep : wtL (x :: l.drop (k + 1)) = wtN x + wtL (l.drop (k + 1)) := rfl
     have hx := wtN_eq x
     rw [hd, hstep, hx] at hI1
     refine tSk <| tQ <| tBk <| tQ <| Tr.still z15 kR0 rfl <| smS 3 rfl <| sV rfl (iSq rfl rfl rfl uT44 (by assumption) tS43 rfl (by rfl)) <| smS 2 rfl <| sV rfl (oSm uT35 rfl) <| sV rfl (oB rfl rfl (z05 rfl oM0)) <| smS 2 rfl <| sV rfl (iSq rfl rfl rfl uT44 (by assumption) tS43 rfl (by rfl)) ?_
     refine smS 2 rfl <| sV rfl (oSm uT35 rfl) <| sV rfl (oB rfl rfl (z05 rfl oM0)) <| smS 2 rfl <| sV rfl (iSq rfl rfl rfl uT44 (by assumption) tS43 rfl (by rfl)) <| smS 2 rfl <| sV rfl (oSm uT35 rfl) <| sV rfl (oB rfl rfl (z05 rfl oM0)) <| smS 2 rfl <| sV rfl (iSq rfl rfl rfl uT44 (by assumption) tS43 rfl (by rfl)) <| smS 2 rfl <| sV rfl (z48 rfl rfl uT9) ?_
     refine sV rfl (oB rfl rfl (z05 rfl oM0)) <| smS 1 rfl <| WS.nil <| tQ <| tG <| sm 1 rfl <| nL <| tBk ?_
     have hstart : n + x.args.length + x.outs.length + x.params.length + x.name.size + wtK (x.kids.drop 0) + wtL (l.drop (k + 1)) = z1a l := by rw [List.drop_zero]; omega
     refine Tr.sub (Sub.of (fr' := [(5, iInt 0), (4, iInt k), (3, iInt (n + x.args.length + x.outs.length + x.params.length + x.name.size)), (0, .pv (z07 l))]) ⟨rfl, rfl, congrArg (fun z => some (iInt z)) (by rfl), rfl, trivial⟩) ?_
     refine Tr.loop (fun fr σ m => ∃ (i : Nat) (acc : Nat), (i <= x.kids.length) /\ (acc + wtK (x.kids.drop i) + wtL (l.drop (k + 1)) = z1a l) /\ fr = [(5, iInt i), (4, iInt k), (3, iInt acc), (0, .pv (z07 l))] /\ σ = look [] /\ m = x.kids.length - i) (n := x.kids.length - 0) ?_ ?_
     ·exact ⟨0, (n + x.args.length + x.outs.length + x.params.length + x.name.size), Nat.zero_le _, hstart, rfl, rfl, rfl⟩
     rintro fr σ m ⟨i, acc, hJ0, hJ1, rfl, rfl, rfl⟩
     refine tQ <| tQ <| tG <| sm 3 rfl <| cV rfl (iSq rfl rfl rfl uT44 (by assumption) tS43 rfl (by rfl)) <| sm 2 rfl ?_
     refine WL.lenOf (t := 48) rfl (fun hl2 => ?_)
     simp only [List.length_map] at hl2
     refine cV rfl (oSm uT41 rfl) <| sm 1 rfl <| nL ?_
     refine tC rfl (fun hc50 => ?_) fun hc50 => ?_
     ·have hlt2 : i < x.kids.length := by simpa using hc50
      have hd2 := List.drop_eq_getElem_cons hlt2
      have hm2 := List.getElem_mem hlt2
      have hi2 := z0c (f := eKid) (List.getElem?_eq_getElem hlt2)
      generalize x.kids[i] = q at hd2 hm2 hi2
      have hdec : SizeOf.sizeOf q < N := Nat.lt_of_lt_of_le (z62 hm rfl hm2) (Nat.le_of_lt_succ hN)
      have hJ1' := hJ1
      rw [hd2, show wtK (q :: x.kids.drop (i + 1)) = 1 + (q.length + wtL q) + wtK (x.kids.drop (i + 1)) from rfl] at hJ1'
      have hqq : z1a q = q.length + wtL q := rfl
      have hbq : z1a q <= 4611686018427387904 := by unfold z1a at *; omega
      refine tSk <| tQ <| tBk <| tG <| sm 1 rfl <| cV rfl (oB rfl rfl (z05 rfl oM0)) <| sm 2 rfl <| cV rfl (iSq rfl rfl rfl uT44 (by assumption) tS43 rfl (by rfl)) <| sm 3 rfl <| cV rfl (iSq rfl rfl rfl uT41 (by assumption) tS44 rfl (by rfl)) <| sm 1 rfl <| cE rfl (ocq (ih q hbq hdec) ent18 rfl rfl) ?_
      refine cV rfl (oB rfl rfl (z05 rfl oM0)) <| sm 1 rfl <| nL <| tG <| sm 1 rfl <| cV rfl (oB rfl rfl (z05 rfl oM0)) <| sm 1 rfl <| nL ?_
      refine ⟨_, _, ?_, Sub.of (fr' := [(5, iInt (i + 1)), (4, iInt k), (3, iInt (acc + 1 + z1a q)), (0, .pv (z07 l))]) ⟨rfl, rfl, congrArg (fun z => some (iInt z)) (by rfl), rfl, trivial⟩, (i + 1), (acc + 1 + z1a q), ?_, ?_, rfl, rfl, rfl⟩
      ·omega
      ·omega
      have hq : wtK (q :: x.kids.drop (i + 1)) = 1 + (q.length + wtL q) + wtK (x.kids.drop (i + 1)) := rfl
      rw [hd2, hq] at hJ1
      unfold z1a at *
      omega
     refine tEx <| tG <| sm 1 rfl <| cV rfl (oB rfl rfl (z05 rfl oM0)) <| sm 1 rfl <| nL ?_
     refine ⟨_, _, ?_, Sub.of (fr' := [(4, iInt (k + 1)), (3, iInt acc), (0, .pv (z07 l))]) ⟨rfl, rfl, rfl, trivial⟩, (k + 1), acc, ?_, ?_, rfl, rfl, rfl⟩
     ·omega
     ·omega
     have hz : wtK (x.kids.drop i) = 0 := by rw [List.drop_eq_nil_of_le (by simpa using hc50)]; rfl
     omega
    refine tEx <| tQ <| tG <| sm 2 rfl <| nL <| tRt <| rOk rfl ?_ nPo
    have hge : l.length <= k := by simpa using hc11
    rw [List.drop_eq_nil_of_le hge] at hI1
    simp only [wtL, Nat.add_zero] at hI1
    rw [<- hI1]
theorem y00 (l : List Nd) (hb : z1a l <= 4611686018427387904) : SC Tryz.prog 18 [.pv (z07 l)] [] (fun _ => False) (iInt (z1a l)) [] := zf0 _ l hb (Nat.lt_succ_self _)
theorem z89 (N : Nat) : ∀ (a b : List Nd), SizeOf.sizeOf a < N -> SC Tryz.prog 28 [.pv (z07 a), .pv (z07 b)] [] (fun _ => False) (iBool (z3x a b)) [] := by
  induction N with
  | zero => intro a b hN; exact absurd hN (Nat.not_lt_zero _)
  | succ N ih =>
    intro a b hN
    refine SC.of Tryz.func28 rfl (lb rfl) fun F ρ w => ?_
    refine Tr.lenOf (t := 0) rfl (fun hl => ?_)
    simp only [List.length_map] at hl
    refine Tr.lenOf (t := 1) rfl (fun hl2 => ?_)
    simp only [List.length_map] at hl2
    refine tQ <| tG <| sm 1 rfl <| nL <| tQ <| tQ <| tG <| sm 1 rfl <| cV rfl (oSm uT44 rfl) <| sm 1 rfl <| cV rfl (oSm uT44 rfl) <| sm 1 rfl ?_
    refine nL ?_
    refine tC rfl (fun hc13 => ?_) fun hc13 => ?_
    ·refine tQ <| tG <| sm 1 rfl <| nL <| tRt <| rOk rfl ?_ nPo
     rw [zo6 (by intro h; simp [h] at hc13)]
    have hlen : a.length = b.length := by simp at hc13; omega
    refine tSk <| tQ <| tQ <| tG <| sm 1 rfl <| nL <| tBk <| Tr.sub (Sub.of (fr' := [(5, iInt 0), (0, .pv (z07 a)), (1, .pv (z07 b))]) ⟨rfl, rfl, rfl, trivial⟩) ?_
    refine Tr.loop (fun fr σ m => ∃ (k : Nat), (k <= a.length) /\ (z3x a b = z3x (a.drop k) (b.drop k)) /\ fr = [(5, iInt k), (0, .pv (z07 a)), (1, .pv (z07 b))] /\ σ = look [] /\ m = a.length - k) (n := a.length - 0) ?_ ?_
    ·exact ⟨0, Nat.zero_le _, rfl, rfl, rfl, rfl⟩
    rintro fr σ m ⟨k, hI0, hI1, rfl, rfl, rfl⟩
    refine tQ <| tQ <| tG <| sm 2 rfl <| cV rfl (oSm uT44 rfl) <| sm 1 rfl <| nL ?_
    refine tC rfl (fun hc17 => ?_) fun hc17 => ?_
    ·have hlt : k < a.length := by simpa using hc17
     have hd := List.drop_eq_getElem_cons hlt
     have hm := List.getElem_mem hlt
     have hi := z20 (List.getElem?_eq_getElem hlt)
     generalize a[k] = x at hd hm hi
     have hltw : k < b.length := by omega
     have hdw := List.drop_eq_getElem_cons hltw
     have hw := z20 (List.getElem?_eq_getElem hltw)
     generalize b[k] = y at hdw hw
     refine tSk <| tQ <| tBk <| tQ ?_
     refine Tr.cut (fr' := [(7, .ptr 107 0), (6, .ptr 106 0), (5, iInt k), (0, .pv (z07 a)), (1, .pv (z07 b))]) (σ' := look [(106, some (.box [iInt x.kind, iInt x.op, iInt x.n, iStr x.name, .pv (ints x.args), .pv (ints x.outs), .pv (ints x.params), .pv (kids x.kids)])), (107, some (.box [iInt y.kind, iInt y.op, iInt y.n, iStr y.name, .pv (ints y.args), .pv (ints y.outs), .pv (ints y.params), .pv (kids y.kids)]))]) ?_ ?_
     ·refine tDr z15 (fun k => k ∈ ([] : List Nat)) <| wR 4 [0, 1, 2, 3, 4, 5, 6, 7] kR0 (fun _ _ _ h => pn h.1) <| smR 2 rfl <| rV rfl rfl (iSq rfl rfl rfl uT44 hi tS43 rfl (by rfl)) <| rV rfl rfl (lEA rfl rfl uT43 rfl tS43 (lb rfl)) <| smR 2 rfl <| rV rfl rfl (iSq rfl rfl rfl uT44 hw tS43 rfl (by rfl)) <| rV rfl rfl (lEA rfl rfl uT43 rfl tS43 (lb rfl)) <| nR <| WA.all (rs := [8, 9]) kR0 sI0 ?_
      refine fmc ⟨?_, fmc ⟨?_, by simp⟩⟩
      ·refine wI rfl rfl nf (z10 rfl) (fun _ _ => aLc (k := 106) rfl tZ43 rfl rfl rfl rfl) <| wO 9 kR0 <| wI rfl rfl nf (z10 rfl) (fun _ _ => aLc (k := 107) rfl tZ43 rfl rfl rfl rfl) <| wO 10 kR0 <| wI rfl rfl nf (nOl rfl) (fun _ _ => sBA rfl rfl rfl rfl rfl sI0 tS43 (flk rfl) (lb rfl)) <| wO 11 kR0 <| wI rfl rfl nf (nOl rfl) (fun _ _ => sBA rfl rfl rfl rfl rfl sI0 tS43 (flk rfl) (lb rfl)) <| wDn kR0 ?_
       refine ⟨rfl, Sub.of ⟨rfl, rfl, rfl, rfl, rfl, trivial⟩, ?_⟩
       exact z6t rfl rfl (fun k h1 h2 => by simp [look, z00 (Ne.symm h1), z00 (Ne.symm h2)]) dC0
      refine wI rfl rfl nf (z10 rfl) (fun _ _ => aLc (k := 107) rfl tZ43 rfl rfl rfl rfl) <| wO 8 kR0 <| wI rfl rfl nf (z10 rfl) (fun _ _ => aLc (k := 106) rfl tZ43 rfl rfl rfl rfl) <| wO 10 kR0 <| wI rfl rfl nf (nOl rfl) (fun _ _ => sBA rfl rfl rfl rfl rfl sI0 tS43 (flk rfl) (lb rfl)) <| wO 11 kR0 <| wI rfl rfl nf (nOl rfl) (fun _ _ => sBA rfl rfl rfl rfl rfl sI0 tS43 (flk rfl) (lb rfl)) <| wDn kR0 ?_
      refine ⟨rfl, Sub.of ⟨rfl, rfl, rfl, rfl, rfl, trivial⟩, ?_⟩
      exact z6t rfl rfl (fun k h1 h2 => by simp [look, z00 (Ne.symm h1), z00 (Ne.symm h2)]) dC0
     refine Tr.freezeBox (t := 6) (k := 106) rfl rfl rfl <| Tr.freezeBox (t := 7) (k := 107) rfl rfl rfl <| Tr.heap (σ' := look []) (fun k => by simp only [look]; cases Nat.beq 107 k <;> cases Nat.beq 106 k <;> rfl) <| tQ <| tQ <| tG <| sm 6 rfl ?_
     refine wS 33 rfl (fun hb33 => ?_) fun hb33 => ?_
     ·refine sm 53 rfl <| nL <| Tr.condT rfl <| tQ <| tG <| sm 1 rfl <| nL <| tRt <| rOk rfl ?_ nPo
      have hsh : z56 x y = false := by
        clear hd hdw hm hi hw hI1
        simp_all [z56]
      rw [hI1, hd, hdw]
      simp [z3x, z44, hsh]
     refine sm 7 rfl ?_
     refine wS 40 rfl (fun hb40 => ?_) fun hb40 => ?_
     ·refine sm 46 rfl <| nL <| Tr.condT rfl <| tQ <| tG <| sm 1 rfl <| nL <| tRt <| rOk rfl ?_ nPo
      have hsh : z56 x y = false := by
        clear hd hdw hm hi hw hI1
        simp_all [z56]
      rw [hI1, hd, hdw]
      simp [z3x, z44, hsh]
     refine sm 7 rfl ?_
     refine wS 47 rfl (fun hb47 => ?_) fun hb47 => ?_
     ·refine sm 39 rfl <| nL <| Tr.condT rfl <| tQ <| tG <| sm 1 rfl <| nL <| tRt <| rOk rfl ?_ nPo
      have hsh : z56 x y = false := by
        clear hd hdw hm hi hw hI1
        simp_all [z56]
      rw [hI1, hd, hdw]
      simp [z3x, z44, hsh]
     refine sm 4 rfl <| yV rfl rfl (bSt rfl rfl rfl rfl) <| sm 2 rfl ?_
     refine wS 54 rfl (fun hb54 => ?_) fun hb54 => ?_
     ·refine sm 32 rfl <| nL <| Tr.condT rfl <| tQ <| tG <| sm 1 rfl <| nL <| tRt <| rOk rfl ?_ nPo
      have hsh : z56 x y = false := by
        clear hd hdw hm hi hw hI1
        simp_all [z56]
      rw [hI1, hd, hdw]
      simp [z3x, z44, hsh]
     refine sm 2 rfl <| yV rfl rfl (oSm uT41 rfl) <| sm 2 rfl <| yV rfl rfl (oSm uT41 rfl) <| sm 3 rfl ?_
     refine wS 63 rfl (fun hb63 => ?_) fun hb63 => ?_
     ·refine sm 23 rfl <| nL <| Tr.condT rfl <| tQ <| tG <| sm 1 rfl <| nL <| tRt <| rOk rfl ?_ nPo
      have hsh : z56 x y = false := by
        clear hd hdw hm hi hw hI1
        (simp_all [z56] <;> omega)
      rw [hI1, hd, hdw]
      simp [z3x, z44, hsh]
     refine sm 4 rfl <| WL.yes rfl rfl rfl rfl rfl rfl (z0r (z45 _ _) ent27 rfl rfl (sRf _ _) rfl) <| sm 3 rfl ?_
     refine wS 71 rfl (fun hb71 => ?_) fun hb71 => ?_
     ·refine sm 15 rfl <| nL <| Tr.condT rfl <| tQ <| tG <| sm 1 rfl <| nL <| tRt <| rOk rfl ?_ nPo
      have hsh : z56 x y = false := by
        clear hd hdw hm hi hw hI1
        simp_all [z56]
      rw [hI1, hd, hdw]
      simp [z3x, z44, hsh]
     refine sm 4 rfl <| WL.yes rfl rfl rfl rfl rfl rfl (z0r (z45 _ _) ent27 rfl rfl (sRf _ _) rfl) <| sm 3 rfl ?_
     refine wS 79 rfl (fun hb79 => ?_) fun hb79 => ?_
     ·refine sm 7 rfl <| nL <| Tr.condT rfl <| tQ <| tG <| sm 1 rfl <| nL <| tRt <| rOk rfl ?_ nPo
      have hsh : z56 x y = false := by
        clear hd hdw hm hi hw hI1
        simp_all [z56]
      rw [hI1, hd, hdw]
      simp [z3x, z44, hsh]
     refine sm 4 rfl <| WL.yes rfl rfl rfl rfl rfl rfl (z0r (z45 _ _) ent27 rfl rfl (sRf _ _) rfl) <| sm 2 rfl <| nL ?_
     refine tC rfl (fun hc86 => ?_) fun hc86 => ?_
     ·refine tQ <| tG <| sm 1 rfl <| nL <| tRt <| rOk rfl ?_ nPo
      have hsh : z56 x y = false := by
        clear hd hdw hm hi hw hI1
        simp_all [z56]
      rw [hI1, hd, hdw]
      simp [z3x, z44, hsh]
     refine tSk <| tQ <| tG <| sm 1 rfl <| nL <| tBk ?_
     have hsh : z56 x y = true := by
       clear hd hdw hm hi hw
       (simp_all [z56] <;> omega)
     have hkl : x.kids.length = y.kids.length := by
       clear hd hdw hm hi hw
       simp_all [z56]
     have hstart : z3x a b = (zo5 (x.kids.drop 0) (y.kids.drop 0) && z3x (a.drop (k + 1)) (b.drop (k + 1))) := by
       rw [hI1, hd, hdw]
       simp [z3x, z44, hsh]
     refine Tr.sub (Sub.of (fr' := [(8, iInt 0), (7, .pv (.ept [vInt y.kind, vInt y.op, vInt y.n, vStr y.name, ints y.args, ints y.outs, ints y.params, kids y.kids] 0)), (6, .pv (.ept [vInt x.kind, vInt x.op, vInt x.n, vStr x.name, ints x.args, ints x.outs, ints x.params, kids x.kids] 0)), (5, iInt k), (0, .pv (z07 a)), (1, .pv (z07 b))]) ⟨rfl, rfl, rfl, rfl, rfl, rfl, trivial⟩) ?_
     refine Tr.loop (fun fr σ m => ∃ (i : Nat), (i <= x.kids.length) /\ (z3x a b = (zo5 (x.kids.drop i) (y.kids.drop i) && z3x (a.drop (k + 1)) (b.drop (k + 1)))) /\ fr = [(8, iInt i), (7, .pv (.ept [vInt y.kind, vInt y.op, vInt y.n, vStr y.name, ints y.args, ints y.outs, ints y.params, kids y.kids] 0)), (6, .pv (.ept [vInt x.kind, vInt x.op, vInt x.n, vStr x.name, ints x.args, ints x.outs, ints x.params, kids x.kids] 0)), (5, iInt k), (0, .pv (z07 a)), (1, .pv (z07 b))] /\ σ = look [] /\ m = x.kids.length - i) (n := x.kids.length - 0) ?_ ?_
     ·exact ⟨0, Nat.zero_le _, hstart, rfl, rfl, rfl⟩
     rintro fr σ m ⟨i, hJ0, hJ1, rfl, rfl, rfl⟩
     refine tQ <| tQ <| tG <| sm 3 rfl ?_
     refine WL.lenOf (t := 89) rfl (fun hl3 => ?_)
     simp only [List.length_map] at hl3
     refine cV rfl (oSm uT41 rfl) <| sm 1 rfl <| nL ?_
     refine tC rfl (fun hc91 => ?_) fun hc91 => ?_
     ·have hlt2 : i < x.kids.length := by simpa using hc91
      have hd2 := List.drop_eq_getElem_cons hlt2
      have hm2 := List.getElem_mem hlt2
      have hi2 := z0c (f := eKid) (List.getElem?_eq_getElem hlt2)
      generalize x.kids[i] = p at hd2 hm2 hi2
      have hdec : SizeOf.sizeOf p < N := Nat.lt_of_lt_of_le (z62 hm rfl hm2) (Nat.le_of_lt_succ hN)
      have hltw2 : i < y.kids.length := by omega
      have hdw2 := List.drop_eq_getElem_cons hltw2
      have hw2 := z0c (f := eKid) (List.getElem?_eq_getElem hltw2)
      generalize y.kids[i] = q at hdw2 hw2
      refine tSk <| tQ <| tBk <| tQ <| tDr z15 (fun k => k ∈ ([] : List Nat)) <| wR 2 [0, 1, 2, 3, 4, 5, 6, 7, 8, 9] kR0 h30 <| smR 3 rfl <| rV rfl rfl (iSq rfl rfl rfl uT41 hi2 tS44 rfl (by rfl)) <| smR 4 rfl <| rV rfl rfl (iSq rfl rfl rfl uT41 hw2 tS44 rfl (by rfl)) <| smR 1 rfl <| nR ?_
      refine wO 10 kR0 <| wI rfl rfl nf nw (fun _ _ => ocq (ih p q hdec) ent28 rfl rfl) <| wR 0 [11] kR0 h30 <| smR 1 rfl <| nR <| wDn kR0 ?_
      refine tC rfl (fun hc105 => ?_) fun hc105 => ?_
      ·refine tQ <| tG <| sm 1 rfl <| nL <| tRt <| rOk rfl ?_ nPo
       have hpq : z3x p q = false := by simpa using hc105
       rw [hJ1, hd2, hdw2]
       simp [zo5, hpq]
      refine tSk <| tG <| sm 1 rfl <| cV rfl (oB rfl rfl (z05 rfl oM0)) <| sm 1 rfl <| nL ?_
      refine ⟨_, _, ?_, Sub.of (fr' := [(8, iInt (i + 1)), (7, .pv (.ept [vInt y.kind, vInt y.op, vInt y.n, vStr y.name, ints y.args, ints y.outs, ints y.params, kids y.kids] 0)), (6, .pv (.ept [vInt x.kind, vInt x.op, vInt x.n, vStr x.name, ints x.args, ints x.outs, ints x.params, kids x.kids] 0)), (5, iInt k), (0, .pv (z07 a)), (1, .pv (z07 b))]) ⟨rfl, rfl, rfl, rfl, rfl, rfl, trivial⟩, (i + 1), ?_, ?_, rfl, rfl, rfl⟩
      ·omega
      ·omega
      rw [hJ1, hd2, hdw2]
      have : z3x p q = true := by simpa using hc105
      simp [zo5, this]
     refine tEx <| tG <| sm 1 rfl <| cV rfl (oB rfl rfl (z05 rfl oM0)) <| sm 1 rfl <| nL ?_
     refine ⟨_, _, ?_, Sub.of (fr' := [(5, iInt (k + 1)), (0, .pv (z07 a)), (1, .pv (z07 b))]) ⟨rfl, rfl, rfl, trivial⟩, (k + 1), ?_, ?_, rfl, rfl, rfl⟩
     ·omega
     ·omega
     have hz1 : x.kids.drop i = [] := List.drop_eq_nil_of_le (by simpa using hc91)
     have hz2 : y.kids.drop i = [] := List.drop_eq_nil_of_le (by rw [<- hkl]; simpa using hc91)
     rw [hJ1, hz1, hz2]
     simp [zo5]
    refine tEx <| tQ <| tG <| sm 1 rfl <| nL <| tRt <| rOk rfl ?_ nPo
    have hge : a.length <= k := by simpa using hc17
    rw [hI1, List.drop_eq_nil_of_le hge, List.drop_eq_nil_of_le oM0]
    rfl
theorem zf1 (a b : List Nd) : SC Tryz.prog 28 [.pv (z07 a), .pv (z07 b)] [] (fun _ => False) (iBool (z3x a b)) [] := z89 _ a b (Nat.lt_succ_self _)
section
variable {P : Program} {c : Cx} {R1 : Nat -> Prop} {o : Oper} {fr : Fr} {hp : Hp}
theorem z4j {t : TypeId} {x : Operand} {k : Nat} {cs : List IV} (ho : o.op = .box t x) (hx : fr.ev x = some (.agg cs)) (hσ : look hp k = none) (hc : c.σ k = none) (hfr : nmFr k fr = false) (hhp : nmHp k hp = false) (hcs : nm.nms k cs = false) :
    Ok P c o fr (look hp) (.ptr k 0) (look ((k, some (.box cs)) :: hp)) := by
  intro ρ w a K Q h hK
  obtain ⟨vs, u, hv, hl, hvu, hr⟩ := (h.ev hx).inv_agg
  have hrun : (execOp a.eval o).run P w = .ok (.value (.pointer (some ⟨w.heap.size, 0, none⟩))) (w.alloc (.cells vs t)) := by
    have hn : (newVar t (.agg vs)).run P w = .ok ⟨w.heap.size, 0, none⟩ (w.alloc (.cells vs t)) := rfl
    simp only [execOp, ho, hv, Instr.box, Sem.run_bind, hn, Result.andThen_ok]
    rfl
  unfold Oper.wp
  rw [hrun]
  refine hK (z1k ρ k (some (w.heap.size, 1))) _ _ (h.alloc hσ hc hfr hhp 1 _ _ fun keep _ => ?_) (.ptr _ _ _ fun cs' _ => ⟨w.heap.size, 1, z0g, rfl⟩)
  exact .box _ t vs u (z3d w _) hl hvu fun j x hj => keep _ _ (hr j x hj) (z5m hcs (List.mem_of_getElem? hj))
theorem z85 {t t2 : TypeId} {x y : Operand} {s s' : ByteArray} {n n' : Int} {f0 f1 : Field} {σ : Heap'} (ho : o.op = .binOp .neq t x y t2) (hx : fr.ev x = some (.pv (.agg [vStr s, vInt n]))) (hy : fr.ev y = some (.pv (.agg [vStr s', vInt n'])))
    (hu : P.underlying t = some (.struct #[f0, f1])) (h0 : P.underlying f0.type = some .string) (h1 : P.underlying f1.type = some (.int .i64)) (ho0 : f0.offset = 0) (ho1 : f1.offset = 1) (hn0 : f0.name ≠ "_") (hn1 : f1.name ≠ "_") (hs : P.stoodInHeld t = false) (hg : P.eqGuardType P.depth t = false) :
    OkV P c R1 o fr σ (.pv (vBool (!(s.toList == s'.toList && n == n')))) := by
  have inv : ∀ {F : Nat -> Prop} {ρ : Loc} {w : World} {v : Value} {s : ByteArray} {n : Int}, RepI F ρ σ w (.pv (.agg [vStr s, vInt n])) v -> v = .agg #[.string s, .int .i64 n] := by
    intro F ρ w v s n h
    cases h with
    | pv _ _ h =>
      cases h with
      | agg _ vs u hl hv hr =>
        have h0 := hv 0 _ rfl; have h1 := hv 1 _ rfl
        have r0 := hr 0 _ rfl; have r1 := hr 1 _ rfl
        cases hu0 : u 0 <;> rw [hu0] at r0 <;> cases r0
        cases hu1 : u 1 <;> rw [hu1] at r1 <;> cases r1
        rw [hu0] at h0; rw [hu1] at h1
        congr 1
        apply Array.ext_getElem?
        intro i
        match i with
        | 0 => simpa using h0
        | 1 => simpa using h1
        | i + 2 => rw [Array.getElem?_eq_none (by simp at hl; omega), Array.getElem?_eq_none sI0]
  intro ρ w a h
  have e1 := inv (h.ev hx)
  have e2 := inv (h.ev hy)
  have hfs : P.fieldsOf t = #[f0, f1] := by simp [Program.fieldsOf, hu]
  refine ⟨_, fun w2 _ => ?_, z2s _⟩
  have hp0 : ∀ (s : ByteArray) (n : Int), (part f0.type #[.string s, .int .i64 n] f0.offset).run P w2 = .ok (.string s) w2 := fun s n => by simp [part, z2l h0, TypeDesc.isRow, ho0, Sem.run_bind]
  have hp1 : ∀ (s : ByteArray) (n : Int), (part f1.type #[.string s, .int .i64 n] f1.offset).run P w2 = .ok (.int .i64 n) w2 := fun s n => by simp [part, z2l h1, TypeDesc.isRow, ho1, Sem.run_bind]
  have heq : (Op.equalIn 10000 t (.agg #[.string s, .int .i64 n]) (.agg #[.string s', .int .i64 n'])).run P w2 = .ok (s.toList == s'.toList && n == n') w2 := by
    rw [run_equalIn_struct w2 9999 t _ _ (by rw [hfs]; exact hu) hs, hfs]
    have hi9 : (Op.equalIn 9999 f1.type (.int .i64 n) (.int .i64 n')).run P w2 = .ok (n == n') w2 := run_equalIn_int w2 9998 f1.type .i64 .i64 n n' h1
    have hs9 : (Op.equalIn 9999 f0.type (.string s) (.string s')).run P w2 = .ok (s.toList == s'.toList) w2 := run_equalIn_string w2 9998 f0.type s s' h0
    simp only [Op.eqFields, hn0, hn1, Sem.run_bind, hp0, hp1, Result.andThen_ok, ne_eq, not_false_eq_true, if_true, hs9]
    cases hb : (s.toList == s'.toList)
    ·simp
    simp only [Bool.not_true, Bool.false_eq_true, if_false, Sem.run_bind, hp1, Result.andThen_ok, hi9]
    cases hc : (n == n') <;> simp
  simp [execOp, ho, e1, e2, Sem.run_bind, run_eqGuard_agg w2 .neq t x y _ _ hg, run_neq_struct, heq]
def firm1 (hp : Hp) : IV -> Prop
  | .pv (.agg _) => True
  | .pv p => p.one = true
  | .agg _ => True
  | .fn .. => True
  | .sl k len => ∃ s els, look hp k = some (.row s els) /\ els.length = len
  | .ptr k _ => ∃ cs, look hp k = some (.box cs)
  | .mp k => ∃ es, look hp k = some (.map es)
  | _ => False
def zu7 (hp : Hp) : List (Nat × IV) -> Prop
  | [] => True
  | (_, x) :: r => firm1 hp x /\ zu7 hp r
theorem z6a : ∀ {xs : List (Nat × IV)}, zu7 hp xs -> z5a (look hp) xs
  | (i, x) :: r, h, p, hq, hn => by
    rcases List.mem_cons.1 hq with rfl | hq
    ·have h1 := h.1
     cases x with
     | pv q => cases q <;> first | exact h1 | (simp [IV.parts] at hn)
     | agg => simp [IV.parts] at hn
     | fn => trivial
     | tup => exact h1.elim
     | rpt => exact h1.elim
     | _ => exact h1
    exact z6a h.2 p hq hn
def keyB : Value -> Value -> Bool
  | .int _ a, .int _ b => a == b
  | .string a, .string b => a.toList == b.toList
  | _, _ => false
def z2e : TypeDesc -> Value -> Bool
  | .int k, .int k' _ => k' == k
  | .string, .string _ => true
  | _, _ => false
theorem z47 {d : TypeDesc} {v : Value} (h : z2e d v = true) : MapKept.IsKey d v := by
  cases d <;> cases v <;> simp_all [z2e, MapKept.IsKey]
theorem zu9 {d : TypeDesc} {a b : Value} (ha : z2e d a = true) (hb : z2e d b = true) : keyB a b = true ↔ a = b := by
  cases d <;> cases a <;> cases b <;> first
    | (simp_all [z2e, keyB]; done)
    | (simp only [keyB, beq_iff_eq, Value.string.injEq]
       exact ⟨fun h => MapKept.bytes_beq _ _ |>.1 (by rw [beq_toListBytes]; simpa using h), fun h => by rw [h]⟩)
def z3t (k : Value) : List (Value × PV) -> Option PV
  | [] => none
  | (a, p) :: r => if keyB k a then some p else z3t k r
def mput (k : Value) (v : PV) : List (Value × PV) -> List (Value × PV)
  | [] => [(k, v)]
  | (a, p) :: r => if keyB k a then (k, v) :: r else (a, p) :: mput k v r
theorem z9j {d : TypeDesc} {k : Value} (hk : z2e d k = true) : ∀ (es : List (Value × PV)) (l : List MapEntry) (i : Nat), l.length = es.length -> (∀ e ∈ es, z2e d e.1 = true) -> (∀ (j : Nat) (a : Value) (p : PV), es[j]? = some (a, p) -> ∃ m : MapEntry, l[j]? = some m /\ m.key = a) ->
    (Instr.findNow d k l i = some none /\ z3t k es = none /\ ∀ v, mput k v es = es ++ [(k, v)]) ∨ ∃ j m p, Instr.findNow d k l i = some (some (i + j, m.val)) /\ l[j]? = some m /\ m.key = k /\ es[j]? = some (k, p) /\ z3t k es = some p /\ ∀ v, mput k v es = es.set j (k, v)
  | [], [], _, _, _, _ => .inl ⟨rfl, rfl, fun _ => rfl⟩
  | (a, p) :: es, m :: l, i, hl, he, h => by
    have h0 : m.key = a := by obtain ⟨m', hm', e⟩ := h 0 a p rfl; cases hm'; exact e
    have ha := he (a, p) (.head _)
    obtain ⟨r, hr, hiff⟩ := MapKept.sameNow_of_keys (z47 hk) (z47 ha)
    rw [<- h0] at hr
    cases r with
    | true =>
      have hka : k = a := hiff.1 rfl
      have hb : keyB k a = true := (zu9 hk ha).2 hka
      exact .inr ⟨0, m, p, by simp [Instr.findNow, hr], rfl, h0.trans hka.symm, by simp [hka], by simp [z3t, hb], fun v => by simp [mput, hb]⟩
    | false =>
      have hb : keyB k a = false := by
        cases hb : keyB k a with
        | false => rfl
        | true => have := hiff.2 ((zu9 hk ha).1 hb); cases this
      rcases z9j hk es l (i + 1) (by simpa using hl) (fun e h' => he e (.tail _ h')) (fun j a p hj => by simpa using h (j + 1) a p (by simpa using hj)) with ⟨h1, h2, h3⟩ | ⟨j, m', p', h1, h2, h3, h4, h5, h6⟩
      ·exact .inl ⟨by simp [Instr.findNow, hr, h1], by simp [z3t, hb, h2], fun v => by simp [mput, hb, h3]⟩
      exact .inr ⟨j + 1, m', p', by simp [Instr.findNow, hr, h1]; omega, by simpa using h2, h3, by simpa using h4, by simp [z3t, hb, h5], fun v => by simp [mput, hb, h6]⟩
theorem RepO.inv_map {F : Nat -> Prop} {ρ : Loc} {σ : Heap'} {w : World} {b cc : Nat} {es : List (Value × PV)} (h : RepO F ρ σ w b cc (.map es)) :
    ∃ (a : Array MapEntry) (t : Nat) (u : Nat -> Value), w.heap[b]? = some (.map a t) /\ a.size = es.length /\ (∀ i k p, es[i]? = some (k, p) -> ∃ m : MapEntry, a[i]? = some m /\ m.key = k /\ m.val = u i) /\ ∀ i k p, es[i]? = some (k, p) -> RepP (owned F ρ) w p (u i) := by
  cases h with
  | map _ a t u h hl hv hr => exact ⟨a, t, u, h, hl, hv, hr⟩
theorem All.mapAt {ρ : Loc} {w : World} {a : Act} (h : All c ρ (look hp) w fr a) {x : Operand} {k : Nat} {es : List (Value × PV)} (hx : fr.ev x = some (.mp k)) (hk : look hp k = some (.map es)) :
    ∃ (b cc : Nat) (r : Array MapEntry) (t : Nat) (u : Nat -> Value), a.eval x = .map (some b) /\ ρ k = some (b, cc) /\ w.heap[b]? = some (.map r t) /\ r.size = es.length /\ (∀ i k p, es[i]? = some (k, p) -> ∃ m : MapEntry, r[i]? = some m /\ m.key = k /\ m.val = u i) /\ ∀ i k p, es[i]? = some (k, p) -> RepP (owned c.F ρ) w p (u i) := by
  have hr := h.ev hx
  generalize hv : a.eval x = v at hr
  cases hr with
  | mp _ _ hh =>
    obtain ⟨b, cc, hρ, rfl⟩ := hh es hk
    obtain ⟨o1, h1, h2⟩ := h.rel.obj k b cc hρ
    rw [hk] at h1; cases h1
    obtain ⟨r, t, u, h3, h4, h5, h6⟩ := h2.inv_map
    exact ⟨b, cc, r, t, u, rfl, hρ, h3, h4, h5, h6⟩
theorem z5b {t : TypeId} {k : Nat} (ho : o.op = .makeMap t none) (hσ : look hp k = none) (hc : c.σ k = none) (hfr : nmFr k fr = false) (hhp : nmHp k hp = false) :
    Ok P c o fr (look hp) (.mp k) (look ((k, some (.map [])) :: hp)) := by
  intro ρ w a K Q h hK
  have hrun : (execOp a.eval o).run P w = .ok (.value (.map (some w.heap.size))) (w.alloc (.map #[] 0)) := by
    have hn : (newObj (.map #[] 0)).run P w = .ok w.heap.size (w.alloc (.map #[] 0)) := rfl
    simp [execOp, ho, Instr.makeMap, Sem.run_bind, hn]
  unfold Oper.wp
  rw [hrun]
  refine hK (z1k ρ k (some (w.heap.size, 1))) _ _ (h.alloc hσ hc hfr hhp 1 _ _ fun keep _ => ?_) (.mp _ _ fun es' _ => ⟨w.heap.size, 1, z0g, rfl⟩)
  exact .map [] #[] 0 (fun _ => undef) (z3d w _) rfl (fun i k p hi => by simp at hi) fun i k p hi => by simp at hi
theorem z3u {t kt et : TypeId} {d : TypeDesc} {x y z : Operand} {k : Nat} {es : List (Value × PV)} {kv : Value} {p : PV} (ho : o.op = .mapUpdate t x y z) (hx : fr.ev x = some (.mp k)) (hy : fr.ev y = some (.pv (.val kv))) (hz : fr.ev z = some (.pv p)) (hk : look hp k = some (.map es))
    (hR : ¬ c.R k) (hu : P.underlying t = some (.map kt et)) (hd : P.underlying kt = some d) (hkv : z2e d kv = true) (hes : ∀ e ∈ es, z2e d e.1 = true) : Ok P c o fr (look hp) (.pv (.val undef)) (look ((k, some (.map (mput kv p es))) :: hp)) := by
  refine z8n fun ρ w a h => ?_
  obtain ⟨b, cc, r, ck, u, hv, hρ, h3, h4, h5, h6⟩ := h.mapAt hx hk
  have hzr : RepP (owned c.F ρ) w p (a.eval z) := by
    have := h.ev hz
    generalize a.eval z = vz at this
    cases this with
    | pv _ _ hp => exact hp
  have hkey := MapKept.run_checkKey (w := w) hd (z47 hkv) false 9999
  have hset : ∀ o', (setObj b o').run P w = .ok () { w with heap := w.heap.setIfInBounds b o' } := fun o' => MapKept.run_setObj_map o' h3
  have hb : b < w.heap.size := (Array.getElem?_eq_some_iff.1 h3).1
  have hsame : ∀ v : Value, z2e d v = true -> Instr.sameBits 10000 v v = true := by
    intro v hv
    cases d <;> cases v <;> simp_all [z2e, Instr.sameBits, MapKept.bytes_beq]
  rcases z9j hkv es r.toList 0 (by simpa using h4) hes (fun j a p hj => by obtain ⟨m, hm, e, _⟩ := h5 j a p hj; exact ⟨m, by simpa using hm, e⟩) with ⟨h1, h2, h7⟩ | ⟨j, m, q, h1, h2, h3', h4', h5', h7⟩
  ·have hfind := MapKept.run_findKey (P := P) (w := w) (kt := kt) hd h1
   refine ⟨ρ, { w with heap := w.heap.setIfInBounds b (.map (r.push ⟨kv, a.eval z, ck⟩) (ck + 1)) }, by simp [execOp, ho, hv, z16 h hy, Instr.mapUpdate, Sem.run_bind, run_underlying hu, MapKept.run_getObj_map h3, hkey, hfind, hset], ?_⟩
   refine h.write hρ hk trivial hR rfl rfl rfl sI0 (fun j hj => by simp [Ne.symm hj]) fun keep keepP => ?_
   refine .map _ (r.push ⟨kv, a.eval z, ck⟩) (ck + 1) (fun i => if i = es.length then a.eval z else u i) (by simp [hb]) (by simp [h7, h4]) (fun i k' p' hi => ?_) fun i k' p' hi => ?_
   ·rw [h7] at hi
    by_cases e : i = es.length
    ·subst e
     simp only [List.getElem?_concat_length, Option.some.injEq, Prod.mk.injEq] at hi
     obtain ⟨rfl, rfl⟩ := hi
     exact ⟨⟨kv, a.eval z, ck⟩, by rw [<- h4]; simp, rfl, by simp⟩
    have hlt : i < es.length := by
      have := (List.getElem?_eq_some_iff.1 hi).1
      simp at this; omega
    rw [List.getElem?_append_left hlt] at hi
    obtain ⟨m, hm, e1, e2⟩ := h5 i k' p' hi
    refine ⟨m, ?_, e1, by simp [e, e2]⟩
    rw [Array.getElem?_push, if_neg oM0]
    exact hm
   rw [h7] at hi
   by_cases e : i = es.length
   ·subst e
    simp only [List.getElem?_concat_length, Option.some.injEq, Prod.mk.injEq] at hi
    obtain ⟨rfl, rfl⟩ := hi
    simpa using keepP _ _ hzr
   have hlt : i < es.length := by
     have := (List.getElem?_eq_some_iff.1 hi).1
     simp at this; omega
   rw [List.getElem?_append_left hlt] at hi
   simpa [e] using keepP _ _ (h6 i k' p' hi)
  have hfind := MapKept.run_findKey (P := P) (w := w) (kt := kt) hd h1
  have hj : r[0 + j]? = some m := by simpa using h2
  have hstay : (Instr.keyThatStays kv kv).run P w = .ok kv w := by simp [Instr.keyThatStays, hsame kv hkv]
  refine ⟨ρ, { w with heap := w.heap.setIfInBounds b (.map (r.modify (0 + j) fun e => { e with key := kv, val := a.eval z }) ck) }, ?_, ?_⟩
  ·simp only [execOp, ho, hv, z16 h hy, Instr.mapUpdate, Sem.run_bind, run_underlying hu, MapKept.run_getObj_map h3, hkey, hfind, Result.andThen_ok, hj, Option.map_some, Option.getD_some, h3', hstay, hset]
   rfl
  refine h.write hρ hk trivial hR rfl rfl rfl sI0 (fun j hj => by simp [Ne.symm hj]) fun keep keepP => ?_
  have hjl : j < es.length := (List.getElem?_eq_some_iff.1 h4').1
  refine .map _ (r.modify (0 + j) fun e => { e with key := kv, val := a.eval z }) ck (fun i => if i = j then a.eval z else u i) (by simp [hb]) (by simp [h7, h4]) (fun i k' p' hi => ?_) fun i k' p' hi => ?_
  ·rw [h7] at hi
   by_cases e : i = j
   ·subst e
    rw [List.getElem?_set_self hjl] at hi
    cases hi
    refine ⟨{ m with key := kv, val := a.eval z }, ?_, rfl, by simp⟩
    simp only [Nat.zero_add, Array.getElem?_modify, if_true] at hj ⊢
    rw [hj]; rfl
   rw [List.getElem?_set_ne (Ne.symm e)] at hi
   obtain ⟨m', hm', e1, e2⟩ := h5 i k' p' hi
   refine ⟨m', ?_, e1, by simp [e, e2]⟩
   simp only [Nat.zero_add, Array.getElem?_modify, if_neg (Ne.symm e)]
   exact hm'
  rw [h7] at hi
  by_cases e : i = j
  ·subst e
   rw [List.getElem?_set_self hjl] at hi
   cases hi
   simpa using keepP _ _ hzr
  rw [List.getElem?_set_ne (Ne.symm e)] at hi
  simpa [e] using keepP _ _ (h6 i k' p' hi)
theorem zn6 {t kt et : TypeId} {d : TypeDesc} {x y z : Operand} {k : Nat} {es : List (Value × PV)} {kv : Value} {p : PV} (ho : o.op = .insert t x y z) (hx : fr.ev x = some (.mp k)) (hy : fr.ev y = some (.pv (.val kv))) (hz : fr.ev z = some (.pv p)) (hk : look hp k = some (.map es))
    (hR : ¬ c.R k) (hu : P.underlying t = some (.map kt et)) (hd : P.underlying kt = some d) (hkv : z2e d kv = true) (hes : ∀ e ∈ es, z2e d e.1 = true) : Ok P c o fr (look hp) (.pv (.val undef)) (look ((k, some (.map (mput kv p es))) :: hp)) := by
  refine z8n fun ρ w a h => ?_
  obtain ⟨b, cc, r, ck, u, hv, hρ, h3, h4, h5, h6⟩ := h.mapAt hx hk
  have hzr : RepP (owned c.F ρ) w p (a.eval z) := by
    have := h.ev hz
    generalize a.eval z = vz at this
    cases this with
    | pv _ _ hp => exact hp
  have hkey := MapKept.run_checkKey (w := w) hd (z47 hkv) false 9999
  have hset : ∀ o', (setObj b o').run P w = .ok () { w with heap := w.heap.setIfInBounds b o' } := fun o' => MapKept.run_setObj_map o' h3
  have hb : b < w.heap.size := (Array.getElem?_eq_some_iff.1 h3).1
  have hsame : ∀ v : Value, z2e d v = true -> Instr.sameBits 10000 v v = true := by
    intro v hv
    cases d <;> cases v <;> simp_all [z2e, Instr.sameBits, MapKept.bytes_beq]
  rcases z9j hkv es r.toList 0 (by simpa using h4) hes (fun j a p hj => by obtain ⟨m, hm, e, _⟩ := h5 j a p hj; exact ⟨m, by simpa using hm, e⟩) with ⟨h1, h2, h7⟩ | ⟨j, m, q, h1, h2, h3', h4', h5', h7⟩
  ·have hfind := MapKept.run_findKey (P := P) (w := w) (kt := kt) hd h1
   refine ⟨ρ, { w with heap := w.heap.setIfInBounds b (.map (r.push ⟨kv, a.eval z, ck⟩) (ck + 1)) }, by simp [execOp, ho, hv, z16 h hy, Instr.mapUpdate, Sem.run_bind, run_underlying hu, MapKept.run_getObj_map h3, hkey, hfind, hset], ?_⟩
   refine h.write hρ hk trivial hR rfl rfl rfl sI0 (fun j hj => by simp [Ne.symm hj]) fun keep keepP => ?_
   refine .map _ (r.push ⟨kv, a.eval z, ck⟩) (ck + 1) (fun i => if i = es.length then a.eval z else u i) (by simp [hb]) (by simp [h7, h4]) (fun i k' p' hi => ?_) fun i k' p' hi => ?_
   ·rw [h7] at hi
    by_cases e : i = es.length
    ·subst e
     simp only [List.getElem?_concat_length, Option.some.injEq, Prod.mk.injEq] at hi
     obtain ⟨rfl, rfl⟩ := hi
     exact ⟨⟨kv, a.eval z, ck⟩, by rw [<- h4]; simp, rfl, by simp⟩
    have hlt : i < es.length := by
      have := (List.getElem?_eq_some_iff.1 hi).1
      simp at this; omega
    rw [List.getElem?_append_left hlt] at hi
    obtain ⟨m, hm, e1, e2⟩ := h5 i k' p' hi
    refine ⟨m, ?_, e1, by simp [e, e2]⟩
    rw [Array.getElem?_push, if_neg oM0]
    exact hm
   rw [h7] at hi
   by_cases e : i = es.length
   ·subst e
    simp only [List.getElem?_concat_length, Option.some.injEq, Prod.mk.injEq] at hi
    obtain ⟨rfl, rfl⟩ := hi
    simpa using keepP _ _ hzr
   have hlt : i < es.length := by
     have := (List.getElem?_eq_some_iff.1 hi).1
     simp at this; omega
   rw [List.getElem?_append_left hlt] at hi
   simpa [e] using keepP _ _ (h6 i k' p' hi)
  have hfind := MapKept.run_findKey (P := P) (w := w) (kt := kt) hd h1
  have hj : r[0 + j]? = some m := by simpa using h2
  have hstay : (Instr.keyThatStays kv kv).run P w = .ok kv w := by simp [Instr.keyThatStays, hsame kv hkv]
  refine ⟨ρ, { w with heap := w.heap.setIfInBounds b (.map (r.modify (0 + j) fun e => { e with key := kv, val := a.eval z }) ck) }, ?_, ?_⟩
  ·simp only [execOp, ho, hv, z16 h hy, Instr.mapUpdate, Sem.run_bind, run_underlying hu, MapKept.run_getObj_map h3, hkey, hfind, Result.andThen_ok, hj, Option.map_some, Option.getD_some, h3', hstay, hset]
   rfl
  refine h.write hρ hk trivial hR rfl rfl rfl sI0 (fun j hj => by simp [Ne.symm hj]) fun keep keepP => ?_
  have hjl : j < es.length := (List.getElem?_eq_some_iff.1 h4').1
  refine .map _ (r.modify (0 + j) fun e => { e with key := kv, val := a.eval z }) ck (fun i => if i = j then a.eval z else u i) (by simp [hb]) (by simp [h7, h4]) (fun i k' p' hi => ?_) fun i k' p' hi => ?_
  ·rw [h7] at hi
   by_cases e : i = j
   ·subst e
    rw [List.getElem?_set_self hjl] at hi
    cases hi
    refine ⟨{ m with key := kv, val := a.eval z }, ?_, rfl, by simp⟩
    simp only [Nat.zero_add, Array.getElem?_modify, if_true] at hj ⊢
    rw [hj]; rfl
   rw [List.getElem?_set_ne (Ne.symm e)] at hi
   obtain ⟨m', hm', e1, e2⟩ := h5 i k' p' hi
   refine ⟨m', ?_, e1, by simp [e, e2]⟩
   simp only [Nat.zero_add, Array.getElem?_modify, if_neg (Ne.symm e)]
   exact hm'
  rw [h7] at hi
  by_cases e : i = j
  ·subst e
   rw [List.getElem?_set_self hjl] at hi
   cases hi
   simpa using keepP _ _ hzr
  rw [List.getElem?_set_ne (Ne.symm e)] at hi
  simpa [e] using keepP _ _ (h6 i k' p' hi)
theorem zh0 {t kt et : TypeId} {d : TypeDesc} {b ck : Nat} {r : Array MapEntry} {kv z : Value} {es : List (Value × PV)} (commaOk : Bool) (hl : r.size = es.length) (h5 : ∀ (j : Nat) (a : Value) (p : PV), es[j]? = some (a, p) -> ∃ m : MapEntry, r[j]? = some m /\ m.key = a)
    (hu : P.underlying t = some (.map kt et)) (hd : P.underlying kt = some d) (hkv : z2e d kv = true) (hes : ∀ e ∈ es, z2e d e.1 = true) (hzv : ((P.info? et).bind (·.zero)) = some z) :
    (z3t kv es = none /\ ∀ w : World, w.heap[b]? = some (.map r ck) -> (Instr.lookup t (.map (some b)) kv commaOk).run P w = .ok (if commaOk then .tuple #[z, .bool false] else z) w) ∨
    ∃ (j : Nat) (m : MapEntry) (p : PV), r[j]? = some m /\ es[j]? = some (kv, p) /\ z3t kv es = some p /\ ∀ w : World, w.heap[b]? = some (.map r ck) -> (Instr.lookup t (.map (some b)) kv commaOk).run P w = .ok (if commaOk then .tuple #[m.val, .bool true] else m.val) w := by
  have hz : ∀ w, (zeroValue et).run P w = .ok z w := by
    intro w
    cases hq : P.info? et with
    | none => simp [hq] at hzv
    | some i => simp [hq] at hzv; simp [zeroValue, typeInfo, hq, hzv]
  rcases z9j hkv es r.toList 0 (by simpa using hl) hes (fun j a p hj => by obtain ⟨m, hm, e⟩ := h5 j a p hj; exact ⟨m, by simpa using hm, e⟩) with ⟨h1, h2, h7⟩ | ⟨j, m, q, h1, h2, h3', h4', h5', h7⟩
  ·refine .inl ⟨h2, fun w hb => ?_⟩
   have hkey := MapKept.run_checkKey (w := w) hd (z47 hkv) r.isEmpty 9999
   have hfind := MapKept.run_findKey (P := P) (w := w) (kt := kt) hd h1
   simp only [Instr.lookup, Sem.run_bind, run_underlying hu, MapKept.run_getObj_map hb, Sem.run_pure, hkey, hfind, hz, Result.andThen_ok]
  refine .inr ⟨j, m, q, by simpa using h2, h4', h5', fun w hb => ?_⟩
  have hkey := MapKept.run_checkKey (w := w) hd (z47 hkv) r.isEmpty 9999
  have hfind := MapKept.run_findKey (P := P) (w := w) (kt := kt) hd h1
  simp only [Instr.lookup, Sem.run_bind, run_underlying hu, MapKept.run_getObj_map hb, Sem.run_pure, hkey, hfind, hz, Result.andThen_ok]
theorem zb3 {t kt et : TypeId} {d : TypeDesc} {x y : Operand} {k : Nat} {es : List (Value × PV)} {kv z : Value} (ho : o.op = .lookup t x y false) (hx : fr.ev x = some (.mp k)) (hy : fr.ev y = some (.pv (.val kv))) (hk : look hp k = some (.map es))
    (hu : P.underlying t = some (.map kt et)) (hd : P.underlying kt = some d) (hkv : z2e d kv = true) (hes : ∀ e ∈ es, z2e d e.1 = true) (hzv : ((P.info? et).bind (·.zero)) = some z) (hR : R1 k) : OkV P c R1 o fr (look hp) (.pv ((z3t kv es).getD (.val z))) := by
  intro ρ w a h
  obtain ⟨b, cc, r, ck, u, hv, hρ, h3, h4, h5, h6⟩ := h.mapAt hx hk
  have h3' : ∀ w2, SameFor c.F R1 ρ w w2 -> w2.heap[b]? = some (.map r ck) := fun w2 h2 => (h2 b (h.rel.lt hρ) (.inr ⟨k, cc, hR, hρ⟩)).trans h3
  rcases zh0 (b := b) (ck := ck) false h4 (fun j a p hj => by obtain ⟨m, h1, h2, _⟩ := h5 j a p hj; exact ⟨m, h1, h2⟩) hu hd hkv hes hzv with ⟨h1, h2⟩ | ⟨j, m, p, h1, h2, h7, h8⟩
  ·refine ⟨z, fun w2 hw2 => ?_, by rw [h1]; exact z2s _⟩
   simp [execOp, ho, hv, z16 h hy, Sem.run_bind, h2 w2 (h3' w2 hw2)]
  obtain ⟨m', hm', _, e2⟩ := h5 j kv p h2
  rw [h1] at hm'; cases hm'
  refine ⟨m.val, fun w2 hw2 => by simp [execOp, ho, hv, z16 h hy, Sem.run_bind, h8 w2 (h3' w2 hw2)], ?_⟩
  rw [h7, e2]
  exact .pv _ _ (h6 j kv p h2)
theorem z6v {t kt et : TypeId} {d : TypeDesc} {x y : Operand} {k : Nat} {es : List (Value × PV)} {kv z : Value} (ho : o.op = .lookup t x y true) (hx : fr.ev x = some (.mp k)) (hy : fr.ev y = some (.pv (.val kv))) (hk : look hp k = some (.map es))
    (hu : P.underlying t = some (.map kt et)) (hd : P.underlying kt = some d) (hkv : z2e d kv = true) (hes : ∀ e ∈ es, z2e d e.1 = true) (hzv : ((P.info? et).bind (·.zero)) = some z) (hR : R1 k) : OkV P c R1 o fr (look hp) (.tup [.pv ((z3t kv es).getD (.val z)), iBool (z3t kv es).isSome]) := by
  intro ρ w a h
  obtain ⟨b, cc, r, ck, u, hv, hρ, h3, h4, h5, h6⟩ := h.mapAt hx hk
  have h3' : ∀ w2, SameFor c.F R1 ρ w w2 -> w2.heap[b]? = some (.map r ck) := fun w2 h2 => (h2 b (h.rel.lt hρ) (.inr ⟨k, cc, hR, hρ⟩)).trans h3
  have two : ∀ {p : PV} {v : Value} {g : Bool}, RepP (owned c.F ρ) w p v -> RepI c.F ρ (look hp) w (.tup [.pv p, iBool g]) (.tuple #[v, .bool g]) := fun {p v g} hp => .tup _ _ (fun j => if j = 0 then v else .bool g) rfl (fun j x hj => by
      match j, hj with
      | 0, hj => rfl
      | 1, hj => rfl
      | j + 2, hj => simp at hj) fun j x hj => by
      match j, hj with
      | 0, hj => cases hj; exact .pv _ _ hp
      | 1, hj => cases hj; exact z2s _
      | j + 2, hj => simp at hj
  rcases zh0 (b := b) (ck := ck) true h4 (fun j a p hj => by obtain ⟨m, h1, h2, _⟩ := h5 j a p hj; exact ⟨m, h1, h2⟩) hu hd hkv hes hzv with ⟨h1, h2⟩ | ⟨j, m, p, h1, h2, h7, h8⟩
  ·refine ⟨.tuple #[z, .bool false], fun w2 hw2 => ?_, by rw [h1]; exact two (.val _)⟩
   simp [execOp, ho, hv, z16 h hy, Sem.run_bind, h2 w2 (h3' w2 hw2)]
  obtain ⟨m', hm', _, e2⟩ := h5 j kv p h2
  rw [h1] at hm'; cases hm'
  refine ⟨.tuple #[m.val, .bool true], fun w2 hw2 => by simp [execOp, ho, hv, z16 h hy, Sem.run_bind, h8 w2 (h3' w2 hw2)], ?_⟩
  rw [h7, e2]
  exact two (h6 j kv p h2)
theorem zy1 {t kt et : TypeId} {x : Operand} {k : Nat} {es : List (Value × PV)} (ho : o.op = .call { callee := .builtin .len, args := #[x], argTypes := #[t] }) (hx : fr.ev x = some (.mp k)) (hk : look hp k = some (.map es)) (hu : P.underlying t = some (.map kt et)) (hR : R1 k) :
    OkV P c R1 o fr (look hp) (.pv (vInt es.length)) := by
  intro ρ w a h
  obtain ⟨b, cc, r, ck, u, hv, hρ, h3, h4, h5, h6⟩ := h.mapAt hx hk
  refine ⟨_, fun w2 h2 => ?_, z2s _⟩
  have h3' := (h2 b (h.rel.lt hρ) (.inr ⟨k, cc, hR, hρ⟩)).trans h3
  simp [execOp, ho, hv, resolve, Sem.run_bind, invoke, builtin, Builtin.len_, run_underlying hu, goInt, MapKept.run_getObj_map h3', h4]
end
end Go.Proofs.YthbcibeddfacbaaGreat
