/- Whether any unit is refused by trim is what the document says; else what comes out may be, and has its arrays and flows' heads. No conditions but the unit's weight, that is below 1048576. -/
import Derived.Test.YtekdhljpmflboaaGreatTa5
set_option maxRecDepth 8000
set_option maxHeartbeats 2000000
set_option linter.unusedSimpArgs false
set_option linter.unusedVariables false
set_option linter.unusedSectionVars false
namespace Go.Proofs.YtekdhljpmflboaaGreat
open Go
def w64 (n : Int) : Int := IntKind.i64.wrap n
def andI (a b : Int) : Int := IntKind.i64.wrap (BitVec.ofInt IntKind.i64.bits a &&& BitVec.ofInt IntKind.i64.bits b).toNat
def orI (a b : Int) : Int := IntKind.i64.wrap (BitVec.ofInt IntKind.i64.bits a ||| BitVec.ofInt IntKind.i64.bits b).toNat
def xorI (a b : Int) : Int := IntKind.i64.wrap (BitVec.ofInt IntKind.i64.bits a ^^^ BitVec.ofInt IntKind.i64.bits b).toNat
def zw2 (b : Bool) : Int := if b then 1 else 0
def mOne (op a : Int) : Int :=
  if op == 20 then w64 (0 - a) else if op == 21 then w64 (-1 - a) else if op == 22 then zw2 (a == 0)
  else if op == 26 then andI a 255 else if op == 27 then andI a 65535 else if op == 28 then andI a 4294967295
  else if op == 23 then w64 (xorI (andI a 255) 128 - 128) else if op == 24 then w64 (xorI (andI a 65535) 32768 - 32768)
  else if op == 25 then w64 (xorI (andI a 4294967295) 2147483648 - 2147483648) else 0
def mTwo (op a b : Int) : Int × Bool :=
  if op == 1 then (w64 (a + b), true) else if op == 2 then (w64 (a - b), true) else if op == 3 then (w64 (a * b), true)
  else if op == 4 || op == 5 then (if b == 0 then (0, false) else if op == 4 then (w64 (a.tdiv b), true) else (a.tmod b, true))
  else if op == 6 then (andI a b, true) else if op == 7 then (orI a b, true) else if op == 8 then (xorI a b, true)
  else if op == 9 then (w64 (a * 2 ^ min (andI b 63).toNat IntKind.i64.bits), true) else if op == 10 then (a.fdiv (2 ^ min (andI b 63).toNat IntKind.i64.bits), true)
  else if op == 11 then (w64 ((IntKind.u64.wrap a).fdiv (2 ^ min (andI b 63).toNat IntKind.u64.bits)), true)
  else if op == 12 then (zw2 (decide (a < b)), true) else if op == 13 then (zw2 (decide (a <= b)), true) else if op == 14 then (zw2 (decide (a > b)), true)
  else if op == 15 then (zw2 (decide (a ≥ b)), true) else if op == 16 then (zw2 (a == b), true) else if op == 17 then (zw2 (a != b), true) else (0, false)
theorem y2o (b : Int) : 0 <= andI b 63 := by
  unfold andI
  have h : (BitVec.ofInt IntKind.i64.bits b &&& BitVec.ofInt IntKind.i64.bits 63).toNat <= 63 := by
    rw [BitVec.toNat_and]
    have : (BitVec.ofInt IntKind.i64.bits 63).toNat = 63 := by decide
    rw [this]
    exact Nat.and_le_right
  rw [IntWalk.i64_in _ oM0]
  omega
structure Rs where
  ins : List Int
  ar : List (List Int)
  st : Int
  code : Int
  out : List Int
  cost : Int
  fuel : Int
  spent : Bool
def z40 (s : Rs) : Bool := s.spent || s.st != 0
def za1 (s : Rs) : Bool × Rs := if z40 s then (false, s) else if s.fuel < 1 then (false, { s with spent := true }) else (true, { s with fuel := w64 (s.fuel - 1) })
def getV (v : List Int) (i : Int) : Option Int := if 0 <= i then v[i.toNat]? else none
def setV (v : List Int) (i x : Int) : Option (List Int) := if 0 <= i /\ i.toNat < v.length then some (v.set i.toNat x) else none
def mOf (v : List Int) : List Int -> Option (List Int)
  | [] => some []
  | i :: r => (getV v i).bind fun x => (mOf v r).map fun y => x :: y
def mSet (v : List Int) : List Int -> List Int -> Option (List Int)
  | [], _ => some v
  | _ :: _, [] => none
  | i :: r, x :: n => (setV v i x).bind fun v' => mSet v' r n
def mCell (s : Rs) (k n : Int) : Option (Bool × Rs) :=
  if n < 0 then some (false, { s with st := 3 })
  else if 0 <= k then (s.ar[k.toNat]?).bind fun row => if n ≥ row.length then some (false, { s with st := 3 }) else some (true, s) else none
abbrev Rend := Int × List Int
abbrev Rres := Rend × List Int × Rs
def z9d (rec : List Nd -> List Int -> Rs -> Option Rres) (recLoop : Nd -> List Int -> List Int -> Rs -> Option Rres) (recSum : Nd -> List Int -> Rs -> Option (Int × Rs)) (x : Nd) (a v : List Int) (s : Rs) : Option Rres :=
  if x.kind == 1 || x.kind == 2 then (x.outs[0]?).bind fun o => (setV v o x.n).map fun v' => ((0, []), v', s)
  else if x.kind == 12 || x.kind == 13 || x.kind == 14 || x.kind == 15 then some ((x.kind, a), v, s)
  else if x.kind == 10 then (a[0]?).bind fun a0 => (x.kids[if a0 != 0 then 0 else 1]?).bind fun q => (rec q v s).bind fun r =>
    if !z40 r.2.2 && r.1.1 == 12 then (mSet r.2.1 x.outs r.1.2).map fun v' => ((0, []), v', r.2.2) else some r
  else if x.kind == 11 then recLoop x v a s
  else (recSum x a s).bind fun r => if !z40 r.2 && decide (0 < x.outs.length) then (x.outs[0]?).bind fun o => (setV v o r.1).map fun v' => ((0, []), v', r.2) else some ((0, []), v, r.2)
mutual
def z5r (u : Un) : Nat -> List Nd -> List Int -> Rs -> Option Rres
  | 0, _, _, _ => none
  | _ + 1, [], v, s => some ((0, []), v, s)
  | d + 1, x :: l, v, s =>
    match za1 s with
    | (false, s) => some ((0, []), v, s)
    | (true, s) => (mOf v x.args).bind fun a => (z9d (z5r u d) (zc9 u d) (mSum u d) x a v s).bind fun r =>
      if z40 r.2.2 || r.1.1 != 0 then some r else z5r u d l r.2.1 r.2.2
def zc9 (u : Un) : Nat -> Nd -> List Int -> List Int -> Rs -> Option Rres
  | 0, _, _, _, _ => none
  | d + 1, x, v, a, s => (mSet v x.params a).bind fun v => (x.kids[0]?).bind fun q => (z5r u d q v s).bind fun r =>
    if z40 r.2.2 || r.1.1 == 15 then some r
    else if r.1.1 == 14 then (mSet r.2.1 x.outs r.1.2).map fun v => ((0, []), v, r.2.2)
    else zc9 u d x r.2.1 r.1.2 r.2.2
def mSum (u : Un) : Nat -> Nd -> List Int -> Rs -> Option (Int × Rs)
  | 0, _, _, _ => none
  | d + 1, x, a, s0 =>
    let s := { s0 with cost := w64 (s0.cost + 1) }
    let k := z1p x.name u.arrays 0
    if x.kind == 3 then (a[0]?).map fun a0 => (mOne x.op a0, s)
    else if x.kind == 4 then (a[0]?).bind fun a0 => (a[1]?).map fun a1 => ((mTwo x.op a0 a1).1, if (mTwo x.op a0 a1).2 then s else { s with st := 2 })
    else if x.kind == 5 then (a[0]?).bind fun a0 => (mCell s k a0).bind fun r => if r.1 then (s.ar[k.toNat]?).bind fun row => (row[a0.toNat]?).map fun y => (y, s) else some (0, r.2)
    else if x.kind == 6 then (a[0]?).bind fun a0 => (mCell s k a0).bind fun r => if r.1 then (a[1]?).bind fun a1 => (s.ar[k.toNat]?).map fun row => (0, { s with ar := s.ar.set k.toNat (row.set a0.toNat a1) }) else some (0, r.2)
    else if x.kind == 7 then zg8 u d (z07 x.name u.flows 0) a s
    else if x.kind == 9 then (a[0]?).bind fun a0 => if s.out.length < 1073741824 then some (0, { s with out := s.out ++ [a0] }) else none
    else if x.kind == 8 then (match s.ins with | [] => some (0, { s with st := 4 }) | y :: r => some (y, { s with ins := r }))
    else some (0, s)
def zg8 (u : Un) : Nat -> Int -> List Int -> Rs -> Option (Int × Rs)
  | 0, _, _, _ => none
  | d + 1, k, a, s => if 0 <= k then (u.flows[k.toNat]?).bind fun f => if a.length <= f.types.length /\ f.types.length <= 1073741824 then
      (z5r u d f.body (a ++ List.replicate (f.types.length - a.length) 0) s).bind fun r => if z40 r.2.2 then some (0, r.2.2) else some (r.1.2.headD 0, r.2.2) else none else none
end
def z4t (u : Un) (s : Rs) : HO := .box [.pv (arrs u.arrays), .pv (flws u.flows), .pv (ints s.ins), .pv (.val (.slice none 0 0)), iInt s.st, iInt s.code, .sl 1002 (s.out.map eInt).length, iInt s.cost, iInt s.fuel, iBool s.spent]
def rowI (l : List Int) : HO := .row ⟨3, 1⟩ (l.map eInt)
def runH (u : Un) (s : Rs) : List (Nat × HO) := [(1001, z4t u s), (1002, rowI s.out)]
def runV (u : Un) (s : Rs) (v : List Int) : List (Nat × HO) := [(1001, z4t u s), (1002, rowI s.out), (510, rowI v)]
def endv (e : Rend) : PV := .agg [vInt e.1, ints e.2]
theorem z37 (b : Bool) : SC Tryz.prog 113 [iBool b] [] (fun _ => False) (iInt (zw2 b)) [] := by
  refine SC.of Tryz.func113 rfl (lb rfl) fun F ρ w => ?_
  refine tQ <| tG <| sm 1 rfl <| nL <| tQ <| tQ <| tG <| sm 1 rfl <| nL ?_
  refine tC rfl (fun hc3 => ?_) fun hc3 => ?_
  ·refine tQ <| tG <| sm 1 rfl <| nL <| tRt <| rOk rfl ?_ nPo
   cases b <;> first | rfl | (simp_all; done)
  refine tSk <| tQ <| tG <| sm 1 rfl <| nL <| tRt <| rOk rfl ?_ nPo
  cases b <;> first | rfl | (simp_all; done)
theorem sc_mOne (op a : Int) : SC Tryz.prog 97 [iInt op, iInt a] [] (fun _ => False) (iInt (mOne op a)) [] := by
  refine SC.of Tryz.func97 rfl (lb rfl) fun F ρ w => ?_
  refine tQ <| tG <| sm 1 rfl <| nL <| tQ <| tQ <| tG <| sm 1 rfl <| nL <| tBk <| tQ <| tG ?_
  refine sm 2 rfl <| nL ?_
  refine tC rfl (fun hc6 => ?_) fun hc6 => ?_
  ·refine tQ <| tG <| sm 3 rfl <| nL <| tRt <| rOk rfl ?_ nPo
   (simp only [mOne, *, if_true, Bool.false_eq_true, if_false, Bool.or_true, Bool.true_or, Bool.or_false] <;> rfl)
  refine tQ <| tG <| sm 2 rfl <| nL ?_
  refine tC rfl (fun hc10 => ?_) fun hc10 => ?_
  ·refine tQ <| tG <| sm 3 rfl <| nL <| tRt <| rOk rfl ?_ nPo
   (simp only [mOne, *, if_true, Bool.false_eq_true, if_false, Bool.or_true, Bool.true_or, Bool.or_false] <;> rfl)
  refine tQ <| tG <| sm 2 rfl <| nL ?_
  refine tC rfl (fun hc14 => ?_) fun hc14 => ?_
  ·refine tQ <| tG <| sm 2 rfl <| cE rfl (ocq (z37 _) z67 rfl rfl) <| sm 1 rfl <| nL <| tRt <| rOk rfl ?_ nPo
   (simp only [mOne, *, if_true, Bool.false_eq_true, if_false, Bool.or_true, Bool.true_or, Bool.or_false] <;> rfl)
  refine tQ <| tG <| sm 2 rfl <| nL ?_
  refine tC rfl (fun hc19 => ?_) fun hc19 => ?_
  ·refine tQ <| tG <| sm 3 rfl <| nL <| tRt <| rOk rfl ?_ nPo
   (simp only [mOne, *, if_true, Bool.false_eq_true, if_false, Bool.or_true, Bool.true_or, Bool.or_false] <;> rfl)
  refine tQ <| tG <| sm 2 rfl <| nL ?_
  refine tC rfl (fun hc23 => ?_) fun hc23 => ?_
  ·refine tQ <| tG <| sm 3 rfl <| nL <| tRt <| rOk rfl ?_ nPo
   (simp only [mOne, *, if_true, Bool.false_eq_true, if_false, Bool.or_true, Bool.true_or, Bool.or_false] <;> rfl)
  refine tQ <| tG <| sm 2 rfl <| nL ?_
  refine tC rfl (fun hc27 => ?_) fun hc27 => ?_
  ·refine tQ <| tG <| sm 3 rfl <| nL <| tRt <| rOk rfl ?_ nPo
   (simp only [mOne, *, if_true, Bool.false_eq_true, if_false, Bool.or_true, Bool.true_or, Bool.or_false] <;> rfl)
  refine tQ <| tG <| sm 2 rfl <| nL ?_
  refine tC rfl (fun hc31 => ?_) fun hc31 => ?_
  ·refine tQ <| tG <| sm 5 rfl <| nL <| tRt <| rOk rfl ?_ nPo
   (simp only [mOne, *, if_true, Bool.false_eq_true, if_false, Bool.or_true, Bool.true_or, Bool.or_false] <;> rfl)
  refine tQ <| tG <| sm 2 rfl <| nL ?_
  refine tC rfl (fun hc37 => ?_) fun hc37 => ?_
  ·refine tQ <| tG <| sm 5 rfl <| nL <| tRt <| rOk rfl ?_ nPo
   (simp only [mOne, *, if_true, Bool.false_eq_true, if_false, Bool.or_true, Bool.true_or, Bool.or_false] <;> rfl)
  refine tQ <| tG <| sm 2 rfl <| nL ?_
  refine tC rfl (fun hc43 => ?_) fun hc43 => ?_
  ·refine tQ <| tG <| sm 5 rfl <| nL <| tRt <| rOk rfl ?_ nPo
   (simp only [mOne, *, if_true, Bool.false_eq_true, if_false, Bool.or_true, Bool.true_or, Bool.or_false] <;> rfl)
  refine tSk <| tQ <| tG <| sm 1 rfl <| nL <| tRt <| rOk rfl ?_ nPo
  (simp only [mOne, *, if_true, Bool.false_eq_true, if_false, Bool.or_true, Bool.true_or, Bool.or_false] <;> rfl)
theorem sc_mTwo (op a b : Int) : SC Tryz.prog 98 [iInt op, iInt a, iInt b] [] (fun _ => False) (.tup [iInt (mTwo op a b).1, iBool (mTwo op a b).2]) [] := by
  refine SC.of Tryz.func98 rfl (lb rfl) fun F ρ w => ?_
  refine tQ <| tG <| sm 2 rfl <| nL <| tQ <| tQ <| tG <| sm 1 rfl <| nL <| tBk <| tQ <| tG ?_
  refine sm 2 rfl <| nL ?_
  refine tC rfl (fun hc9 => ?_) fun hc9 => ?_
  ·refine tQ <| tG <| sm 5 rfl <| nL <| tRt <| rOk rfl ?_ nPo
   (simp only [mTwo, *, if_true, Bool.false_eq_true, if_false, Bool.or_true, Bool.true_or, Bool.or_false] <;> rfl)
  refine tQ <| tG <| sm 2 rfl <| nL ?_
  refine tC rfl (fun hc14 => ?_) fun hc14 => ?_
  ·refine tQ <| tG <| sm 5 rfl <| nL <| tRt <| rOk rfl ?_ nPo
   (simp only [mTwo, *, if_true, Bool.false_eq_true, if_false, Bool.or_true, Bool.true_or, Bool.or_false] <;> rfl)
  refine tQ <| tG <| sm 2 rfl <| nL ?_
  refine tC rfl (fun hc19 => ?_) fun hc19 => ?_
  ·refine tQ <| tG <| sm 5 rfl <| nL <| tRt <| rOk rfl ?_ nPo
   (simp only [mTwo, *, if_true, Bool.false_eq_true, if_false, Bool.or_true, Bool.true_or, Bool.or_false] <;> rfl)
  refine tQ <| tQ <| tG <| sm 2 rfl <| nL ?_
  refine tC rfl (fun hc24 => ?_) fun hc24 => ?_
  ·refine tSk ?_
   refine tC rfl (fun hc24 => ?_) fun hc24 => ?_
   ·refine tQ <| tQ <| tG <| sm 2 rfl <| nL ?_
    refine tC rfl (fun hc28 => ?_) fun hc28 => ?_
    ·refine tQ <| tG <| sm 2 rfl <| nL <| tRt <| rOk rfl ?_ nPo
     (simp only [mTwo, *, if_true, Bool.false_eq_true, if_false, Bool.or_true, Bool.true_or, Bool.or_false] <;> rfl)
    refine tSk <| tQ <| tQ <| tG <| sm 2 rfl <| nL ?_
    refine tC rfl (fun hc30 => ?_) fun hc30 => ?_
    ·refine tQ <| tG <| sm 2 rfl <| cV rfl (oB rfl rfl (show z3t .quo .i64 a b = some (.int .i64 (w64 (a.tdiv b))) by simp [z3t, w64, show ¬ b = 0 by simpa using hc28])) <| sm 2 rfl <| nL <| tRt <| rOk rfl ?_ nPo
     (simp only [mTwo, *, if_true, Bool.false_eq_true, if_false, Bool.or_true, Bool.true_or, Bool.or_false] <;> rfl)
    refine tSk <| tQ <| tG <| sm 2 rfl <| cV rfl (oB rfl rfl (show z3t .rem .i64 a b = some (.int .i64 (a.tmod b)) by simp [z3t, show ¬ b = 0 by simpa using hc28])) <| sm 2 rfl <| nL <| tRt <| rOk rfl ?_ nPo
    (exfalso; simp_all; done)
   refine tQ <| tG <| sm 2 rfl <| nL ?_
   refine tC rfl (fun hc37 => ?_) fun hc37 => ?_
   ·refine tQ <| tG <| sm 5 rfl <| nL <| tRt <| rOk rfl ?_ nPo
    (exfalso; simp_all; done)
   refine tQ <| tG <| sm 2 rfl <| nL ?_
   refine tC rfl (fun hc42 => ?_) fun hc42 => ?_
   ·refine tQ <| tG <| sm 5 rfl <| nL <| tRt <| rOk rfl ?_ nPo
    (exfalso; simp_all; done)
   refine tQ <| tG <| sm 2 rfl <| nL ?_
   refine tC rfl (fun hc47 => ?_) fun hc47 => ?_
   ·refine tQ <| tG <| sm 5 rfl <| nL <| tRt <| rOk rfl ?_ nPo
    (exfalso; simp_all; done)
   refine tQ <| tG <| sm 2 rfl <| nL ?_
   refine tC rfl (fun hc52 => ?_) fun hc52 => ?_
   ·refine tQ <| tG <| sm 3 rfl <| cV rfl (y5w rfl rfl rfl (y2o b)) <| sm 2 rfl <| nL <| tRt <| rOk rfl ?_ nPo
    (exfalso; simp_all; done)
   refine tQ <| tG <| sm 2 rfl <| nL ?_
   refine tC rfl (fun hc58 => ?_) fun hc58 => ?_
   ·refine tQ <| tG <| sm 3 rfl <| cV rfl (zx1 rfl rfl rfl (y2o b)) <| sm 2 rfl <| nL <| tRt <| rOk rfl ?_ nPo
    (exfalso; simp_all; done)
   refine tQ <| tG <| sm 2 rfl <| nL ?_
   refine tC rfl (fun hc64 => ?_) fun hc64 => ?_
   ·refine tQ <| tG <| sm 1 rfl <| cV rfl (z45 rfl rfl ⟨_, uT3⟩ Tryz.underlying131) <| sm 2 rfl <| cV rfl (zx1 rfl rfl rfl (y2o b)) <| cV rfl (z45 rfl rfl ⟨_, Tryz.underlying131⟩ uT3) <| sm 2 rfl <| nL <| tRt <| rOk rfl ?_ nPo
    (exfalso; simp_all; done)
   refine tQ <| tG <| sm 2 rfl <| nL ?_
   refine tC rfl (fun hc72 => ?_) fun hc72 => ?_
   ·refine tQ <| tG <| sm 3 rfl <| cE rfl (ocq (z37 _) z67 rfl rfl) <| sm 2 rfl <| nL <| tRt <| rOk rfl ?_ nPo
    (exfalso; simp_all; done)
   refine tQ <| tG <| sm 2 rfl <| nL ?_
   refine tC rfl (fun hc78 => ?_) fun hc78 => ?_
   ·refine tQ <| tG <| sm 3 rfl <| cE rfl (ocq (z37 _) z67 rfl rfl) <| sm 2 rfl <| nL <| tRt <| rOk rfl ?_ nPo
    (exfalso; simp_all; done)
   refine tQ <| tG <| sm 2 rfl <| nL ?_
   refine tC rfl (fun hc84 => ?_) fun hc84 => ?_
   ·refine tQ <| tG <| sm 3 rfl <| cE rfl (ocq (z37 _) z67 rfl rfl) <| sm 2 rfl <| nL <| tRt <| rOk rfl ?_ nPo
    (exfalso; simp_all; done)
   refine tQ <| tG <| sm 2 rfl <| nL ?_
   refine tC rfl (fun hc90 => ?_) fun hc90 => ?_
   ·refine tQ <| tG <| sm 3 rfl <| cE rfl (ocq (z37 _) z67 rfl rfl) <| sm 2 rfl <| nL <| tRt <| rOk rfl ?_ nPo
    (exfalso; simp_all; done)
   refine tQ <| tG <| sm 2 rfl <| nL ?_
   refine tC rfl (fun hc96 => ?_) fun hc96 => ?_
   ·refine tQ <| tG <| sm 3 rfl <| cE rfl (ocq (z37 _) z67 rfl rfl) <| sm 2 rfl <| nL <| tRt <| rOk rfl ?_ nPo
    (exfalso; simp_all; done)
   refine tQ <| tG <| sm 2 rfl <| nL ?_
   refine tC rfl (fun hc102 => ?_) fun hc102 => ?_
   ·refine tQ <| tG <| sm 3 rfl <| cE rfl (ocq (z37 _) z67 rfl rfl) <| sm 2 rfl <| nL <| tRt <| rOk rfl ?_ nPo
    (exfalso; simp_all; done)
   refine tSk <| tQ <| tG <| sm 2 rfl <| nL <| tRt <| rOk rfl ?_ nPo
   (exfalso; simp_all; done)
  refine tG <| sm 2 rfl <| nL ?_
  refine tC rfl (fun hc24 => ?_) fun hc24 => ?_
  ·refine tQ <| tQ <| tG <| sm 2 rfl <| nL ?_
   refine tC rfl (fun hc28 => ?_) fun hc28 => ?_
   ·refine tQ <| tG <| sm 2 rfl <| nL <| tRt <| rOk rfl ?_ nPo
    (simp only [mTwo, *, if_true, Bool.false_eq_true, if_false, Bool.or_true, Bool.true_or, Bool.or_false] <;> rfl)
   refine tSk <| tQ <| tQ <| tG <| sm 2 rfl <| nL ?_
   refine tC rfl (fun hc30 => ?_) fun hc30 => ?_
   ·refine tQ <| tG <| sm 2 rfl <| cV rfl (oB rfl rfl (show z3t .quo .i64 a b = some (.int .i64 (w64 (a.tdiv b))) by simp [z3t, w64, show ¬ b = 0 by simpa using hc28])) <| sm 2 rfl <| nL <| tRt <| rOk rfl ?_ nPo
    (exfalso; simp_all; done)
   refine tSk <| tQ <| tG <| sm 2 rfl <| cV rfl (oB rfl rfl (show z3t .rem .i64 a b = some (.int .i64 (a.tmod b)) by simp [z3t, show ¬ b = 0 by simpa using hc28])) <| sm 2 rfl <| nL <| tRt <| rOk rfl ?_ nPo
   (simp only [mTwo, *, if_true, Bool.false_eq_true, if_false, Bool.or_true, Bool.true_or, Bool.or_false] <;> rfl)
  refine tQ <| tG <| sm 2 rfl <| nL ?_
  refine tC rfl (fun hc37 => ?_) fun hc37 => ?_
  ·refine tQ <| tG <| sm 5 rfl <| nL <| tRt <| rOk rfl ?_ nPo
   (simp only [mTwo, *, if_true, Bool.false_eq_true, if_false, Bool.or_true, Bool.true_or, Bool.or_false] <;> rfl)
  refine tQ <| tG <| sm 2 rfl <| nL ?_
  refine tC rfl (fun hc42 => ?_) fun hc42 => ?_
  ·refine tQ <| tG <| sm 5 rfl <| nL <| tRt <| rOk rfl ?_ nPo
   (simp only [mTwo, *, if_true, Bool.false_eq_true, if_false, Bool.or_true, Bool.true_or, Bool.or_false] <;> rfl)
  refine tQ <| tG <| sm 2 rfl <| nL ?_
  refine tC rfl (fun hc47 => ?_) fun hc47 => ?_
  ·refine tQ <| tG <| sm 5 rfl <| nL <| tRt <| rOk rfl ?_ nPo
   (simp only [mTwo, *, if_true, Bool.false_eq_true, if_false, Bool.or_true, Bool.true_or, Bool.or_false] <;> rfl)
  refine tQ <| tG <| sm 2 rfl <| nL ?_
  refine tC rfl (fun hc52 => ?_) fun hc52 => ?_
  ·refine tQ <| tG <| sm 3 rfl <| cV rfl (y5w rfl rfl rfl (y2o b)) <| sm 2 rfl <| nL <| tRt <| rOk rfl ?_ nPo
   (simp only [mTwo, *, if_true, Bool.false_eq_true, if_false, Bool.or_true, Bool.true_or, Bool.or_false] <;> rfl)
  refine tQ <| tG <| sm 2 rfl <| nL ?_
  refine tC rfl (fun hc58 => ?_) fun hc58 => ?_
  ·refine tQ <| tG <| sm 3 rfl <| cV rfl (zx1 rfl rfl rfl (y2o b)) <| sm 2 rfl <| nL <| tRt <| rOk rfl ?_ nPo
   (simp only [mTwo, *, if_true, Bool.false_eq_true, if_false, Bool.or_true, Bool.true_or, Bool.or_false] <;> rfl)
  refine tQ <| tG <| sm 2 rfl <| nL ?_
  refine tC rfl (fun hc64 => ?_) fun hc64 => ?_
  ·refine tQ <| tG <| sm 1 rfl <| cV rfl (z45 rfl rfl ⟨_, uT3⟩ Tryz.underlying131) <| sm 2 rfl <| cV rfl (zx1 rfl rfl rfl (y2o b)) <| cV rfl (z45 rfl rfl ⟨_, Tryz.underlying131⟩ uT3) <| sm 2 rfl <| nL <| tRt <| rOk rfl ?_ nPo
   (simp only [mTwo, *, if_true, Bool.false_eq_true, if_false, Bool.or_true, Bool.true_or, Bool.or_false] <;> rfl)
  refine tQ <| tG <| sm 2 rfl <| nL ?_
  refine tC rfl (fun hc72 => ?_) fun hc72 => ?_
  ·refine tQ <| tG <| sm 3 rfl <| cE rfl (ocq (z37 _) z67 rfl rfl) <| sm 2 rfl <| nL <| tRt <| rOk rfl ?_ nPo
   (simp only [mTwo, *, if_true, Bool.false_eq_true, if_false, Bool.or_true, Bool.true_or, Bool.or_false] <;> rfl)
  refine tQ <| tG <| sm 2 rfl <| nL ?_
  refine tC rfl (fun hc78 => ?_) fun hc78 => ?_
  ·refine tQ <| tG <| sm 3 rfl <| cE rfl (ocq (z37 _) z67 rfl rfl) <| sm 2 rfl <| nL <| tRt <| rOk rfl ?_ nPo
   (simp only [mTwo, *, if_true, Bool.false_eq_true, if_false, Bool.or_true, Bool.true_or, Bool.or_false] <;> rfl)
  refine tQ <| tG <| sm 2 rfl <| nL ?_
  refine tC rfl (fun hc84 => ?_) fun hc84 => ?_
  ·refine tQ <| tG <| sm 3 rfl <| cE rfl (ocq (z37 _) z67 rfl rfl) <| sm 2 rfl <| nL <| tRt <| rOk rfl ?_ nPo
   (simp only [mTwo, *, if_true, Bool.false_eq_true, if_false, Bool.or_true, Bool.true_or, Bool.or_false] <;> rfl)
  refine tQ <| tG <| sm 2 rfl <| nL ?_
  refine tC rfl (fun hc90 => ?_) fun hc90 => ?_
  ·refine tQ <| tG <| sm 3 rfl <| cE rfl (ocq (z37 _) z67 rfl rfl) <| sm 2 rfl <| nL <| tRt <| rOk rfl ?_ nPo
   (simp only [mTwo, *, if_true, Bool.false_eq_true, if_false, Bool.or_true, Bool.true_or, Bool.or_false] <;> rfl)
  refine tQ <| tG <| sm 2 rfl <| nL ?_
  refine tC rfl (fun hc96 => ?_) fun hc96 => ?_
  ·refine tQ <| tG <| sm 3 rfl <| cE rfl (ocq (z37 _) z67 rfl rfl) <| sm 2 rfl <| nL <| tRt <| rOk rfl ?_ nPo
   (simp only [mTwo, *, if_true, Bool.false_eq_true, if_false, Bool.or_true, Bool.true_or, Bool.or_false] <;> rfl)
  refine tQ <| tG <| sm 2 rfl <| nL ?_
  refine tC rfl (fun hc102 => ?_) fun hc102 => ?_
  ·refine tQ <| tG <| sm 3 rfl <| cE rfl (ocq (z37 _) z67 rfl rfl) <| sm 2 rfl <| nL <| tRt <| rOk rfl ?_ nPo
   (simp only [mTwo, *, if_true, Bool.false_eq_true, if_false, Bool.or_true, Bool.true_or, Bool.or_false] <;> rfl)
  refine tSk <| tQ <| tG <| sm 2 rfl <| nL <| tRt <| rOk rfl ?_ nPo
  (simp only [mTwo, *, if_true, Bool.false_eq_true, if_false, Bool.or_true, Bool.true_or, Bool.or_false] <;> rfl)
theorem y58 {v : List Int} {x y : Int} (h : getV v x = some y) : 0 <= x /\ x.toNat < (v.map eInt).length /\ (v.map eInt)[x.toNat]? = some [vInt y] := by
  unfold getV at h
  split at h
  · rename_i hx
    exact ⟨hx, by simpa using (List.getElem?_eq_some_iff.1 h).1, z0a h⟩
  · cases h
theorem z7u {v v' : List Int} {x y : Int} (h : setV v x y = some v') : 0 <= x /\ x.toNat < (v.map eInt).length /\ v' = v.set x.toNat y := by
  unfold setV at h
  split at h
  · rename_i hx
    exact ⟨hx.1, by simpa using hx.2, by cases h; rfl⟩
  · cases h
theorem zx6 {v : List Int} {i : Nat} (h : i < (v.map eInt).length) : ∃ z, (v.map eInt)[i]? = some [vInt z] := by
  rw [List.length_map] at h
  exact ⟨v[i], z0a (f := eInt) (List.getElem?_eq_getElem h)⟩
theorem z3x (v : List Int) (i : Nat) (y : Int) (el : List PV) (hel : (v.map eInt)[i]? = some el) : (v.map eInt).set i (el.set 0 (vInt y)) = (v.set i y).map eInt := by
  rw [List.map_set]
  have h2 := hel
  rw [List.getElem?_map, Option.map_eq_some_iff] at h2
  obtain ⟨z, _, rfl⟩ := h2
  rfl
theorem mOf_step {v : List Int} {x : Int} {r acc o : List Int} (h : (mOf v (x :: r)).map (acc ++ ·) = some o) : ∃ y, getV v x = some y /\ (mOf v r).map ((acc ++ [y]) ++ ·) = some o := by
  simp only [mOf, Option.map_eq_some_iff, Option.bind_eq_some_iff] at h
  obtain ⟨_, ⟨y, hy, z, hz, rfl⟩, rfl⟩ := h
  exact ⟨y, hy, by rw [hz]; simp⟩
theorem zw6 {v v' : List Int} {x : Int} {r n : List Int} (h : mSet v (x :: r) n = some v') : ∃ y n' v1, n = y :: n' /\ setV v x y = some v1 /\ mSet v1 r n' = some v' := by
  cases n with
  | nil => cases h
  | cons y n' =>
    simp only [mSet, Option.bind_eq_some_iff] at h
    obtain ⟨v1, h1, h2⟩ := h
    exact ⟨y, n', v1, rfl, h1, h2⟩
theorem z7q (u : Un) (s : Rs) : SC Tryz.prog 31 [.ptr 1001 0] (runH u s) (fun _ => True) (iBool (z40 s)) (runH u s) := by
  refine SC.of Tryz.func31 rfl (lb rfl) fun F ρ w => ?_
  refine tQ <| tG <| sm 1 rfl <| nL <| tQ <| tG <| sm 1 rfl <| cV rfl (nCk rfl rfl rfl) <| sm 3 rfl ?_
  refine wS 7 rfl (fun hb7 => ?_) fun hb7 => ?_
  ·refine sm 8 rfl <| nL <| tRt <| rOk rfl ?_ (fun _ _ h => h)
   cases hsp : s.spent <;> simp_all [z40, iBool]
  refine sm 1 rfl <| yV rfl rfl (nCk rfl rfl rfl) <| sm 6 rfl <| nL <| tRt <| rOk rfl ?_ (fun _ _ h => h)
  cases hsp : s.spent <;> simp_all [z40, iBool]
theorem sc_step (u : Un) (s : Rs) : SC Tryz.prog 71 [.ptr 1001 0] (runH u s) (fun _ => False) (iBool (za1 s).1) (runH u (za1 s).2) := by
  refine SC.of Tryz.func71 rfl (lb rfl) fun F ρ w => ?_
  refine tQ <| tG <| sm 1 rfl <| nL <| tQ <| tQ <| tG <| sm 1 rfl <| cE rfl (ocr (z7q u s) zu2 rfl (fun _ _ h => h) rfl (fun k (h : _) => .inr trivial) rfl rfl) <| nL ?_
  refine tC rfl (fun hc4 => ?_) fun hc4 => ?_
  ·refine tQ <| tG <| sm 1 rfl <| nL <| tRt ?_
   have e : za1 s = (false, s) := by simp [za1, hc4]
   rw [e]
   refine rOk rfl rfl (po2 rfl rfl)
  refine tSk <| tQ <| tQ <| tG <| sm 1 rfl <| cV rfl (nCk rfl rfl rfl) <| sm 4 rfl <| nL ?_
  refine tC rfl (fun hc10 => ?_) fun hc10 => ?_
  ·refine tQ <| tG <| sm 1 rfl <| cV rfl (nCk rfl rfl rfl) <| sm 1 rfl <| c0 (sBx rfl rfl rfl rfl ((fun h => h)) tS4 (rfl) (lb rfl)) <| nL <| tQ <| tG <| sm 1 rfl <| nL <| tRt ?_
   have e : za1 s = (false, { s with spent := true }) := by
     have h1 : s.fuel < 1 := by simpa using hc10
     simp [za1, hc4, h1]
   rw [e]
   refine rOk rfl rfl (po2 rfl rfl)
  refine tSk <| tQ <| tG <| sm 2 rfl <| cV rfl (nCk rfl rfl rfl) <| sm 4 rfl <| cV rfl (nCk rfl rfl rfl) <| sm 2 rfl <| c0 (sBx rfl rfl rfl rfl ((fun h => h)) tS3 (rfl) (lb rfl)) <| nL <| tQ <| tG ?_
  refine sm 1 rfl <| nL <| tRt ?_
  have e : za1 s = (true, { s with fuel := w64 (s.fuel - 1) }) := by
    have h1 : ¬ s.fuel < 1 := by simpa using hc10
    simp [za1, hc4, h1]
  rw [e]
  refine rOk rfl rfl (po2 rfl rfl)
theorem sc_of (v l o : List Int) (h : mOf v l = some o) (hb : l.length <= 1073741824) : SC Tryz.prog 72 [.sl 510 (v.map eInt).length, .pv (ints l)] [(510, rowI v)] (fun k => k = 510) (.pv (ints o)) [(510, rowI v)] := by
  refine SC.of Tryz.func72 rfl (lb rfl) fun F ρ w => ?_
  refine Tr.lenOf (t := 1) rfl (fun hl => ?_)
  simp only [List.length_map] at hl
  refine tQ <| tG <| sm 1 rfl <| nL <| tQ <| tG <| sm 1 rfl <| nL <| tQ <| tQ <| Tr.grow (t := 5) (k := 105) ⟨3, 1⟩ rfl rfl rfl rfl rfl <| tG ?_
  refine sm 1 rfl <| nL <| tBk <| Tr.sub (Sub.of (fr' := [(6, iInt 0), (5, .sl 105 (([] : List Int).map eInt).length), (0, .sl 510 (v.map eInt).length), (1, .pv (ints l))]) ⟨rfl, rfl, rfl, rfl, trivial⟩) ?_
  refine Tr.heap (σ' := look [(105, some (rowI ([] : List Int))), (510, some (rowI v))]) (by
  intro j
  simp only [look]
  by_cases h1 : 105 = j
  · subst h1; rfl
  · simp [look, up, z02 h1]) ?_
  refine Tr.loop (fun fr σ m => ∃ (k : Nat) (acc : List Int), (k <= l.length) /\ ((mOf v (l.drop k)).map (acc ++ ·) = some o) /\ (acc.length = k) /\ fr = [(6, iInt k), (5, .sl 105 (acc.map eInt).length), (0, .sl 510 (v.map eInt).length), (1, .pv (ints l))] /\ σ = look [(105, some (rowI acc)), (510, some (rowI v))] /\ m = l.length - k) (n := l.length - 0) ?_ ?_
  ·exact ⟨0, ([] : List Int), Nat.zero_le _, (by rw [List.drop_zero, h]; rfl), rfl, rfl, rfl, rfl⟩
  rintro fr σ m ⟨k, acc, hI0, hI1, hI2, rfl, rfl, rfl⟩
  refine tQ <| tQ <| tG <| sm 2 rfl <| cV rfl (oSm uT35 rfl) <| sm 1 rfl <| nL ?_
  refine tC rfl (fun hc10 => ?_) fun hc10 => ?_
  ·have hlt : k < l.length := by simpa using hc10
   have hd := List.drop_eq_getElem_cons hlt
   have hm := List.getElem_mem hlt
   have hi := z0a (f := eInt) (List.getElem?_eq_getElem hlt)
   generalize l[k] = x at hd hm hi
   rw [hd] at hI1
   obtain ⟨y, hy, hO⟩ := mOf_step hI1
   obtain ⟨hx0, hxl, hxg⟩ := y58 hy
   have hal : (acc.map eInt).length = acc.length := by simp
   refine tSk <| tQ <| tBk <| tG <| sm 4 rfl <| cV rfl (iSq rfl rfl rfl uT35 hi tS3 rfl (by rfl)) <| sm 1 rfl <| cV rfl (iRw rfl rfl rfl rfl rfl uT35 tS3 hxl oM0) <| cV rfl (lRw rfl rfl rfl rfl (Nat.add_zero _).symm hxg rfl uT3 rfl trivial) <| cE rfl (bSl rfl rfl uT35 tZ3 tS3 rfl rfl rfl rfl (fbk rfl) rfl) ?_
   refine cE rfl (aPp rfl rfl rfl rfl (by rfl) sI0 uT35 tB3 dC0 (by (simp [z0o]; done)) (by (simp [z0o, PV.one]; rfl)) (by simp [maxLen, z0o]; omega) (by simp [z0o]; omega)) ?_
   refine sm 1 rfl <| nL <| tG <| sm 1 rfl <| cV rfl (oB rfl rfl (z03 rfl oM0)) <| sm 1 rfl <| nL ?_
   refine ⟨_, _, ?_, Sub.of (fr' := [(6, iInt (k + 1)), (5, .sl 105 ((acc ++ [y]).map eInt).length), (0, .sl 510 (v.map eInt).length), (1, .pv (ints l))]) ⟨rfl, congrArg (fun z => some (IV.sl _ z)) (by simp [z0o, eInt]), rfl, rfl, trivial⟩, (k + 1), (acc ++ [y]), ?_, ?_, ?_, rfl, (funext (by
  intro j
  simp only [look]
  by_cases h1 : 105 = j
  · subst h1; exact congrArg (fun z => some (HO.row _ z)) (by simp [z0o, eInt])
  · simp [look, z02 h1])), rfl⟩
   ·omega
   ·omega
   ·exact hO
   simp [hI2]
  refine tEx <| tQ <| Tr.freeze (t := 5) (k := 105) rfl rfl sI0 <| tG <| sm 2 rfl <| nL <| tRt <| rOk rfl ?_ (po1 rfl)
  have hge : l.length <= k := by simpa using hc10
  rw [List.drop_eq_nil_of_le hge] at hI1
  have : acc = o := by simpa [mOf] using hI1
  rw [this]
  rfl
theorem y2g (v l n v' : List Int) (h : mSet v l n = some v') : SC Tryz.prog 73 [.sl 510 (v.map eInt).length, .pv (ints l), .pv (ints n)] [(510, rowI v)] (fun _ => False) (.tup []) [(510, rowI v')] := by
  refine SC.of Tryz.func73 rfl (lb rfl) fun F ρ w => ?_
  refine Tr.lenOf (t := 1) rfl (fun hl => ?_)
  simp only [List.length_map] at hl
  refine Tr.lenOf (t := 2) rfl (fun hl2 => ?_)
  simp only [List.length_map] at hl2
  refine tQ <| tG <| sm 1 rfl <| nL <| tBk <| Tr.sub (Sub.of (fr' := [(6, iInt 0), (0, .sl 510 (v.map eInt).length), (1, .pv (ints l)), (2, .pv (ints n))]) ⟨rfl, rfl, rfl, rfl, trivial⟩) ?_
  refine Tr.loop (fun fr σ m => ∃ (k : Nat) (w1 : List Int) (m1 : List Int), (k <= l.length) /\ (mSet w1 (l.drop k) m1 = some v') /\ (w1.length = v.length) /\ (m1 = n.drop k) /\ fr = [(6, iInt k), (0, .sl 510 (v.map eInt).length), (1, .pv (ints l)), (2, .pv (ints n))] /\ σ = look [(510, some (rowI w1))] /\ m = l.length - k) (n := l.length - 0) ?_ ?_
  ·exact ⟨0, v, n, Nat.zero_le _, h, rfl, rfl, rfl, rfl, rfl⟩
  rintro fr σ m ⟨k, w1, m1, hI0, hI1, hI2, hI3, rfl, rfl, rfl⟩
  refine tQ <| tQ <| tG <| sm 2 rfl <| cV rfl (oSm uT35 rfl) <| sm 1 rfl <| nL ?_
  refine tC rfl (fun hc10 => ?_) fun hc10 => ?_
  ·have hlt : k < l.length := by simpa using hc10
   have hd := List.drop_eq_getElem_cons hlt
   have hm := List.getElem_mem hlt
   have hi := z0a (f := eInt) (List.getElem?_eq_getElem hlt)
   generalize l[k] = x at hd hm hi
   rw [hd] at hI1
   obtain ⟨y, m2, w2, hm1, hs, hO⟩ := zw6 hI1
   obtain ⟨hx0, hxl, hw2⟩ := z7u hs
   obtain ⟨z0, hxg⟩ := zx6 hxl
   have hwn : (w1.map eInt).length = (v.map eInt).length := by simp [hI2]
   have hxl2 : x.toNat < (v.map eInt).length := by rw [<- hwn]; exact hxl
   have hnk : n[k]? = some y := by
     have h0 := List.getElem?_drop (xs := n) (i := k) (j := 0)
     rw [<- hI3, hm1] at h0
     simpa using h0.symm
   have hi2 := z0a (f := eInt) hnk
   refine tSk <| tQ <| tBk <| tDr z1b (fun k => k ∈ ([] : List Nat)) <| wR 1 [0, 1, 2, 3, 4, 5, 6, 7, 8, 9] kR0 h30 <| smR 3 rfl <| rV rfl rfl (iSq rfl rfl rfl uT35 hi tS3 rfl (by rfl)) <| smR 3 rfl <| rV rfl rfl (iSq rfl rfl rfl uT35 hi2 tS3 rfl (by rfl)) <| smR 1 rfl <| rV rfl rfl (iRw rfl rfl rfl rfl hwn uT35 tS3 hxl2 oM0) <| nR ?_
   refine wO 10 kR0 <| wI rfl rfl nf (nOl rfl) (fun _ _ => z1n rfl rfl rfl rfl hwn (Nat.add_zero _).symm hxg sI0 tS3 rfl sI0) <| wDn kR0 <| tG <| sm 1 rfl <| cV rfl (oB rfl rfl (z03 rfl oM0)) <| sm 1 rfl <| nL ?_
   refine ⟨_, _, ?_, Sub.of (fr' := [(6, iInt (k + 1)), (0, .sl 510 (v.map eInt).length), (1, .pv (ints l)), (2, .pv (ints n))]) ⟨rfl, rfl, rfl, rfl, trivial⟩, (k + 1), w2, m2, ?_, ?_, ?_, ?_, rfl, (funext (by
  intro j
  simp only [look]
  by_cases h1 : 510 = j
  · subst h1; exact congrArg (fun z => some (HO.row _ z)) (by rw [hw2]; exact z3x _ _ _ _ hxg)
  · simp [look, z02 h1])), rfl⟩
   ·omega
   ·omega
   ·exact hO
   ·rw [hw2, List.length_set]; exact hI2
   rw [<- List.drop_drop, <- hI3, hm1]; rfl
  refine tEx ?_
  have hge : l.length <= k := by simpa using hc10
  rw [List.drop_eq_nil_of_le hge] at hI1
  have hw : w1 = v' := by simpa [mSet] using hI1
  subst hw
  refine end_ok rfl rfl (po1 rfl)
section
def z4e (s : Rs) : Rs := { s with cost := w64 (s.cost + 1) }
theorem zr6 {v v' : List Int} {x y : Int} (h : setV v x y = some v') : v'.length = v.length := by
  rw [(z7u h).2.2, List.length_set]
theorem z9f : ∀ {l n v v' : List Int}, mSet v l n = some v' -> v'.length = v.length
  | [], _, _, _, h => by cases h; rfl
  | _ :: _, _, _, _, h => by
    obtain ⟨y, n', v1, rfl, h1, h2⟩ := zw6 h
    rw [z9f h2, zr6 h1]
theorem zw4 {rec : List Nd -> List Int -> Rs -> Option Rres} {recLoop : Nd -> List Int -> List Int -> Rs -> Option Rres} {recSum : Nd -> List Int -> Rs -> Option (Int × Rs)} {x : Nd} {a v : List Int} {s : Rs} {r : Rres}
    (hr : ∀ q v s r, rec q v s = some r -> r.2.1.length = v.length) (hl : ∀ x v a s r, recLoop x v a s = some r -> r.2.1.length = v.length) (h : z9d rec recLoop recSum x a v s = some r) : r.2.1.length = v.length := by
  unfold z9d at h
  split at h
  ·simp only [Option.bind_eq_some_iff, Option.map_eq_some_iff] at h
   obtain ⟨o, _, v', h1, rfl⟩ := h
   exact zr6 h1
  split at h
  ·cases h; rfl
  split at h
  ·simp only [Option.bind_eq_some_iff] at h
   obtain ⟨a0, _, q, _, r1, h1, h2⟩ := h
   have h3 := hr _ _ _ _ h1
   split at h2
   ·simp only [Option.map_eq_some_iff] at h2
    obtain ⟨v', h4, rfl⟩ := h2
    exact (z9f h4).trans h3
   cases h2; exact h3
  split at h
  ·exact hl _ _ _ _ _ h
  simp only [Option.bind_eq_some_iff] at h
  obtain ⟨r1, h1, h2⟩ := h
  split at h2
  ·simp only [Option.bind_eq_some_iff, Option.map_eq_some_iff] at h2
   obtain ⟨o, _, v', h4, rfl⟩ := h2
   exact zr6 h4
  cases h2; rfl
theorem zq2 (u : Un) : ∀ d, (∀ l v s r, z5r u d l v s = some r -> r.2.1.length = v.length) /\ ∀ x v a s r, zc9 u d x v a s = some r -> r.2.1.length = v.length
  | 0 => ⟨fun _ _ _ _ h => by simp [z5r] at h, fun _ _ _ _ _ h => by simp [zc9] at h⟩
  | d + 1 => by
    obtain ⟨i1, i2⟩ := zq2 u d
    refine ⟨fun l v s r h => ?_, fun x v a s r h => ?_⟩
    ·cases l with
     | nil => simp only [z5r] at h; cases h; rfl
     | cons x l =>
       rw [z5r] at h
       split at h
       ·cases h; rfl
       simp only [Option.bind_eq_some_iff] at h
       obtain ⟨a, _, r1, h1, h2⟩ := h
       have h3 := zw4 i1 i2 h1
       split at h2
       ·cases h2; exact h3
       exact (i1 _ _ _ _ h2).trans h3
    rw [zc9] at h
    simp only [Option.bind_eq_some_iff] at h
    obtain ⟨v1, hv1, q, _, r1, h1, h2⟩ := h
    have h3 := (i1 _ _ _ _ h1).trans (z9f hv1)
    split at h2
    ·cases h2; exact h3
    split at h2
    ·simp only [Option.map_eq_some_iff] at h2
     obtain ⟨v', h4, rfl⟩ := h2
     exact (z9f h4).trans h3
    exact (i2 _ _ _ _ _ h2).trans h3
theorem zw3 {u : Un} {d : Nat} {l : List Nd} {v : List Int} {s : Rs} {r : Rres} (h : z5r u d l v s = some r) : r.2.1.length = v.length := (zq2 u d).1 _ _ _ _ h
theorem y33 {u : Un} {d : Nat} {x : Nd} {v a : List Int} {s : Rs} {r : Rres} (h : zc9 u d x v a s = some r) : ∃ d1 v2 q r1, d = d1 + 1 /\ mSet v x.params a = some v2 /\ x.kids[0]? = some q /\ z5r u d1 q v2 s = some r1 /\
    (if z40 r1.2.2 || r1.1.1 == 15 then some r1 else if r1.1.1 == 14 then (mSet r1.2.1 x.outs r1.1.2).map fun v => ((0, []), v, r1.2.2) else zc9 u d1 x r1.2.1 r1.1.2 r1.2.2) = some r := by
  cases d with
  | zero => simp [zc9] at h
  | succ d =>
    rw [zc9] at h
    simp only [Option.bind_eq_some_iff] at h
    obtain ⟨v2, h1, q, h2, r1, h3, h4⟩ := h
    exact ⟨d, v2, q, r1, rfl, h1, h2, h3, h4⟩
theorem y32 {u : Un} {d : Nat} {x : Nd} {l : List Nd} {v : List Int} {s s2 : Rs} {r : Rres} (hs2 : (za1 s).2 = s2) (h : z5r u d (x :: l) v s = some r) : ∃ d1, d = d1 + 1 /\ (((za1 s).1 = false /\ r = ((0, []), v, s2)) ∨
    ((za1 s).1 = true /\ ∃ a r1, mOf v x.args = some a /\ z9d (z5r u d1) (zc9 u d1) (mSum u d1) x a v s2 = some r1 /\ (if z40 r1.2.2 || r1.1.1 != 0 then some r1 else z5r u d1 l r1.2.1 r1.2.2) = some r)) := by
  cases d with
  | zero => simp [z5r] at h
  | succ d =>
    refine ⟨d, rfl, ?_⟩
    subst hs2
    rw [z5r] at h
    split at h
    ·rename_i s' e; cases h; exact .inl ⟨by rw [e], by rw [e]⟩
    rename_i s' e
    simp only [Option.bind_eq_some_iff] at h
    obtain ⟨a, h1, r1, h2, h3⟩ := h
    exact .inr ⟨by rw [e], a, r1, h1, by rw [e]; exact h2, h3⟩
section
variable {rec : List Nd -> List Int -> Rs -> Option Rres} {recLoop : Nd -> List Int -> List Int -> Rs -> Option Rres} {recSum : Nd -> List Int -> Rs -> Option (Int × Rs)} {x : Nd} {a v : List Int} {s : Rs} {r : Rres}
theorem zw5 (h : z9d rec recLoop recSum x a v s = some r) (hk : (x.kind == 1 || x.kind == 2) = true) : ∃ o v2, x.outs[0]? = some o /\ setV v o x.n = some v2 /\ r = ((0, []), v2, s) := by
  unfold z9d at h
  rw [if_pos hk] at h
  simp only [Option.bind_eq_some_iff, Option.map_eq_some_iff] at h
  obtain ⟨o, h1, v2, h2, rfl⟩ := h
  exact ⟨o, v2, h1, h2, rfl⟩
theorem z9e (h : z9d rec recLoop recSum x a v s = some r) (hk : (x.kind == 12 || x.kind == 13 || x.kind == 14 || x.kind == 15) = true) : r = ((x.kind, a), v, s) := by
  unfold z9d at h
  rw [if_neg (by simp only [Bool.or_eq_true, beq_iff_eq] at hk ⊢; omega), if_pos hk] at h
  cases h; rfl
theorem mNode_if (h : z9d rec recLoop recSum x a v s = some r) (hk : (x.kind == 10) = true) : ∃ a0 q r1, a[0]? = some a0 /\ x.kids[if a0 != 0 then 0 else 1]? = some q /\ rec q v s = some r1 /\
    (if !z40 r1.2.2 && r1.1.1 == 12 then (mSet r1.2.1 x.outs r1.1.2).map fun v' => ((0, []), v', r1.2.2) else some r1) = some r := by
  unfold z9d at h
  rw [if_neg (by simp only [Bool.or_eq_true, beq_iff_eq] at hk ⊢; omega), if_neg (by simp only [Bool.or_eq_true, beq_iff_eq] at hk ⊢; omega), if_pos hk] at h
  simp only [Option.bind_eq_some_iff] at h
  obtain ⟨a0, h1, q, h2, r1, h3, h4⟩ := h
  exact ⟨a0, q, r1, h1, h2, h3, h4⟩
theorem y34 (h : z9d rec recLoop recSum x a v s = some r) (hk : (x.kind == 11) = true) : recLoop x v a s = some r := by
  unfold z9d at h
  rw [if_neg (by simp only [Bool.or_eq_true, beq_iff_eq] at hk ⊢; omega), if_neg (by simp only [Bool.or_eq_true, beq_iff_eq] at hk ⊢; omega), if_neg (by simp only [beq_iff_eq] at hk ⊢; omega), if_pos hk] at h
  exact h
theorem y5m (h : z9d rec recLoop recSum x a v s = some r) (h1 : (x.kind == 1 || x.kind == 2) = false) (h2 : (x.kind == 12 || x.kind == 13 || x.kind == 14 || x.kind == 15) = false) (h3 : (x.kind == 10) = false) (h4 : (x.kind == 11) = false) : ∃ r1, recSum x a s = some r1 /\
    (if !z40 r1.2 && decide (0 < x.outs.length) then (x.outs[0]?).bind fun o => (setV v o r1.1).map fun v' => ((0, []), v', r1.2) else some ((0, []), v, r1.2)) = some r := by
  unfold z9d at h
  rw [h1, h2, h3, h4] at h
  simp only [Bool.false_eq_true, if_false, Option.bind_eq_some_iff] at h
  exact h
end
theorem y31 {u : Un} {d : Nat} {k : Int} {a : List Int} {s : Rs} {r : Int × Rs} (h : zg8 u d k a s = some r) : ∃ d1 f r1, d = d1 + 1 /\ 0 <= k /\ u.flows[k.toNat]? = some f /\ a.length <= f.types.length /\ f.types.length <= 1073741824 /\
    z5r u d1 f.body (a ++ List.replicate (f.types.length - a.length) 0) s = some r1 /\ r = (if z40 r1.2.2 then 0 else r1.1.2.headD 0, r1.2.2) := by
  cases d with
  | zero => simp [zg8] at h
  | succ d =>
    rw [zg8] at h
    split at h
    ·rename_i hk
     simp only [Option.bind_eq_some_iff] at h
     obtain ⟨f, hf, h⟩ := h
     split at h
     ·rename_i hl
      simp only [Option.bind_eq_some_iff] at h
      obtain ⟨r1, h1, h2⟩ := h
      refine ⟨d, f, r1, rfl, hk, hf, hl.1, hl.2, h1, ?_⟩
      split at h2 <;> cases h2 <;> simp_all
     cases h
    cases h
variable {u : Un} {d : Nat} {x : Nd} {a : List Int} {s : Rs} {r : Int × Rs}
theorem mSum_pos (h : mSum u d x a s = some r) : ∃ d', d = d' + 1 := by
  cases d with
  | zero => simp [mSum] at h
  | succ d => exact ⟨d, rfl⟩
theorem mSum_one (h : mSum u (d + 1) x a s = some r) (hk : (x.kind == 3) = true) : ∃ a0, a[0]? = some a0 /\ r = (mOne x.op a0, z4e s) := by
  simp only [mSum, hk, if_true, Option.map_eq_some_iff] at h
  obtain ⟨a0, h1, rfl⟩ := h
  exact ⟨a0, h1, rfl⟩
theorem mSum_two (h : mSum u (d + 1) x a s = some r) (hk : (x.kind == 4) = true) : ∃ a0 a1, a[0]? = some a0 /\ a[1]? = some a1 /\ r = ((mTwo x.op a0 a1).1, if (mTwo x.op a0 a1).2 then z4e s else { z4e s with st := 2 }) := by
  have h3 : (x.kind == 3) = false := by have := eq_of_beq hk; rw [this]; rfl
  simp only [mSum, h3, hk, if_true, Bool.false_eq_true, if_false, Option.map_eq_some_iff, Option.bind_eq_some_iff] at h
  obtain ⟨a0, h1, a1, h2, rfl⟩ := h
  exact ⟨a0, a1, h1, h2, rfl⟩
theorem zw1 {k n : Int} {q : Bool × Rs} (hk : k < 0) (h : mCell s k n = some q) : n < 0 /\ q = (false, { s with st := 3 }) := by
  unfold mCell at h
  split at h
  ·rename_i h1; cases h; exact ⟨h1, rfl⟩
  rw [if_neg oM0] at h; cases h
theorem y5p (hu : u.arrays = []) (h : mSum u (d + 1) x a s = some r) (hk : (x.kind == 5) = true) : ∃ a0, a[0]? = some a0 /\ a0 < 0 /\ r = (0, { z4e s with st := 3 }) := by
  have h3 : (x.kind == 3) = false := by have := eq_of_beq hk; rw [this]; rfl
  have h4 : (x.kind == 4) = false := by have := eq_of_beq hk; rw [this]; rfl
  simp only [mSum, h3, h4, hk, if_true, Bool.false_eq_true, if_false, Option.bind_eq_some_iff] at h
  obtain ⟨a0, h1, q, h2, h5⟩ := h
  rw [hu] at h2
  obtain ⟨h6, rfl⟩ := zw1 (by show (-1 : Int) < 0; decide) h2
  simp only [Bool.false_eq_true, if_false] at h5
  cases h5
  exact ⟨a0, h1, h6, rfl⟩
theorem y36 (hu : u.arrays = []) (h : mSum u (d + 1) x a s = some r) (hk : (x.kind == 6) = true) : ∃ a0, a[0]? = some a0 /\ a0 < 0 /\ r = (0, { z4e s with st := 3 }) := by
  have h3 : (x.kind == 3) = false := by have := eq_of_beq hk; rw [this]; rfl
  have h4 : (x.kind == 4) = false := by have := eq_of_beq hk; rw [this]; rfl
  have h5 : (x.kind == 5) = false := by have := eq_of_beq hk; rw [this]; rfl
  simp only [mSum, h3, h4, h5, hk, if_true, Bool.false_eq_true, if_false, Option.bind_eq_some_iff] at h
  obtain ⟨a0, h1, q, h2, h5⟩ := h
  rw [hu] at h2
  obtain ⟨h6, rfl⟩ := zw1 (by show (-1 : Int) < 0; decide) h2
  simp only [Bool.false_eq_true, if_false] at h5
  cases h5
  exact ⟨a0, h1, h6, rfl⟩
theorem y5n (h : mSum u (d + 1) x a s = some r) (hk : (x.kind == 7) = true) : zg8 u d (z07 x.name u.flows 0) a (z4e s) = some r := by
  have e := eq_of_beq hk
  simp only [mSum, e] at h
  exact h
theorem y35 (h : mSum u (d + 1) x a s = some r) (hk : (x.kind == 9) = true) : ∃ a0, a[0]? = some a0 /\ s.out.length < 1073741824 /\ r = (0, { z4e s with out := s.out ++ [a0] }) := by
  have e := eq_of_beq hk
  simp only [mSum, e] at h
  simp only [show ((9 : Int) == 3) = false from rfl, show ((9 : Int) == 4) = false from rfl, show ((9 : Int) == 5) = false from rfl, show ((9 : Int) == 6) = false from rfl, show ((9 : Int) == 7) = false from rfl, show ((9 : Int) == 9) = true from rfl, if_true, Bool.false_eq_true, if_false, Option.bind_eq_some_iff] at h
  obtain ⟨a0, h1, h2⟩ := h
  split at h2
  ·rename_i h3; cases h2; exact ⟨a0, h1, h3, rfl⟩
  cases h2
theorem y5q (h : mSum u (d + 1) x a s = some r) (hk : (x.kind == 8) = true) : (s.ins = [] /\ r = (0, { z4e s with st := 4 })) ∨ ∃ y q, s.ins = y :: q /\ r = (y, { z4e s with ins := q }) := by
  have e := eq_of_beq hk
  simp only [mSum, e] at h
  simp only [show ((8 : Int) == 3) = false from rfl, show ((8 : Int) == 4) = false from rfl, show ((8 : Int) == 5) = false from rfl, show ((8 : Int) == 6) = false from rfl, show ((8 : Int) == 7) = false from rfl, show ((8 : Int) == 9) = false from rfl, show ((8 : Int) == 8) = true from rfl, if_true, Bool.false_eq_true, if_false] at h
  split at h
  ·rename_i h1; cases h; exact .inl ⟨h1, rfl⟩
  rename_i y q h1; cases h; exact .inr ⟨y, q, h1, rfl⟩
theorem y5o (h : mSum u (d + 1) x a s = some r) (h3 : (x.kind == 3) = false) (h4 : (x.kind == 4) = false) (h5 : (x.kind == 5) = false) (h6 : (x.kind == 6) = false) (h7 : (x.kind == 7) = false) (h9 : (x.kind == 9) = false) (h8 : (x.kind == 8) = false) : r = (0, z4e s) := by
  simp only [mSum, h3, h4, h5, h6, h7, h8, h9, Bool.false_eq_true, if_false] at h
  cases h; rfl
end
theorem y2f (u : Un) (s : Rs) (k n : Int) (hn : n < 0) : SC Tryz.prog 99 [.ptr 1001 0, iInt k, iInt n] (runH u s) (fun _ => False) (iBool false) (runH u { s with st := 3 }) := by
  refine SC.of Tryz.func99 rfl (lb rfl) fun F ρ w => ?_
  refine tQ <| tG <| sm 1 rfl <| nL <| tQ <| tQ <| tG <| sm 3 rfl ?_
  refine wS 9 rfl (fun hb9 => ?_) fun hb9 => ?_
  ·refine sm 11 rfl <| nL <| Tr.condT rfl <| tQ <| tG <| sm 1 rfl <| cV rfl (nCk rfl rfl rfl) <| sm 2 rfl <| c0 (sBx rfl rfl rfl rfl ((fun h => h)) tS3 (rfl) (lb rfl)) <| nL <| tQ <| tG ?_
   refine sm 1 rfl <| nL <| tRt <| rOk rfl rfl (po2 rfl rfl)
  exact absurd hn (by simpa using hb9)
def SCC (u : Un) (D : Nat) : Prop := ∀ d, d < D -> ∀ k a s r, zg8 u d k a s = some r -> SC Tryz.prog 29 [.ptr 1001 0, iInt k, .pv (ints a)] (runH u s) (fun _ => False) (iInt r.1) (runH u r.2)
def SCL (u : Un) (D : Nat) : Prop := ∀ d, d < D -> ∀ l v s r, z5r u d l v s = some r -> lsW l <= 1073741824 -> SC Tryz.prog 49 [.ptr 1001 0, .pv (z09 l), .sl 510 (v.map eInt).length] (runV u s v) (fun _ => False) (.pv (endv r.1)) (runV u r.2.2 r.2.1)
theorem sc_sum (u : Un) (hu : u.arrays = []) (D : Nat) (ihC : SCC u D) (d : Nat) (hd : d <= D) (x : Nd) (a : List Int) (s : Rs) (r : Int × Rs) (h : mSum u d x a s = some r) : SC Tryz.prog 75 [.ptr 1001 0, .pv (ndv x), .pv (ints a)] (runH u s) (fun _ => False) (iInt r.1) (runH u r.2) := by
  refine SC.of Tryz.func75 rfl (lb rfl) fun F ρ w => ?_
  obtain ⟨d, rfl⟩ := mSum_pos h
  refine Tr.lenOf (t := 2) rfl (fun hl => ?_)
  simp only [List.length_map] at hl
  refine tQ <| tG <| cE rfl (z1c rfl rfl) <| sm 1 rfl <| nL <| tQ <| tG <| sm 2 rfl <| cV rfl (nCk rfl rfl rfl) <| sm 4 rfl <| cV rfl (nCk rfl rfl rfl) <| sm 2 rfl ?_
  refine c0 (sBx rfl rfl rfl rfl ((fun h => h)) tS3 (rfl) (lb rfl)) <| nL <| tQ <| Tr.heap (σ' := look (up (runH u (z4e s)))) (lkq [1001, 1002] rfl rfl ⟨rfl, rfl, trivial⟩) <| tDr z1b (fun k => k ∈ ([1001] : List Nat)) <| wR 2 [0, 1, 2, 3, 4, 5] kR0 h30 <| smR 1 rfl <| rV rfl rfl (nCk rfl rfl rfl) <| smR 1 rfl <| rV rfl rfl (lBP rfl rfl rfl uT25 rfl tS25 (lb rfl) rfl dC0) <| smR 2 rfl <| nR ?_
  refine wO 6 kR0 <| wI rfl rfl nf nw (fun _ _ => ocq (z83 _ _) ent51 rfl rfl) <| wR 0 [7] kR0 h30 <| smR 1 rfl <| nR <| wDn kR0 <| tQ <| tQ <| tG <| sm 2 rfl <| nL <| tBk ?_
  refine tQ <| tG <| sm 2 rfl <| nL ?_
  refine tC rfl (fun hc30 => ?_) fun hc30 => ?_
  ·obtain ⟨a0, h0, rfl⟩ := mSum_one h hc30
   have hi0 := z0a (f := eInt) h0
   refine tQ <| tDr z1b (fun k => k ∈ ([] : List Nat)) <| wR 2 [0, 1, 2, 3, 4] kR0 h30 <| smR 3 rfl <| rV rfl rfl (iSq rfl rfl rfl uT35 hi0 tS3 rfl (by rfl)) <| smR 1 rfl <| nR <| wO 5 kR0 <| wI rfl rfl nf nw (fun _ _ => ocq (sc_mOne _ _) ent97 rfl rfl) <| wR 0 [6] kR0 h30 <| smR 1 rfl <| nR ?_
   refine wDn kR0 <| tRt <| rOk rfl ?_ (po2 rfl rfl)
   rfl
  refine tQ <| tG <| sm 2 rfl <| nL ?_
  refine tC rfl (fun hc38 => ?_) fun hc38 => ?_
  ·obtain ⟨a0, a1, h0, h1, rfl⟩ := mSum_two h hc38
   have hi0 := z0a (f := eInt) h0
   have hi1 := z0a (f := eInt) h1
   refine tQ <| tDr z1b (fun k => k ∈ ([] : List Nat)) <| wR 6 [0, 1, 2, 3, 4, 5, 6, 7] kR0 h30 <| smR 3 rfl <| rV rfl rfl (iSq rfl rfl rfl uT35 hi0 tS3 rfl (by rfl)) <| smR 2 rfl <| rV rfl rfl (iSq rfl rfl rfl uT35 hi1 tS3 rfl (by rfl)) <| smR 1 rfl <| nR <| wO 8 kR0 <| wI rfl rfl nf nw (fun _ _ => ocq (sc_mTwo _ _ _) ent98 rfl rfl) <| wR 0 [9, 10, 11, 12, 13] kR0 h30 ?_
   refine smR 1 rfl <| rV rfl rfl (z1o rfl rfl rfl) <| rV rfl rfl (z1o rfl rfl rfl) <| smR 2 rfl <| nR <| wDn kR0 <| tQ <| tQ <| tG <| sm 2 rfl <| nL ?_
   refine tC rfl (fun hc53 => ?_) fun hc53 => ?_
   ·have hok : (mTwo x.op a0 a1).2 = false := by simpa using hc53
    refine tG <| sm 1 rfl <| cV rfl (nCk rfl rfl rfl) <| sm 2 rfl <| c0 (sBx rfl rfl rfl rfl ((fun h => h)) tS3 (rfl) (lb rfl)) <| nL <| tQ <| tG <| sm 2 rfl <| nL <| tRt ?_
    rw [hok]
    refine rOk rfl rfl (po2 rfl rfl)
   have hok : (mTwo x.op a0 a1).2 = true := by simpa using hc53
   refine tSk <| tQ <| tG <| sm 2 rfl <| nL <| tRt ?_
   rw [hok]
   refine rOk rfl rfl (po2 rfl rfl)
  refine tQ <| tG <| sm 2 rfl <| nL ?_
  refine tC rfl (fun hc59 => ?_) fun hc59 => ?_
  ·obtain ⟨a0, h0, ha0, rfl⟩ := y5p hu h hc59
   have hi0 := z0a (f := eInt) h0
   refine tQ <| tG <| sm 3 rfl <| cV rfl (iSq rfl rfl rfl uT35 hi0 tS3 rfl (by rfl)) <| sm 1 rfl <| cE rfl (ocr (y2f u (z4e s) _ a0 ha0) ent99 rfl (fun _ _ h => h) rfl (fun k (h : _) => .inr h) rfl rfl) <| nL ?_
   refine tC rfl (fun hc66 => ?_) fun hc66 => ?_
   ·cases hc66
   refine tSk <| tQ <| tG <| sm 1 rfl <| nL <| tRt <| rOk rfl rfl (po2 rfl rfl)
  refine tQ <| tG <| sm 2 rfl <| nL ?_
  refine tC rfl (fun hc79 => ?_) fun hc79 => ?_
  ·obtain ⟨a0, h0, ha0, rfl⟩ := y36 hu h hc79
   have hi0 := z0a (f := eInt) h0
   refine tQ <| tG <| sm 3 rfl <| cV rfl (iSq rfl rfl rfl uT35 hi0 tS3 rfl (by rfl)) <| sm 1 rfl <| cE rfl (ocr (y2f u (z4e s) _ a0 ha0) ent99 rfl (fun _ _ h => h) rfl (fun k (h : _) => .inr h) rfl rfl) <| nL ?_
   refine tC rfl (fun hc86 => ?_) fun hc86 => ?_
   ·cases hc86
   refine tSk <| tQ <| tG <| sm 1 rfl <| nL <| tRt <| rOk rfl rfl (po2 rfl rfl)
  refine tQ <| tG <| sm 2 rfl <| nL ?_
  refine tC rfl (fun hc101 => ?_) fun hc101 => ?_
  ·have hcall := y5n h hc101
   refine tQ <| tDr z1b (fun k => k ∈ ([] : List Nat)) <| wR 4 [0, 1, 2, 3, 5, 6, 8] kR0 h30 <| smR 2 rfl <| rV rfl rfl (nCk rfl rfl rfl) <| smR 4 rfl <| nR <| wO 4 kR0 <| wI rfl rfl nf nw (fun _ _ => OkV.ok (R1 := fun _ => True) ((lBP rfl rfl rfl uT25 rfl tS25 (lb rfl) rfl trivial))) <| wO 7 kR0 <| wI rfl rfl nf nw (fun _ _ => ocq (z53 _ _) y2t rfl rfl) <| wO 9 kR0 ?_
   refine wI rfl rfl nf (nAp rfl) (fun _ _ => ocr (ihC d oM0 _ a (z4e s) r hcall) ent29 rfl (fun _ _ h => h) rfl nl rfl rfl) <| wR 0 [10] kR0 h30 <| smR 1 rfl <| nR <| wDn kR0 <| tRt <| rOk rfl ?_ (po2 rfl rfl)
   rfl
  refine tQ <| tG <| sm 2 rfl <| nL ?_
  refine tC rfl (fun hc113 => ?_) fun hc113 => ?_
  ·obtain ⟨a0, h0, hol, rfl⟩ := y35 h hc113
   have hi0 := z0a (f := eInt) h0
   have hol2 : (z4e s).out.length < 1073741824 := hol
   refine tDr z1b (fun k => k ∈ ([] : List Nat)) <| wR 7 [0, 1, 2, 3, 4, 6, 7, 8] kR0 h30 <| smR 2 rfl <| rV rfl rfl (nCk rfl rfl rfl) <| smR 3 rfl <| rV rfl rfl (iSq rfl rfl rfl uT35 hi0 tS3 rfl (by rfl)) <| smR 1 rfl <| nR <| WA.all (rs := [5, 9]) kR0 sI0 ?_
   refine fmc ⟨?_, fmc ⟨?_, by simp⟩⟩
   ·refine wI rfl rfl nf nw (fun _ _ => OkV.ok (R1 := fun _ => True) ((z47 rfl rfl rfl uT35 rfl rfl trivial))) <| wO 9 kR0 <| wI rfl rfl nf nw (fun _ _ => bSl rfl rfl uT35 tZ3 tS3 rfl rfl rfl rfl (fbk rfl) rfl) <| wO 10 kR0 ?_
    refine wI rfl rfl nf (nOl rfl) (fun _ _ => aPp rfl rfl rfl rfl (by rfl) sI0 uT35 tB3 dC0 (by (simp [z0o]; done)) (by (simp [z0o, PV.one]; rfl)) (by simp [maxLen, z0o]; omega) (by simp [z0o]; omega)) ?_
    refine wR 1 [11, 12, 13] kR0 h30 <| rV rfl rfl (nCk rfl rfl rfl) <| smR 2 rfl <| nR <| wO 14 kR0 <| wI rfl rfl nf (nOl rfl) (fun _ _ => sBx rfl rfl rfl rfl sI0 tS35 (⟨_, _, rfl, by simp⟩) (lb rfl)) <| wDn kR0 <| tQ <| tG <| sm 1 rfl <| nL <| tRt <| rOk rfl rfl (z20 (And.intro (congrArg (fun z => some (HO.box z)) (by simp [z0o, eInt, z4e])) (And.intro (congrArg (fun z => some (HO.row _ z)) (by simp [z0o, eInt, z4e])) trivial)))
   refine wI rfl rfl nf nw (fun _ _ => bSl rfl rfl uT35 tZ3 tS3 rfl rfl rfl rfl (fbk rfl) rfl) <| wO 5 kR0 <| wI rfl rfl nf nw (fun _ _ => OkV.ok (R1 := fun _ => True) ((z47 rfl rfl rfl uT35 rfl rfl trivial))) <| wO 10 kR0 ?_
   refine wI rfl rfl nf (nOl rfl) (fun _ _ => aPp rfl rfl rfl rfl (by rfl) sI0 uT35 tB3 dC0 (by (simp [z0o]; done)) (by (simp [z0o, PV.one]; rfl)) (by simp [maxLen, z0o]; omega) (by simp [z0o]; omega)) ?_
   refine wR 1 [11, 12, 13] kR0 h30 <| rV rfl rfl (nCk rfl rfl rfl) <| smR 2 rfl <| nR <| wO 14 kR0 <| wI rfl rfl nf (nOl rfl) (fun _ _ => sBx rfl rfl rfl rfl sI0 tS35 (⟨_, _, rfl, by simp⟩) (lb rfl)) <| wDn kR0 <| tQ <| tG <| sm 1 rfl <| nL <| tRt <| rOk rfl rfl (z20 (And.intro (congrArg (fun z => some (HO.box z)) (by simp [z0o, eInt, z4e])) (And.intro (congrArg (fun z => some (HO.row _ z)) (by simp [z0o, eInt, z4e])) trivial)))
  refine tQ <| tG <| sm 2 rfl <| nL ?_
  refine tC rfl (fun hc129 => ?_) fun hc129 => ?_
  ·have hrd := y5q h hc129
   refine tQ <| tQ <| tG <| sm 1 rfl <| cV rfl (nCk rfl rfl rfl) <| sm 2 rfl <| cV rfl (oSm uT35 rfl) <| sm 1 rfl <| nL ?_
   refine tC rfl (fun hc136 => ?_) fun hc136 => ?_
   ·obtain ⟨hin, rfl⟩ : s.ins = [] /\ r = (0, { z4e s with st := 4 }) := by
      rcases hrd with h1 | ⟨y, q, h1, _⟩
      ·exact h1
      simp [z4e, h1] at hc136
      omega
    refine tQ <| tG <| sm 1 rfl <| cV rfl (nCk rfl rfl rfl) <| sm 2 rfl <| c0 (sBx rfl rfl rfl rfl ((fun h => h)) tS3 (rfl) (lb rfl)) <| nL <| tQ <| tG <| sm 1 rfl <| nL <| tRt <| rOk rfl ?_ (po2 rfl rfl)
    rfl
   obtain ⟨y, q, hin, rfl⟩ : ∃ y q, s.ins = y :: q /\ r = (y, { z4e s with ins := q }) := by
     rcases hrd with ⟨h1, _⟩ | h1
     ·simp [z4e, h1] at hc136
     exact h1
   have hil : (z4e s).ins = y :: q := hin
   have hi0 : ((z4e s).ins.map eInt)[0]? = some (eInt y) := by show (s.ins.map eInt)[0]? = _; rw [hin]; rfl
   refine tSk <| tQ <| tG <| sm 1 rfl <| cV rfl (nCk rfl rfl rfl) <| sm 2 rfl <| cV rfl (iSq rfl rfl rfl uT35 hi0 tS3 rfl (by rfl)) <| sm 2 rfl <| nL <| tQ <| tG <| sm 2 rfl ?_
   refine cV rfl (nCk rfl rfl rfl) <| sm 2 rfl ?_
   refine cV rfl (z4g (i := 1) (j := (y :: q).length) rfl (show _ = some (IV.pv (ints (z4e s).ins)) from rfl) uT35 tS3 (.inr ⟨_, _, rfl, rfl⟩) (.inl ⟨rfl, by simp [hil]⟩) sI0 (by simp [hil]) z98) ?_
   refine cV rfl (nCk rfl rfl rfl) <| sm 1 rfl <| c0 (sBx rfl rfl rfl rfl ((fun h => h)) tS35 (rfl) (lb rfl)) <| nL <| tQ <| tG <| sm 2 rfl <| nL <| tRt <| rOk rfl rfl (z20 (And.intro (congrArg (fun z => some (HO.box z)) (by (simp [hil, ints, List.take_of_length_le]; done))) (And.intro rfl trivial)))
  obtain rfl := y5o h hc30 hc38 hc59 hc79 hc101 hc113 hc129
  refine tSk <| tQ <| tG <| sm 1 rfl <| nL <| tRt <| rOk rfl rfl (po2 rfl rfl)
theorem zf8 : PSub (.agg [vInt 0, .val (.slice none 0 0)]) (endv (0, [])) := PSub.agg (ps := [vInt 0, .val (.slice none 0 0)]) (qs := [vInt 0, .seq []]) (And.intro (PSub.refl _) (And.intro PSub.nil trivial))
theorem sc_loop (u : Un) (D : Nat) (ihL : SCL u D) (d : Nat) (hd : d <= D) (x : Nd) (hx : ndW x <= 1073741824) (v a : List Int) (s : Rs) (r : Rres) (h : zc9 u d x v a s = some r) : SC Tryz.prog 74 [.ptr 1001 0, .pv (ndv x), .sl 510 (v.map eInt).length, .pv (ints a)] (runV u s v) (fun _ => False) (.pv (endv r.1)) (runV u r.2.2 r.2.1) := by
  refine SC.ofC Tryz.func74 rfl (lb rfl) rfl fun F ρ w => ?_
  refine tQ <| tG <| cE rfl (z1c rfl rfl) <| cE rfl (aLc (k := 108) rfl tZ82 rfl rfl rfl rfl) <| nL <| tBk <| Tr.sub (Sub.of (fr' := [(8, .ptr 108 0), (5, .pv (.ept [vInt x.kind, vInt x.op, vInt x.n, vStr x.name, ints x.args, ints x.outs, ints x.params, kids x.kids] 0)), (0, .ptr 1001 0), (2, .sl 510 (v.map eInt).length), (3, .pv (ints a))]) ⟨rfl, rfl, rfl, rfl, rfl, trivial⟩) <| Tr.heap (σ' := look [(108, some (.box [iInt 0, .pv (.val (.slice none 0 0))])), (1001, some (z4t u s)), (1002, some (rowI (s).out)), (510, some (rowI v))]) (lkq [108, 1001, 1002, 510] rfl rfl ⟨rfl, rfl, rfl, rfl, trivial⟩) ?_
  refine Tr.loop (fun fr σ m => ∃ (d0 : Nat) (v1 : List Int) (a1 : List Int) (s1 : Rs), (d0 <= d) /\ (zc9 u d0 x v1 a1 s1 = some r) /\ ((v1.map eInt).length = (v.map eInt).length) /\ fr = [(8, .ptr 108 0), (5, .pv (.ept [vInt x.kind, vInt x.op, vInt x.n, vStr x.name, ints x.args, ints x.outs, ints x.params, kids x.kids] 0)), (0, .ptr 1001 0), (2, .sl 510 (v.map eInt).length), (3, .pv (ints a1))] /\ σ = look [(108, some (.box [iInt 0, .pv (.val (.slice none 0 0))])), (1001, some (z4t u s1)), (1002, some (rowI (s1).out)), (510, some (rowI v1))] /\ m = d0) (n := d) ?_ ?_
  ·exact ⟨d, v, a, s, Nat.le_refl _, h, rfl, rfl, rfl, rfl⟩
  rintro fr σ m ⟨d0, v1, a1, s1, hI0, hI1, hI2, rfl, rfl, rfl⟩
  obtain ⟨d1, v2, q, r1, rfl, hset, hq, hlist, hrest⟩ := y33 hI1
  have hi0 := z0a (f := eKid) hq
  have hqb : lsW q <= 1073741824 := by have := zg6 (List.mem_of_getElem? hq); have := zc0 x; omega
  have hl2 : (v2.map eInt).length = (v.map eInt).length := by rw [<- hI2]; simp [z9f hset]
  have hl3 : (r1.2.1.map eInt).length = (v.map eInt).length := by rw [<- hl2]; simp [zw3 hlist]
  refine tBk <| tQ <| tG <| sm 4 rfl <| cE rfl (cRr (y2g v1 x.params a1 v2 hset) ent73 rfl rfl (sSm (congrArg (fun n => IV.sl 510 n) hI2.symm) (sRf _ _)) (po1 rfl) (by rfl) (fun k (h : _) => .inr h) rfl (by rfl)) <| nL <| tQ <| Tr.heap (σ' := look [(108, some (.box [iInt 0, .pv (.val (.slice none 0 0))])), (1001, some (z4t u s1)), (1002, some (rowI (s1).out)), (510, some (rowI v2))]) (lkq [108, 1001, 1002, 510] rfl rfl ⟨rfl, rfl, rfl, rfl, trivial⟩) <| tG <| sm 3 rfl <| cV rfl (iSq rfl rfl rfl uT40 hi0 tS43 rfl (by rfl)) <| sm 2 rfl ?_
  refine cE rfl (cRr (ihL d1 oM0 q v2 s1 r1 hlist hqb) ent49 rfl rfl (sSm rfl (sSm rfl (sSm (congrArg (fun n => IV.sl 510 n) hl2.symm) Subs.nil))) (po3 rfl rfl rfl) (by rfl) (fun k (h : _) => .inr h) rfl (by rfl)) <| cE rfl (aLc (k := 109) rfl tZ82 rfl rfl rfl rfl) <| c0 (sBA rfl rfl rfl rfl rfl ((fun h => h)) tS82 (flk rfl) (lb rfl)) <| nL <| tQ <| tBk <| tQ <| Tr.freezeBox (t := 9) (k := 109) rfl rfl rfl <| Tr.heap (σ' := look [(108, some (.box [iInt 0, .pv (.val (.slice none 0 0))])), (1001, some (z4t u r1.2.2)), (1002, some (rowI (r1.2.2).out)), (510, some (rowI r1.2.1))]) (lkq [109, 108, 1001, 1002, 510] rfl rfl ⟨rfl, rfl, rfl, rfl, rfl, trivial⟩) <| tG <| sm 1 rfl <| cE rfl (ocr (z7q u r1.2.2) zu2 rfl (po2 rfl rfl) rfl (fun k (h : _) => .inr trivial) rfl rfl) ?_
  refine sm 1 rfl ?_
  refine wS 25 rfl (fun hb25 => ?_) fun hb25 => ?_
  ·refine sm 5 rfl <| nL <| Tr.condT rfl <| tQ <| tG <| cV rfl (lEA rfl rfl Tryz.underlying82 rfl tS82 (lb rfl)) <| c0 (sBA rfl rfl rfl rfl rfl ((fun h => h)) tS82 (flk rfl) (lb rfl)) <| nL <| tRt ?_
   have hov : (z40 r1.2.2 || r1.1.1 == 15) = true := by first | (rw [hb25]; rfl) | (rw [hc22, Bool.or_true])
   rw [if_pos hov] at hrest
   obtain rfl : r1 = r := by injection hrest
   refine rCk (.inl rfl) (fun _ _ ho => lBP ho rfl rfl Tryz.underlying82 rfl tS82 (lb rfl) rfl trivial) rfl (po3 rfl rfl rfl)
  refine sm 5 rfl <| nL ?_
  refine tC rfl (fun hc22 => ?_) fun hc22 => ?_
  ·refine tQ <| tG <| cV rfl (lEA rfl rfl Tryz.underlying82 rfl tS82 (lb rfl)) <| c0 (sBA rfl rfl rfl rfl rfl ((fun h => h)) tS82 (flk rfl) (lb rfl)) <| nL <| tRt ?_
   have hov : (z40 r1.2.2 || r1.1.1 == 15) = true := by first | (rw [hb25]; rfl) | (rw [hc22, Bool.or_true])
   rw [if_pos hov] at hrest
   obtain rfl : r1 = r := by injection hrest
   refine rCk (.inl rfl) (fun _ _ ho => lBP ho rfl rfl Tryz.underlying82 rfl tS82 (lb rfl) rfl trivial) rfl (po3 rfl rfl rfl)
  rw [if_neg (by rw [hb25, hc22]; decide)] at hrest
  refine tQ <| tG <| sm 4 rfl <| nL ?_
  refine tC rfl (fun hc31 => ?_) fun hc31 => ?_
  ·rw [if_pos hc31, Option.map_eq_some_iff] at hrest
   obtain ⟨v3, hset2, rfl⟩ := hrest
   refine tQ <| tG <| sm 5 rfl <| cE rfl (cRr (y2g r1.2.1 x.outs r1.1.2 v3 hset2) ent73 rfl rfl (sSm (congrArg (fun n => IV.sl 510 n) hl3.symm) (sRf _ _)) (po1 rfl) (by rfl) (fun k (h : _) => .inr h) rfl (by rfl)) <| nL <| tQ <| tG <| cV rfl (bPu rfl rfl tZ82 tP82 rfl (fbk rfl) rfl) <| WL.sub (Sub.cons2 (fun _ _ _ _ h => z4v zf8 h) Sub.rfl') <| c0 (sBA rfl rfl rfl rfl rfl ((fun h => h)) tS82 (flk rfl) (lb rfl)) <| nL <| tRt <| rCk (.inl rfl) (fun _ _ ho => lBP ho rfl rfl Tryz.underlying82 rfl tS82 (lb rfl) rfl trivial) rfl (po3 rfl rfl rfl)
  rw [if_neg (by rw [hc31]; decide)] at hrest
  have hrest3 := hrest
  refine tSk <| tG <| sm 3 rfl <| nL ?_
  refine ⟨_, _, ?_, Sub.of (fr' := [(8, .ptr 108 0), (5, .pv (.ept [vInt x.kind, vInt x.op, vInt x.n, vStr x.name, ints x.args, ints x.outs, ints x.params, kids x.kids] 0)), (0, .ptr 1001 0), (2, .sl 510 (v.map eInt).length), (3, .pv (ints r1.1.2))]) ⟨rfl, rfl, rfl, rfl, rfl, trivial⟩, d1, r1.2.1, r1.1.2, r1.2.2, ?_, ?_, ?_, rfl, (funext (lkq [108, 1001, 1002, 510] rfl rfl ⟨rfl, rfl, rfl, rfl, trivial⟩)), rfl⟩
  ·omega
  ·omega
  ·exact hrest3
  exact hl3
theorem y5l {u : Un} {d : Nat} {v : List Int} {s : Rs} {r : Rres} (h : z5r u d [] v s = some r) : r = ((0, []), v, s) := by
  cases d with
  | zero => simp [z5r] at h
  | succ d => simp only [z5r] at h; cases h; rfl
theorem sc_list0 (u : Un) (hu : u.arrays = []) (D : Nat) (ihC : SCC u D) (ihL : SCL u D) (d : Nat) (hd : d <= D) (l : List Nd) (v : List Int) (s : Rs) (r : Rres) (h : z5r u d l v s = some r) (hb : lsW l <= 1073741824) : SC Tryz.prog 49 [.ptr 1001 0, .pv (z09 l), .sl 510 (v.map eInt).length] (runV u s v) (fun _ => False) (.pv (endv r.1)) (runV u r.2.2 r.2.1) := by
  refine SC.ofC Tryz.func49 rfl (lb rfl) rfl fun F ρ w => ?_
  refine Tr.lenOf (t := 1) rfl (fun hl => ?_)
  simp only [List.length_map] at hl
  refine tQ <| tG <| cE rfl (aLc (k := 106) rfl tZ82 rfl rfl rfl rfl) <| nL <| tQ <| tQ <| Tr.subBox (k := 106) [.pv (vInt 0), .pv (ints [])] rfl ⟨ISub.refl _, ISub.pv PSub.nil, trivial⟩ (fun h => h) <| tG <| sm 1 rfl <| nL <| tBk <| Tr.sub (Sub.of (fr' := [(7, iInt 0), (6, .ptr 106 0), (0, .ptr 1001 0), (1, .pv (z09 l)), (2, .sl 510 (v.map eInt).length)]) ⟨rfl, rfl, rfl, rfl, rfl, trivial⟩) ?_
  refine Tr.heap (σ' := look [(106, some (.box [.pv (vInt 0), .pv (ints [])])), (1001, some (z4t u s)), (1002, some (rowI (s).out)), (510, some (rowI v))]) (lkq [106, 1001, 1002, 510] rfl rfl ⟨rfl, rfl, rfl, rfl, trivial⟩) ?_
  refine Tr.loop (fun fr σ m => ∃ (k : Nat) (d0 : Nat) (v1 : List Int) (s1 : Rs), (k <= l.length) /\ (d0 <= d) /\ (z5r u d0 (l.drop k) v1 s1 = some r) /\ ((v1.map eInt).length = (v.map eInt).length) /\ fr = [(7, iInt k), (6, .ptr 106 0), (0, .ptr 1001 0), (1, .pv (z09 l)), (2, .sl 510 (v.map eInt).length)] /\ σ = look [(106, some (.box [.pv (vInt 0), .pv (ints [])])), (1001, some (z4t u s1)), (1002, some (rowI (s1).out)), (510, some (rowI v1))] /\ m = l.length - k) (n := l.length - 0) ?_ ?_
  ·exact ⟨0, d, v, s, Nat.zero_le _, Nat.le_refl _, h, rfl, rfl, rfl, rfl⟩
  rintro fr σ m ⟨k, d0, v1, s1, hIk, hI1, hI2, hI3, rfl, rfl, rfl⟩
  refine tQ <| tQ <| tG <| sm 2 rfl <| cV rfl (oSm uT43 rfl) <| sm 1 rfl <| nL ?_
  refine tC rfl (fun hc16 => ?_) fun hc16 => ?_
  ·have hlt : k < l.length := by simpa using hc16
   have hd2 := List.drop_eq_getElem_cons hlt
   have hm := List.getElem_mem hlt
   have hi := z0p (List.getElem?_eq_getElem hlt)
   generalize l[k] = x at hd2 hm hi
   rw [hd2] at hI2
   obtain ⟨s2, hs2⟩ : ∃ s2, (za1 s1).2 = s2 := ⟨_, rfl⟩
   obtain ⟨d1, rfl, hst⟩ := y32 hs2 hI2
   have hxb : ndW x <= 1073741824 := by have := y0q hm; omega
   refine tSk <| tQ <| tBk <| tQ <| tG <| sm 2 rfl <| cV rfl (iSq rfl rfl rfl uT43 hi tS42 rfl (by rfl)) <| cV rfl (lEA rfl rfl uT42 rfl tS42 (lb rfl)) <| cE rfl (aLc (k := 108) rfl tZ42 rfl rfl rfl rfl) <| c0 (sBA rfl rfl rfl rfl rfl ((fun h => h)) tS42 (flk rfl) (lb rfl)) <| nL <| tQ ?_
   refine tQ <| Tr.freezeBox (t := 8) (k := 108) rfl rfl rfl <| Tr.heap (σ' := look [(106, some (.box [.pv (vInt 0), .pv (ints [])])), (1001, some (z4t u s1)), (1002, some (rowI (s1).out)), (510, some (rowI v1))]) (lkq [108, 106, 1001, 1002, 510] rfl rfl ⟨rfl, rfl, rfl, rfl, rfl, trivial⟩) <| tG <| sm 1 rfl <| cE rfl (ocr (sc_step u s1) ent71 rfl (po2 rfl rfl) rfl (fun k (h : _) => .inr h) rfl rfl) ?_
   rw [hs2]
   refine sm 1 rfl <| nL ?_
   refine tC rfl (fun hc25 => ?_) fun hc25 => ?_
   ·refine tQ <| tG <| cV rfl (bPu rfl rfl tZ82 tP82 rfl (fbk rfl) rfl) <| WL.sub (Sub.cons2 (fun _ _ _ _ h => z4v zf8 h) Sub.rfl') <| c0 (sBA rfl rfl rfl rfl rfl ((fun h => h)) tS82 (flk rfl) (lb rfl)) <| nL <| tRt ?_
    obtain rfl : r = ((0, []), v1, s2) := by
      rcases hst with ⟨_, e⟩ | ⟨e, _⟩
      ·exact e
      rw [e] at hc25; exact absurd hc25 dC0
    refine rCk (.inl rfl) (fun _ _ ho => lBP ho rfl rfl Tryz.underlying82 rfl tS82 (lb rfl) rfl trivial) rfl (po3 rfl rfl rfl)
   obtain ⟨hst1, a, r1, hof, hnode, hrest⟩ := hst.resolve_left (fun hh => by rw [hh.1] at hc25; exact absurd hc25 dC0)
   have hl1 : (r1.2.1.map eInt).length = (v.map eInt).length := by
     have := zw4 (fun _ _ _ _ h => (zq2 u d1).1 _ _ _ _ h) (fun _ _ _ _ _ h => (zq2 u d1).2 _ _ _ _ _ h) hnode
     rw [<- hI3, List.length_map, List.length_map, this]
   refine Tr.heap (σ' := look [(106, some (.box [.pv (vInt 0), .pv (ints [])])), (1001, some (z4t u s2)), (1002, some (rowI (s2).out)), (510, some (rowI v1))]) (lkq [106, 1001, 1002, 510] rfl rfl ⟨rfl, rfl, rfl, rfl, trivial⟩) <| tSk <| tQ <| tG <| sm 3 rfl <| cE rfl (cRr (sc_of v1 x.args a hof (by have := zc0 x; omega)) ent72 rfl rfl (sSm (congrArg (fun n => IV.sl 510 n) hI3.symm) (sRf _ _)) (po1 rfl) (by rfl) (fun k (h : _) => (show False from h).elim) rfl (by rfl)) <| sm 1 rfl <| nL <| tQ <| tG <| cE rfl (aLc (k := 110) rfl tZ82 rfl rfl rfl rfl) <| nL ?_
   refine tQ <| tQ <| Tr.subBox (k := 110) [.pv (vInt 0), .pv (ints [])] rfl ⟨ISub.refl _, ISub.pv PSub.nil, trivial⟩ (fun h => h) <| Tr.heap (σ' := look [(110, some (.box [.pv (vInt (((0, []) : Rend)).1), .pv (ints (((0, []) : Rend)).2)])), (106, some (.box [.pv (vInt 0), .pv (ints [])])), (1001, some (z4t u s2)), (1002, some (rowI (s2).out)), (510, some (rowI v1))]) (lkq [110, 106, 1001, 1002, 510] rfl rfl ⟨rfl, rfl, rfl, rfl, rfl, trivial⟩) <| tG <| sm 2 rfl <| nL ?_
   refine Tr.cutR (fr' := [(10, .ptr 110 0), (7, iInt k), (6, .ptr 106 0), (0, .ptr 1001 0), (1, .pv (z09 l)), (2, .sl 510 (v.map eInt).length)]) (σ' := look [(110, some (.box [.pv (vInt (r1.1).1), .pv (ints (r1.1).2)])), (106, some (.box [.pv (vInt 0), .pv (ints [])])), (1001, some (z4t u r1.2.2)), (1002, some (rowI (r1.2.2).out)), (510, some (rowI r1.2.1))]) ?_ ?_
   ·refine tBk <| tQ <| tQ <| tG <| sm 2 rfl <| nL ?_
    refine tC rfl (fun hc53 => ?_) fun hc53 => ?_
    ·refine tSk ?_
     refine tC rfl (fun hd53 => ?_) fun hd53 => ?_
     ·have hk : (x.kind == 1 || x.kind == 2) = true := by first | (rw [hc53]; rfl) | (rw [hc53, Bool.or_true])
      obtain ⟨o, v2, ho, hv0, rfl⟩ := zw5 hnode hk
      obtain ⟨hx0, hxl, hv2⟩ := z7u hv0
      obtain ⟨z0, hxg⟩ := zx6 hxl
      have hi2 := z0a (f := eInt) ho
      have hxl2 : o.toNat < (v.map eInt).length := by rw [<- hI3]; exact hxl
      refine tDr z1b (fun k => k ∈ ([] : List Nat)) <| wR 1 [0, 1, 2, 3, 4, 5, 6, 7] kR0 (fun _ _ _ h => h.elim (fun g => pn g.1) (fun g => g.2)) <| smR 3 rfl <| rV rfl rfl (iSq rfl rfl rfl uT35 hi2 tS3 rfl (by rfl)) <| smR 3 rfl <| rV rfl rfl (iRw rfl rfl rfl rfl hI3 uT35 tS3 hxl2 oM0) <| nR <| wO 8 kR0 <| wI rfl rfl nf (nOl rfl) (fun _ _ => z1n rfl rfl rfl rfl hI3 (Nat.add_zero _).symm hxg sI0 tS3 rfl sI0) <| wDn kR0 <| Or.inl ?_
      refine ⟨rfl, Sub.of ⟨rfl, rfl, rfl, rfl, rfl, rfl, trivial⟩, funext (lkq [110, 106, 1001, 1002, 510] rfl rfl ⟨rfl, rfl, rfl, rfl, (by first | rfl | exact congrArg (fun z => some (HO.row _ z)) (by rw [hv2]; exact z3x _ _ _ _ hxg)), trivial⟩)⟩
     exact absurd (hc53.symm.trans hd53) dC0
    have hk1 := hc53
    refine tG <| sm 2 rfl <| nL ?_
    refine tC rfl (fun hc53 => ?_) fun hc53 => ?_
    ·have hk : (x.kind == 1 || x.kind == 2) = true := by first | (rw [hc53]; rfl) | (rw [hc53, Bool.or_true])
     obtain ⟨o, v2, ho, hv0, rfl⟩ := zw5 hnode hk
     obtain ⟨hx0, hxl, hv2⟩ := z7u hv0
     obtain ⟨z0, hxg⟩ := zx6 hxl
     have hi2 := z0a (f := eInt) ho
     have hxl2 : o.toNat < (v.map eInt).length := by rw [<- hI3]; exact hxl
     refine tDr z1b (fun k => k ∈ ([] : List Nat)) <| wR 1 [0, 1, 2, 3, 4, 5, 6, 7] kR0 (fun _ _ _ h => h.elim (fun g => pn g.1) (fun g => g.2)) <| smR 3 rfl <| rV rfl rfl (iSq rfl rfl rfl uT35 hi2 tS3 rfl (by rfl)) <| smR 3 rfl <| rV rfl rfl (iRw rfl rfl rfl rfl hI3 uT35 tS3 hxl2 oM0) <| nR <| wO 8 kR0 <| wI rfl rfl nf (nOl rfl) (fun _ _ => z1n rfl rfl rfl rfl hI3 (Nat.add_zero _).symm hxg sI0 tS3 rfl sI0) <| wDn kR0 <| Or.inl ?_
     refine ⟨rfl, Sub.of ⟨rfl, rfl, rfl, rfl, rfl, rfl, trivial⟩, funext (lkq [110, 106, 1001, 1002, 510] rfl rfl ⟨rfl, rfl, rfl, rfl, (by first | rfl | exact congrArg (fun z => some (HO.row _ z)) (by rw [hv2]; exact z3x _ _ _ _ hxg)), trivial⟩)⟩
    refine tQ <| tQ ?_
    have hk12 : (x.kind == 1 || x.kind == 2) = false := by rw [hk1, hc53]; rfl
    refine tG <| sm 2 rfl <| nL ?_
    refine tC rfl (fun hc64 => ?_) fun hc64 => ?_
    ·refine tSk ?_
     refine tC rfl (fun hd64 => ?_) fun hd64 => ?_
     ·refine tQ ?_
      have hke : (x.kind == 12 || x.kind == 13 || x.kind == 14 || x.kind == 15) = true := by simp only [hc64, Bool.or_true, Bool.true_or]
      obtain rfl := z9e hnode hke
      have hne : (x.kind != 0) = true := by rw [eq_of_beq hc64]; rfl
      simp only [hne, Bool.or_true, if_true] at hrest
      cases hrest
      refine tG <| sm 3 rfl <| cV rfl (bPu rfl rfl tZ82 tP82 rfl (fbk rfl) rfl) <| c0 (sBA rfl rfl rfl rfl rfl ((fun h => h)) tS82 (flk rfl) (lb rfl)) <| nL <| tRt ?_
      refine Or.inr ⟨Exit.noConfusion, ?_⟩
      refine rCk (.inl rfl) (fun _ _ ho => lBP ho rfl rfl Tryz.underlying82 rfl tS82 (lb rfl) rfl trivial) rfl (po3 rfl rfl rfl)
     exact absurd (hc64.symm.trans hd64) dC0
    refine tQ ?_
    have hk3 := hc64
    refine tG <| sm 2 rfl <| nL ?_
    refine tC rfl (fun hc64 => ?_) fun hc64 => ?_
    ·refine tSk ?_
     refine tC rfl (fun hd64 => ?_) fun hd64 => ?_
     ·refine tQ ?_
      have hke : (x.kind == 12 || x.kind == 13 || x.kind == 14 || x.kind == 15) = true := by simp only [hc64, Bool.or_true, Bool.true_or]
      obtain rfl := z9e hnode hke
      have hne : (x.kind != 0) = true := by rw [eq_of_beq hc64]; rfl
      simp only [hne, Bool.or_true, if_true] at hrest
      cases hrest
      refine tG <| sm 3 rfl <| cV rfl (bPu rfl rfl tZ82 tP82 rfl (fbk rfl) rfl) <| c0 (sBA rfl rfl rfl rfl rfl ((fun h => h)) tS82 (flk rfl) (lb rfl)) <| nL <| tRt ?_
      refine Or.inr ⟨Exit.noConfusion, ?_⟩
      refine rCk (.inl rfl) (fun _ _ ho => lBP ho rfl rfl Tryz.underlying82 rfl tS82 (lb rfl) rfl trivial) rfl (po3 rfl rfl rfl)
     exact absurd (hc64.symm.trans hd64) dC0
    refine tQ ?_
    have hk4 := hc64
    refine tG <| sm 2 rfl <| nL ?_
    refine tC rfl (fun hc64 => ?_) fun hc64 => ?_
    ·refine tSk ?_
     refine tC rfl (fun hd64 => ?_) fun hd64 => ?_
     ·refine tQ ?_
      have hke : (x.kind == 12 || x.kind == 13 || x.kind == 14 || x.kind == 15) = true := by simp only [hc64, Bool.or_true, Bool.true_or]
      obtain rfl := z9e hnode hke
      have hne : (x.kind != 0) = true := by rw [eq_of_beq hc64]; rfl
      simp only [hne, Bool.or_true, if_true] at hrest
      cases hrest
      refine tG <| sm 3 rfl <| cV rfl (bPu rfl rfl tZ82 tP82 rfl (fbk rfl) rfl) <| c0 (sBA rfl rfl rfl rfl rfl ((fun h => h)) tS82 (flk rfl) (lb rfl)) <| nL <| tRt ?_
      refine Or.inr ⟨Exit.noConfusion, ?_⟩
      refine rCk (.inl rfl) (fun _ _ ho => lBP ho rfl rfl Tryz.underlying82 rfl tS82 (lb rfl) rfl trivial) rfl (po3 rfl rfl rfl)
     exact absurd (hc64.symm.trans hd64) dC0
    have hk5 := hc64
    refine tG <| sm 2 rfl <| nL ?_
    refine tC rfl (fun hc64 => ?_) fun hc64 => ?_
    ·refine tQ ?_
     have hke : (x.kind == 12 || x.kind == 13 || x.kind == 14 || x.kind == 15) = true := by simp only [hc64, Bool.or_true, Bool.true_or]
     obtain rfl := z9e hnode hke
     have hne : (x.kind != 0) = true := by rw [eq_of_beq hc64]; rfl
     simp only [hne, Bool.or_true, if_true] at hrest
     cases hrest
     refine tG <| sm 3 rfl <| cV rfl (bPu rfl rfl tZ82 tP82 rfl (fbk rfl) rfl) <| c0 (sBA rfl rfl rfl rfl rfl ((fun h => h)) tS82 (flk rfl) (lb rfl)) <| nL <| tRt ?_
     refine Or.inr ⟨Exit.noConfusion, ?_⟩
     refine rCk (.inl rfl) (fun _ _ ho => lBP ho rfl rfl Tryz.underlying82 rfl tS82 (lb rfl) rfl trivial) rfl (po3 rfl rfl rfl)
    refine tQ ?_
    have hke : (x.kind == 12 || x.kind == 13 || x.kind == 14 || x.kind == 15) = false := by rw [hk3, hk4, hk5, hc64]; rfl
    refine tG <| sm 2 rfl <| nL ?_
    refine tC rfl (fun hc73 => ?_) fun hc73 => ?_
    ·refine tQ ?_
     obtain ⟨a0, q, r2, ha0, hq, hlist, hcont⟩ := mNode_if hnode hc73
     have hi0 := z0a (f := eInt) ha0
     have hl2 : (r2.2.1.map eInt).length = (v.map eInt).length := by rw [<- hI3]; simp [zw3 hlist]
     refine tG <| sm 1 rfl <| nL <| tQ <| tQ <| tG <| sm 1 rfl <| cV rfl (iSq rfl rfl rfl uT35 hi0 tS3 rfl (by rfl)) <| sm 2 rfl <| nL ?_
     refine tC rfl (fun hc78 => ?_) fun hc78 => ?_
     ·rw [if_pos hc78] at hq
      have hi1 := z0a (f := eKid) hq
      have hqb : lsW q <= 1073741824 := by have := zg6 (List.mem_of_getElem? hq); have := zc0 x; omega
      refine tG <| sm 1 rfl <| nL <| tQ <| tG <| sm 4 rfl <| cV rfl (iSq rfl rfl rfl uT40 hi1 tS43 rfl (by rfl)) <| sm 2 rfl <| cE rfl (cRr (ihL d1 oM0 q v1 s2 r2 hlist hqb) ent49 rfl rfl (sSm rfl (sSm rfl (sSm (congrArg (fun n => IV.sl 510 n) hI3.symm) Subs.nil))) (po3 rfl rfl rfl) (by rfl) (fun k (h : _) => .inr h) rfl (by rfl)) <| c0 (sBA rfl rfl rfl rfl rfl ((fun h => h)) tS82 (flk rfl) (lb rfl)) <| nL <| tQ ?_
      refine tG <| sm 1 rfl <| cE rfl (ocr (z7q u r2.2.2) zu2 rfl (po2 rfl rfl) rfl (fun k (h : _) => .inr trivial) rfl rfl) <| sm 2 rfl ?_
      refine wS 90 rfl (fun hb90 => ?_) fun hb90 => ?_
      ·refine sm 4 rfl <| nL ?_
       refine tC rfl (fun hc94 => ?_) fun hc94 => ?_
       ·have hcd : (!z40 r2.2.2 && r2.1.1 == 12) = true := by rw [hb90, hc94]; rfl
        rw [if_pos hcd, Option.map_eq_some_iff] at hcont
        obtain ⟨v3, hset, rfl⟩ := hcont
        refine tQ <| tG <| sm 5 rfl <| cE rfl (cRr (y2g r2.2.1 x.outs r2.1.2 v3 hset) ent73 rfl rfl (sSm (congrArg (fun n => IV.sl 510 n) hl2.symm) (sRf _ _)) (po1 rfl) (by rfl) (fun k (h : _) => .inr h) rfl (by rfl)) <| nL <| tG <| cV rfl (bPu rfl rfl tZ82 tP82 rfl (fbk rfl) rfl) <| WL.sub (Sub.cons2 (fun _ _ _ _ h => z4v zf8 h) Sub.rfl') <| c0 (sBA rfl rfl rfl rfl rfl ((fun h => h)) tS82 (flk rfl) (lb rfl)) <| nL <| Or.inl ?_
        refine ⟨rfl, Sub.of ⟨rfl, rfl, rfl, rfl, rfl, rfl, trivial⟩, funext (lkq [110, 106, 1001, 1002, 510] rfl rfl ⟨rfl, rfl, rfl, rfl, (by first | rfl | exact congrArg (fun z => some (HO.row _ z)) (by rw [hv2]; exact z3x _ _ _ _ hxg)), trivial⟩)⟩
       have hcd : (!z40 r2.2.2 && r2.1.1 == 12) = false := by first | (rw [hb90, hc94]; rfl) | (rw [hb90]; rfl)
       rw [if_neg (by rw [hcd]; decide)] at hcont
       cases hcont
       refine tSk <| Or.inl ?_
       refine ⟨rfl, Sub.of ⟨rfl, rfl, rfl, rfl, rfl, rfl, trivial⟩, funext (lkq [110, 106, 1001, 1002, 510] rfl rfl ⟨rfl, rfl, rfl, rfl, (by first | rfl | exact congrArg (fun z => some (HO.row _ z)) (by rw [hv2]; exact z3x _ _ _ _ hxg)), trivial⟩)⟩
      refine sm 4 rfl <| nL <| Tr.condF rfl ?_
      have hcd : (!z40 r2.2.2 && r2.1.1 == 12) = false := by first | (rw [hb90, hc94]; rfl) | (rw [hb90]; rfl)
      rw [if_neg (by rw [hcd]; decide)] at hcont
      cases hcont
      refine tSk <| Or.inl ?_
      refine ⟨rfl, Sub.of ⟨rfl, rfl, rfl, rfl, rfl, rfl, trivial⟩, funext (lkq [110, 106, 1001, 1002, 510] rfl rfl ⟨rfl, rfl, rfl, rfl, (by first | rfl | exact congrArg (fun z => some (HO.row _ z)) (by rw [hv2]; exact z3x _ _ _ _ hxg)), trivial⟩)⟩
     rw [if_neg (by rw [hc78]; decide)] at hq
     have hi1 := z0a (f := eKid) hq
     have hqb : lsW q <= 1073741824 := by have := zg6 (List.mem_of_getElem? hq); have := zc0 x; omega
     refine tSk <| tQ <| tG <| sm 4 rfl <| cV rfl (iSq rfl rfl rfl uT40 hi1 tS43 rfl (by rfl)) <| sm 2 rfl <| cE rfl (cRr (ihL d1 oM0 q v1 s2 r2 hlist hqb) ent49 rfl rfl (sSm rfl (sSm rfl (sSm (congrArg (fun n => IV.sl 510 n) hI3.symm) Subs.nil))) (po3 rfl rfl rfl) (by rfl) (fun k (h : _) => .inr h) rfl (by rfl)) <| c0 (sBA rfl rfl rfl rfl rfl ((fun h => h)) tS82 (flk rfl) (lb rfl)) <| nL <| tQ <| tG <| sm 1 rfl ?_
     refine cE rfl (ocr (z7q u r2.2.2) zu2 rfl (po2 rfl rfl) rfl (fun k (h : _) => .inr trivial) rfl rfl) <| sm 2 rfl ?_
     refine wS 90 rfl (fun hb90 => ?_) fun hb90 => ?_
     ·refine sm 4 rfl <| nL ?_
      refine tC rfl (fun hc94 => ?_) fun hc94 => ?_
      ·have hcd : (!z40 r2.2.2 && r2.1.1 == 12) = true := by rw [hb90, hc94]; rfl
       rw [if_pos hcd, Option.map_eq_some_iff] at hcont
       obtain ⟨v3, hset, rfl⟩ := hcont
       refine tQ <| tG <| sm 5 rfl <| cE rfl (cRr (y2g r2.2.1 x.outs r2.1.2 v3 hset) ent73 rfl rfl (sSm (congrArg (fun n => IV.sl 510 n) hl2.symm) (sRf _ _)) (po1 rfl) (by rfl) (fun k (h : _) => .inr h) rfl (by rfl)) <| nL <| tG <| cV rfl (bPu rfl rfl tZ82 tP82 rfl (fbk rfl) rfl) <| WL.sub (Sub.cons2 (fun _ _ _ _ h => z4v zf8 h) Sub.rfl') <| c0 (sBA rfl rfl rfl rfl rfl ((fun h => h)) tS82 (flk rfl) (lb rfl)) <| nL <| Or.inl ?_
       refine ⟨rfl, Sub.of ⟨rfl, rfl, rfl, rfl, rfl, rfl, trivial⟩, funext (lkq [110, 106, 1001, 1002, 510] rfl rfl ⟨rfl, rfl, rfl, rfl, (by first | rfl | exact congrArg (fun z => some (HO.row _ z)) (by rw [hv2]; exact z3x _ _ _ _ hxg)), trivial⟩)⟩
      have hcd : (!z40 r2.2.2 && r2.1.1 == 12) = false := by first | (rw [hb90, hc94]; rfl) | (rw [hb90]; rfl)
      rw [if_neg (by rw [hcd]; decide)] at hcont
      cases hcont
      refine tSk <| Or.inl ?_
      refine ⟨rfl, Sub.of ⟨rfl, rfl, rfl, rfl, rfl, rfl, trivial⟩, funext (lkq [110, 106, 1001, 1002, 510] rfl rfl ⟨rfl, rfl, rfl, rfl, (by first | rfl | exact congrArg (fun z => some (HO.row _ z)) (by rw [hv2]; exact z3x _ _ _ _ hxg)), trivial⟩)⟩
     refine sm 4 rfl <| nL <| Tr.condF rfl ?_
     have hcd : (!z40 r2.2.2 && r2.1.1 == 12) = false := by first | (rw [hb90, hc94]; rfl) | (rw [hb90]; rfl)
     rw [if_neg (by rw [hcd]; decide)] at hcont
     cases hcont
     refine tSk <| Or.inl ?_
     refine ⟨rfl, Sub.of ⟨rfl, rfl, rfl, rfl, rfl, rfl, trivial⟩, funext (lkq [110, 106, 1001, 1002, 510] rfl rfl ⟨rfl, rfl, rfl, rfl, (by first | rfl | exact congrArg (fun z => some (HO.row _ z)) (by rw [hv2]; exact z3x _ _ _ _ hxg)), trivial⟩)⟩
    refine tQ ?_
    have hk10 := hc73
    refine tG <| sm 2 rfl <| nL ?_
    refine tC rfl (fun hc102 => ?_) fun hc102 => ?_
    ·have hlp := y34 hnode hc102
     refine tG <| sm 1 rfl <| cV rfl (lEA rfl rfl uT42 rfl tS42 (lb rfl)) <| sm 2 rfl <| cE rfl (cRr (sc_loop u D ihL d1 oM0 x hxb v1 a s2 r1 hlp) ent74 rfl rfl (sSm rfl (sSm rfl (sSm (congrArg (fun n => IV.sl 510 n) hI3.symm) (sRf _ _)))) (po3 rfl rfl rfl) (by rfl) (fun k (h : _) => .inr h) rfl (by rfl)) <| c0 (sBA rfl rfl rfl rfl rfl ((fun h => h)) tS82 (flk rfl) (lb rfl)) <| nL <| Or.inl ?_
     refine ⟨rfl, Sub.of ⟨rfl, rfl, rfl, rfl, rfl, rfl, trivial⟩, funext (lkq [110, 106, 1001, 1002, 510] rfl rfl ⟨rfl, rfl, rfl, rfl, (by first | rfl | exact congrArg (fun z => some (HO.row _ z)) (by rw [hv2]; exact z3x _ _ _ _ hxg)), trivial⟩)⟩
    refine tQ ?_
    obtain ⟨q1, hsum, hcont⟩ := y5m hnode hk12 hke hk10 hc102
    refine tG <| sm 1 rfl <| cV rfl (lEA rfl rfl uT42 rfl tS42 (lb rfl)) <| sm 1 rfl <| cE rfl (ocr (sc_sum u hu D ihC d1 oM0 x a s2 q1 hsum) ent75 rfl (po2 rfl rfl) rfl (fun k (h : _) => .inr h) rfl rfl) <| sm 1 rfl <| nL <| tQ <| tG <| sm 1 rfl <| cE rfl (ocr (z7q u q1.2) zu2 rfl (po2 rfl rfl) rfl (fun k (h : _) => .inr trivial) rfl rfl) <| sm 2 rfl ?_
    refine wS 40 rfl (fun hb40 => ?_) fun hb40 => ?_
    ·refine sm 2 rfl <| yV rfl rfl (oSm uT35 rfl) <| sm 2 rfl <| nL ?_
     refine tC rfl (fun hc45 => ?_) fun hc45 => ?_
     ·have h0 : 0 < x.outs.length := by simpa using hc45
      rw [if_pos (by rw [hb40, decide_eq_true h0]; rfl)] at hcont
      simp only [Option.bind_eq_some_iff, Option.map_eq_some_iff] at hcont
      obtain ⟨o, ho, v2, hv0, rfl⟩ := hcont
      obtain ⟨hx0, hxl, hv2⟩ := z7u hv0
      obtain ⟨z0, hxg⟩ := zx6 hxl
      have hi2 := z0a (f := eInt) ho
      have hxl2 : o.toNat < (v.map eInt).length := by rw [<- hI3]; exact hxl
      refine tG <| sm 3 rfl <| cV rfl (iSq rfl rfl rfl uT35 hi2 tS3 rfl (by rfl)) <| sm 2 rfl <| cV rfl (iRw rfl rfl rfl rfl hI3 uT35 tS3 hxl2 oM0) <| c0 (z1n rfl rfl rfl rfl hI3 (Nat.add_zero _).symm hxg sI0 tS3 rfl sI0) <| nL <| Or.inl ?_
      refine ⟨rfl, Sub.of ⟨rfl, rfl, rfl, rfl, rfl, rfl, trivial⟩, funext (lkq [110, 106, 1001, 1002, 510] rfl rfl ⟨rfl, rfl, rfl, rfl, (by first | rfl | exact congrArg (fun z => some (HO.row _ z)) (by rw [hv2]; exact z3x _ _ _ _ hxg)), trivial⟩)⟩
     have hcd : (!z40 q1.2 && decide (0 < x.outs.length)) = false := by first | (rw [hb40]; rfl) | (rw [hb40]; simpa using hc45)
     rw [if_neg (by rw [hcd]; decide)] at hcont
     cases hcont
     refine tSk <| Or.inl ?_
     refine ⟨rfl, Sub.of ⟨rfl, rfl, rfl, rfl, rfl, rfl, trivial⟩, funext (lkq [110, 106, 1001, 1002, 510] rfl rfl ⟨rfl, rfl, rfl, rfl, (by first | rfl | exact congrArg (fun z => some (HO.row _ z)) (by rw [hv2]; exact z3x _ _ _ _ hxg)), trivial⟩)⟩
    refine sm 5 rfl <| nL <| Tr.condF rfl ?_
    have hcd : (!z40 q1.2 && decide (0 < x.outs.length)) = false := by first | (rw [hb40]; rfl) | (rw [hb40]; simpa using hc45)
    rw [if_neg (by rw [hcd]; decide)] at hcont
    cases hcont
    refine tSk <| Or.inl ?_
    refine ⟨rfl, Sub.of ⟨rfl, rfl, rfl, rfl, rfl, rfl, trivial⟩, funext (lkq [110, 106, 1001, 1002, 510] rfl rfl ⟨rfl, rfl, rfl, rfl, (by first | rfl | exact congrArg (fun z => some (HO.row _ z)) (by rw [hv2]; exact z3x _ _ _ _ hxg)), trivial⟩)⟩
   refine tQ <| tG <| sm 1 rfl <| cE rfl (ocr (z7q u r1.2.2) zu2 rfl (po2 rfl rfl) rfl (fun k (h : _) => .inr trivial) rfl rfl) <| sm 1 rfl ?_
   refine wS 111 rfl (fun hb111 => ?_) fun hb111 => ?_
   ·refine sm 4 rfl <| nL <| Tr.condT rfl ?_
    have hov : (z40 r1.2.2 || r1.1.1 != 0) = true := by first | (rw [hb111]; rfl) | (rw [hc115, Bool.or_true])
    rw [if_pos hov] at hrest
    obtain rfl : r1 = r := by injection hrest
    refine tQ <| tG <| cV rfl (lBP rfl rfl rfl Tryz.underlying82 rfl tS82 (lb rfl) rfl trivial) <| c0 (sBA rfl rfl rfl rfl rfl ((fun h => h)) tS82 (flk rfl) (lb rfl)) <| nL <| tRt <| rCk (.inl rfl) (fun _ _ ho => lBP ho rfl rfl Tryz.underlying82 rfl tS82 (lb rfl) rfl trivial) rfl (po3 rfl rfl rfl)
   refine sm 4 rfl <| nL ?_
   refine tC rfl (fun hc115 => ?_) fun hc115 => ?_
   ·have hov : (z40 r1.2.2 || r1.1.1 != 0) = true := by first | (rw [hb111]; rfl) | (rw [hc115, Bool.or_true])
    rw [if_pos hov] at hrest
    obtain rfl : r1 = r := by injection hrest
    refine tQ <| tG <| cV rfl (lBP rfl rfl rfl Tryz.underlying82 rfl tS82 (lb rfl) rfl trivial) <| c0 (sBA rfl rfl rfl rfl rfl ((fun h => h)) tS82 (flk rfl) (lb rfl)) <| nL <| tRt <| rCk (.inl rfl) (fun _ _ ho => lBP ho rfl rfl Tryz.underlying82 rfl tS82 (lb rfl) rfl trivial) rfl (po3 rfl rfl rfl)
   rw [if_neg (by rw [hb111, hc115]; decide)] at hrest
   refine tSk <| Tr.drop (k := 110) <| tG <| sm 1 rfl <| cV rfl (oB rfl rfl (z03 rfl oM0)) <| sm 1 rfl <| nL ?_
   refine ⟨_, _, ?_, Sub.of (fr' := [(7, iInt (k + 1)), (6, .ptr 106 0), (0, .ptr 1001 0), (1, .pv (z09 l)), (2, .sl 510 (v.map eInt).length)]) ⟨rfl, rfl, rfl, rfl, rfl, trivial⟩, (k + 1), d1, r1.2.1, r1.2.2, ?_, ?_, ?_, ?_, rfl, (funext (lkq [110, 106, 1001, 1002, 510] rfl rfl ⟨rfl, rfl, rfl, rfl, rfl, trivial⟩)), rfl⟩
   ·omega
   ·omega
   ·omega
   ·exact hrest
   exact hl1
  refine tEx <| tQ ?_
  have hge : l.length <= k := by simpa using hc16
  rw [List.drop_eq_nil_of_le hge] at hI2
  obtain rfl := y5l hI2
  refine tG <| cV rfl (bPu rfl rfl tZ82 tP82 rfl (fbk rfl) rfl) <| WL.sub (Sub.cons2 (fun _ _ _ _ h => z4v zf8 h) Sub.rfl') <| c0 (sBA rfl rfl rfl rfl rfl ((fun h => h)) tS82 (flk rfl) (lb rfl)) <| nL <| tRt <| rCk (.inl rfl) (fun _ _ ho => lBP ho rfl rfl Tryz.underlying82 rfl tS82 (lb rfl) rfl trivial) rfl (po3 rfl rfl rfl)
theorem y4w {a : List Int} {i n : Nat} {x : Int} (hx : a[i]? = some x) (hn : a.length <= n) : (a.take i ++ List.replicate (n - i) 0).set i x = a.take (i + 1) ++ List.replicate (n - (i + 1)) 0 := by
  have hi : i < a.length := (List.getElem?_eq_some_iff.1 hx).1
  have hl : (a.take i).length = i := by rw [List.length_take]; omega
  rw [List.set_append_right _ _ oM0, hl, Nat.sub_self, show n - i = (n - (i + 1)) + 1 by omega, List.replicate_succ, List.set_cons_zero, List.take_add_one, hx]
  simp
theorem sc_call0 (u : Un) (hub : ∀ f ∈ u.flows, lsW f.body <= 1073741824) (D : Nat) (ihL : SCL u D) (d : Nat) (hd : d <= D) (k : Int) (a : List Int) (s : Rs) (r : Int × Rs) (h : zg8 u d k a s = some r) : SC Tryz.prog 29 [.ptr 1001 0, iInt k, .pv (ints a)] (runH u s) (fun _ => False) (iInt r.1) (runH u r.2) := by
  refine SC.of Tryz.func29 rfl (lb rfl) fun F ρ w => ?_
  refine Tr.lenOf (t := 2) rfl (fun hl => ?_)
  simp only [List.length_map] at hl
  obtain ⟨d1, f, r1, rfl, hk0, hf, hal, hfl, hlist, rfl⟩ := y31 h
  have hif := z0a (f := Fl.enc) hf
  have hfb := hub f (List.mem_of_getElem? hf)
  refine tQ <| tG <| sm 1 rfl <| nL <| tQ <| tG <| sm 1 rfl <| cV rfl (nCk rfl rfl rfl) <| sm 4 rfl <| cV rfl (iSq rfl rfl rfl uT23 hif tS51 rfl oM0) <| cV rfl (lEA rfl rfl Tryz.underlying51 rfl tS51 (lb rfl)) <| cE rfl (aLc (k := 107) rfl tZ51 rfl rfl rfl rfl) ?_
  refine c0 (sBA rfl rfl rfl rfl rfl ((fun h => h)) tS51 (flk rfl) (lb rfl)) <| nL <| tQ <| Tr.freezeBox (t := 7) (k := 107) rfl rfl rfl <| tG <| sm 2 rfl <| cV rfl (oSm uT35 rfl) <| cE rfl (z0u (k := 510) (s := ⟨3, 1⟩) rfl rfl rfl uT35 tZ3 tC3 rfl dC0 oM0 oM0 rfl rfl rfl rfl) <| sm 1 rfl <| nL <| tQ <| tQ ?_
  refine tG <| sm 1 rfl <| nL <| tBk <| Tr.sub (Sub.of (fr' := [(9, iInt 0), (8, .sl 510 f.types.length), (7, .pv (.ept [vStr f.name, vInt f.ty, vInt f.params, ints f.types, z09 f.body] 0)), (0, .ptr 1001 0), (2, .pv (ints a))]) ⟨rfl, rfl, rfl, rfl, rfl, trivial⟩) <| Tr.heap (σ' := look [(1001, some (z4t u s)), (1002, some (rowI (s).out)), (510, some (rowI (a.take 0 ++ List.replicate (f.types.length - 0) 0)))]) (lkq [107, 1001, 1002, 510] rfl rfl ⟨rfl, rfl, rfl, (by exact congrArg (fun z => some (HO.row _ z)) (by rw [List.take_zero, List.nil_append, Nat.sub_zero, List.map_replicate]; rfl)), trivial⟩) ?_
  refine Tr.loop (fun fr σ m => ∃ (i : Nat), (i <= a.length) /\ fr = [(9, iInt i), (8, .sl 510 f.types.length), (7, .pv (.ept [vStr f.name, vInt f.ty, vInt f.params, ints f.types, z09 f.body] 0)), (0, .ptr 1001 0), (2, .pv (ints a))] /\ σ = look [(1001, some (z4t u s)), (1002, some (rowI (s).out)), (510, some (rowI (a.take i ++ List.replicate (f.types.length - i) 0)))] /\ m = a.length - i) (n := a.length - 0) ?_ ?_
  ·exact ⟨0, Nat.zero_le _, rfl, rfl, rfl⟩
  rintro fr σ m ⟨i, hI0, rfl, rfl, rfl⟩
  refine tQ <| tQ <| tG <| sm 2 rfl <| cV rfl (oSm uT35 rfl) <| sm 1 rfl <| nL ?_
  refine tC rfl (fun hc26 => ?_) fun hc26 => ?_
  ·have hlt : i < a.length := by simpa using hc26
   have hil : i < f.types.length := by omega
   obtain ⟨x, hx⟩ : ∃ x, a[i]? = some x := ⟨_, List.getElem?_eq_getElem hlt⟩
   have hi := z0a (f := eInt) hx
   have hvl : ((a.take i ++ List.replicate (f.types.length - i) 0).map eInt).length = f.types.length := by simp; omega
   obtain ⟨z0, hxg⟩ := zx6 (v := (a.take i ++ List.replicate (f.types.length - i) 0)) (i := i) (by rw [hvl]; omega)
   refine tSk <| tQ <| tBk <| tG <| sm 4 rfl <| cV rfl (iSq rfl rfl rfl uT35 hi tS3 rfl (by rfl)) <| sm 1 rfl <| cV rfl (iRw rfl rfl rfl rfl hvl uT35 tS3 hil rfl) <| c0 (z1n rfl rfl rfl rfl hvl (Nat.add_zero _).symm hxg sI0 tS3 rfl sI0) <| nL <| tG <| sm 1 rfl ?_
   refine cV rfl (oB rfl rfl (z03 rfl oM0)) <| sm 1 rfl <| nL ?_
   refine ⟨_, _, ?_, Sub.of (fr' := [(9, iInt (i + 1)), (8, .sl 510 f.types.length), (7, .pv (.ept [vStr f.name, vInt f.ty, vInt f.params, ints f.types, z09 f.body] 0)), (0, .ptr 1001 0), (2, .pv (ints a))]) ⟨rfl, rfl, rfl, rfl, rfl, trivial⟩, (i + 1), ?_, rfl, (funext (lkq [1001, 1002, 510] rfl rfl ⟨rfl, rfl, (congrArg (fun z => some (HO.row _ z)) ((z3x _ _ _ _ hxg).trans (congrArg (List.map eInt) (y4w hx hal)))), trivial⟩)), rfl⟩
   ·omega
   omega
  refine tEx <| tQ ?_
  have he : (a.take i ++ List.replicate (f.types.length - i) 0) = a ++ List.replicate (f.types.length - a.length) 0 := by
    have hge : a.length <= i := by simpa using hc26
    obtain rfl : i = a.length := by omega
    rw [List.take_length]
  rw [he]
  have hvl2 : ((a ++ List.replicate (f.types.length - a.length) 0).map eInt).length = f.types.length := by simp; omega
  refine tG <| sm 4 rfl <| cE rfl (cRr (ihL d1 oM0 f.body (a ++ List.replicate (f.types.length - a.length) 0) s r1 hlist hfb) ent49 rfl rfl (sSm rfl (sSm rfl (sSm (congrArg (fun n => IV.sl 510 n) hvl2.symm) Subs.nil))) (po3 rfl rfl rfl) (by rfl) (fun k (h : _) => .inr h) rfl (by rfl)) <| cE rfl (aLc (k := 110) rfl tZ82 rfl rfl rfl rfl) <| c0 (sBA rfl rfl rfl rfl rfl ((fun h => h)) tS82 (flk rfl) (lb rfl)) <| nL <| tQ <| tQ <| tG <| sm 1 rfl <| cE rfl (ocr (z7q u r1.2.2) zu2 rfl (po2 rfl rfl) rfl (fun k (h : _) => .inr trivial) rfl rfl) <| sm 1 rfl ?_
  refine wS 43 rfl (fun hb43 => ?_) fun hb43 => ?_
  ·refine sm 5 rfl <| nL <| Tr.condT rfl <| tQ <| tG <| sm 1 rfl <| nL <| tRt <| rOk rfl ?_ (po2 rfl rfl)
   (rw [if_pos hb43]; done)
  refine sm 2 rfl <| yV rfl rfl (oSm uT35 rfl) <| sm 2 rfl <| nL ?_
  refine tC rfl (fun hc48 => ?_) fun hc48 => ?_
  ·refine tQ <| tG <| sm 1 rfl <| nL <| tRt <| rOk rfl ?_ (po2 rfl rfl)
   (have hz : r1.1.2 = [] := by simpa using hc48
    rw [hz]
    split <;> rfl)
  obtain ⟨x, q, hxq⟩ : ∃ x q, r1.1.2 = x :: q := by
    cases hz : r1.1.2 with
    | nil => rw [hz] at hc48; simp at hc48
    | cons x q => exact ⟨x, q, rfl⟩
  have hi0 : (r1.1.2.map eInt)[0]? = some (eInt x) := by rw [hxq]; rfl
  refine tSk <| tQ <| tG <| sm 2 rfl <| cV rfl (iSq rfl rfl rfl uT35 hi0 tS3 rfl (by rfl)) <| sm 2 rfl <| nL <| tRt <| rOk rfl ?_ (po2 rfl rfl)
  rw [if_neg (by rw [hb43]; decide), hxq]
  rfl
theorem z84 (u : Un) (hu : u.arrays = []) (hub : ∀ f ∈ u.flows, lsW f.body <= 1073741824) : ∀ D, SCC u D /\ SCL u D
  | 0 => ⟨fun _ h => absurd h (Nat.not_lt_zero _), fun _ h => absurd h (Nat.not_lt_zero _)⟩
  | D + 1 => ⟨fun d hd k a s r h => sc_call0 u hub D (z84 u hu hub D).2 d (Nat.le_of_lt_succ hd) k a s r h,
      fun d hd l v s r h hb => sc_list0 u hu D (z84 u hu hub D).1 (z84 u hu hub D).2 d (Nat.le_of_lt_succ hd) l v s r h hb⟩
def run0 (ins : List Int) (fuel : Int) : Rs := { ins := ins, ar := [], st := 0, code := 0, out := [], cost := 0, fuel := if fuel < 0 then 0 else fuel, spent := false }
def mEnd (r : Int × Rs) : Rs := if z40 r.2 then r.2 else { r.2 with st := 1, code := r.1 }
def runv (s : Rs) : PV := .agg [vInt s.st, vInt s.code, ints s.out, vInt s.cost, vInt s.fuel]
theorem sc_run0 (u : Un) (hu : u.arrays = []) (hW : z0r u <= 536870912) (hz : (z27 u).1 = 0) (ins : List Int) (fuel : Int) (d : Nat) (r : Int × Rs) (h : zg8 u d (z07 z1t u.flows 0) [] (run0 ins fuel) = some r) : SC Tryz.prog 17 [.pv u.enc, .pv (ints ins), iInt fuel] [] (fun _ => False) (.pv (runv (mEnd r))) [] := by
  refine SC.ofC Tryz.func17 rfl (lb rfl) rfl fun F ρ w => ?_
  have hub : ∀ f ∈ u.flows, lsW f.body <= 1073741824 := fun f hf => Nat.le_trans (y0j hW hf) oM0
  have hcall := (z84 u hu hub (d + 1)).1 d (Nat.lt_succ_self d) _ _ _ _ h
  refine tQ <| tG <| cE rfl (z1c rfl rfl) <| cE rfl (aLc (k := 106) rfl tZ46 rfl rfl rfl rfl) <| nL <| tQ <| tQ <| tG <| cV rfl (lEA rfl rfl uT25 rfl tS25 (lb rfl)) <| cE rfl (ocq (zb0 u hW) ent19 rfl rfl) <| sm 1 rfl <| cV rfl (z1o rfl rfl rfl) ?_
  refine cV rfl (z1o rfl rfl rfl) <| sm 2 rfl <| nL <| tQ <| tG <| sm 2 rfl <| nL ?_
  refine tC rfl (fun hc18 => ?_) fun hc18 => ?_
  ·exact absurd hc18 (by rw [hz]; decide)
  refine tSk <| tQ <| tG <| cV rfl (lEA rfl rfl uT25 rfl tS25 (lb rfl)) <| sm 2 rfl <| cV rfl (ok_max rfl rfl rfl) <| cV rfl (bPu rfl rfl tZ46 tP46 rfl (fbk rfl) rfl) <| cV rfl (bPu rfl rfl tZ70 tP70 rfl (fbk rfl) rfl) <| cE rfl (z81 (k := 1001) rfl rfl rfl rfl rfl rfl) <| sm 1 rfl <| nL <| tQ ?_
  refine tQ <| Tr.growCell (k := 1002) (k2 := 1001) (j := 6) ⟨3, 1⟩ rfl rfl rfl rfl rfl rfl <| tG <| sm 1 rfl <| nL <| tBk <| Tr.sub (Sub.of (fr' := [(10, iInt 0), (9, .ptr 1001 0), (6, .ptr 106 0), (3, .pv (.ept [arrs u.arrays, flws u.flows] 0))]) ⟨rfl, rfl, rfl, rfl, trivial⟩) <| Tr.heap (σ' := look [(106, some (.box [iInt 0, iInt 0, .pv (.val (.slice none 0 0)), iInt 0, iInt 0])), (1001, some (z4t u (run0 ins fuel))), (1002, some (rowI []))]) (lkq [106, 1001, 1002] rfl rfl ⟨rfl, rfl, rfl, trivial⟩) ?_
  refine Tr.loop (fun fr σ m => fr = [(10, iInt 0), (9, .ptr 1001 0), (6, .ptr 106 0), (3, .pv (.ept [arrs u.arrays, flws u.flows] 0))] /\ σ = look [(106, some (.box [iInt 0, iInt 0, .pv (.val (.slice none 0 0)), iInt 0, iInt 0])), (1001, some (z4t u (run0 ins fuel))), (1002, some (rowI []))] /\ m = 0) (n := 0) ?_ ?_
  ·exact ⟨rfl, rfl, rfl⟩
  rintro fr σ m ⟨rfl, rfl, rfl⟩
  refine tQ <| tQ <| tG <| sm 3 rfl <| cV rfl (oSm uT22 rfl) <| sm 1 rfl <| nL ?_
  refine tC rfl (fun hc31 => ?_) fun hc31 => ?_
  ·exact absurd hc31 (by rw [hu]; simp)
  refine tEx <| tQ <| tG <| sm 1 rfl <| cV rfl (lEA rfl rfl uT25 rfl tS25 (lb rfl)) <| cE rfl (ocq (z53 _ _) y2t rfl rfl) <| cE rfl (cRr (hcall) ent29 rfl rfl (sSm rfl (sSm rfl (Subs.cons (fun _ _ _ _ h => z4v PSub.nil h) Subs.nil))) (po2 rfl rfl) (by rfl) (fun k (h : _) => .inr h) rfl (by rfl)) <| sm 1 rfl <| nL <| tQ <| tQ <| tG ?_
  refine sm 1 rfl <| cE rfl (ocr (z7q u r.2) zu2 rfl (po2 rfl rfl) rfl (fun k (h : _) => .inr trivial) rfl rfl) <| sm 1 rfl <| nL ?_
  refine tC rfl (fun hc56 => ?_) fun hc56 => ?_
  ·have hend : mEnd r = { r.2 with st := 1, code := r.1 } := if_neg (by intro hh; rw [hh] at hc56; exact absurd hc56 dC0)
   refine tG <| sm 3 rfl <| cV rfl (nCk rfl rfl rfl) <| sm 2 rfl <| c0 (sBx rfl rfl rfl rfl ((fun h => h)) tS3 (rfl) (lb rfl)) <| cV rfl (nCk rfl rfl rfl) <| sm 2 rfl <| c0 (sBx rfl rfl rfl rfl ((fun h => h)) tS3 (rfl) (lb rfl)) <| nL <| tQ <| Tr.freezeCell (k := 1002) (k2 := 1001) (j := 6) (n := (r.2.out.map eInt).length) rfl rfl rfl rfl dC0 <| tG ?_
   refine sm 1 rfl <| cV rfl (nCk rfl rfl rfl) <| sm 1 rfl <| cV rfl (lBP rfl rfl rfl Tryz.underlying46 rfl tS46 (lb rfl) rfl trivial) <| c0 (sBA rfl rfl rfl rfl rfl ((fun h => h)) tS46 (flk rfl) (lb rfl)) <| nL <| tRt ?_
   rw [hend]
   refine rCk (.inl rfl) (fun _ _ ho => lBP ho rfl rfl Tryz.underlying46 rfl tS46 (lb rfl) rfl trivial) rfl nPo
  have hend : mEnd r = r.2 := if_pos (by simpa using hc56)
  refine tSk <| tQ <| Tr.freezeCell (k := 1002) (k2 := 1001) (j := 6) (n := (r.2.out.map eInt).length) rfl rfl rfl rfl dC0 <| tG <| sm 1 rfl <| cV rfl (nCk rfl rfl rfl) <| sm 1 rfl <| cV rfl (lBP rfl rfl rfl Tryz.underlying46 rfl tS46 (lb rfl) rfl trivial) <| c0 (sBA rfl rfl rfl rfl rfl ((fun h => h)) tS46 (flk rfl) (lb rfl)) <| nL <| tRt ?_
  rw [hend]
  refine rCk (.inl rfl) (fun _ _ ho => lBP ho rfl rfl Tryz.underlying46 rfl tS46 (lb rfl) rfl trivial) rfl nPo
set_option maxRecDepth 20000
theorem sc_right (u : Un) (hW : z0r u <= 536870912) : SC Tryz.prog 12 [.pv u.enc] [] (fun k => k ∈ []) (iBool (zz7 u)) [] := by
  refine SC.vc tb {} [] Tryz.func12 rfl rfl ?_
  have hW2 : z0r u = u.arrays.length + u.flows.length + wtA u.arrays + wtF u.flows := rfl
  refine ⟨Nat, fun k => [(3, iInt k)], fun _ => [], fun k => u.flows.length - k, fun k => k <= u.flows.length /\ zz7 u = (u.flows.drop k).all fun f => fiL f.body, [], 0, ⟨Nat.zero_le _, rfl⟩, ⟨rfl, trivial⟩, trivial, ?_⟩
  rintro k ⟨hk, hI⟩
  refine z1j (fun hc => ?_) fun hc => ?_
  · have hlt := z9c (f := Fl.enc) rfl hc
    obtain ⟨x, hx, _, hd, hm⟩ := z7d hlt
    have hb := y4p hW hm
    rw [hd, List.all_cons] at hI
    refine ⟨z0a (f := Fl.enc) hx, rfl, [], y6b _ x.body (Nat.lt_succ_self _) oM0, sR, trivial, rfl, z1j (fun h1 => ?_) fun h1 => ?_⟩
    · have h1' : fiL x.body = false := by simpa using h1
      exact ⟨sE (by rw [hI, h1', Bool.false_and]), trivial⟩
    · have h1' : fiL x.body = true := by simpa using h1
      exact ⟨z03 rfl oM0, k + 1, z2h hlt, ⟨hlt, by rw [hI, h1', Bool.true_and]⟩, ⟨rfl, trivial⟩, trivial, rfl, rfl, rfl, rfl⟩
  · rw [List.drop_eq_nil_of_le (z96 (f := Fl.enc) rfl hc)] at hI
    exact ⟨sE (by rw [hI]; rfl), trivial⟩
theorem zh1 (l : List Nd) : z17 (trB l) <= z17 l := y38 l
theorem sc_fits (u : Un) (hW : z0r u <= 536870912) : SC Tryz.prog 9 [.pv u.enc] [] (fun k => k ∈ []) (iBool true) [] := by
  refine SC.vc tb {} [] Tryz.func9 rfl rfl ?_
  refine ⟨[], y13 u hW, sR, trivial, rfl, [], zb0 u hW, sR, trivial, rfl, z1j (fun hc => ?_) fun hc => ?_⟩
  · have hH := za6 trB (u := u) (by simpa using hc)
    rw [hH]
    exact ⟨[], y6f ⟨[], []⟩ ⟨[], []⟩, SubA.same (SubA.cons sEmp SubA.nil), trivial, rfl, sI, trivial⟩
  · have hz : (z27 u).1 = 0 := by simpa using hc
    have hH := z5d trB hz
    have hK := zm2 hz
    have hS := y11 trB (u := u) (by rw [z85]; exact hz)
    have hw := z9l trB zh1 u
    rw [hH] at hw ⊢
    refine ⟨[], zb0 (z2y trB u) (Nat.le_trans hw hW), sR, trivial, rfl, ?_⟩
    rw [hK]
    exact ⟨[], zy5 u (z2y trB u), sR, trivial, rfl, sE (by rw [hS]), trivial⟩
theorem y6w (ts : List Int) (l : List Nd) : SC Tryz.prog 16 [.pv (ints ts), .pv (z09 l)] [] (fun k => k ∈ []) (.pv (.agg [.val (.slice none 0 0), flws [⟨z1t, 1, 0, ts, l⟩]])) [] := by
  refine SC.vc tb {} [] Tryz.func16 rfl rfl ?_
  exact ⟨sI, trivial⟩
set_option maxRecDepth 20000
def wakeL : List Nd := [.mk 8 0 0 ⟨#[]⟩ [] [0] [] [], .mk 11 0 0 ⟨#[]⟩ [] [1] [] [[.mk 9 0 0 ⟨#[]⟩ [0] [] [] [], .mk 14 0 0 ⟨#[]⟩ [0] [] [] []]], .mk 15 0 0 ⟨#[]⟩ [1] [] [] []]
def zt0 : Un := ⟨[], [⟨z1t, 1, 0, [1, 1], wakeL⟩]⟩
theorem z88 : (z27 zt0).1 = 0 := by decide +kernel
theorem zl1 : z0r zt0 <= 536870912 := by decide +kernel
theorem y81 : ((zg8 (z2y trB zt0) 20 (z07 z1t (z2y trB zt0).flows 0) [] (run0 [3] 5)).map fun r => (z40 r.2, r.1, r.2.out)) = some (false, 3, [3]) := by decide +kernel
theorem wake_run : ∃ r, zg8 (z2y trB zt0) 20 (z07 z1t (z2y trB zt0).flows 0) [] (run0 [3] 5) = some r /\ (mEnd r).st = 1 /\ (mEnd r).code = 3 /\ (mEnd r).out = [3] := by
  have h := y81
  rw [Option.map_eq_some_iff] at h
  obtain ⟨r, h1, h2⟩ := h
  simp only [Prod.mk.injEq] at h2
  refine ⟨r, h1, ?_, ?_, ?_⟩
  · simp only [mEnd, h2.1, Bool.false_eq_true, if_false]
  · simp only [mEnd, h2.1, Bool.false_eq_true, if_false, h2.2.1]
  · simp only [mEnd, h2.1, Bool.false_eq_true, if_false, h2.2.2]
def rawN (k n : Int) (a o : PV) (ks : PV) : List PV := [vInt k, vInt 0, vInt n, vStr ⟨#[]⟩, a, o, .val (.slice none 0 0), ks]
def y80 : PV := .seq [rawN 8 0 (.val (.slice none 0 0)) (.seq [[vInt 0]]) (.val (.slice none 0 0)), rawN 11 0 (.val (.slice none 0 0)) (.seq [[vInt 1]]) (.seq [[.seq [rawN 9 0 (.seq [[vInt 0]]) (.val (.slice none 0 0)) (.val (.slice none 0 0)), rawN 14 0 (.seq [[vInt 0]]) (.val (.slice none 0 0)) (.val (.slice none 0 0))]]]), rawN 15 0 (.seq [[vInt 1]]) (.val (.slice none 0 0)) (.val (.slice none 0 0))]
theorem wake_sub : PSub y80 (z09 wakeL) := by
  show PSub _ (.seq [_, _, _])
  repeat' (first | exact PSub.nil | exact PSub.refl _ | exact trivial | refine And.intro ?_ ?_ | refine PSub.seq (ps := [_, _, _]) (qs := [_, _, _]) ?_ | refine PSub.seq (ps := [_, _]) (qs := [_, _]) ?_ | refine PSub.seq (ps := [_]) (qs := [_]) ?_)
theorem y2r : z5c trB ⟨[], []⟩ = (⟨[], []⟩, 1) := za6 trB (by decide +kernel)
theorem y69 (L : List Nd) (hL : PSub y80 (z09 L)) (V : Un) (hH : z5c trB ⟨[], [⟨z1t, 1, 0, [1, 1], L⟩]⟩ = (V, 0)) (hW : z0r ⟨[], [⟨z1t, 1, 0, [1, 1], L⟩]⟩ <= 536870912) (hVa : V.arrays = []) (hVl : V.flows.length = 1) (hVr : zz7 V = true) (hVW : z0r V <= 536870912) (hVz : (z27 V).1 = 0)
    (r : Int × Rs) (hr : zg8 V 20 (z07 z1t V.flows 0) [] (run0 [3] 5) = some r) (h1 : (mEnd r).st = 1) (h2 : (mEnd r).code = 3) (h3 : (mEnd r).out = [3]) : SC Tryz.prog 7 [] [] (fun k => k ∈ []) (iBool true) [] := by
  refine SC.vc tb {} [] Tryz.func7 rfl rfl ?_
  have hsc := y13 ⟨[], [⟨z1t, 1, 0, [1, 1], L⟩]⟩ hW
  rw [hH] at hsc
  have hse := y13 ⟨[], []⟩ dC0
  rw [y2r] at hse
  refine ⟨[], y6w [1, 1] L, SubA.same (SubA.cons (sP hL) SubA.nil), trivial, rfl, ?_⟩
  refine ⟨[], hsc, SubA.cons (sP (PSub.agg ⟨PSub.nil, PSub.refl _, trivial⟩)) SubA.nil, trivial, rfl, ?_⟩
  have hrun := sc_run0 V hVa hVW hVz [3] 5 20 r hr
  rw [show runv (mEnd r) = .agg [vInt 1, vInt 3, .seq [[vInt 3]], vInt (mEnd r).cost, vInt (mEnd r).fuel] by simp only [runv, h1, h2, h3]; rfl] at hrun
  have hsr := sc_right V hVW
  rw [hVr] at hsr
  refine ⟨[], hrun, sR, trivial, rfl, z1j (fun hl => ?_) fun hl => by simp [hVl] at hl⟩
  exact ⟨[], hsr, sR, trivial, rfl, at0, rfl, [], hse, SubA.cons sEmp SubA.nil, trivial, rfl, sI, trivial⟩
theorem sc_awake : SC Tryz.prog 7 [] [] (fun k => k ∈ []) (iBool true) [] := by
  obtain ⟨r, hr, h1, h2, h3⟩ := wake_run
  have hc := zm2 z88
  exact y69 wakeL wake_sub (z2y trB zt0) (z5d trB z88) zl1 rfl rfl (by have := y3i zt0; rw [z5d trB z88] at this; exact this) (by have := z9l trB zh1 zt0; rw [z5d trB z88] at this; exact Nat.le_trans this zl1) (by rw [hc]) r hr h1 h2 h3
set_option maxRecDepth 20000
theorem y3n (u : Un) (hW : z0r u <= 536870912) : SC Tryz.prog 3 [.pv u.enc] [] (fun k => k ∈ []) (iBool true) [] := by
  refine SC.vc tb {} [] Tryz.func3 rfl rfl ?_
  exact ⟨[], sc_awake, sR, trivial, rfl, [], y17 u oM0, sR, trivial, rfl, z1j (fun _ => ⟨sI, trivial⟩) fun _ => ⟨[], sc_fits u hW, sR, trivial, rfl, sI, trivial⟩⟩
section
open Go Go.ChangeShapes Go.WideShapes Go.ChangeAt Go.RowKit
section
variable {H : Type} {enc : TypeId × Value -> H} {P : Program} {w : World} {base : Nat} {spare : Nat -> Bool} {held : Bool}
def RepEl (own : Nat -> Prop) (w : World) (ps : List PV) (cs : List Value) : Prop := ps.length = cs.length /\ ∀ (j : Nat) p v, ps[j]? = some p -> cs[j]? = some v -> RepP own w p v
theorem RepEl.nil {own : Nat -> Prop} : RepEl own w [] [] := ⟨rfl, fun j p v h => by simp at h⟩
theorem RepEl.cons {own : Nat -> Prop} {p : PV} {v : Value} {ps : List PV} {cs : List Value} (h : RepP own w p v) (hr : RepEl own w ps cs) : RepEl own w (p :: ps) (v :: cs) := by
  refine ⟨by simp [hr.1], fun j q x hq hx => ?_⟩
  cases j with
  | zero => simp at hq hx; subst hq; subst hx; exact h
  | succ j => exact hr.2 j q x (by simpa using hq) (by simpa using hx)
theorem zm3 {α : Type} (f : α -> List PV) (wt : α -> Nat) {own : Nat -> Prop} (R : Nat -> DataW H × List MemPlace -> List Value -> Prop)
    (hR : ∀ i y cs, R i y cs -> ∃ z : α, RepEl own w (f z) cs /\ wt z + 1 <= Rows.uptoBulk y.1) :
    ∀ (ys : List (DataW H × List MemPlace)) (s : Nat), (∀ i y, ys[i]? = some y -> ∃ cs, R (s + i) y cs) ->
      ∃ l : List α, l.length = ys.length /\ (∀ i z, l[i]? = some z -> ∃ y cs, ys[i]? = some y /\ R (s + i) y cs /\ RepEl own w (f z) cs) /\ (l.map wt).sum + l.length <= Rows.uptoBulkAll (ys.map (·.1))
  | [], _, _ => ⟨[], rfl, fun i z h => by simp at h, by simp [Rows.uptoBulkAll]⟩
  | y :: ys, s, h => by
    obtain ⟨cs, hcs⟩ := h 0 y rfl
    obtain ⟨z, hz, hw⟩ := hR _ _ _ hcs
    obtain ⟨l, hl, hg, hb⟩ := zm3 f wt R hR ys (s + 1) (fun i y' hy => by
      have := h (i + 1) y' (by simpa using hy)
      rwa [show s + 1 + i = s + (i + 1) by omega])
    refine ⟨z :: l, by simp [hl], fun i z' hz' => ?_, ?_⟩
    ·cases i with
     | zero => simp at hz'; subst hz'; exact ⟨y, cs, rfl, hcs, hz⟩
     | succ i =>
       obtain ⟨y', cs', h1, h2, h3⟩ := hg i z' (by simpa using hz')
       exact ⟨y', cs', by simpa using h1, by rwa [show s + (i + 1) = s + 1 + i by omega], h3⟩
    simp only [List.map_cons, List.sum_cons, List.length_cons, Rows.uptoBulkAll]; omega
theorem z7w {α : Type} (f : α -> List PV) (wt : α -> Nat) {own : Nat -> Prop} (hown : ∀ b, b < w.heap.size -> ¬ own b) {t e : TypeId} {fuel : Nat} {cs : List Value} {x : DataW H × List MemPlace} {N : Nat} (ht : P.underlying t = some (.slice e)) (hC : P.cellsOf e = N) (hN : 0 < N)
    (h : DataW.trod enc P w base spare held fuel t cs = some x)
    (hel : ∀ n cs' y, n < fuel -> cs'.length = N -> DataW.trod enc P w base spare held n e cs' = some y -> ∃ z : α, RepEl own w (f z) cs' /\ wt z + 1 <= Rows.uptoBulk y.1) :
    ∃ (l : List α) (v : Value), cs = [v] /\ RepP own w (.seq (l.map f)) v /\ (l.map wt).sum + l.length + 1 <= Rows.uptoBulk x.1 := by
  rcases DataW.trod_slice ht h with ⟨rfl, rfl⟩ | ⟨a, len, cap, elems, rest, n, rfl, rfl, rfl, hb, hl, hm, hlen, hg, _, _⟩
  ·refine ⟨[], _, rfl, ?_, by simp [Rows.uptoBulk]⟩
   have := RepP.seq (own := own) (w := w) [] none 0 0 0 (fun _ _ => default) (fun h => absurd rfl h) (fun h => absurd rfl h) (Nat.le_refl _) (Nat.zero_le _) (fun i el h => by simp at h) (fun i el h => by simp at h)
   simpa using this
  obtain ⟨l, hll, hat, hsum⟩ := zm3 (w := w) f wt (own := own) (fun i y cs => w.cells? base (a.add (i * P.cellsOf e)) (P.cellsOf e) = some cs /\ DataW.trod enc P w base spare held n e cs = some y)
    (fun i y cs' hr => hel n cs' y (Nat.lt_succ_self _) (by rw [(World.cells?_some hr.1).2.1, hC]) hr.2) elems 0 (fun i y hy => by
      have hlt : i < len := by rw [<- hlen]; exact (List.getElem?_eq_some_iff.1 hy).1
      have h1 := hg i hlt
      rw [hy, Option.bind_eq_some_iff] at h1
      obtain ⟨cs', h2, h3⟩ := h1
      exact ⟨cs', by rw [Nat.zero_add]; exact h2, h3⟩)
  obtain ⟨ab, ao, asp⟩ := a
  have hlen2 : l.length = len := by rw [hll, hlen]
  -- a cell that can be read
  have hsp : l ≠ [] -> asp = none /\ ab < w.heap.size := by
    intro hne
    obtain ⟨z, r, rfl⟩ := List.exists_cons_of_ne_nil hne
    obtain ⟨y, cs', _, hr, hrep⟩ := hat 0 z rfl
    obtain ⟨_, hcl, hcell⟩ := World.cells?_some hr.1
    have h0 := hcell 0 (by rw [hC]; exact hN)
    have hlt : 0 < cs'.length := by rw [hcl, hC]; exact hN
    rw [List.getElem?_eq_getElem hlt] at h0
    unfold World.cell? at h0
    have e0 : (Addr.add (Addr.add ⟨ab, ao, asp⟩ ((0 + 0) * P.cellsOf e)) 0) = ⟨ab, ao, asp⟩ := by simp [Addr.add]
    rw [e0] at h0
    split at h0
    ·rename_i hh
     refine ⟨?_, (Array.getElem?_eq_some_iff.1 hh).1⟩
     cases asp with
     | none => rfl
     | some _ => simp at h0
    cases h0
  refine ⟨l, _, rfl, ?_, ?_⟩
  ·-- the cells of an element
   have key : ∀ i z, l[i]? = some z -> ∃ cs', RepEl own w (f z) cs' /\ cs'.length = N /\ ∀ j, j < N -> w.cell? ⟨ab, ao + i * N + j, none⟩ = cs'[j]? := by
     intro i z hz
     obtain ⟨y, cs', _, hr, hrep⟩ := hat i z hz
     obtain ⟨_, hcl, hcell⟩ := World.cells?_some hr.1
     refine ⟨cs', hrep, hcl.trans hC, fun j hj => ?_⟩
     have h1 := hcell j (by rw [hC]; exact hj)
     have hne : l ≠ [] := by intro e; subst e; simp at hz
     have hs := (hsp hne).1
     subst hs
     rw [<- h1, Addr.add_mid, Addr.add_mid, hC, Nat.zero_add]
   have hrep := RepP.seq (own := own) (w := w) (l.map f) (some ⟨ab, ao, asp⟩) cap ab ao (fun i j => (w.cell? ⟨ab, ao + i * N + j, none⟩).getD default)
     (fun hne => by rw [(hsp (by intro e; subst e; exact hne rfl)).1]) (fun hne => by
       have := (hsp (by intro e; subst e; exact hne rfl)).2
       exact ⟨hown _ this, this⟩) (by simp; omega) hm ?_ ?_
   ·rw [List.length_map, hlen2] at hrep; exact hrep
   ·intro i el hi j c hj
    rw [List.getElem?_map, Option.map_eq_some_iff] at hi
    obtain ⟨z, hz, rfl⟩ := hi
    obtain ⟨cs', hrep, hcl, hcell⟩ := key i z hz
    have hjN : j < N := by have := (List.getElem?_eq_some_iff.1 hj).1; rw [hrep.1, hcl] at this; exact this
    have h1 := hcell j hjN
    have hfl : (f z).length = N := by rw [hrep.1, hcl]
    rw [hfl, h1, List.getElem?_eq_getElem oM0]
    rfl
   intro i el hi j c hj
   rw [List.getElem?_map, Option.map_eq_some_iff] at hi
   obtain ⟨z, hz, rfl⟩ := hi
   obtain ⟨cs', hrep, hcl, hcell⟩ := key i z hz
   have hjN : j < N := by have := (List.getElem?_eq_some_iff.1 hj).1; rw [hrep.1, hcl] at this; exact this
   have h1 := hcell j hjN
   rw [List.getElem?_eq_getElem oM0] at h1
   rw [h1]
   exact hrep.2 j c _ hj (List.getElem?_eq_getElem oM0)
  simp only [Rows.uptoBulk]; omega
theorem z9t {own : Nat -> Prop} (hown : ∀ b, b < w.heap.size -> ¬ own b) {t e : TypeId} {fuel : Nat} {cs : List Value} {x : DataW H × List MemPlace} (ht : P.underlying t = some (.slice e)) (he : P.underlying e = some (.int .i64)) (hC : P.cellsOf e = 1)
    (h : DataW.trod enc P w base spare held fuel t cs = some x) : ∃ (l : List Int) (v : Value), cs = [v] /\ RepP own w (ints l) v /\ l.length + 1 <= Rows.uptoBulk x.1 := by
  obtain ⟨l, v, h1, h2, h3⟩ := z7w eInt (fun _ => 0) hown ht hC dC0 h (fun n cs' y _ _ hy => by
    obtain ⟨k, rfl, rfl, _⟩ := DataW.trod_int he hy
    exact ⟨k, RepEl.cons (.val _) .nil, by simp [Rows.uptoBulk]⟩)
  exact ⟨l, v, h1, h2, by omega⟩
end
end
section
open Go Go.ChangeShapes Go.WideShapes Go.ChangeAt Go.RowKit Go.Deep
section
variable {H : Type} {enc : TypeId × Value -> H} {w : World} {base : Nat} {spare : Nat -> Bool} {held : Bool}
theorem z6z {P : Program} {t : TypeId} {fs : Array Field} {fuel : Nat} {cs : List Value} {x : DataW H × List MemPlace} (hs : P.underlying t = some (.struct fs)) (hone : oneCellFields P fs = true)
    (h : DataW.trod enc P w base spare held fuel t cs = some x) : ∃ (xs : List (DataW H × List MemPlace)) (n : Nat), fuel = n + 1 /\ x.1 = .agg (xs.map (·.1)) /\ xs.length = fs.size /\
      ∀ (j : Nat) (f : Field) (v : Value) y, fs[j]? = some f -> cs[j]? = some v -> xs[j]? = some y -> DataW.trod enc P w base spare held n f.type [v] = some y := by
  obtain ⟨xs, n, hn, rfl, hl, hxl, hg⟩ := DataW.trod_struct hs h
  refine ⟨xs, n, hn, rfl, hxl, fun j f v y hf hv hy => ?_⟩
  obtain ⟨ho, hk⟩ := hone_of hone j f hf
  have h1 := hg j f hf
  rw [ho, hk] at h1
  have hjl : j < cs.length := (List.getElem?_eq_some_iff.1 hv).1
  have hvv : cs[j] = v := (List.getElem?_eq_some_iff.1 hv).2
  rw [List.drop_eq_getElem_cons hjl] at h1
  simp only [List.take_succ_cons, List.take_zero, hvv] at h1
  rw [h1, hy]
theorem y1f (s : ByteArray) : s.data.toList.length = s.size := Array.length_toList
theorem len2 {α : Type} : ∀ {l : List α}, l.length = 2 -> ∃ a b, l = [a, b]
  | [a, b], _ => ⟨a, b, rfl⟩
theorem len5 {α : Type} : ∀ {l : List α}, l.length = 5 -> ∃ a b c d e, l = [a, b, c, d, e]
  | [a, b, c, d, e], _ => ⟨a, b, c, d, e, rfl⟩
theorem len8 {α : Type} : ∀ {l : List α}, l.length = 8 -> ∃ a b c d e f g h, l = [a, b, c, d, e, f, g, h]
  | [a, b, c, d, e, f, g, h], _ => ⟨a, b, c, d, e, f, g, h, rfl⟩
theorem y85 : ∀ l : List Nd, wtL l = (l.map wtN).sum
  | [] => rfl
  | x :: r => by simp [wtL, y85 r]
theorem y84 : ∀ l : List (List Nd), wtK l = (l.map fun q => q.length + wtL q).sum + l.length
  | [] => rfl
  | x :: r => by simp only [wtK, y84 r, List.map_cons, List.sum_cons, List.length_cons]; omega
theorem zo4 {own : Nat -> Prop} (hown : ∀ b, b < w.heap.size -> ¬ own b) : ∀ (N fuel : Nat) (cs : List Value) (x : DataW H × List MemPlace), fuel < N -> DataW.trod enc Tryz.prog w base spare held fuel 43 cs = some x ->
    ∃ (l : List Nd) (v : Value), cs = [v] /\ RepP own w (z09 l) v /\ wtL l + l.length + 1 <= Rows.uptoBulk x.1
  | 0, fuel, _, _, h, _ => absurd h (Nat.not_lt_zero _)
  | N + 1, fuel, cs, x, hN, h => by
    obtain ⟨l, v, h1, h2, h3⟩ := z7w Nd.enc wtN hown uT43 (N := 8) kR0 dC0 h (fun n cs' y hn hcl hy => by
      obtain ⟨xs, m, rfl, hx, hxl, hf⟩ := z6z uT42 kR0 hy
      obtain ⟨c0, c1, c2, c3, c4, c5, c6, c7, rfl⟩ := len8 hcl
      obtain ⟨y0, y1, y2, y3, y4, y5, y6, y7, rfl⟩ := len8 hxl
      obtain ⟨k0, e0, f0, _⟩ := DataW.trod_int uT3 (hf 0 _ _ _ rfl rfl rfl)
      obtain ⟨k1, e1, f1, _⟩ := DataW.trod_int uT3 (hf 1 _ _ _ rfl rfl rfl)
      obtain ⟨k2, e2, f2, _⟩ := DataW.trod_int uT3 (hf 2 _ _ _ rfl rfl rfl)
      obtain ⟨s, e3, f3, _⟩ := DataW.trod_string uT9 (hf 3 _ _ _ rfl rfl rfl)
      obtain ⟨as_, v4, e4, r4, b4⟩ := z9t hown uT35 uT3 kR0 (hf 4 _ _ _ rfl rfl rfl)
      obtain ⟨os_, v5, e5, r5, b5⟩ := z9t hown uT35 uT3 kR0 (hf 5 _ _ _ rfl rfl rfl)
      obtain ⟨ps_, v6, e6, r6, b6⟩ := z9t hown uT35 uT3 kR0 (hf 6 _ _ _ rfl rfl rfl)
      obtain ⟨ks, v7, e7, r7, b7⟩ := z7w eKid (fun q => q.length + wtL q) hown uT40 (N := 1) kR0 dC0 (hf 7 _ _ _ rfl rfl rfl) (fun n' cs2 y' hn' _ hy' => by
        obtain ⟨q, v', h1', h2', h3'⟩ := zo4 hown N n' cs2 y' oM0 hy'
        subst h1'
        exact ⟨q, RepEl.cons h2' .nil, by omega⟩)
      cases e0; cases e1; cases e2; cases e3; cases e4; cases e5; cases e6; cases e7
      refine ⟨.mk k0 k1 k2 s as_ os_ ps_ ks, ?_, ?_⟩
      · refine RepEl.cons (.val _) (.cons (.val _) (.cons (.val _) (.cons (.val _) (.cons r4 (.cons r5 (.cons r6 (.cons ?_ .nil)))))))
        rw [Nd.encK_eq]; exact r7
      · rw [hx]
        have hs := y1f s
        simp only [Rows.uptoBulk, Rows.uptoBulkAll, List.map_cons, List.map_nil, f0, f1, f2, f3, wtN, y84, hs]
        omega)
    exact ⟨l, v, h1, h2, by rw [y85]; exact h3⟩
theorem y82 : ∀ l : List Ar, wtA l = (l.map fun a => a.name.size).sum
  | [] => rfl
  | x :: r => by simp [wtA, y82 r]
theorem y83 : ∀ l : List Fl, wtF l = (l.map fun f => f.name.size + f.types.length + z17 f.body).sum
  | [] => rfl
  | x :: r => by simp [wtF, y83 r]
theorem y7g {own : Nat -> Prop} (hown : ∀ b, b < w.heap.size -> ¬ own b) {fuel : Nat} {cs : List Value} {x : DataW H × List MemPlace} (h : DataW.trod enc Tryz.prog w base spare held fuel 25 cs = some x) :
    ∃ u : Un, RepEl own w [arrs u.arrays, flws u.flows] cs /\ z0r u <= Rows.uptoBulk x.1 := by
  have hcl : cs.length = 2 := by
    obtain ⟨_, _, _, _, hl, _, _⟩ := DataW.trod_struct uT25 h
    exact hl.trans kR0
  obtain ⟨xs, m, rfl, hx, hxl, hf⟩ := z6z uT25 kR0 h
  obtain ⟨c0, c1, rfl⟩ := len2 hcl
  obtain ⟨y0, y1, rfl⟩ := len2 hxl
  obtain ⟨as_, v0, e0, r0, b0⟩ := z7w Ar.enc (fun a => a.name.size) hown uT22 (N := 2) kR0 dC0 (hf 0 _ _ _ rfl rfl rfl) (fun n cs' y hn hcl hy => by
    obtain ⟨xs, m, rfl, hx, hxl, hf⟩ := z6z Tryz.underlying49 kR0 hy
    obtain ⟨c0, c1, rfl⟩ := len2 hcl
    obtain ⟨y0, y1, rfl⟩ := len2 hxl
    obtain ⟨s, e3, f3, _⟩ := DataW.trod_string uT9 (hf 0 _ _ _ rfl rfl rfl)
    obtain ⟨k0, e0, f0, _⟩ := DataW.trod_int uT3 (hf 1 _ _ _ rfl rfl rfl)
    cases e0; cases e3
    refine ⟨⟨s, k0⟩, RepEl.cons (.val _) (.cons (.val _) .nil), ?_⟩
    rw [hx]
    have hs := y1f s
    simp only [Rows.uptoBulk, Rows.uptoBulkAll, List.map_cons, List.map_nil, f0, f3, hs]
    omega)
  obtain ⟨fs_, v1, e1, r1, b1⟩ := z7w Fl.enc (fun f => f.name.size + f.types.length + z17 f.body) hown uT23 (N := 5) kR0 dC0 (hf 1 _ _ _ rfl rfl rfl) (fun n cs' y hn hcl hy => by
    obtain ⟨xs, m, rfl, hx, hxl, hf⟩ := z6z Tryz.underlying51 kR0 hy
    obtain ⟨c0, c1, c2, c3, c4, rfl⟩ := len5 hcl
    obtain ⟨y0, y1, y2, y3, y4, rfl⟩ := len5 hxl
    obtain ⟨s, e3, f3, _⟩ := DataW.trod_string uT9 (hf 0 _ _ _ rfl rfl rfl)
    obtain ⟨k0, e0, f0, _⟩ := DataW.trod_int uT3 (hf 1 _ _ _ rfl rfl rfl)
    obtain ⟨k1, e1, f1, _⟩ := DataW.trod_int uT3 (hf 2 _ _ _ rfl rfl rfl)
    obtain ⟨ts_, v4, e4, r4, b4⟩ := z9t hown uT35 uT3 kR0 (hf 3 _ _ _ rfl rfl rfl)
    obtain ⟨q, v5, e5, r5, b5⟩ := zo4 hown _ _ _ _ (Nat.lt_succ_self _) (hf 4 _ _ _ rfl rfl rfl)
    cases e0; cases e1; cases e3; cases e4; cases e5
    refine ⟨⟨s, k0, k1, ts_, q⟩, RepEl.cons (.val _) (.cons (.val _) (.cons (.val _) (.cons r4 (.cons r5 .nil)))), ?_⟩
    rw [hx]
    have hs := y1f s
    simp only [Rows.uptoBulk, Rows.uptoBulkAll, List.map_cons, List.map_nil, f0, f1, f3, hs, z17]
    omega)
  cases e0; cases e1
  refine ⟨⟨as_, fs_⟩, RepEl.cons r0 (.cons r1 .nil), ?_⟩
  rw [hx]
  simp only [Rows.uptoBulk, Rows.uptoBulkAll, List.map_cons, List.map_nil, z0r, y82, y83]
  omega
end
end
section
open Go Go.ChangeShapes Go.WideShapes Go.ChangeAt Go.RowKit Go.Deep
theorem Tryz.own : ownKnob Tryz.prog.godebug = none := by kernel_rfl
theorem Tryz.laidOut : laidOutB Tryz.prog = true := by kernel_rfl
section
variable {H : Type} {enc : TypeId × Value -> H} {P : Program}
theorem y68 {W W' : World} {p : MemPlace} (h : W'.heap[p.block]? = W.heap[p.block]?) : W.sameAt W' p := by
  cases p <;> simp_all [World.sameAt, MemPlace.block, World.cell?]
theorem z9s (hl : laidOutB P = true) {W W' : World} (hb : ∀ b, b < W.heap.size -> W'.heap[b]? = W.heap[b]?) : ∀ (ts : List TypeId) (vs : List Value) (ds : List (DataW H)) (ps : List MemPlace),
    (∀ t ∈ ts, P.readableRec t = true /\ t < P.types.size) -> DataW.TrodAll enc P W 0 (fun _ => true) true ts vs ds ps -> (∀ x ∈ ps, x.block < W.heap.size) ->
    DataW.TrodAll enc P W' 0 (fun b => decide (b < W.heap.size)) true ts vs ds ps
  | [], vs, ds, ps, _, h, _ => by
    obtain ⟨rfl, rfl, rfl⟩ := trodAll_nil h
    exact trodAll_mk0
  | t :: ts, vs, ds, ps, hr, h, hp => by
    obtain ⟨v, vs', d, ds', p, q, rfl, rfl, rfl, h1, h2⟩ := trodAll_cons h
    have ht := hr t (.head _)
    refine ⟨p, q, ?_, z9s hl hb ts vs' ds' q (fun t' h' => hr t' (.tail _ h')) h2 (fun x hx => hp x (List.mem_append_right _ hx)), rfl⟩
    refine WideElems.Trod_stays hl ht.1 ht.2 h1 (fun x hx => ?_) (fun x hx => by simpa using hp x (List.mem_append_left _ hx))
    exact y68 (hb _ (hp x (List.mem_append_left _ hx)))
theorem y2z {W W' : World} (may : MemPlace -> Prop) (hos : W'.os = W.os) (hout : W'.output = W.output) (hb : ∀ b, b < W.heap.size -> W'.heap[b]? = W.heap[b]?) : W.keptBut W' may := by
  refine ⟨hos, hout, fun i hi => ?_⟩
  rw [hb i hi]
  rcases h : W.heap[i]? with _ | o
  ·trivial
  cases o with
  | cells c t fr => exact ⟨rfl, rfl, rfl, fun _ _ => rfl⟩
  | map es clock => exact .inr ⟨rfl, rfl⟩
  | _ => rfl
theorem y60 {f : Func} {s : ChangeSpec} {apart fresh handsOn : Bool} {W W' : World} {args : Array Value} {ds gs : List (DataW H)} {before : List MemPlace} {tb : TypeId} (hl : laidOutB P = true) (hv0 : s.vars = [])
    (hW : DataW.Whole enc P f.params.toList s.vars apart W args.toList ds gs before) (hrd : ∀ t ∈ f.params.toList, P.readableRec t = true /\ t < P.types.size) (hres : f.resultTypes = #[tb]) (htb : P.underlying tb = some .bool)
    (hs : s.fn H (ds ++ gs) = { results := [.lit (.bool true)], args := ds }) (hos : W'.os = W.os) (hout : W'.output = W.output) (hb : ∀ b, b < W.heap.size -> W'.heap[b]? = W.heap[b]?) :
    s.post enc P f apart fresh handsOn false W args (.bool true) W' := by
  have hlt := hW.lt
  have hW' := hW
  obtain ⟨p, q, hA, hV, rfl, _, _⟩ := hW
  refine ⟨ds, gs, p ++ q, [], p, [], hW', ?_, ?_, ?_, y2z _ hos hout hb, fun h => by cases h⟩
  ·rw [hs, hres]
   exact trodAll_mk1 ⟨1, by simp [DataW.trod, htb, Value.cells]⟩
  ·rw [hs]
   exact z9s hl hb _ _ _ _ hrd hA (fun x hx => hlt x (List.mem_append_left _ hx))
  rw [hs, hv0]
  exact rfl
end
theorem y65 {W : World} : RelH (fun _ => False) (fun _ => none) (look (up [])) W where
  inj _ _ _ _ _ h := by cases h
  apart _ _ _ h := by cases h
  old _ h := h.elim
  obj _ _ _ h := by cases h
  real _ _ h := by cases h
theorem y4q {P : Program} {f : FuncId} {args : List IV} {R : Nat -> Prop} (hsc : SC P f args [] R (iBool true) []) {W : World} {vs : List Value} (hr : RepL (fun _ => False) (fun _ => none) (look (up [])) W args vs) :
    Calls P f vs.toArray W fun e W' => e = .returned (.bool true) /\ W'.os = W.os /\ W'.output = W.output /\ ∀ b, b < W.heap.size -> W'.heap[b]? = W.heap[b]? := by
  refine (hsc (fun _ => False) (fun _ => none) W vs y65 hr).mono ?_
  rintro e W' ⟨ρ', v, rfl, hv, _, t⟩
  refine ⟨?_, t.os, t.output, fun b hb => t.blk b hb fun k c h => by cases h⟩
  cases hv with
  | pv _ _ hp => cases hp; rfl
theorem own_none {b : Nat} : ¬ owned (fun _ => False) (fun _ => none) b := by
  rintro (h | ⟨_, _, h⟩)
  ·exact h
  cases h
end
section
open Go Go.ChangeShapes Go.WideShapes Go.ChangeAt Go.RowKit Go.Deep
theorem y66 {own : Nat -> Prop} {w : World} {ps : List PV} {cs : Array Value} (h : RepEl own w ps cs.toList) : RepP own w (.agg ps) (.agg cs) := by
  refine .agg ps cs (fun j => cs[j]?.getD default) (by simpa using h.1.symm) (fun j c hj => ?_) (fun j c hj => ?_)
  ·have hlt : j < cs.size := by have := (List.getElem?_eq_some_iff.1 hj).1; rw [h.1] at this; simpa using this
   rw [Array.getElem?_eq_getElem hlt]; rfl
  have hlt : j < cs.size := by have := (List.getElem?_eq_some_iff.1 hj).1; rw [h.1] at this; simpa using this
  refine h.2 j c _ hj ?_
  rw [Array.getElem?_toList, Array.getElem?_eq_getElem hlt]; rfl
theorem repL_one {x : IV} {v : Value} {F : Nat -> Prop} {ρ : Loc} {σ : Heap'} {w : World} (h : RepI F ρ σ w x v) : RepL F ρ σ w [x] [v] := by
  refine ⟨rfl, fun j y hj => ?_⟩
  cases j with
  | zero => simp at hj; subst hj; exact ⟨v, rfl, h⟩
  | succ j => simp at hj
set_option maxRecDepth 100000 in
theorem y5x {H : Type} {enc : TypeId × Value -> H} {W : World} {base b0 : Nat} {spare : Nat -> Bool} {held : Bool} {r : Reach} {v : Value} {d : DataW H} {p : List MemPlace} (hv : Value.okWide Tryz.prog W r b0 25 v)
    (h : DataW.Trod enc Tryz.prog W base spare held 25 v d p) : ∃ u : Un, RepI (fun _ => False) (fun _ => none) (look (up [])) W (.pv u.enc) v /\ z0r u <= Rows.uptoBulk d := by
  obtain ⟨cs, rfl, _⟩ := okWide_struct uT25 hv
  obtain ⟨fuel, hf⟩ := h
  obtain ⟨u, h1, h2⟩ := y7g (own := owned (fun _ => False) (fun _ => none)) (fun _ _ => own_none) hf
  exact ⟨u, .pv _ _ (y66 h1), h2⟩
theorem bulk_of {H : Type} {l : List (DataW H)} (hk : Rows.uptoSmall H l = true) : Rows.uptoBulkAll l <= 1048576 := by
  unfold Rows.uptoSmall at hk
  exact of_decide_eq_true hk
set_option maxRecDepth 100000 in
theorem zd3 (hsc : ∀ u : Un, z0r u <= 1048576 -> SC Tryz.prog 3 [.pv u.enc] [] (fun _ => False) (iBool true) []) (H : Type) (enc : TypeId × Value -> H) (W : World) (base : Nat) (args : Array Value) (ds gs : List (DataW H)) (before : List MemPlace)
    (hval : ∀ (j : Nat) t v, Tryz.f3.params[j]? = some t -> args[j]? = some v -> Value.okWide Tryz.prog W .any base t v)
    (hW : DataW.Whole enc Tryz.prog Tryz.f3.params.toList Rows.trimAnySpec.vars false W args.toList ds gs before) (hk : Rows.uptoSmall H (ds ++ gs) = true) :
    Calls Tryz.prog 3 args W fun e W' => ∃ v, e = .returned v /\ Rows.trimAnySpec.post enc Tryz.prog Tryz.f3 false true false false W args v W' := by
  have hW' := hW
  obtain ⟨p, q, hA0, hV, rfl, hfz, hnd⟩ := hW
  have hA : DataW.TrodAll enc Tryz.prog W 0 (fun _ => true) true Tryz.f3.params.toList args.toList ds p := hA0
  rw [Tryz.params3] at hA hval
  obtain ⟨v0, vs0, d0, ds0, p0, q0, hargs, rfl, rfl, h0, r0⟩ := trodAll_cons hA
  obtain ⟨rfl, rfl, rfl⟩ := trodAll_nil r0
  obtain rfl : args = #[v0] := by cases args; simp_all
  obtain ⟨rfl, rfl⟩ := trodVars_none hV
  obtain ⟨u, hu, hw⟩ := y5x (hval 0 25 v0 rfl rfl) h0
  have hb := bulk_of hk
  simp only [List.append_nil, Rows.uptoBulkAll] at hb
  refine (y4q (hsc u oM0) (repL_one hu)).mono ?_
  rintro e W' ⟨rfl, hos, hout, hbl⟩
  exact ⟨_, rfl, y60 Tryz.laidOut rfl hW' (fun t ht => by
    rw [Tryz.params3] at ht
    obtain rfl : t = 25 := by simpa using ht
    exact ⟨by kernel_rfl, of_decide_eq_true kR0⟩) kR0 Tryz.underlying4 rfl hos hout hbl⟩
set_option maxRecDepth 100000 in
theorem zm1 (hsc : ∀ u : Un, z0r u <= 1048576 -> SC Tryz.prog 3 [.pv u.enc] [] (fun _ => False) (iBool true) []) (os : Os) (started : os.Started) (H : Type) (enc : TypeId × Value -> H) (F : Stop.Interp) :
    ReturnsInHanded {} Tryz.checked os 3 .any ((Rows.OpenSpec.upto Rows.trimAnySpec).pre6 enc Tryz.prog Tryz.f3 Rows.trimAnyUptoRow.domain false) (((Rows.OpenSpec.upto Rows.trimAnySpec).at F).post enc Tryz.prog Tryz.f3 false true false false) := by
  refine returnsInHanded_of_cond (C := Tryz.checked) (s := Rows.OpenSpec.upto Rows.trimAnySpec) (k := Rows.uptoSmall) rfl Tryz.own started kR0 Tryz.func3
    (OpenSpec.witness (enc := enc) (C := Tryz.checked) (s := Rows.OpenSpec.upto Rows.trimAnySpec) (k := Rows.uptoSmall) rfl false ⟨#[], #[.agg #[.slice none 0 0, .slice none 0 0]], []⟩ 8 kR0 kR0 kR0
      (x := ([.agg [.nil, .nil]], [], [])) kR0 rfl kR0) ?_
  intro W base args ds gs before hval hW _ hk _
  exact zd3 hsc H enc W base args ds gs before hval hW hk
theorem y47 (hsc : ∀ u : Un, z0r u <= 1048576 -> SC Tryz.prog 3 [.pv u.enc] [] (fun _ => False) (iBool true) []) : Rows.TrimAnyUptoSaid :=
  OpenClaim.holds_of_cond 3 Tryz.f3 rfl rfl rfl rfl rfl rfl rfl ⟨rfl, rfl, rfl, rfl, rfl⟩ rfl rfl rfl rfl rfl kR0 Tryz.func3 kR0
    (of_decide_eq_true kR0) (by unfold Func.isWrapper; first | (rw [if_pos (by decide +kernel)]; kernel_rfl) | (rw [if_neg (by decide +kernel)]; exact ⟨rfl, rfl⟩))
    (fun os started H enc _ F => zm1 hsc os started H enc F)
end
theorem trimAny_holds : Rows.TrimAnyUptoSaid := y47 fun u hW => (y3n u (Nat.le_trans hW (Nat.le_of_ble_eq_true rfl))).anyR
end Go.Proofs.YtekdhljpmflboaaGreat
