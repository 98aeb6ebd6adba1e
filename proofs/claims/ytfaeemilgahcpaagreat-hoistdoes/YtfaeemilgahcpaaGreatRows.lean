/-
  NARROWER THAN 'FOR EVERY INPUT', by the rows' own cells (each row's printed sentence says how): HoistAny: loops.
  DERIVED. THE GIVEN ROWS OF THIS SEAT. 4 by the template 'for every input the law returns true; each argument reads behind the call as it read before'; 0 by the template 'total and deterministic' (their statements: YtfaeemilgahcpaaGreatTotals.lean).
  GIVEN WITH THE SEED: the statements are not yours to turn. If you find one false, say at which input.
  Laid BY PROGRAM, IN A SANDBOX (cutbox-rows.mjs): the forced cells as the released guide's own fill.sh prints them over the translation f249800d055bbf40… (all of the seat's roots in one cut). By AI agents, Wed Nov 11 2026. No macro, syntax, notation, axiom, sorry.
-/
import Derived.Test.YtfaeemilgahcpaaGreatChecked
import GoSem.Claim
import GoSem.ClaimJoined
import GoSem.ClaimMapViews
import Derived.JoinedTies
import Derived.KernelRfl
namespace Go.Proofs.YtfaeemilgahcpaaGreat
/- THE CELL 'sum', in the pinned program and in every row, IS THE sha256 OF THE DUMP (.gsa) THAT YtfaeemilgahcpaaGreatProg.lean LOADS. Nothing in Lean hashes anything: it is a label: what it is worth is what the hold of that sum in a sandbox is worth. -/
noncomputable def Tryz.pinned : Pinned := { name := "ytfaeemilgahcpaagreat", sum := "f249800d055bbf4061c0a52f12419d266fafab54611d4e6f5031bf6e5e099826", checked := Tryz.checked }
namespace Rows
def none {H : Type} : Left H := { results := [], args := [] }

/-- 'boxhedgelaw15.HoistAny': WHATEVER THE INPUT: true; the input reads as it did. -/
def hoistAnySpec : ChangeSpec := { name := "hoistAny", fn := fun _ => fun
  | [d] => { results := [.lit (.bool true)], args := [d] }
  | _ => none }
def hoistAnyRow : OpenClaim := { program := "ytfaeemilgahcpaagreat", sum := "f249800d055bbf4061c0a52f12419d266fafab54611d4e6f5031bf6e5e099826", func := "boxhedge/boxhedgelaw15.HoistAny", spec := "hoistAny", unfollowed := true, recurses := true, loops := true, apart := false }
def HoistAnySaid : Prop := hoistAnyRow.holds Tryz.pinned (OpenSpec.ofChange hoistAnySpec)

/-- ITS FALSE NEIGHBOUR: 'it returns false'. Refute it at one input. -/
def hoistAnyWrong : ChangeSpec := { name := "hoistAny", fn := fun _ => fun
  | [d] => { results := [.lit (.bool false)], args := [d] }
  | _ => none }
def HoistAnyWrongFalsely : Prop := hoistAnyRow.holds Tryz.pinned (OpenSpec.ofChange hoistAnyWrong)

/-- 'boxhedgelaw15.HoistGood': WHATEVER THE INPUT: true; the input reads as it did. -/
def hoistGoodSpec : ChangeSpec := { name := "hoistGood", fn := fun _ => fun
  | [d] => { results := [.lit (.bool true)], args := [d] }
  | _ => none }
def hoistGoodRow : OpenClaim := { program := "ytfaeemilgahcpaagreat", sum := "f249800d055bbf4061c0a52f12419d266fafab54611d4e6f5031bf6e5e099826", func := "boxhedge/boxhedgelaw15.HoistGood", spec := "hoistGood", unfollowed := true, recurses := true, apart := false }
def HoistGoodSaid : Prop := hoistGoodRow.holds Tryz.pinned (OpenSpec.ofChange hoistGoodSpec)

/-- ITS FALSE NEIGHBOUR: 'it returns false'. Refute it at one input. -/
def hoistGoodWrong : ChangeSpec := { name := "hoistGood", fn := fun _ => fun
  | [d] => { results := [.lit (.bool false)], args := [d] }
  | _ => none }
def HoistGoodWrongFalsely : Prop := hoistGoodRow.holds Tryz.pinned (OpenSpec.ofChange hoistGoodWrong)

/-- 'boxhedgelaw15.HoistDoes': WHATEVER THE INPUT: true; the input reads as it did. -/
def hoistDoesSpec : ChangeSpec := { name := "hoistDoes", fn := fun _ => fun
  | [d1, d2, d3] => { results := [.lit (.bool true)], args := [d1, d2, d3] }
  | _ => none }
def hoistDoesRow : OpenClaim := { program := "ytfaeemilgahcpaagreat", sum := "f249800d055bbf4061c0a52f12419d266fafab54611d4e6f5031bf6e5e099826", func := "boxhedge/boxhedgelaw15.HoistDoes", spec := "hoistDoes", unfollowed := true, recurses := true, apart := false }
def HoistDoesSaid : Prop := hoistDoesRow.holds Tryz.pinned (OpenSpec.ofChange hoistDoesSpec)

/-- ITS FALSE NEIGHBOUR: 'it returns false'. Refute it at one input. -/
def hoistDoesWrong : ChangeSpec := { name := "hoistDoes", fn := fun _ => fun
  | [d1, d2, d3] => { results := [.lit (.bool false)], args := [d1, d2, d3] }
  | _ => none }
def HoistDoesWrongFalsely : Prop := hoistDoesRow.holds Tryz.pinned (OpenSpec.ofChange hoistDoesWrong)

/-- 'boxhedgelaw15.HoistSame': WHATEVER THE INPUT: true; the input reads as it did. -/
def hoistSameSpec : ChangeSpec := { name := "hoistSame", fn := fun _ => fun
  | [d] => { results := [.lit (.bool true)], args := [d] }
  | _ => none }
def hoistSameRow : OpenClaim := { program := "ytfaeemilgahcpaagreat", sum := "f249800d055bbf4061c0a52f12419d266fafab54611d4e6f5031bf6e5e099826", func := "boxhedge/boxhedgelaw15.HoistSame", spec := "hoistSame", unfollowed := true, recurses := true, apart := false }
def HoistSameSaid : Prop := hoistSameRow.holds Tryz.pinned (OpenSpec.ofChange hoistSameSpec)

/-- ITS FALSE NEIGHBOUR: 'it returns false'. Refute it at one input. -/
def hoistSameWrong : ChangeSpec := { name := "hoistSame", fn := fun _ => fun
  | [d] => { results := [.lit (.bool false)], args := [d] }
  | _ => none }
def HoistSameWrongFalsely : Prop := hoistSameRow.holds Tryz.pinned (OpenSpec.ofChange hoistSameWrong)

/- THE SECOND FORM. 'bulk': how many values and letters a reading holds, each counted each time it is reached (what is shared counts as often as it is met; a slice's spare places count too). A statement '..UptoSaid' is the law's where the arguments, and the package variables that the reading takes, are together of bulk at most 1048576: NARROWER than '..Said'. Prove '..Said' where nothing that the law and all that it calls make is longer than what came in: it says more and counts as full. Else prove '..UptoSaid'. A law counts once. -/
mutual
def uptoBulk {H : Type} : DataW H → Nat
  | .lit (.string bytes) => bytes.length + 1
  | .lit _ => 1
  | .nil => 1
  | .ptr d => uptoBulk d + 1
  | .slice elems spare => uptoBulkAll elems + uptoBulkAll spare + 1
  | .agg parts => uptoBulkAll parts + 1
  | .iface _ d => uptoBulk d + 1
  | .map entries => uptoBulkEntries entries + 1
  | .held _ => 1
def uptoBulkAll {H : Type} : List (DataW H) → Nat
  | [] => 0
  | d :: r => uptoBulk d + uptoBulkAll r
def uptoBulkEntries {H : Type} : List (Lit × DataW H) → Nat
  | [] => 0
  | x :: r => uptoBulkEntry x + uptoBulkEntries r
def uptoBulkEntry {H : Type} : Lit × DataW H → Nat
  | (.string bytes, d) => bytes.length + uptoBulk d + 1
  | (_, d) => uptoBulk d + 1
 end
def uptoSmall : (H : Type) → List (DataW H) → Bool := fun _ ds => decide (uptoBulkAll ds ≤ 1048576)
def OpenSpec.upto (s : _root_.Go.ChangeSpec) : _root_.Go.OpenSpec := { _root_.Go.OpenSpec.ofChange s with cond := some uptoSmall }

/-- 'boxhedgelaw15.HoistAny', WHERE WHAT IT READS IS OF BULK AT MOST 1048576: true; the input reads as it did. -/
def hoistAnyUptoRow : OpenClaim := { program := "ytfaeemilgahcpaagreat", sum := "f249800d055bbf4061c0a52f12419d266fafab54611d4e6f5031bf6e5e099826", func := "boxhedge/boxhedgelaw15.HoistAny", spec := "hoistAny", unfollowed := true, recurses := true, loops := true, apart := false, narrowed := true }
def HoistAnyUptoSaid : Prop := hoistAnyUptoRow.holds Tryz.pinned (OpenSpec.upto hoistAnySpec)

/-- 'boxhedgelaw15.HoistGood', WHERE WHAT IT READS IS OF BULK AT MOST 1048576: true; the input reads as it did. -/
def hoistGoodUptoRow : OpenClaim := { program := "ytfaeemilgahcpaagreat", sum := "f249800d055bbf4061c0a52f12419d266fafab54611d4e6f5031bf6e5e099826", func := "boxhedge/boxhedgelaw15.HoistGood", spec := "hoistGood", unfollowed := true, recurses := true, apart := false, narrowed := true }
def HoistGoodUptoSaid : Prop := hoistGoodUptoRow.holds Tryz.pinned (OpenSpec.upto hoistGoodSpec)

/-- 'boxhedgelaw15.HoistDoes', WHERE WHAT IT READS IS OF BULK AT MOST 1048576: true; the input reads as it did. -/
def hoistDoesUptoRow : OpenClaim := { program := "ytfaeemilgahcpaagreat", sum := "f249800d055bbf4061c0a52f12419d266fafab54611d4e6f5031bf6e5e099826", func := "boxhedge/boxhedgelaw15.HoistDoes", spec := "hoistDoes", unfollowed := true, recurses := true, apart := false, narrowed := true }
def HoistDoesUptoSaid : Prop := hoistDoesUptoRow.holds Tryz.pinned (OpenSpec.upto hoistDoesSpec)

/-- 'boxhedgelaw15.HoistSame', WHERE WHAT IT READS IS OF BULK AT MOST 1048576: true; the input reads as it did. -/
def hoistSameUptoRow : OpenClaim := { program := "ytfaeemilgahcpaagreat", sum := "f249800d055bbf4061c0a52f12419d266fafab54611d4e6f5031bf6e5e099826", func := "boxhedge/boxhedgelaw15.HoistSame", spec := "hoistSame", unfollowed := true, recurses := true, apart := false, narrowed := true }
def HoistSameUptoSaid : Prop := hoistSameUptoRow.holds Tryz.pinned (OpenSpec.upto hoistSameSpec)

end Rows
end Go.Proofs.YtfaeemilgahcpaaGreat
