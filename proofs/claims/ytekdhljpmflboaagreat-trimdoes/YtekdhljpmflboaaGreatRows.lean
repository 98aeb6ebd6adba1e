/-
  NARROWER THAN 'FOR EVERY INPUT', by the rows' own cells (each row's printed sentence says how): TrimAny: loops.
  DERIVED. THE GIVEN ROWS OF THIS SEAT. 4 by the template 'for every input the law returns true; each argument reads behind the call as it read before'; 0 by the template 'total and deterministic' (their statements: YtekdhljpmflboaaGreatTotals.lean).
  GIVEN WITH THE SEED: the statements are not yours to turn. If you find one false, say at which input.
  Laid BY PROGRAM, IN A SANDBOX (cutbox-rows.mjs): the forced cells as the released guide's own fill.sh prints them over the translation aff426474ca86e82… (all of the seat's roots in one cut). By AI agents, Wed Nov 11 2026. No macro, syntax, notation, axiom, sorry.
-/
import Derived.Test.YtekdhljpmflboaaGreatChecked
import GoSem.Claim
import GoSem.ClaimJoined
import GoSem.ClaimMapViews
import Derived.JoinedTies
import Derived.KernelRfl
namespace Go.Proofs.YtekdhljpmflboaaGreat
/- THE CELL 'sum', in the pinned program and in every row, IS THE sha256 OF THE DUMP (.gsa) THAT YtekdhljpmflboaaGreatProg.lean LOADS. Nothing in Lean hashes anything: it is a label: what it is worth is what the hold of that sum in a sandbox is worth. -/
noncomputable def Tryz.pinned : Pinned := { name := "ytekdhljpmflboaagreat", sum := "aff426474ca86e8253913ddad71c0d35e16ce5bbec74200f971ed30712630204", checked := Tryz.checked }
namespace Rows
def none {H : Type} : Left H := { results := [], args := [] }

/-- 'boxhedgelaw16.TrimAny': WHATEVER THE INPUT: true; the input reads as it did. -/
def trimAnySpec : ChangeSpec := { name := "trimAny", fn := fun _ => fun
  | [d] => { results := [.lit (.bool true)], args := [d] }
  | _ => none }
def trimAnyRow : OpenClaim := { program := "ytekdhljpmflboaagreat", sum := "aff426474ca86e8253913ddad71c0d35e16ce5bbec74200f971ed30712630204", func := "boxhedge/boxhedgelaw16.TrimAny", spec := "trimAny", unfollowed := true, recurses := true, loops := true, apart := false }
def TrimAnySaid : Prop := trimAnyRow.holds Tryz.pinned (OpenSpec.ofChange trimAnySpec)

/-- ITS FALSE NEIGHBOUR: 'it returns false'. Refute it at one input. -/
def trimAnyWrong : ChangeSpec := { name := "trimAny", fn := fun _ => fun
  | [d] => { results := [.lit (.bool false)], args := [d] }
  | _ => none }
def TrimAnyWrongFalsely : Prop := trimAnyRow.holds Tryz.pinned (OpenSpec.ofChange trimAnyWrong)

/-- 'boxhedgelaw16.TrimGood': WHATEVER THE INPUT: true; the input reads as it did. -/
def trimGoodSpec : ChangeSpec := { name := "trimGood", fn := fun _ => fun
  | [d] => { results := [.lit (.bool true)], args := [d] }
  | _ => none }
def trimGoodRow : OpenClaim := { program := "ytekdhljpmflboaagreat", sum := "aff426474ca86e8253913ddad71c0d35e16ce5bbec74200f971ed30712630204", func := "boxhedge/boxhedgelaw16.TrimGood", spec := "trimGood", unfollowed := true, recurses := true, apart := false }
def TrimGoodSaid : Prop := trimGoodRow.holds Tryz.pinned (OpenSpec.ofChange trimGoodSpec)

/-- ITS FALSE NEIGHBOUR: 'it returns false'. Refute it at one input. -/
def trimGoodWrong : ChangeSpec := { name := "trimGood", fn := fun _ => fun
  | [d] => { results := [.lit (.bool false)], args := [d] }
  | _ => none }
def TrimGoodWrongFalsely : Prop := trimGoodRow.holds Tryz.pinned (OpenSpec.ofChange trimGoodWrong)

/-- 'boxhedgelaw16.TrimDoes': WHATEVER THE INPUT: true; the input reads as it did. -/
def trimDoesSpec : ChangeSpec := { name := "trimDoes", fn := fun _ => fun
  | [d1, d2, d3] => { results := [.lit (.bool true)], args := [d1, d2, d3] }
  | _ => none }
def trimDoesRow : OpenClaim := { program := "ytekdhljpmflboaagreat", sum := "aff426474ca86e8253913ddad71c0d35e16ce5bbec74200f971ed30712630204", func := "boxhedge/boxhedgelaw16.TrimDoes", spec := "trimDoes", unfollowed := true, recurses := true, apart := false }
def TrimDoesSaid : Prop := trimDoesRow.holds Tryz.pinned (OpenSpec.ofChange trimDoesSpec)

/-- ITS FALSE NEIGHBOUR: 'it returns false'. Refute it at one input. -/
def trimDoesWrong : ChangeSpec := { name := "trimDoes", fn := fun _ => fun
  | [d1, d2, d3] => { results := [.lit (.bool false)], args := [d1, d2, d3] }
  | _ => none }
def TrimDoesWrongFalsely : Prop := trimDoesRow.holds Tryz.pinned (OpenSpec.ofChange trimDoesWrong)

/-- 'boxhedgelaw16.TrimSame': WHATEVER THE INPUT: true; the input reads as it did. -/
def trimSameSpec : ChangeSpec := { name := "trimSame", fn := fun _ => fun
  | [d] => { results := [.lit (.bool true)], args := [d] }
  | _ => none }
def trimSameRow : OpenClaim := { program := "ytekdhljpmflboaagreat", sum := "aff426474ca86e8253913ddad71c0d35e16ce5bbec74200f971ed30712630204", func := "boxhedge/boxhedgelaw16.TrimSame", spec := "trimSame", unfollowed := true, recurses := true, apart := false }
def TrimSameSaid : Prop := trimSameRow.holds Tryz.pinned (OpenSpec.ofChange trimSameSpec)

/-- ITS FALSE NEIGHBOUR: 'it returns false'. Refute it at one input. -/
def trimSameWrong : ChangeSpec := { name := "trimSame", fn := fun _ => fun
  | [d] => { results := [.lit (.bool false)], args := [d] }
  | _ => none }
def TrimSameWrongFalsely : Prop := trimSameRow.holds Tryz.pinned (OpenSpec.ofChange trimSameWrong)

/- THE SECOND FORM. 'bulk': how many values and letters a reading holds, each counted each time it is reached (what is shared counts as often as it is met; a slice's spare places count too). A statement '..UptoSaid' is the law's where the arguments, and the package variables that the reading takes, are together of bulk at most 1048576: NARROWER than '..Said'. Prove '..Said' where nothing that the law and all that it calls make is longer than what came in: it says more and counts as full. Else prove '..UptoSaid'. A law counts once. -/
mutual
def uptoBulk {H : Type} : DataW H → Nat
  | .lit (.string bytes) => bytes.length + 1
  | .lit _ => 1
  | .nil => 1
  | .ptr d => uptoBulk d + 1
  | .slice elems spare => uptoBulkAll elems + uptoBulkAll spare + 1
  | .agg parts => uptoBulkAll parts + 1
  | .iface _ d => uptoBulk d + 1
  | .map entries => uptoBulkEntries entries + 1
  | .held _ => 1
def uptoBulkAll {H : Type} : List (DataW H) → Nat
  | [] => 0
  | d :: r => uptoBulk d + uptoBulkAll r
def uptoBulkEntries {H : Type} : List (Lit × DataW H) → Nat
  | [] => 0
  | x :: r => uptoBulkEntry x + uptoBulkEntries r
def uptoBulkEntry {H : Type} : Lit × DataW H → Nat
  | (.string bytes, d) => bytes.length + uptoBulk d + 1
  | (_, d) => uptoBulk d + 1
 end
def uptoSmall : (H : Type) → List (DataW H) → Bool := fun _ ds => decide (uptoBulkAll ds ≤ 1048576)
def OpenSpec.upto (s : _root_.Go.ChangeSpec) : _root_.Go.OpenSpec := { _root_.Go.OpenSpec.ofChange s with cond := some uptoSmall }

/-- 'boxhedgelaw16.TrimAny', WHERE WHAT IT READS IS OF BULK AT MOST 1048576: true; the input reads as it did. -/
def trimAnyUptoRow : OpenClaim := { program := "ytekdhljpmflboaagreat", sum := "aff426474ca86e8253913ddad71c0d35e16ce5bbec74200f971ed30712630204", func := "boxhedge/boxhedgelaw16.TrimAny", spec := "trimAny", unfollowed := true, recurses := true, loops := true, apart := false, narrowed := true }
def TrimAnyUptoSaid : Prop := trimAnyUptoRow.holds Tryz.pinned (OpenSpec.upto trimAnySpec)

/-- 'boxhedgelaw16.TrimGood', WHERE WHAT IT READS IS OF BULK AT MOST 1048576: true; the input reads as it did. -/
def trimGoodUptoRow : OpenClaim := { program := "ytekdhljpmflboaagreat", sum := "aff426474ca86e8253913ddad71c0d35e16ce5bbec74200f971ed30712630204", func := "boxhedge/boxhedgelaw16.TrimGood", spec := "trimGood", unfollowed := true, recurses := true, apart := false, narrowed := true }
def TrimGoodUptoSaid : Prop := trimGoodUptoRow.holds Tryz.pinned (OpenSpec.upto trimGoodSpec)

/-- 'boxhedgelaw16.TrimDoes', WHERE WHAT IT READS IS OF BULK AT MOST 1048576: true; the input reads as it did. -/
def trimDoesUptoRow : OpenClaim := { program := "ytekdhljpmflboaagreat", sum := "aff426474ca86e8253913ddad71c0d35e16ce5bbec74200f971ed30712630204", func := "boxhedge/boxhedgelaw16.TrimDoes", spec := "trimDoes", unfollowed := true, recurses := true, apart := false, narrowed := true }
def TrimDoesUptoSaid : Prop := trimDoesUptoRow.holds Tryz.pinned (OpenSpec.upto trimDoesSpec)

/-- 'boxhedgelaw16.TrimSame', WHERE WHAT IT READS IS OF BULK AT MOST 1048576: true; the input reads as it did. -/
def trimSameUptoRow : OpenClaim := { program := "ytekdhljpmflboaagreat", sum := "aff426474ca86e8253913ddad71c0d35e16ce5bbec74200f971ed30712630204", func := "boxhedge/boxhedgelaw16.TrimSame", spec := "trimSame", unfollowed := true, recurses := true, apart := false, narrowed := true }
def TrimSameUptoSaid : Prop := trimSameUptoRow.holds Tryz.pinned (OpenSpec.upto trimSameSpec)

end Rows
end Go.Proofs.YtekdhljpmflboaaGreat
