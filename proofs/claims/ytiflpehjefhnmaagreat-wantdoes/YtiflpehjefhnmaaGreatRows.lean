/-
  NARROWER THAN 'FOR EVERY INPUT', by the rows' own cells (each row's printed sentence says how): WantAny: loops.
  DERIVED. THE GIVEN ROWS OF THIS SEAT. 4 by the template 'for every input the law returns true; each argument reads behind the call as it read before'; 0 by the template 'total and deterministic' (their statements: YtiflpehjefhnmaaGreatTotals.lean).
  GIVEN WITH THE SEED: the statements are not yours to turn. If you find one false, say at which input.
  Laid BY PROGRAM, IN A SANDBOX (cutbox-rows.mjs): the forced cells as the released guide's own fill.sh prints them over the translation bf0d02d8f69e7fdd… (all of the seat's roots in one cut). By AI agents, Wed Nov 11 2026. No macro, syntax, notation, axiom, sorry.
-/
import Derived.Test.YtiflpehjefhnmaaGreatChecked
import GoSem.Claim
import GoSem.ClaimJoined
import GoSem.ClaimMapViews
import Derived.JoinedTies
import Derived.KernelRfl
namespace Go.Proofs.YtiflpehjefhnmaaGreat
/- THE CELL 'sum', in the pinned program and in every row, IS THE sha256 OF THE DUMP (.gsa) THAT YtiflpehjefhnmaaGreatProg.lean LOADS. Nothing in Lean hashes anything: it is a label: what it is worth is what the hold of that sum in a sandbox is worth. -/
noncomputable def Tryz.pinned : Pinned := { name := "ytiflpehjefhnmaagreat", sum := "bf0d02d8f69e7fddce4dedafafbdbfb5ae0713aa6dbec8b3e850259ffc376d88", checked := Tryz.checked }
namespace Rows
def none {H : Type} : Left H := { results := [], args := [] }

/-- 'boxhedgelaw14.WantAny': WHATEVER THE INPUT: true; the input reads as it did. -/
def wantAnySpec : ChangeSpec := { name := "wantAny", fn := fun _ => fun
  | [d] => { results := [.lit (.bool true)], args := [d] }
  | _ => none }
def wantAnyRow : OpenClaim := { program := "ytiflpehjefhnmaagreat", sum := "bf0d02d8f69e7fddce4dedafafbdbfb5ae0713aa6dbec8b3e850259ffc376d88", func := "boxhedge/boxhedgelaw14.WantAny", spec := "wantAny", unfollowed := true, recurses := true, loops := true, apart := false }
def WantAnySaid : Prop := wantAnyRow.holds Tryz.pinned (OpenSpec.ofChange wantAnySpec)

/-- ITS FALSE NEIGHBOUR: 'it returns false'. Refute it at one input. -/
def wantAnyWrong : ChangeSpec := { name := "wantAny", fn := fun _ => fun
  | [d] => { results := [.lit (.bool false)], args := [d] }
  | _ => none }
def WantAnyWrongFalsely : Prop := wantAnyRow.holds Tryz.pinned (OpenSpec.ofChange wantAnyWrong)

/-- 'boxhedgelaw14.WantGood': WHATEVER THE INPUT: true; the input reads as it did. -/
def wantGoodSpec : ChangeSpec := { name := "wantGood", fn := fun _ => fun
  | [d] => { results := [.lit (.bool true)], args := [d] }
  | _ => none }
def wantGoodRow : OpenClaim := { program := "ytiflpehjefhnmaagreat", sum := "bf0d02d8f69e7fddce4dedafafbdbfb5ae0713aa6dbec8b3e850259ffc376d88", func := "boxhedge/boxhedgelaw14.WantGood", spec := "wantGood", unfollowed := true, recurses := true, apart := false }
def WantGoodSaid : Prop := wantGoodRow.holds Tryz.pinned (OpenSpec.ofChange wantGoodSpec)

/-- ITS FALSE NEIGHBOUR: 'it returns false'. Refute it at one input. -/
def wantGoodWrong : ChangeSpec := { name := "wantGood", fn := fun _ => fun
  | [d] => { results := [.lit (.bool false)], args := [d] }
  | _ => none }
def WantGoodWrongFalsely : Prop := wantGoodRow.holds Tryz.pinned (OpenSpec.ofChange wantGoodWrong)

/-- 'boxhedgelaw14.WantDoes': WHATEVER THE INPUT: true; the input reads as it did. -/
def wantDoesSpec : ChangeSpec := { name := "wantDoes", fn := fun _ => fun
  | [d1, d2, d3] => { results := [.lit (.bool true)], args := [d1, d2, d3] }
  | _ => none }
def wantDoesRow : OpenClaim := { program := "ytiflpehjefhnmaagreat", sum := "bf0d02d8f69e7fddce4dedafafbdbfb5ae0713aa6dbec8b3e850259ffc376d88", func := "boxhedge/boxhedgelaw14.WantDoes", spec := "wantDoes", unfollowed := true, recurses := true, apart := false }
def WantDoesSaid : Prop := wantDoesRow.holds Tryz.pinned (OpenSpec.ofChange wantDoesSpec)

/-- ITS FALSE NEIGHBOUR: 'it returns false'. Refute it at one input. -/
def wantDoesWrong : ChangeSpec := { name := "wantDoes", fn := fun _ => fun
  | [d1, d2, d3] => { results := [.lit (.bool false)], args := [d1, d2, d3] }
  | _ => none }
def WantDoesWrongFalsely : Prop := wantDoesRow.holds Tryz.pinned (OpenSpec.ofChange wantDoesWrong)

/-- 'boxhedgelaw14.WantSame': WHATEVER THE INPUT: true; the input reads as it did. -/
def wantSameSpec : ChangeSpec := { name := "wantSame", fn := fun _ => fun
  | [d] => { results := [.lit (.bool true)], args := [d] }
  | _ => none }
def wantSameRow : OpenClaim := { program := "ytiflpehjefhnmaagreat", sum := "bf0d02d8f69e7fddce4dedafafbdbfb5ae0713aa6dbec8b3e850259ffc376d88", func := "boxhedge/boxhedgelaw14.WantSame", spec := "wantSame", unfollowed := true, recurses := true, apart := false }
def WantSameSaid : Prop := wantSameRow.holds Tryz.pinned (OpenSpec.ofChange wantSameSpec)

/-- ITS FALSE NEIGHBOUR: 'it returns false'. Refute it at one input. -/
def wantSameWrong : ChangeSpec := { name := "wantSame", fn := fun _ => fun
  | [d] => { results := [.lit (.bool false)], args := [d] }
  | _ => none }
def WantSameWrongFalsely : Prop := wantSameRow.holds Tryz.pinned (OpenSpec.ofChange wantSameWrong)

/- THE SECOND FORM. 'bulk': how many values and letters a reading holds, each counted each time it is reached (what is shared counts as often as it is met; a slice's spare places count too). A statement '..UptoSaid' is the law's where the arguments, and the package variables that the reading takes, are together of bulk at most 1048576: NARROWER than '..Said'. Prove '..Said' where nothing that the law and all that it calls make is longer than what came in: it says more and counts as full. Else prove '..UptoSaid'. A law counts once. -/
mutual
def uptoBulk {H : Type} : DataW H → Nat
  | .lit (.string bytes) => bytes.length + 1
  | .lit _ => 1
  | .nil => 1
  | .ptr d => uptoBulk d + 1
  | .slice elems spare => uptoBulkAll elems + uptoBulkAll spare + 1
  | .agg parts => uptoBulkAll parts + 1
  | .iface _ d => uptoBulk d + 1
  | .map entries => uptoBulkEntries entries + 1
  | .held _ => 1
def uptoBulkAll {H : Type} : List (DataW H) → Nat
  | [] => 0
  | d :: r => uptoBulk d + uptoBulkAll r
def uptoBulkEntries {H : Type} : List (Lit × DataW H) → Nat
  | [] => 0
  | x :: r => uptoBulkEntry x + uptoBulkEntries r
def uptoBulkEntry {H : Type} : Lit × DataW H → Nat
  | (.string bytes, d) => bytes.length + uptoBulk d + 1
  | (_, d) => uptoBulk d + 1
 end
def uptoSmall : (H : Type) → List (DataW H) → Bool := fun _ ds => decide (uptoBulkAll ds ≤ 1048576)
def OpenSpec.upto (s : _root_.Go.ChangeSpec) : _root_.Go.OpenSpec := { _root_.Go.OpenSpec.ofChange s with cond := some uptoSmall }

/-- 'boxhedgelaw14.WantAny', WHERE WHAT IT READS IS OF BULK AT MOST 1048576: true; the input reads as it did. -/
def wantAnyUptoRow : OpenClaim := { program := "ytiflpehjefhnmaagreat", sum := "bf0d02d8f69e7fddce4dedafafbdbfb5ae0713aa6dbec8b3e850259ffc376d88", func := "boxhedge/boxhedgelaw14.WantAny", spec := "wantAny", unfollowed := true, recurses := true, loops := true, apart := false, narrowed := true }
def WantAnyUptoSaid : Prop := wantAnyUptoRow.holds Tryz.pinned (OpenSpec.upto wantAnySpec)

/-- 'boxhedgelaw14.WantGood', WHERE WHAT IT READS IS OF BULK AT MOST 1048576: true; the input reads as it did. -/
def wantGoodUptoRow : OpenClaim := { program := "ytiflpehjefhnmaagreat", sum := "bf0d02d8f69e7fddce4dedafafbdbfb5ae0713aa6dbec8b3e850259ffc376d88", func := "boxhedge/boxhedgelaw14.WantGood", spec := "wantGood", unfollowed := true, recurses := true, apart := false, narrowed := true }
def WantGoodUptoSaid : Prop := wantGoodUptoRow.holds Tryz.pinned (OpenSpec.upto wantGoodSpec)

/-- 'boxhedgelaw14.WantDoes', WHERE WHAT IT READS IS OF BULK AT MOST 1048576: true; the input reads as it did. -/
def wantDoesUptoRow : OpenClaim := { program := "ytiflpehjefhnmaagreat", sum := "bf0d02d8f69e7fddce4dedafafbdbfb5ae0713aa6dbec8b3e850259ffc376d88", func := "boxhedge/boxhedgelaw14.WantDoes", spec := "wantDoes", unfollowed := true, recurses := true, apart := false, narrowed := true }
def WantDoesUptoSaid : Prop := wantDoesUptoRow.holds Tryz.pinned (OpenSpec.upto wantDoesSpec)

/-- 'boxhedgelaw14.WantSame', WHERE WHAT IT READS IS OF BULK AT MOST 1048576: true; the input reads as it did. -/
def wantSameUptoRow : OpenClaim := { program := "ytiflpehjefhnmaagreat", sum := "bf0d02d8f69e7fddce4dedafafbdbfb5ae0713aa6dbec8b3e850259ffc376d88", func := "boxhedge/boxhedgelaw14.WantSame", spec := "wantSame", unfollowed := true, recurses := true, apart := false, narrowed := true }
def WantSameUptoSaid : Prop := wantSameUptoRow.holds Tryz.pinned (OpenSpec.upto wantSameSpec)

end Rows
end Go.Proofs.YtiflpehjefhnmaaGreat
