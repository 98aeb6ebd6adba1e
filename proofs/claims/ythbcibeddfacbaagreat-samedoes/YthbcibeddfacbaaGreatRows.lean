/-
  NARROWER THAN 'FOR EVERY INPUT', by the rows' own cells (each row's printed sentence says how): SameAny: loops.
  DERIVED. THE GIVEN ROWS OF THIS SEAT. 4 by the template 'for every input the law returns true; each argument reads behind the call as it read before'; 0 by the template 'total and deterministic' (their statements: YthbcibeddfacbaaGreatTotals.lean).
  GIVEN WITH THE SEED: the statements are not yours to turn. If you find one false, say at which input.
  Laid BY PROGRAM, IN A SANDBOX (cutbox-rows.mjs): the forced cells as the released guide's own fill.sh prints them over the translation 990be664c2da3bf0… (all of the seat's roots in one cut). By AI agents, Wed Nov 11 2026. No macro, syntax, notation, axiom, sorry.
-/
import Derived.Test.YthbcibeddfacbaaGreatChecked
import GoSem.Claim
import GoSem.ClaimJoined
import GoSem.ClaimMapViews
import Derived.JoinedTies
import Derived.KernelRfl
namespace Go.Proofs.YthbcibeddfacbaaGreat
/- THE CELL 'sum', in the pinned program and in every row, IS THE sha256 OF THE DUMP (.gsa) THAT YthbcibeddfacbaaGreatProg.lean LOADS. Nothing in Lean hashes anything: it is a label: what it is worth is what the hold of that sum in a sandbox is worth. -/
noncomputable def Tryz.pinned : Pinned := { name := "ythbcibeddfacbaagreat", sum := "990be664c2da3bf077137598b8875a93ac78a1d6bf23354f9a7d935bfecd178f", checked := Tryz.checked }
namespace Rows
def none {H : Type} : Left H := { results := [], args := [] }

/-- 'boxhedgelaw13.SameAny': WHATEVER THE INPUT: true; the input reads as it did. -/
def sameAnySpec : ChangeSpec := { name := "sameAny", fn := fun _ => fun
  | [d] => { results := [.lit (.bool true)], args := [d] }
  | _ => none }
def sameAnyRow : OpenClaim := { program := "ythbcibeddfacbaagreat", sum := "990be664c2da3bf077137598b8875a93ac78a1d6bf23354f9a7d935bfecd178f", func := "boxhedge/boxhedgelaw13.SameAny", spec := "sameAny", inPlace := ["maps.clone"], unfollowed := true, recurses := true, loops := true, plainKeys := false, apart := false }
def SameAnySaid : Prop := sameAnyRow.holds Tryz.pinned (OpenSpec.ofChange sameAnySpec)

/-- ITS FALSE NEIGHBOUR: 'it returns false'. Refute it at one input. -/
def sameAnyWrong : ChangeSpec := { name := "sameAny", fn := fun _ => fun
  | [d] => { results := [.lit (.bool false)], args := [d] }
  | _ => none }
def SameAnyWrongFalsely : Prop := sameAnyRow.holds Tryz.pinned (OpenSpec.ofChange sameAnyWrong)

/-- 'boxhedgelaw13.SameGood': WHATEVER THE INPUT: true; the input reads as it did. -/
def sameGoodSpec : ChangeSpec := { name := "sameGood", fn := fun _ => fun
  | [d] => { results := [.lit (.bool true)], args := [d] }
  | _ => none }
def sameGoodRow : OpenClaim := { program := "ythbcibeddfacbaagreat", sum := "990be664c2da3bf077137598b8875a93ac78a1d6bf23354f9a7d935bfecd178f", func := "boxhedge/boxhedgelaw13.SameGood", spec := "sameGood", inPlace := ["maps.clone"], unfollowed := true, recurses := true, plainKeys := false, apart := false }
def SameGoodSaid : Prop := sameGoodRow.holds Tryz.pinned (OpenSpec.ofChange sameGoodSpec)

/-- ITS FALSE NEIGHBOUR: 'it returns false'. Refute it at one input. -/
def sameGoodWrong : ChangeSpec := { name := "sameGood", fn := fun _ => fun
  | [d] => { results := [.lit (.bool false)], args := [d] }
  | _ => none }
def SameGoodWrongFalsely : Prop := sameGoodRow.holds Tryz.pinned (OpenSpec.ofChange sameGoodWrong)

/-- 'boxhedgelaw13.SameDoes': WHATEVER THE INPUT: true; the input reads as it did. -/
def sameDoesSpec : ChangeSpec := { name := "sameDoes", fn := fun _ => fun
  | [d1, d2, d3] => { results := [.lit (.bool true)], args := [d1, d2, d3] }
  | _ => none }
def sameDoesRow : OpenClaim := { program := "ythbcibeddfacbaagreat", sum := "990be664c2da3bf077137598b8875a93ac78a1d6bf23354f9a7d935bfecd178f", func := "boxhedge/boxhedgelaw13.SameDoes", spec := "sameDoes", inPlace := ["maps.clone"], unfollowed := true, recurses := true, plainKeys := false, apart := false }
def SameDoesSaid : Prop := sameDoesRow.holds Tryz.pinned (OpenSpec.ofChange sameDoesSpec)

/-- ITS FALSE NEIGHBOUR: 'it returns false'. Refute it at one input. -/
def sameDoesWrong : ChangeSpec := { name := "sameDoes", fn := fun _ => fun
  | [d1, d2, d3] => { results := [.lit (.bool false)], args := [d1, d2, d3] }
  | _ => none }
def SameDoesWrongFalsely : Prop := sameDoesRow.holds Tryz.pinned (OpenSpec.ofChange sameDoesWrong)

/-- 'boxhedgelaw13.SameSame': WHATEVER THE INPUT: true; the input reads as it did. -/
def sameSameSpec : ChangeSpec := { name := "sameSame", fn := fun _ => fun
  | [d] => { results := [.lit (.bool true)], args := [d] }
  | _ => none }
def sameSameRow : OpenClaim := { program := "ythbcibeddfacbaagreat", sum := "990be664c2da3bf077137598b8875a93ac78a1d6bf23354f9a7d935bfecd178f", func := "boxhedge/boxhedgelaw13.SameSame", spec := "sameSame", inPlace := ["maps.clone"], unfollowed := true, recurses := true, plainKeys := false, apart := false }
def SameSameSaid : Prop := sameSameRow.holds Tryz.pinned (OpenSpec.ofChange sameSameSpec)

/-- ITS FALSE NEIGHBOUR: 'it returns false'. Refute it at one input. -/
def sameSameWrong : ChangeSpec := { name := "sameSame", fn := fun _ => fun
  | [d] => { results := [.lit (.bool false)], args := [d] }
  | _ => none }
def SameSameWrongFalsely : Prop := sameSameRow.holds Tryz.pinned (OpenSpec.ofChange sameSameWrong)

/- THE SECOND FORM. 'bulk': how many values and letters a reading holds, each counted each time it is reached (what is shared counts as often as it is met; a slice's spare places count too). A statement '..UptoSaid' is the law's where the arguments, and the package variables that the reading takes, are together of bulk at most 1048576: NARROWER than '..Said'. Prove '..Said' where nothing that the law and all that it calls make is longer than what came in: it says more and counts as full. Else prove '..UptoSaid'. A law counts once. -/
mutual
def uptoBulk {H : Type} : DataW H → Nat
  | .lit (.string bytes) => bytes.length + 1
  | .lit _ => 1
  | .nil => 1
  | .ptr d => uptoBulk d + 1
  | .slice elems spare => uptoBulkAll elems + uptoBulkAll spare + 1
  | .agg parts => uptoBulkAll parts + 1
  | .iface _ d => uptoBulk d + 1
  | .map entries => uptoBulkEntries entries + 1
  | .held _ => 1
def uptoBulkAll {H : Type} : List (DataW H) → Nat
  | [] => 0
  | d :: r => uptoBulk d + uptoBulkAll r
def uptoBulkEntries {H : Type} : List (Lit × DataW H) → Nat
  | [] => 0
  | x :: r => uptoBulkEntry x + uptoBulkEntries r
def uptoBulkEntry {H : Type} : Lit × DataW H → Nat
  | (.string bytes, d) => bytes.length + uptoBulk d + 1
  | (_, d) => uptoBulk d + 1
 end
def uptoSmall : (H : Type) → List (DataW H) → Bool := fun _ ds => decide (uptoBulkAll ds ≤ 1048576)
def OpenSpec.upto (s : _root_.Go.ChangeSpec) : _root_.Go.OpenSpec := { _root_.Go.OpenSpec.ofChange s with cond := some uptoSmall }

/-- 'boxhedgelaw13.SameAny', WHERE WHAT IT READS IS OF BULK AT MOST 1048576: true; the input reads as it did. -/
def sameAnyUptoRow : OpenClaim := { program := "ythbcibeddfacbaagreat", sum := "990be664c2da3bf077137598b8875a93ac78a1d6bf23354f9a7d935bfecd178f", func := "boxhedge/boxhedgelaw13.SameAny", spec := "sameAny", inPlace := ["maps.clone"], unfollowed := true, recurses := true, loops := true, plainKeys := false, apart := false, narrowed := true }
def SameAnyUptoSaid : Prop := sameAnyUptoRow.holds Tryz.pinned (OpenSpec.upto sameAnySpec)

/-- 'boxhedgelaw13.SameGood', WHERE WHAT IT READS IS OF BULK AT MOST 1048576: true; the input reads as it did. -/
def sameGoodUptoRow : OpenClaim := { program := "ythbcibeddfacbaagreat", sum := "990be664c2da3bf077137598b8875a93ac78a1d6bf23354f9a7d935bfecd178f", func := "boxhedge/boxhedgelaw13.SameGood", spec := "sameGood", inPlace := ["maps.clone"], unfollowed := true, recurses := true, plainKeys := false, apart := false, narrowed := true }
def SameGoodUptoSaid : Prop := sameGoodUptoRow.holds Tryz.pinned (OpenSpec.upto sameGoodSpec)

/-- 'boxhedgelaw13.SameDoes', WHERE WHAT IT READS IS OF BULK AT MOST 1048576: true; the input reads as it did. -/
def sameDoesUptoRow : OpenClaim := { program := "ythbcibeddfacbaagreat", sum := "990be664c2da3bf077137598b8875a93ac78a1d6bf23354f9a7d935bfecd178f", func := "boxhedge/boxhedgelaw13.SameDoes", spec := "sameDoes", inPlace := ["maps.clone"], unfollowed := true, recurses := true, plainKeys := false, apart := false, narrowed := true }
def SameDoesUptoSaid : Prop := sameDoesUptoRow.holds Tryz.pinned (OpenSpec.upto sameDoesSpec)

/-- 'boxhedgelaw13.SameSame', WHERE WHAT IT READS IS OF BULK AT MOST 1048576: true; the input reads as it did. -/
def sameSameUptoRow : OpenClaim := { program := "ythbcibeddfacbaagreat", sum := "990be664c2da3bf077137598b8875a93ac78a1d6bf23354f9a7d935bfecd178f", func := "boxhedge/boxhedgelaw13.SameSame", spec := "sameSame", inPlace := ["maps.clone"], unfollowed := true, recurses := true, plainKeys := false, apart := false, narrowed := true }
def SameSameUptoSaid : Prop := sameSameUptoRow.holds Tryz.pinned (OpenSpec.upto sameSameSpec)

end Rows
end Go.Proofs.YthbcibeddfacbaaGreat
