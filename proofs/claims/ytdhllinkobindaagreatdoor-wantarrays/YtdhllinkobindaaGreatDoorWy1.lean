/- What comes out of want does what the unit does that rises of a program of lines of arrays, and what ends a run, at no more cost, with no less fuel left; and the other way round. Its card: the three tables of Go's library that the row lists are tied to the program's text. -/
import Derived.SevenTiedAt
import Derived.Test.YtdhllinkobindaaGreatDoorWl9
set_option maxRecDepth 20000
set_option maxHeartbeats 8000000
set_option linter.unusedSimpArgs false
set_option linter.unusedVariables false
namespace Go.Proofs.YtdhllinkobindaaGreatDoor
open Go
theorem sc_WantArrays (l : List UInt8) (ins : List Int) (n : Int) (hn : 0 ≤ n ∧ n ≤ 255) : SC Tryz.prog 5 [.pv (bts l), .pv (ints ins), .pv (.val (.int .u8 n))] [] (fun k => k ∈ []) (iBool true) [] := by
  refine SC.vc tb { gh := [(0, [.len 0])] } [] Tryz.func5 rfl rfl ?_
  intro hl
  simp only [List.length_map] at hl
  have hl : l.length ≤ 9223372036854775807 := hl
  have hT := riU_w (famT 2 l)
  have hA := Nat.le_trans (riU_ar (famT 2 l)) (Nat.le_trans (fam_arr 2 l) (by decide : 1 ≤ 2))
  have hF := j21 2 (by decide) (by decide) l hl
  have hR := sc_Rise (famT 2 l)
  generalize riU (famT 2 l) = q at hT hA hR
  obtain ⟨u, e⟩ := q
  dsimp only at hT hA hR
  have hC := ze4 u hT.1
  have hH := yd8 u hT.1 y2q
  have hg := fun hz => @z60 wB u hz
  have hx := @y36 u
  have hrel := @want_rel u
  have hri := @yx8 u
  have hB := fun (hz : (z16 u).1 = 0) => yd9 (hrel hz) hA hT.1 (y2o u hT.1) hz (by rw [hx hz]) hT.2 (ins.take 10) (2 * n) ⟨by omega, by omega⟩
  have hRt := yn6 (z3q wB u) (y2o u hT.1)
  refine ⟨[], sc_awake, sR, trivial, rfl, [], hF, sR, trivial, rfl, [], hR, sR, trivial, rfl, [], hC, sR, trivial, rfl, z00 (fun h1 => ?_) fun h1 => z00 (fun h2 => ?_) fun h2 => ?_⟩
  · exact ⟨sI, trivial⟩
  · exact ⟨sI, trivial⟩
  · have hz : (z16 u).1 = 0 := by simpa using h2
    rw [hg hz] at hH
    rw [hri hz] at hRt
    exact ⟨[], hH, sR, trivial, rfl, [], hRt, sR, trivial, rfl, [], sc_ins ins, sR, trivial, rfl, i64_two hn, [], hB hz, sR, trivial, rfl, sI, trivial⟩
section
open Go Go.ChangeShapes Go.WideShapes Go.ChangeAt Go.RowKit Go.Deep
theorem wantArrays_lifted (hsc : ∀ (l : List UInt8) (ins : List Int) (n : Int), 0 ≤ n ∧ n ≤ 255 → SC Tryz.prog 5 [.pv (bts l), .pv (ints ins), .pv (.val (.int .u8 n))] [] (fun k => k ∈ []) (iBool true) []) (os : Os) (started : os.Started) (H : Type) (enc : TypeId × Value → H) :
    ReturnsInHanded {} Tryz.checked os 5 .any (fun w args => (Rows.wantArraysSpec.pre enc Tryz.prog Tryz.f5 Rows.wantArraysRow.domain false w args ∧ laidMet Tryz.prog j0i w) ∧ sizedMet enc Tryz.prog Tryz.f5 (OpenSpec.ofChange Rows.wantArraysSpec) false w args) (Rows.wantArraysSpec.post enc Tryz.prog Tryz.f5 false true false false) := by
  refine returnsInHanded_of_change_and (C := Tryz.checked) (X := fun w _ => laidMet Tryz.prog j0i w) (fun _ _ _ hh h => h.of_heap hh) Tryz.own started (by kernel_rfl) Tryz.func5
    (ChangeSpec.witness_at (enc := enc) (C := Tryz.checked) (os := os) (X := fun w _ => laidMet Tryz.prog j0i w) false (laidWorld os) #[.slice none 0 0, .slice none 0 0, .int .u8 0] 8 rfl (by kernel_rfl) (by kernel_rfl) (by kernel_rfl) (by kernel_rfl) (by kernel_rfl) (y5b os _)) ?_
  intro W base args ds gs before hval0 hW _ _ hL _
  have hval : ∀ (j : Nat) t v, Tryz.f5.params[j]? = some t → args[j]? = some v → Value.okWide Tryz.prog W .any base t v := hval0
  clear hval0
  have hW' := hW
  obtain ⟨p, q, hA0, hV, rfl, hfz, hnd⟩ := hW
  have hA : DataW.TrodAll enc Tryz.prog W 0 (fun _ => true) true Tryz.f5.params.toList args.toList ds p := hA0
  rw [Tryz.params5] at hA hval
  obtain ⟨v0, vs0, d0, ds0, p0, q0, hargs, rfl, rfl, h0, r0⟩ := trodAll_cons hA
  obtain ⟨v1, vs1, d1, ds1, p1, q1, rfl, rfl, rfl, h1, r1⟩ := trodAll_cons r0
  obtain ⟨v2, vs2, d2, ds2, p2, q2, rfl, rfl, rfl, h2, r2⟩ := trodAll_cons r1
  obtain ⟨rfl, rfl, rfl⟩ := trodAll_nil r2
  obtain rfl : args = #[v0, v1, v2] := by cases args; simp_all
  obtain ⟨rfl, rfl⟩ := trodVars_none hV
  obtain ⟨l, hu⟩ := ys3 (hval 0 22 v0 rfl rfl) h0
  obtain ⟨ins, hi⟩ := j10 (hval 1 23 v1 rfl rfl) h1
  obtain ⟨n, hn0, hn1, hn⟩ := open_u8 (hval 2 5 v2 rfl rfl) h2
  refine (yy9 (hsc l ins n ⟨hn0, hn1⟩) (kept_of hL) (ys7 hu hi hn)).mono ?_
  rintro e W' ⟨rfl, hos, hout, hbl⟩
  exact ⟨_, rfl, j17 Tryz.laidOut rfl hW' (fun t ht => by
    have ht' : t ∈ Tryz.f5.params.toList := ht
    rw [Tryz.params5] at ht'
    have ht2 : t = 22 ∨ t = 23 ∨ t = 5 := by simpa using ht'
    rcases ht2 with rfl | rfl | rfl <;> exact ⟨by kernel_rfl, of_decide_eq_true (by kernel_rfl)⟩) (by kernel_rfl) Tryz.underlying4 rfl hos hout hbl⟩
theorem wantArrays_of (hsc : ∀ (l : List UInt8) (ins : List Int) (n : Int), 0 ≤ n ∧ n ≤ 255 → SC Tryz.prog 5 [.pv (bts l), .pv (ints ins), .pv (.val (.int .u8 n))] [] (fun k => k ∈ []) (iBool true) []) : Rows.WantArraysSaid :=
  OpenClaim.holds_of_wide 5 Tryz.f5 rfl rfl rfl rfl rfl rfl rfl ⟨rfl, rfl, rfl, rfl, rfl⟩ rfl rfl rfl rfl rfl (by kernel_rfl) Tryz.func5 (by kernel_rfl)
    (of_decide_eq_true (by kernel_rfl)) (by unfold Func.isWrapper; first | (rw [if_pos (by decide +kernel)]; kernel_rfl) | (rw [if_neg (by decide +kernel)]; exact ⟨rfl, rfl⟩))
    (fun os started H enc _ => wantArrays_lifted hsc os started H enc)
end
theorem wantArrays_holds : Rows.WantArraysSaid := wantArrays_of fun l ins n hn => sc_WantArrays l ins n hn
theorem wantArraysCard_holds : Rows.WantArraysCardSaid :=
  Claim7.holds_tied_plain_at .later [] [.data, .data, .data] true (true, "29187893dd20036e86bc286b5dd1dfc9730c07e84ede232c38d7005ec1b4bf48") true
    wantArrays_holds (fun _ h => by cases h) (by kernel_rfl) (fun _ h => by cases h) wantArrays_row_tie rfl ⟨rfl, rfl⟩ (by kernel_rfl) rfl
    (fun f fn hf hfn => by
      obtain rfl : f = 5 := Option.some.inj ((show Tryz.prog.funcNamed "boxhedge/boxhedgelaw14.WantArrays" = some 5 by kernel_rfl).symm.trans hf) |>.symm
      obtain rfl : fn = Tryz.f5 := (Option.some.inj (Tryz.func5.symm.trans hfn)).symm
      exact ⟨by kernel_rfl, fun j t ht => by
        rw [Tryz.params5] at ht
        have hm : t ∈ [22, 23, 5] := by
          have := Array.mem_of_getElem? ht
          simpa using this
        have hall : ([22, 23, 5].all fun u => !Tryz.prog.wantsStandIn u) = true := by kernel_rfl
        exact (show Tryz.prog.wantsStandIn t = false by simpa using List.all_eq_true.1 hall t hm)⟩)
    (by kernel_rfl)
end Go.Proofs.YtdhllinkobindaaGreatDoor
