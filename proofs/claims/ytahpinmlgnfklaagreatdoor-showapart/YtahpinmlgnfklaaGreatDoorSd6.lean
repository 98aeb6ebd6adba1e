/- Unlike units that may be have unlike texts. Its card: the three tables of Go's library that the row lists are tied to the program's text. -/
import Derived.Test.YtahpinmlgnfklaaGreatDoorSd5
set_option maxRecDepth 8000
set_option maxHeartbeats 2000000
set_option linter.unusedSimpArgs false
set_option linter.unusedVariables false
set_option linter.unusedSectionVars false
namespace Go.Proofs.YtahpinmlgnfklaaGreatDoor
open Go
section
open Go Go.ChangeShapes Go.WideShapes Go.ChangeAt Go.RowKit Go.Deep
section
variable {H : Type} {enc : TypeId × Value → H} {P : Program} {w : World} {base : Nat} {spare : Nat → Bool} {held : Bool}
theorem trod_bytes {own : Nat → Prop} (hown : ∀ b, b < w.heap.size → ¬ own b) {t e : TypeId} {fuel : Nat} {cs : List Value} {x : DataW H × List MemPlace} (ht : P.underlying t = some (.slice e)) (he : P.underlying e = some (.int .u8)) (hC : P.cellsOf e = 1)
    (h : DataW.trod enc P w base spare held fuel t cs = some x) : ∃ (l : List UInt8) (v : Value), cs = [v] ∧ RepP own w (bts l) v := by
  obtain ⟨l, v, h1, h2, _⟩ := trod_list eB (fun _ => 0) hown ht hC (by decide) h (fun n cs' y _ _ hy => by
    obtain ⟨k, rfl, rfl, hk⟩ := DataW.trod_int he hy
    have hr : 0 ≤ k ∧ k ≤ 255 := by
      simp [Lit.wf, IntKind.min, IntKind.max, IntKind.bits, IntKind.signed] at hk
      omega
    refine ⟨UInt8.ofNat k.toNat, ?_, by simp [Rows.uptoBulk]⟩
    have e : ((UInt8.ofNat k.toNat).toNat : Int) = k := by
      rw [UInt8.toNat_ofNat_of_lt' (by simp [UInt8.size]; omega)]
      omega
    unfold eB
    rw [e]
    exact RepEl.cons (.val _) .nil)
  exact ⟨l, v, h1, h2⟩
end
set_option maxRecDepth 100000 in
theorem open_bytes {H : Type} {enc : TypeId × Value → H} {W : World} {base b0 : Nat} {spare : Nat → Bool} {held : Bool} {r : Reach} {v : Value} {d : DataW H} {p : List MemPlace} (hv : Value.okWide Tryz.prog W r b0 32 v)
    (h : DataW.Trod enc Tryz.prog W base spare held 32 v d p) : ∃ l : List UInt8, RepI (fun _ => False) (fun _ => none) (look (up [])) W (.pv (bts l)) v := by
  obtain ⟨a, len, cap, rfl⟩ := okWide_slice Tryz.underlying32 hv
  obtain ⟨fuel, hf⟩ := h
  obtain ⟨l, v', h1, h2⟩ := trod_bytes (own := owned (fun _ => False) (fun _ => none)) (fun _ _ => own_none) Tryz.underlying32 Tryz.underlying5 (by kernel_rfl) hf
  have e : (Value.slice a len cap).cells.toList = [Value.slice a len cap] := rfl
  rw [e] at h1
  cases h1
  exact ⟨l, .pv _ _ h2⟩
theorem repL_two {F : Nat → Prop} {ρ : Loc} {σ : Heap'} {w : World} {x y : IV} {a b : Value} (h1 : RepI F ρ σ w x a) (h2 : RepI F ρ σ w y b) : RepL F ρ σ w [x, y] [a, b] := by
  refine ⟨rfl, fun j q hj => ?_⟩
  match j, hj with
  | 0, hj => simp at hj; subst hj; exact ⟨a, rfl, h1⟩
  | 1, hj => simp at hj; subst hj; exact ⟨b, rfl, h2⟩
  | j + 2, hj => simp at hj
set_option maxRecDepth 100000 in
theorem showApart_lifted (hsc : ∀ l m : List UInt8, SC Tryz.prog 6 [.pv (bts l), .pv (bts m)] [] (fun k => k ∈ []) (iBool true) []) (os : Os) (started : os.Started) (H : Type) (enc : TypeId × Value → H) :
    ReturnsInHanded {} Tryz.checked os 6 .any (fun w args => (Rows.showApartSpec.pre enc Tryz.prog Tryz.f6 Rows.showApartRow.domain false w args ∧ laidMet Tryz.prog laidL w) ∧ sizedMet enc Tryz.prog Tryz.f6 (OpenSpec.ofChange Rows.showApartSpec) false w args) (Rows.showApartSpec.post enc Tryz.prog Tryz.f6 false true false false) := by
  refine returnsInHanded_of_change_and (C := Tryz.checked) (X := fun w _ => laidMet Tryz.prog laidL w) (fun _ _ _ hh h => h.of_heap hh) Tryz.own started (by kernel_rfl) Tryz.func6
    (ChangeSpec.witness_at (enc := enc) (C := Tryz.checked) (os := os) (X := fun w _ => laidMet Tryz.prog laidL w) false (laidWorld os) #[.slice none 0 0, .slice none 0 0] 8 rfl (by kernel_rfl) (by kernel_rfl) (by kernel_rfl) (by kernel_rfl) (by kernel_rfl) (laidWorld_met os _)) ?_
  intro W base args ds gs before hval0 hW _ _ hL _
  have hval : ∀ (j : Nat) t v, Tryz.f6.params[j]? = some t → args[j]? = some v → Value.okWide Tryz.prog W .any base t v := hval0
  clear hval0
  have hW' := hW
  obtain ⟨p, q, hA0, hV, rfl, hfz, hnd⟩ := hW
  have hA : DataW.TrodAll enc Tryz.prog W 0 (fun _ => true) true Tryz.f6.params.toList args.toList ds p := hA0
  rw [Tryz.params6] at hA hval
  obtain ⟨v0, vs0, d0, ds0, p0, q0, hargs, rfl, rfl, h0, r0⟩ := trodAll_cons hA
  obtain ⟨v1, vs1, d1, ds1, p1, q1, rfl, rfl, rfl, h1, r1⟩ := trodAll_cons r0
  obtain ⟨rfl, rfl, rfl⟩ := trodAll_nil r1
  obtain rfl : args = #[v0, v1] := by cases args; simp_all
  obtain ⟨rfl, rfl⟩ := trodVars_none hV
  obtain ⟨l, hu⟩ := open_bytes (hval 0 32 v0 rfl rfl) h0
  obtain ⟨m, hm⟩ := open_bytes (hval 1 32 v1 rfl rfl) h1
  refine (call_true (hsc l m) (kept_of hL) (repL_two hu hm)).mono ?_
  rintro e W' ⟨rfl, hos, hout, hbl⟩
  exact ⟨_, rfl, post_true Tryz.laidOut rfl hW' (fun t ht => by
    have ht' : t ∈ Tryz.f6.params.toList := ht
    rw [Tryz.params6] at ht'
    obtain rfl : t = 32 := by simpa using ht'
    exact ⟨by kernel_rfl, of_decide_eq_true (by kernel_rfl)⟩) (by kernel_rfl) Tryz.underlying4 rfl hos hout hbl⟩
set_option maxRecDepth 100000 in
theorem showApart_of (hsc : ∀ l m : List UInt8, SC Tryz.prog 6 [.pv (bts l), .pv (bts m)] [] (fun k => k ∈ []) (iBool true) []) : Rows.ShowApartSaid :=
  OpenClaim.holds_of_wide 6 Tryz.f6 rfl rfl rfl rfl rfl rfl rfl ⟨rfl, rfl, rfl, rfl, rfl⟩ rfl rfl rfl rfl rfl (by kernel_rfl) Tryz.func6 (by kernel_rfl)
    (of_decide_eq_true (by kernel_rfl)) (by unfold Func.isWrapper; first | (rw [if_pos (by decide +kernel)]; kernel_rfl) | (rw [if_neg (by decide +kernel)]; exact ⟨rfl, rfl⟩))
    (fun os started H enc _ => showApart_lifted hsc os started H enc)
end
theorem showApart_holds : Rows.ShowApartSaid := showApart_of sc_ShowApart
theorem showApartCard_holds : Rows.ShowApartCardSaid :=
  Claim7.holds_tied_plain_at .later [] [.data, .data, .data] true (true, "84563aa7610ad8d083a9852d4a05201b6768f8dd70055e04f99e7581d59bc703") false
    showApart_holds (fun _ h => by cases h) (by kernel_rfl) (fun _ h => by cases h) showApart_row_tie rfl ⟨rfl, rfl⟩ (by kernel_rfl) rfl
    (fun f fn hf hfn => by
      obtain rfl : f = 6 := Option.some.inj ((show Tryz.prog.funcNamed "boxhedge/boxhedgelaw09.ShowApart" = some 6 by kernel_rfl).symm.trans hf) |>.symm
      obtain rfl : fn = Tryz.f6 := (Option.some.inj (Tryz.func6.symm.trans hfn)).symm
      exact ⟨by kernel_rfl, fun j t ht => by
        rw [Tryz.params6] at ht
        have hm : t ∈ [32] := by
          have := Array.mem_of_getElem? ht
          simpa using this
        have hall : ([32].all fun u => !Tryz.prog.wantsStandIn u) = true := by kernel_rfl
        exact (show Tryz.prog.wantsStandIn t = false by simpa using List.all_eq_true.1 hall t hm)⟩)
    (by kernel_rfl)
end Go.Proofs.YtahpinmlgnfklaaGreatDoor
