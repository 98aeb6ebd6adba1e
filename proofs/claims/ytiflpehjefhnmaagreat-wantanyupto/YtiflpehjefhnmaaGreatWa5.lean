/- Any unit up to the stated size: want refuses exactly what the document says, and else what comes out may be and has its arrays and flows' heads. Conditions: none beyond those of the given statement. -/
import Derived.Test.YtiflpehjefhnmaaGreatWa4
set_option maxRecDepth 8000
set_option maxHeartbeats 2000000
set_option linter.unusedSimpArgs false
set_option linter.unusedVariables false
set_option linter.unusedSectionVars false
namespace Go.Proofs.YtiflpehjefhnmaaGreat
open Go
theorem sc_sweep_aux (N : Nat) : ∀ (l : List Nd) (h : Hd) (s : List Int) (hok : wOkL h l = true) (hb : lsW l ≤ 1073741824), SizeOf.sizeOf l < N → SC Tryz.prog 40 [.mp 3002, .pv (nodes l), .pv (hdv h)] (wM s) (fun k => k = 3002) (.pv (nodes (sList s h l))) (wM s) := by
  induction N with
  | zero => intro l h s hok hb hN; exact absurd hN (Nat.not_lt_zero _)
  | succ N ih =>
    intro l h s hok hb hN
    refine SC.of Tryz.func40 rfl (lb rfl) fun F ρ w => ?_
    refine Tr.lenOf (t := 1) rfl (fun hl => ?_)
    simp only [List.length_map] at hl
    refine tQ <| tG <| cE rfl (ok_box rfl rfl) <| sm 1 rfl <| nL <| tQ <| tQ <| Tr.grow (t := 6) (k := 106) ⟨43, 8⟩ rfl rfl rfl rfl rfl <| tG <| sm 1 rfl <| cV rfl (oSm uT44 rfl) <| sm 1 rfl ?_
    refine nL <| tBk <| Tr.sub (Sub.of (fr' := [(13, iInt 0), (12, iInt l.length), (11, .pv (nodes l)), (6, .sl 106 (([] : List Nd).map Nd.enc).length), (5, .pv (.ept [ints h.yield, ints h.next, ints h.left] 0)), (0, .mp 3002)]) ⟨rfl, rfl, rfl, rfl, rfl, rfl, trivial⟩) ?_
    refine Tr.loop (fun fr σ m => ∃ (k : Nat) (out : List Nd), (k ≤ l.length) ∧ (out ++ sList s h (l.drop k) = sList s h l) ∧ fr = [(13, iInt k), (12, iInt l.length), (11, .pv (nodes l)), (6, .sl 106 (out.map Nd.enc).length), (5, .pv (.ept [ints h.yield, ints h.next, ints h.left] 0)), (0, .mp 3002)] ∧ σ = look [(106, some (.row ⟨43, 8⟩ (out.map Nd.enc))), (3002, some (.map (vsOf s)))] ∧ m = l.length - k) (n := l.length - 0) ?_ ?_
    ·exact ⟨0, ([] : List Nd), Nat.zero_le _, rfl, rfl, rfl, rfl⟩
    rintro fr σ m ⟨k, out, hI0, hI1, rfl, rfl, rfl⟩
    refine tQ <| tG <| sm 1 rfl <| nL <| tQ ?_
    refine tC rfl (fun hc14 => ?_) fun hc14 => ?_
    ·have hlt : k < l.length := by simpa using hc14
     have hd := List.drop_eq_getElem_cons hlt
     have hm := List.getElem_mem hlt
     have hi := nodes_get (List.getElem?_eq_getElem hlt)
     generalize l[k] = x at hd hm hi
     have hst : sList s h (x :: l.drop (k + 1)) = sNode s h x ++ sList s h (l.drop (k + 1)) := rfl
     have hxok := wOkL_mem hok hm
     have hlen1 := sList_len s h l
     have hlen2 := ls_len l
     have hol : out.length + (sNode s h x).length ≤ 1073741824 := by
       have := congrArg List.length hI1
       rw [hd, hst] at this
       simp only [List.length_append] at this
       omega
     have hWx := ndW_eq x
     have hWl := ndW_mem hm
     refine tSk <| tQ <| tBk <| tQ <| tG <| cV rfl (iSq rfl rfl rfl uT44 hi tS43 rfl (by rfl)) <| cV rfl (lEA rfl rfl uT43 rfl tS43 (lb rfl)) <| cE rfl (aLc (k := 108) rfl tZ43 rfl rfl rfl rfl) <| c0 (sBA rfl rfl rfl rfl rfl (by simp) tS43 (flk rfl) (lb rfl)) <| nL <| tQ <| tQ ?_
     refine tG <| sm 2 rfl <| nL <| tBk <| tQ <| tG <| sm 2 rfl <| nL ?_
     refine tC rfl (fun hc30 => ?_) fun hc30 => ?_
     ·have hk : (x.kind == 12) = true := hc30
      have hle : h.yield.length ≤ x.args.length := by
        have := hxok
        rw [wOkN_eq] at this
        simpa [hk] using this
      have hlb : h.yield.length ≤ 1073741824 := by omega
      have hN : sNode s h x = [.mk x.kind x.op x.n x.name (wKept s x.args h.yield) x.outs x.params x.kids] := by
        rw [sNode_eq]
        simp only [hk, if_true, Bool.false_eq_true, if_false]
      have hal : (out.map Nd.enc).length = out.length := by simp
      have hN1 : (sNode s h x).length = 1 := by rw [hN]; rfl
      have hol2 : out.length + 1 ≤ 1073741824 := by rw [hN1] at hol; exact hol
      refine tG <| sm 5 rfl <| cE rfl (ocr (sc_wKept x.args h.yield s (by omega) (by omega)) ent62 rfl (po1 rfl) rfl (fun k (h : _) => .inr h) rfl rfl) <| sm 1 rfl <| c0 (sBx rfl rfl rfl rfl (by simp) tS35 (rfl) (lb rfl)) <| nL <| tG <| sm 1 rfl <| cV rfl (lBP rfl rfl rfl uT43 rfl tS43 (lb rfl) rfl trivial) <| cE rfl (bSl rfl rfl uT44 tZ43 tS43 rfl rfl rfl rfl (fbk rfl) rfl) ?_
      refine cE rfl (aPp rfl rfl rfl rfl (by rfl) (by simp) uT44 tB43 (by decide) (by (simp [chunks]; done)) (hone_cells8 _ _ _ _ _ _ _ _) (by simp [maxLen, chunks]; omega) (by simp [chunks]; omega)) ?_
      refine sm 1 rfl <| nL <| Tr.drop (k := 108) ?_
      refine Tr.heap (σ' := look [(106, some (.row ⟨43, 8⟩ ((out ++ sNode s h x).map Nd.enc))), (3002, some (.map (vsOf s)))]) (by
        rw [hN, enc_snoc]
        intro j
        try simp only [look]
        by_cases h108 : 108 = j
        · subst h108; rfl
        · by_cases h106 : 106 = j
          · subst h106; rfl
          · by_cases h3002 : 3002 = j
            · subst h3002; rfl
            · simp [wH, wM, look, up, beq_ne h108, beq_ne h106, beq_ne h3002]) ?_
      refine tG <| cV rfl (oB rfl rfl (i64_add rfl (by omega))) <| sm 1 rfl <| nL ?_
      refine ⟨_, _, ?_, Sub.of (fr' := [(13, iInt (k + 1)), (12, iInt l.length), (11, .pv (nodes l)), (6, .sl 106 ((out ++ sNode s h x).map Nd.enc).length), (5, .pv (.ept [ints h.yield, ints h.next, ints h.left] 0)), (0, .mp 3002)]) ⟨rfl, rfl, rfl, congrArg (fun z => some (IV.sl _ z)) (by rw [hN]; simp [chunks]), rfl, rfl, trivial⟩, (k + 1), (out ++ sNode s h x), ?_, ?_, rfl, rfl, rfl⟩
      ·omega
      ·omega
      rw [List.append_assoc, ← hI1, hd]; rfl
     have hk12 : (x.kind == 12) = false := hc30
     refine tQ <| tG <| sm 2 rfl <| nL ?_
     refine tC rfl (fun hc39 => ?_) fun hc39 => ?_
     ·have hk : (x.kind == 13) = true := hc39
      have hle : h.next.length ≤ x.args.length := by
        have := hxok
        rw [wOkN_eq] at this
        simpa [hk12, hk] using this
      have hlb : h.next.length ≤ 1073741824 := by omega
      have hN : sNode s h x = [.mk x.kind x.op x.n x.name (wKept s x.args h.next) x.outs x.params x.kids] := by
        rw [sNode_eq]
        simp only [hk12, hk, if_true, Bool.false_eq_true, if_false]
      have hal : (out.map Nd.enc).length = out.length := by simp
      have hN1 : (sNode s h x).length = 1 := by rw [hN]; rfl
      have hol2 : out.length + 1 ≤ 1073741824 := by rw [hN1] at hol; exact hol
      refine tG <| sm 5 rfl <| cE rfl (ocr (sc_wKept x.args h.next s (by omega) (by omega)) ent62 rfl (po1 rfl) rfl (fun k (h : _) => .inr h) rfl rfl) <| sm 1 rfl <| c0 (sBx rfl rfl rfl rfl (by simp) tS35 (rfl) (lb rfl)) <| nL <| tG <| sm 1 rfl <| cV rfl (lBP rfl rfl rfl uT43 rfl tS43 (lb rfl) rfl trivial) <| cE rfl (bSl rfl rfl uT44 tZ43 tS43 rfl rfl rfl rfl (fbk rfl) rfl) ?_
      refine cE rfl (aPp rfl rfl rfl rfl (by rfl) (by simp) uT44 tB43 (by decide) (by (simp [chunks]; done)) (hone_cells8 _ _ _ _ _ _ _ _) (by simp [maxLen, chunks]; omega) (by simp [chunks]; omega)) ?_
      refine sm 1 rfl <| nL <| Tr.drop (k := 108) ?_
      refine Tr.heap (σ' := look [(106, some (.row ⟨43, 8⟩ ((out ++ sNode s h x).map Nd.enc))), (3002, some (.map (vsOf s)))]) (by
        rw [hN, enc_snoc]
        intro j
        try simp only [look]
        by_cases h108 : 108 = j
        · subst h108; rfl
        · by_cases h106 : 106 = j
          · subst h106; rfl
          · by_cases h3002 : 3002 = j
            · subst h3002; rfl
            · simp [wH, wM, look, up, beq_ne h108, beq_ne h106, beq_ne h3002]) ?_
      refine tG <| cV rfl (oB rfl rfl (i64_add rfl (by omega))) <| sm 1 rfl <| nL ?_
      refine ⟨_, _, ?_, Sub.of (fr' := [(13, iInt (k + 1)), (12, iInt l.length), (11, .pv (nodes l)), (6, .sl 106 ((out ++ sNode s h x).map Nd.enc).length), (5, .pv (.ept [ints h.yield, ints h.next, ints h.left] 0)), (0, .mp 3002)]) ⟨rfl, rfl, rfl, congrArg (fun z => some (IV.sl _ z)) (by rw [hN]; simp [chunks]), rfl, rfl, trivial⟩, (k + 1), (out ++ sNode s h x), ?_, ?_, rfl, rfl, rfl⟩
      ·omega
      ·omega
      rw [List.append_assoc, ← hI1, hd]; rfl
     have hk13 : (x.kind == 13) = false := hc39
     refine tQ <| tG <| sm 2 rfl <| nL ?_
     refine tC rfl (fun hc48 => ?_) fun hc48 => ?_
     ·have hk : (x.kind == 14) = true := hc48
      have hle : h.left.length ≤ x.args.length := by
        have := hxok
        rw [wOkN_eq] at this
        simpa [hk12, hk13, hk] using this
      have hlb : h.left.length ≤ 1073741824 := by omega
      have hN : sNode s h x = [.mk x.kind x.op x.n x.name (wKept s x.args h.left) x.outs x.params x.kids] := by
        rw [sNode_eq]
        simp only [hk12, hk13, hk, if_true, Bool.false_eq_true, if_false]
      have hal : (out.map Nd.enc).length = out.length := by simp
      have hN1 : (sNode s h x).length = 1 := by rw [hN]; rfl
      have hol2 : out.length + 1 ≤ 1073741824 := by rw [hN1] at hol; exact hol
      refine tG <| sm 5 rfl <| cE rfl (ocr (sc_wKept x.args h.left s (by omega) (by omega)) ent62 rfl (po1 rfl) rfl (fun k (h : _) => .inr h) rfl rfl) <| sm 1 rfl <| c0 (sBx rfl rfl rfl rfl (by simp) tS35 (rfl) (lb rfl)) <| nL <| tG <| sm 1 rfl <| cV rfl (lBP rfl rfl rfl uT43 rfl tS43 (lb rfl) rfl trivial) <| cE rfl (bSl rfl rfl uT44 tZ43 tS43 rfl rfl rfl rfl (fbk rfl) rfl) ?_
      refine cE rfl (aPp rfl rfl rfl rfl (by rfl) (by simp) uT44 tB43 (by decide) (by (simp [chunks]; done)) (hone_cells8 _ _ _ _ _ _ _ _) (by simp [maxLen, chunks]; omega) (by simp [chunks]; omega)) ?_
      refine sm 1 rfl <| nL <| Tr.drop (k := 108) ?_
      refine Tr.heap (σ' := look [(106, some (.row ⟨43, 8⟩ ((out ++ sNode s h x).map Nd.enc))), (3002, some (.map (vsOf s)))]) (by
        rw [hN, enc_snoc]
        intro j
        try simp only [look]
        by_cases h108 : 108 = j
        · subst h108; rfl
        · by_cases h106 : 106 = j
          · subst h106; rfl
          · by_cases h3002 : 3002 = j
            · subst h3002; rfl
            · simp [wH, wM, look, up, beq_ne h108, beq_ne h106, beq_ne h3002]) ?_
      refine tG <| cV rfl (oB rfl rfl (i64_add rfl (by omega))) <| sm 1 rfl <| nL ?_
      refine ⟨_, _, ?_, Sub.of (fr' := [(13, iInt (k + 1)), (12, iInt l.length), (11, .pv (nodes l)), (6, .sl 106 ((out ++ sNode s h x).map Nd.enc).length), (5, .pv (.ept [ints h.yield, ints h.next, ints h.left] 0)), (0, .mp 3002)]) ⟨rfl, rfl, rfl, congrArg (fun z => some (IV.sl _ z)) (by rw [hN]; simp [chunks]), rfl, rfl, trivial⟩, (k + 1), (out ++ sNode s h x), ?_, ?_, rfl, rfl, rfl⟩
      ·omega
      ·omega
      rw [List.append_assoc, ← hI1, hd]; rfl
     have hk14 : (x.kind == 14) = false := hc48
     refine tQ <| tG <| sm 2 rfl <| nL ?_
     refine tC rfl (fun hc57 => ?_) fun hc57 => ?_
     ·have hk : (x.kind == 10) = true := hc57
      rw [wOkN_eq] at hxok
      simp only [hk12, hk13, hk14, hk, if_true, Bool.false_eq_true, if_false, Bool.and_eq_true, beq_iff_eq] at hxok
      obtain ⟨a, b, hks⟩ : ∃ a b, x.kids = [a, b] := by
        have h1 := hxok.1
        match x.kids, h1 with
        | [a, b], _ => exact ⟨a, b, rfl⟩
      have hi0 : (x.kids.map eKid)[0]? = some [nodes a] := by rw [hks]; rfl
      have hi1 : (x.kids.map eKid)[1]? = some [nodes b] := by rw [hks]; rfl
      have ha : a ∈ x.kids := by rw [hks]; exact .head _
      have hb' : b ∈ x.kids := by rw [hks]; exact .tail _ (.head _)
      have hoa := wOkK_mem hxok.2 ha
      have hob := wOkK_mem hxok.2 hb'
      have hba : lsW a ≤ 1073741824 := by have := kdW_mem ha; omega
      have hbb : lsW b ≤ 1073741824 := by have := kdW_mem hb'; omega
      have hda : SizeOf.sizeOf a < N := Nat.lt_of_lt_of_le (kid_lt hm rfl ha) (Nat.le_of_lt_succ hN)
      have hdb : SizeOf.sizeOf b < N := Nat.lt_of_lt_of_le (kid_lt hm rfl hb') (Nat.le_of_lt_succ hN)
      have hN : sNode s h x = [.mk x.kind x.op x.n x.name x.args (wKept s x.outs x.outs) x.params [sList s ⟨x.outs, h.next, h.left⟩ a, sList s ⟨x.outs, h.next, h.left⟩ b]] := by
        rw [sNode_eq]
        simp only [hk12, hk13, hk14, hk, hks, if_true, Bool.false_eq_true, if_false]
        rfl
      have hal : (out.map Nd.enc).length = out.length := by simp
      have hN1 : (sNode s h x).length = 1 := by rw [hN]; rfl
      have hol2 : out.length + 1 ≤ 1073741824 := by rw [hN1] at hol; exact hol
      refine tQ <| tG <| cV rfl (lEA rfl rfl Tryz.underlying81 rfl tS81 (lb rfl)) <| cE rfl (aLc (k := 109) rfl tZ81 rfl rfl rfl rfl) <| c0 (sBA rfl rfl rfl rfl rfl (by simp) tS81 (flk rfl) (lb rfl)) <| nL <| tQ <| tG <| sm 3 rfl <| c0 (sBx rfl rfl rfl rfl (by simp) tS35 (rfl) (lb rfl)) <| nL <| tQ ?_
      refine Tr.drawnC mixed (fun k => k ∈ ([3002, 108, 109] : List Nat)) [16] <| WC.take (i := 0) [6, 13, 14, 15, 16] (by kernel_rfl) (by kernel_rfl) (by kernel_rfl) rfl (by kernel_rfl) (by kernel_rfl) (by kernel_rfl) ((fun _ _ _ h => h)) rfl rfl rfl (ok_move rfl rfl) <| WC.take (i := 1) [2, 3, 4, 6, 13, 14, 15, 16] (by kernel_rfl) (by kernel_rfl) (by kernel_rfl) rfl (by kernel_rfl) (by kernel_rfl) (by kernel_rfl) ((fun _ _ _ h => h)) rfl rfl rfl ((ok_field_ptr rfl rfl rfl tF43_7)) <| WC.take (i := 2) [3, 4, 6, 13, 14, 15, 16] (by kernel_rfl) (by kernel_rfl) (by kernel_rfl) rfl (by kernel_rfl) (by kernel_rfl) (by kernel_rfl) ((fun _ _ _ h => h)) rfl rfl rfl ((ok_load_box rfl rfl rfl uT41 rfl rfl (by decide))) <| WC.take (i := 3) [4, 6, 13, 14, 15, 16] (by kernel_rfl) (by kernel_rfl) (by kernel_rfl) rfl (by kernel_rfl) (by kernel_rfl) (by kernel_rfl) ((fun _ _ _ h => h)) rfl rfl rfl (iSq rfl rfl rfl uT41 hi0 tS44 rfl (by rfl)) <| WC.take (i := 4) [6, 13, 14, 15, 16] (by kernel_rfl) (by kernel_rfl) (by kernel_rfl) rfl (by kernel_rfl) (by kernel_rfl) (by kernel_rfl) ((fun _ _ _ h => h)) rfl rfl rfl ((ok_load_ept rfl rfl uT44 rfl rfl)) <| WC.take (i := 5) [6, 13, 14, 15, 16] (by kernel_rfl) (by kernel_rfl) (by kernel_rfl) rfl (by kernel_rfl) (by kernel_rfl) (by kernel_rfl) ((fun _ _ _ h => h)) rfl rfl rfl ((lBP rfl rfl rfl Tryz.underlying81 rfl tS81 (lb rfl) rfl (by decide))) <| WC.take (i := 7) [13, 14, 15, 16] (by kernel_rfl) (by kernel_rfl) (by kernel_rfl) rfl (by kernel_rfl) (by kernel_rfl) (by kernel_rfl) ((fun _ _ _ h => h)) rfl rfl rfl (ok_move rfl rfl) <| WC.take (i := 8) [9, 10, 11, 13, 14, 15, 16] (by kernel_rfl) (by kernel_rfl) (by kernel_rfl) rfl (by kernel_rfl) (by kernel_rfl) (by kernel_rfl) ((fun _ _ _ h => h)) rfl rfl rfl ((ok_field_ptr rfl rfl rfl tF43_7)) <| WC.take (i := 9) [10, 11, 13, 14, 15, 16] (by kernel_rfl) (by kernel_rfl) (by kernel_rfl) rfl (by kernel_rfl) (by kernel_rfl) (by kernel_rfl) ((fun _ _ _ h => h)) rfl rfl rfl ((ok_load_box rfl rfl rfl uT41 rfl rfl (by decide))) <| WC.take (i := 10) [11, 13, 14, 15, 16] (by kernel_rfl) (by kernel_rfl) (by kernel_rfl) rfl (by kernel_rfl) (by kernel_rfl) (by kernel_rfl) ((fun _ _ _ h => h)) rfl rfl rfl (iSq rfl rfl rfl uT41 hi1 tS44 rfl (by rfl)) <| WC.take (i := 11) [13, 14, 15, 16] (by kernel_rfl) (by kernel_rfl) (by kernel_rfl) rfl (by kernel_rfl) (by kernel_rfl) (by kernel_rfl) ((fun _ _ _ h => h)) rfl rfl rfl ((ok_load_ept rfl rfl uT44 rfl rfl)) ?_
      refine WC.take (i := 12) [13, 14, 15, 16] (by kernel_rfl) (by kernel_rfl) (by kernel_rfl) rfl (by kernel_rfl) (by kernel_rfl) (by kernel_rfl) ((fun _ _ _ h => h)) rfl rfl rfl ((lBP rfl rfl rfl Tryz.underlying81 rfl tS81 (lb rfl) rfl (by decide))) <| WC.one (i := 6) (by kernel_rfl) <| WIC.op rfl rfl rfl (by intro t h; cases h <;> rfl) (fun k (h : _) => by (simp at h ⊢; omega)) (nAp rfl) (fun ρ w => cRr (ih a ⟨x.outs, h.next, h.left⟩ s hoa hba hda) ent40 rfl rfl (sRf _ _) (po1 rfl) (by rfl) (fun k (h : _) => by (simp only [List.mem_cons, List.not_mem_nil, or_false] at h; rcases h with rfl | rfl | rfl <;> first | exact .inl rfl | exact .inr rfl | exact .inr (by decide))) rfl (by rfl)) <| WC.one (i := 13) (by kernel_rfl) <| WIC.op rfl rfl rfl (by intro t h; cases h <;> rfl) (fun k (h : _) => by (simp at h ⊢; omega)) (nAp rfl) (fun ρ w => cRr (ih b ⟨x.outs, h.next, h.left⟩ s hob hbb hdb) ent40 rfl rfl (sRf _ _) (po1 rfl) (by rfl) (fun k (h : _) => by (simp only [List.mem_cons, List.not_mem_nil, or_false] at h; rcases h with rfl | rfl | rfl <;> first | exact .inl rfl | exact .inr rfl | exact .inr (by decide))) rfl (by rfl)) <| WC.one (i := 14) (by kernel_rfl) <| WIC.op rfl rfl rfl (by intro t h; cases h <;> rfl) (fun k (h : _) => by (simp at h ⊢; omega)) (fun _ h1 h2 => absurd h1 h2) (fun ρ w => bSl rfl rfl uT41 tZ44 tS44 rfl rfl rfl rfl (fbk rfl) rfl) <| WC.take (i := 15) [16] (by kernel_rfl) (by kernel_rfl) (by kernel_rfl) rfl (by kernel_rfl) (by kernel_rfl) (by kernel_rfl) ((fun _ _ _ h => h)) rfl rfl rfl ((ok_field_ptr rfl rfl rfl tF43_7)) <| WC.one (i := 16) (by kernel_rfl) <| WIC.last (R2 := fun k => k ∈ ([3002] : List Nat)) (by kernel_rfl) rfl rfl rfl (by intro t h; cases h <;> rfl) (fun k (h : _) => by (simp at h ⊢; omega)) (nOl rfl) (fun ρ w => (sBx rfl rfl rfl rfl (by simp) tS41 (rfl) (lb rfl))) <| wDn (by kernel_rfl) <| tG ?_
      refine sm 5 rfl <| cE rfl (ocr (sc_wKept x.outs x.outs s (by omega) (by omega)) ent62 rfl (po1 rfl) rfl (fun k (h : _) => .inr h) rfl rfl) <| sm 1 rfl <| c0 (sBx rfl rfl rfl rfl (by simp) tS35 (rfl) (lb rfl)) <| nL <| tG <| sm 1 rfl <| cV rfl (lBP rfl rfl rfl uT43 rfl tS43 (lb rfl) rfl trivial) <| cE rfl (bSl rfl rfl uT44 tZ43 tS43 rfl rfl rfl rfl (fbk rfl) rfl) ?_
      refine cE rfl (aPp rfl rfl rfl rfl (by rfl) (by simp) uT44 tB43 (by decide) (by (simp [chunks]; done)) (hone_seq8 _ _ _ _ _ _ _ _) (by simp [maxLen, chunks]; omega) (by simp [chunks]; omega)) ?_
      refine sm 1 rfl <| nL <| Tr.drop (k := 108) <| Tr.drop (k := 109) ?_
      refine Tr.heap (σ' := look [(106, some (.row ⟨43, 8⟩ ((out ++ sNode s h x).map Nd.enc))), (3002, some (.map (vsOf s)))]) (by
        rw [hN, enc_snoc]
        intro j
        try simp only [look]
        by_cases h108 : 108 = j
        · subst h108; rfl
        · by_cases h109 : 109 = j
          · subst h109; rfl
          · by_cases h106 : 106 = j
            · subst h106; rfl
            · by_cases h3002 : 3002 = j
              · subst h3002; rfl
              · simp [wH, wM, look, up, beq_ne h108, beq_ne h109, beq_ne h106, beq_ne h3002]) ?_
      refine tG <| cV rfl (oB rfl rfl (i64_add rfl (by omega))) <| sm 1 rfl <| nL ?_
      refine ⟨_, _, ?_, Sub.of (fr' := [(13, iInt (k + 1)), (12, iInt l.length), (11, .pv (nodes l)), (6, .sl 106 ((out ++ sNode s h x).map Nd.enc).length), (5, .pv (.ept [ints h.yield, ints h.next, ints h.left] 0)), (0, .mp 3002)]) ⟨rfl, rfl, rfl, congrArg (fun z => some (IV.sl _ z)) (by rw [hN]; simp [chunks]), rfl, rfl, trivial⟩, (k + 1), (out ++ sNode s h x), ?_, ?_, rfl, rfl, rfl⟩
      ·omega
      ·omega
      rw [List.append_assoc, ← hI1, hd]; rfl
     have hk10 : (x.kind == 10) = false := hc57
     refine tQ <| tG <| sm 2 rfl <| nL ?_
     refine tC rfl (fun hc86 => ?_) fun hc86 => ?_
     ·have hk : (x.kind == 11) = true := hc86
      rw [wOkN_eq] at hxok
      simp only [hk12, hk13, hk14, hk10, hk, if_true, Bool.false_eq_true, if_false, Bool.and_eq_true, beq_iff_eq, decide_eq_true_eq] at hxok
      have hle := hxok.1
      obtain ⟨a, hks⟩ : ∃ a, x.kids = [a] := by
        have h1 := hxok.2.1
        match x.kids, h1 with
        | [a], _ => exact ⟨a, rfl⟩
      have hi0 : (x.kids.map eKid)[0]? = some [nodes a] := by rw [hks]; rfl
      have ha : a ∈ x.kids := by rw [hks]; exact .head _
      have hoa := wOkK_mem hxok.2.2 ha
      have hba : lsW a ≤ 1073741824 := by have := kdW_mem ha; omega
      have hda : SizeOf.sizeOf a < N := Nat.lt_of_lt_of_le (kid_lt hm rfl ha) (Nat.le_of_lt_succ hN)
      have hN : sNode s h x = [.mk x.kind x.op x.n x.name (wKept s x.args x.params) (wKept s x.outs x.outs) (wKept s x.params x.params) [sList s ⟨[], x.params, x.outs⟩ a]] := by
        rw [sNode_eq]
        simp only [hk12, hk13, hk14, hk10, hk, hks, if_true, Bool.false_eq_true, if_false]
        rfl
      have hal : (out.map Nd.enc).length = out.length := by simp
      have hN1 : (sNode s h x).length = 1 := by rw [hN]; rfl
      have hol2 : out.length + 1 ≤ 1073741824 := by rw [hN1] at hol; exact hol
      refine tQ <| tG <| sm 4 rfl <| cV rfl (bPu rfl rfl tZ81 tP81 rfl (fbk rfl) rfl) <| cE rfl (aLc (k := 110) rfl tZ81 rfl rfl rfl rfl) <| c0 (sBA rfl rfl rfl rfl rfl (by simp) tS81 (flk rfl) (lb rfl)) <| nL <| tQ <| Tr.drawnC mixed (fun k => k ∈ ([3002, 108, 110] : List Nat)) [9] <| WC.take (i := 0) [6, 7, 8, 9] (by kernel_rfl) (by kernel_rfl) (by kernel_rfl) rfl (by kernel_rfl) (by kernel_rfl) (by kernel_rfl) ((fun _ _ _ h => h)) rfl rfl rfl (ok_move rfl rfl) <| WC.take (i := 1) [2, 3, 4, 6, 7, 8, 9] (by kernel_rfl) (by kernel_rfl) (by kernel_rfl) rfl (by kernel_rfl) (by kernel_rfl) (by kernel_rfl) ((fun _ _ _ h => h)) rfl rfl rfl ((ok_field_ptr rfl rfl rfl tF43_7)) <| WC.take (i := 2) [3, 4, 6, 7, 8, 9] (by kernel_rfl) (by kernel_rfl) (by kernel_rfl) rfl (by kernel_rfl) (by kernel_rfl) (by kernel_rfl) ((fun _ _ _ h => h)) rfl rfl rfl ((ok_load_box rfl rfl rfl uT41 rfl rfl (by decide))) ?_
      refine WC.take (i := 3) [4, 6, 7, 8, 9] (by kernel_rfl) (by kernel_rfl) (by kernel_rfl) rfl (by kernel_rfl) (by kernel_rfl) (by kernel_rfl) ((fun _ _ _ h => h)) rfl rfl rfl (iSq rfl rfl rfl uT41 hi0 tS44 rfl (by rfl)) <| WC.take (i := 4) [6, 7, 8, 9] (by kernel_rfl) (by kernel_rfl) (by kernel_rfl) rfl (by kernel_rfl) (by kernel_rfl) (by kernel_rfl) ((fun _ _ _ h => h)) rfl rfl rfl ((ok_load_ept rfl rfl uT44 rfl rfl)) <| WC.take (i := 5) [6, 7, 8, 9] (by kernel_rfl) (by kernel_rfl) (by kernel_rfl) rfl (by kernel_rfl) (by kernel_rfl) (by kernel_rfl) ((fun _ _ _ h => h)) rfl rfl rfl ((lBP rfl rfl rfl Tryz.underlying81 rfl tS81 (lb rfl) rfl (by decide))) <| WC.one (i := 6) (by kernel_rfl) <| WIC.op rfl rfl rfl (by intro t h; cases h <;> rfl) (fun k (h : _) => by (simp at h ⊢; omega)) (nAp rfl) (fun ρ w => cRr (ih a ⟨[], x.params, x.outs⟩ s hoa hba hda) ent40 rfl rfl (sSm rfl (sSm rfl (Subs.cons (fun _ _ _ _ h => sub_pv (p := .agg [.val (.slice none 0 0), ints x.params, ints x.outs]) (PSub.agg ⟨PSub.nil, PSub.refl _, PSub.refl _, trivial⟩) h) Subs.nil))) (po1 rfl) (by rfl) (fun k (h : _) => by (simp only [List.mem_cons, List.not_mem_nil, or_false] at h; rcases h with rfl | rfl | rfl <;> first | exact .inl rfl | exact .inr rfl | exact .inr (by decide))) rfl (by rfl)) <| WC.one (i := 7) (by kernel_rfl) <| WIC.op rfl rfl rfl (by intro t h; cases h <;> rfl) (fun k (h : _) => by (simp at h ⊢; omega)) (fun _ h1 h2 => absurd h1 h2) (fun ρ w => bSl rfl rfl uT41 tZ44 tS44 rfl rfl rfl rfl (fbk rfl) rfl) <| WC.take (i := 8) [9] (by kernel_rfl) (by kernel_rfl) (by kernel_rfl) rfl (by kernel_rfl) (by kernel_rfl) (by kernel_rfl) ((fun _ _ _ h => h)) rfl rfl rfl ((ok_field_ptr rfl rfl rfl tF43_7)) <| WC.one (i := 9) (by kernel_rfl) <| WIC.last (R2 := fun k => k ∈ ([3002] : List Nat)) (by kernel_rfl) rfl rfl rfl (by intro t h; cases h <;> rfl) (fun k (h : _) => by (simp at h ⊢; omega)) (nOl rfl) (fun ρ w => (sBx rfl rfl rfl rfl (by simp) tS41 (rfl) (lb rfl))) <| wDn (by kernel_rfl) <| Tr.drawnC mixed (fun k => k ∈ ([3002, 108] : List Nat)) [19, 21, 23] ?_
      refine WC.take (i := 0) [5, 11, 17, 18, 19, 20, 21, 22, 23] (by kernel_rfl) (by kernel_rfl) (by kernel_rfl) rfl (by kernel_rfl) (by kernel_rfl) (by kernel_rfl) ((fun _ _ _ h => h)) rfl rfl rfl (ok_move rfl rfl) <| WC.take (i := 1) [2, 5, 11, 17, 18, 19, 20, 21, 22, 23] (by kernel_rfl) (by kernel_rfl) (by kernel_rfl) rfl (by kernel_rfl) (by kernel_rfl) (by kernel_rfl) ((fun _ _ _ h => h)) rfl rfl rfl ((ok_field_ptr rfl rfl rfl tF43_4)) <| WC.take (i := 2) [5, 11, 17, 18, 19, 20, 21, 22, 23] (by kernel_rfl) (by kernel_rfl) (by kernel_rfl) rfl (by kernel_rfl) (by kernel_rfl) (by kernel_rfl) ((fun _ _ _ h => h)) rfl rfl rfl ((ok_load_box rfl rfl rfl uT35 rfl rfl (by decide))) <| WC.take (i := 3) [4, 5, 11, 17, 18, 19, 20, 21, 22, 23] (by kernel_rfl) (by kernel_rfl) (by kernel_rfl) rfl (by kernel_rfl) (by kernel_rfl) (by kernel_rfl) ((fun _ _ _ h => h)) rfl rfl rfl ((ok_field_ptr rfl rfl rfl tF43_6)) <| WC.take (i := 4) [5, 11, 17, 18, 19, 20, 21, 22, 23] (by kernel_rfl) (by kernel_rfl) (by kernel_rfl) rfl (by kernel_rfl) (by kernel_rfl) (by kernel_rfl) ((fun _ _ _ h => h)) rfl rfl rfl ((ok_load_box rfl rfl rfl uT35 rfl rfl (by decide))) <| WC.take (i := 6) [11, 17, 19, 20, 21, 22, 23] (by kernel_rfl) (by kernel_rfl) (by kernel_rfl) rfl (by kernel_rfl) (by kernel_rfl) (by kernel_rfl) ((fun _ _ _ h => h)) rfl rfl rfl (ok_move rfl rfl) <| WC.take (i := 7) [8, 11, 17, 18, 19, 20, 21, 22, 23] (by kernel_rfl) (by kernel_rfl) (by kernel_rfl) rfl (by kernel_rfl) (by kernel_rfl) (by kernel_rfl) ((fun _ _ _ h => h)) rfl rfl rfl ((ok_field_ptr rfl rfl rfl tF43_6)) <| WC.take (i := 8) [11, 17, 18, 19, 20, 21, 22, 23] (by kernel_rfl) (by kernel_rfl) (by kernel_rfl) rfl (by kernel_rfl) (by kernel_rfl) (by kernel_rfl) ((fun _ _ _ h => h)) rfl rfl rfl ((ok_load_box rfl rfl rfl uT35 rfl rfl (by decide))) <| WC.take (i := 9) [10, 11, 17, 18, 19, 20, 21, 22, 23] (by kernel_rfl) (by kernel_rfl) (by kernel_rfl) rfl (by kernel_rfl) (by kernel_rfl) (by kernel_rfl) ((fun _ _ _ h => h)) rfl rfl rfl ((ok_field_ptr rfl rfl rfl tF43_6)) <| WC.take (i := 10) [11, 17, 18, 19, 20, 21, 22, 23] (by kernel_rfl) (by kernel_rfl) (by kernel_rfl) rfl (by kernel_rfl) (by kernel_rfl) (by kernel_rfl) ((fun _ _ _ h => h)) rfl rfl rfl ((ok_load_box rfl rfl rfl uT35 rfl rfl (by decide))) <| WC.take (i := 12) [17, 19, 20, 21, 22, 23] (by kernel_rfl) (by kernel_rfl) (by kernel_rfl) rfl (by kernel_rfl) (by kernel_rfl) (by kernel_rfl) ((fun _ _ _ h => h)) rfl rfl rfl (ok_move rfl rfl) <| WC.take (i := 13) [14, 17, 18, 19, 20, 21, 22, 23] (by kernel_rfl) (by kernel_rfl) (by kernel_rfl) rfl (by kernel_rfl) (by kernel_rfl) (by kernel_rfl) ((fun _ _ _ h => h)) rfl rfl rfl ((ok_field_ptr rfl rfl rfl tF43_5)) ?_
      refine WC.take (i := 14) [17, 18, 19, 20, 21, 22, 23] (by kernel_rfl) (by kernel_rfl) (by kernel_rfl) rfl (by kernel_rfl) (by kernel_rfl) (by kernel_rfl) ((fun _ _ _ h => h)) rfl rfl rfl ((ok_load_box rfl rfl rfl uT35 rfl rfl (by decide))) <| WC.take (i := 15) [16, 17, 18, 19, 20, 21, 22, 23] (by kernel_rfl) (by kernel_rfl) (by kernel_rfl) rfl (by kernel_rfl) (by kernel_rfl) (by kernel_rfl) ((fun _ _ _ h => h)) rfl rfl rfl ((ok_field_ptr rfl rfl rfl tF43_5)) <| WC.take (i := 16) [17, 18, 19, 20, 21, 22, 23] (by kernel_rfl) (by kernel_rfl) (by kernel_rfl) rfl (by kernel_rfl) (by kernel_rfl) (by kernel_rfl) ((fun _ _ _ h => h)) rfl rfl rfl ((ok_load_box rfl rfl rfl uT35 rfl rfl (by decide))) <| WC.one (i := 5) (by kernel_rfl) <| WIC.op rfl rfl rfl (by intro t h; cases h <;> rfl) (fun k (h : _) => by (simp at h ⊢; omega)) (nAp rfl) (fun ρ w => cRr (sc_wKept x.args x.params s (by omega) (by omega)) ent62 rfl rfl (sRf _ _) (po1 rfl) (by rfl) (fun k (h : _) => by (simp only [List.mem_cons, List.not_mem_nil, or_false] at h; rcases h with rfl | rfl <;> first | exact .inl rfl | exact .inr rfl | exact .inr (by decide))) rfl (by rfl)) <| WC.take (i := 18) [19, 20, 21, 22, 23] (by kernel_rfl) (by kernel_rfl) (by kernel_rfl) rfl (by kernel_rfl) (by kernel_rfl) (by kernel_rfl) ((fun _ _ _ h => h)) rfl rfl rfl ((ok_field_ptr rfl rfl rfl tF43_4)) <| WC.one (i := 11) (by kernel_rfl) <| WIC.op rfl rfl rfl (by intro t h; cases h <;> rfl) (fun k (h : _) => by (simp at h ⊢; omega)) (nAp rfl) (fun ρ w => cRr (sc_wKept x.params x.params s (by omega) (by omega)) ent62 rfl rfl (sRf _ _) (po1 rfl) (by rfl) (fun k (h : _) => by (simp only [List.mem_cons, List.not_mem_nil, or_false] at h; rcases h with rfl | rfl <;> first | exact .inl rfl | exact .inr rfl | exact .inr (by decide))) rfl (by rfl)) <| WC.one (i := 17) (by kernel_rfl) <| WIC.op rfl rfl rfl (by intro t h; cases h <;> rfl) (fun k (h : _) => by (simp at h ⊢; omega)) (nAp rfl) (fun ρ w => cRr (sc_wKept x.outs x.outs s (by omega) (by omega)) ent62 rfl rfl (sRf _ _) (po1 rfl) (by rfl) (fun k (h : _) => by (simp only [List.mem_cons, List.not_mem_nil, or_false] at h; rcases h with rfl | rfl <;> first | exact .inl rfl | exact .inr rfl | exact .inr (by decide))) rfl (by rfl)) <| WC.one (i := 19) (by kernel_rfl) <| WIC.last (R2 := fun k => k ∈ ([3002] : List Nat)) (by kernel_rfl) rfl rfl rfl (by intro t h; cases h <;> rfl) (fun k (h : _) => by (simp at h ⊢; omega)) (nOl rfl) (fun ρ w => (sBx rfl rfl rfl rfl (by simp) tS35 (rfl) (lb rfl))) ?_
      refine wR 3 [20] (by kernel_rfl) (fun _ _ _ h => h) <| smR 1 rfl <| nR <| wO 21 (by kernel_rfl) <| wI rfl rfl (fun k (h : _) => by (simp at h ⊢; omega)) (nOl rfl) (fun _ _ => sBx rfl rfl rfl rfl (by simp) tS35 (rfl) (lb rfl)) <| wR 1 [22] (by kernel_rfl) (fun _ _ _ h => h) <| smR 1 rfl <| nR <| wO 23 (by kernel_rfl) <| wI rfl rfl (fun k (h : _) => by (simp at h ⊢; omega)) (nOl rfl) (fun _ _ => sBx rfl rfl rfl rfl (by simp) tS35 (rfl) (lb rfl)) <| wDn (by kernel_rfl) <| tG ?_
      refine sm 1 rfl <| cV rfl (lBP rfl rfl rfl uT43 rfl tS43 (lb rfl) rfl trivial) <| cE rfl (bSl rfl rfl uT44 tZ43 tS43 rfl rfl rfl rfl (fbk rfl) rfl) ?_
      refine cE rfl (aPp rfl rfl rfl rfl (by rfl) (by simp) uT44 tB43 (by decide) (by (simp [chunks]; done)) (hone_seq8 _ _ _ _ _ _ _ _) (by simp [maxLen, chunks]; omega) (by simp [chunks]; omega)) ?_
      refine sm 1 rfl <| nL <| Tr.drop (k := 108) <| Tr.drop (k := 110) ?_
      refine Tr.heap (σ' := look [(106, some (.row ⟨43, 8⟩ ((out ++ sNode s h x).map Nd.enc))), (3002, some (.map (vsOf s)))]) (by
        rw [hN, enc_snoc]
        intro j
        try simp only [look]
        by_cases h108 : 108 = j
        · subst h108; rfl
        · by_cases h110 : 110 = j
          · subst h110; rfl
          · by_cases h106 : 106 = j
            · subst h106; rfl
            · by_cases h3002 : 3002 = j
              · subst h3002; rfl
              · simp [wH, wM, look, up, beq_ne h108, beq_ne h110, beq_ne h106, beq_ne h3002]) ?_
      refine tG <| cV rfl (oB rfl rfl (i64_add rfl (by omega))) <| sm 1 rfl <| nL ?_
      refine ⟨_, _, ?_, Sub.of (fr' := [(13, iInt (k + 1)), (12, iInt l.length), (11, .pv (nodes l)), (6, .sl 106 ((out ++ sNode s h x).map Nd.enc).length), (5, .pv (.ept [ints h.yield, ints h.next, ints h.left] 0)), (0, .mp 3002)]) ⟨rfl, rfl, rfl, congrArg (fun z => some (IV.sl _ z)) (by rw [hN]; simp [chunks]), rfl, rfl, trivial⟩, (k + 1), (out ++ sNode s h x), ?_, ?_, rfl, rfl, rfl⟩
      ·omega
      ·omega
      rw [List.append_assoc, ← hI1, hd]; rfl
     have hk11 : (x.kind == 11) = false := hc86
     rw [wOkN_eq] at hxok
     simp only [hk12, hk13, hk14, hk10, hk11, Bool.false_eq_true, if_false] at hxok
     have hN0 : sNode s h x = if hmless x && !s.contains (x.outs.headD 0) then [] else [x] := by
       rw [sNode_eq]
       simp only [hk12, hk13, hk14, hk10, hk11, Bool.false_eq_true, if_false]
     refine tQ <| tG <| cV rfl (lBP rfl rfl rfl uT43 rfl tS43 (lb rfl) rfl trivial) <| cE rfl (ocq (sc_harmlessW _) ent63 rfl rfl) <| sm 1 rfl ?_
     refine wS 21 rfl (fun hb21 => ?_) fun hb21 => ?_
     ·have hhm : hmless x = true := hb21
      obtain ⟨o0, ors, hos⟩ := List.exists_cons_of_ne_nil (show x.outs ≠ [] from fun e => by rw [hhm, e] at hxok; cases hxok)
      have ho0 : (x.outs.map eInt)[0]? = some [vInt o0] := by rw [hos]; rfl
      have hoh : x.outs.headD 0 = o0 := by rw [hos]; rfl
      refine sm 3 rfl <| yV rfl rfl (iSq rfl rfl rfl uT35 ho0 tS3 rfl (by rfl)) <| sm 1 rfl <| WL.yes rfl rfl rfl rfl rfl rfl (cRr (sc_wHas s o0) ent64 rfl rfl (sRf _ _) (po1 rfl) (by rfl) (fun k (h : _) => .inr h) rfl (by rfl)) <| sm 2 rfl <| nL ?_
      refine tC rfl (fun hc29 => ?_) fun hc29 => ?_
      ·have hh : s.contains o0 = false := by simpa using hc29
       have hN : sNode s h x = [] := by
         rw [hN0, hhm, hoh, hh]; rfl
       refine tEx <| Tr.drop (k := 108) ?_
       refine Tr.heap (σ' := look [(106, some (.row ⟨43, 8⟩ ((out ++ sNode s h x).map Nd.enc))), (3002, some (.map (vsOf s)))]) (by
         rw [hN, List.append_nil]
         intro j
         try simp only [look]
         by_cases h108 : 108 = j
         · subst h108; rfl
         · by_cases h106 : 106 = j
           · subst h106; rfl
           · by_cases h3002 : 3002 = j
             · subst h3002; rfl
             · simp [wH, wM, look, up, beq_ne h108, beq_ne h106, beq_ne h3002]) ?_
       refine tG <| cV rfl (oB rfl rfl (i64_add rfl (by omega))) <| sm 1 rfl <| nL ?_
       refine ⟨_, _, ?_, Sub.of (fr' := [(13, iInt (k + 1)), (12, iInt l.length), (11, .pv (nodes l)), (6, .sl 106 ((out ++ sNode s h x).map Nd.enc).length), (5, .pv (.ept [ints h.yield, ints h.next, ints h.left] 0)), (0, .mp 3002)]) ⟨rfl, rfl, rfl, congrArg (fun z => some (IV.sl _ z)) (by rw [hN]; simp [chunks]), rfl, rfl, trivial⟩, (k + 1), (out ++ sNode s h x), ?_, ?_, rfl, rfl, rfl⟩
       ·omega
       ·omega
       rw [List.append_assoc, ← hI1, hd]; rfl
      have hN : sNode s h x = [.mk x.kind x.op x.n x.name x.args x.outs x.params x.kids] := by
        rw [hN0, Nd.eta x]
        (have hh : s.contains o0 = true := by simpa using hc29
         rw [hoh, hh, Bool.not_true, Bool.and_false]; rfl)
      have hal : (out.map Nd.enc).length = out.length := by simp
      have hN1 : (sNode s h x).length = 1 := by rw [hN]; rfl
      have hol2 : out.length + 1 ≤ 1073741824 := by rw [hN1] at hol; exact hol
      refine tSk <| tG <| sm 1 rfl <| cV rfl (lBP rfl rfl rfl uT43 rfl tS43 (lb rfl) rfl trivial) <| cE rfl (bSl rfl rfl uT44 tZ43 tS43 rfl rfl rfl rfl (fbk rfl) rfl) ?_
      refine cE rfl (aPp rfl rfl rfl rfl (by rfl) (by simp) uT44 tB43 (by decide) (by (simp [chunks]; done)) (hone_cells _) (by simp [maxLen, chunks]; omega) (by simp [chunks]; omega)) ?_
      refine sm 1 rfl <| nL <| Tr.drop (k := 108) ?_
      refine Tr.heap (σ' := look [(106, some (.row ⟨43, 8⟩ ((out ++ sNode s h x).map Nd.enc))), (3002, some (.map (vsOf s)))]) (by
        rw [hN, enc_snoc]
        intro j
        try simp only [look]
        by_cases h108 : 108 = j
        · subst h108; rfl
        · by_cases h106 : 106 = j
          · subst h106; rfl
          · by_cases h3002 : 3002 = j
            · subst h3002; rfl
            · simp [wH, wM, look, up, beq_ne h108, beq_ne h106, beq_ne h3002]) ?_
      refine tG <| cV rfl (oB rfl rfl (i64_add rfl (by omega))) <| sm 1 rfl <| nL ?_
      refine ⟨_, _, ?_, Sub.of (fr' := [(13, iInt (k + 1)), (12, iInt l.length), (11, .pv (nodes l)), (6, .sl 106 ((out ++ sNode s h x).map Nd.enc).length), (5, .pv (.ept [ints h.yield, ints h.next, ints h.left] 0)), (0, .mp 3002)]) ⟨rfl, rfl, rfl, congrArg (fun z => some (IV.sl _ z)) (by rw [hN]; simp [chunks]), rfl, rfl, trivial⟩, (k + 1), (out ++ sNode s h x), ?_, ?_, rfl, rfl, rfl⟩
      ·omega
      ·omega
      rw [List.append_assoc, ← hI1, hd]; rfl
     refine sm 8 rfl <| nL <| Tr.condF rfl ?_
     have hN : sNode s h x = [.mk x.kind x.op x.n x.name x.args x.outs x.params x.kids] := by
       rw [hN0, Nd.eta x]
       (have hh : hmless x = false := hb21
        rw [hh]; rfl)
     have hal : (out.map Nd.enc).length = out.length := by simp
     have hN1 : (sNode s h x).length = 1 := by rw [hN]; rfl
     have hol2 : out.length + 1 ≤ 1073741824 := by rw [hN1] at hol; exact hol
     refine tSk <| tG <| sm 1 rfl <| cV rfl (lBP rfl rfl rfl uT43 rfl tS43 (lb rfl) rfl trivial) <| cE rfl (bSl rfl rfl uT44 tZ43 tS43 rfl rfl rfl rfl (fbk rfl) rfl) ?_
     refine cE rfl (aPp rfl rfl rfl rfl (by rfl) (by simp) uT44 tB43 (by decide) (by (simp [chunks]; done)) (hone_cells _) (by simp [maxLen, chunks]; omega) (by simp [chunks]; omega)) ?_
     refine sm 1 rfl <| nL <| Tr.drop (k := 108) ?_
     refine Tr.heap (σ' := look [(106, some (.row ⟨43, 8⟩ ((out ++ sNode s h x).map Nd.enc))), (3002, some (.map (vsOf s)))]) (by
       rw [hN, enc_snoc]
       intro j
       try simp only [look]
       by_cases h108 : 108 = j
       · subst h108; rfl
       · by_cases h106 : 106 = j
         · subst h106; rfl
         · by_cases h3002 : 3002 = j
           · subst h3002; rfl
           · simp [wH, wM, look, up, beq_ne h108, beq_ne h106, beq_ne h3002]) ?_
     refine tG <| cV rfl (oB rfl rfl (i64_add rfl (by omega))) <| sm 1 rfl <| nL ?_
     refine ⟨_, _, ?_, Sub.of (fr' := [(13, iInt (k + 1)), (12, iInt l.length), (11, .pv (nodes l)), (6, .sl 106 ((out ++ sNode s h x).map Nd.enc).length), (5, .pv (.ept [ints h.yield, ints h.next, ints h.left] 0)), (0, .mp 3002)]) ⟨rfl, rfl, rfl, congrArg (fun z => some (IV.sl _ z)) (by rw [hN]; simp [chunks]), rfl, rfl, trivial⟩, (k + 1), (out ++ sNode s h x), ?_, ?_, rfl, rfl, rfl⟩
     ·omega
     ·omega
     rw [List.append_assoc, ← hI1, hd]; rfl
    refine tEx <| tQ <| Tr.freeze (t := 6) (k := 106) rfl rfl (by simp) <| tG <| sm 2 rfl <| nL <| tRt <| rOk rfl ?_ (po1 rfl)
    have hge : l.length ≤ k := by simpa using hc14
    have : out = sList s h l := by rw [← hI1, List.drop_eq_nil_of_le hge]; simp [sList]
    rw [this]
    rfl
theorem sc_sweep (l : List Nd) (h : Hd) (s : List Int) (hok : wOkL h l = true) (hb : lsW l ≤ 1073741824) : SC Tryz.prog 40 [.mp 3002, .pv (nodes l), .pv (hdv h)] (wM s) (fun k => k = 3002) (.pv (nodes (sList s h l))) (wM s) := sc_sweep_aux _ l h s hok hb (Nat.lt_succ_self _)
theorem sc_wFlow (f : Fl) (hok : wOkL hd0 f.body = true) (hb : lsW f.body ≤ 1073741824) : SC Tryz.prog 23 [.pv (.agg f.enc)] [] (fun _ => False) (.pv (.agg (mFlow wB f).enc)) [] := by
  refine SC.ofC Tryz.func23 rfl (lb rfl) rfl fun F ρ w => ?_
  refine tQ <| tG <| cE rfl (ok_boxOwnP (k := 101) rfl rfl rfl rfl rfl rfl) <| cE rfl (aLc (k := 102) rfl tZ51 rfl rfl rfl rfl) <| nL <| tQ <| tG <| cE rfl (ok_makeMap (k := 3002) rfl rfl rfl rfl rfl) <| cV rfl (ok_build rfl rfl tZ78 tP78 rfl (firmHp_ok ⟨⟨_, rfl⟩, rfl, trivial⟩)) <| cE rfl (ok_boxOwn (k := 3001) rfl rfl rfl rfl rfl rfl rfl) <| sm 1 rfl <| nL ?_
  refine tQ <| tBk <| Tr.sub (Sub.of (fr' := [(3, .ptr 3001 0), (1, .ptr 101 0), (2, .ptr 102 0)]) ⟨rfl, rfl, rfl, trivial⟩) ?_
  refine Tr.heap (σ' := look [(3001, some (.box [.mp 3002, iBool true])), (3002, some (.map (vsOf (wIter f.body 0)))), (102, some (.box [iStr ⟨#[]⟩, iInt 0, iInt 0, .pv (.val (.slice none 0 0)), .pv (.val (.slice none 0 0))])), (101, some (.box [iStr f.name, iInt f.ty, iInt f.params, .pv (ints f.types), .pv (nodes f.body)]))]) (by
  intro j
  try simp only [look]
  by_cases h3001 : 3001 = j
  · subst h3001; rfl
  · by_cases h3002 : 3002 = j
    · subst h3002; rfl
    · by_cases h102 : 102 = j
      · subst h102; rfl
      · by_cases h101 : 101 = j
        · subst h101; rfl
        · simp [wH, wM, look, up, beq_ne h3001, beq_ne h3002, beq_ne h102, beq_ne h101]) ?_
  refine Tr.loop (fun fr σ m => ∃ (j : Nat) (g : Bool), (j ≤ (wIter f.body j).length) ∧ (g = false → wStep f.body (wIter f.body j) = wIter f.body j) ∧ fr = [(3, .ptr 3001 0), (1, .ptr 101 0), (2, .ptr 102 0)] ∧ σ = look [(3001, some (.box [.mp 3002, iBool g])), (3002, some (.map (vsOf (wIter f.body j)))), (102, some (.box [iStr ⟨#[]⟩, iInt 0, iInt 0, .pv (.val (.slice none 0 0)), .pv (.val (.slice none 0 0))])), (101, some (.box [iStr f.name, iInt f.ty, iInt f.params, .pv (ints f.types), .pv (nodes f.body)]))] ∧ m = 2 * ((agL f.body).length - (wIter f.body j).length) + g.toNat) (n := 2 * ((agL f.body).length - (wIter f.body 0).length) + true.toNat) ?_ ?_
  ·exact ⟨0, true, Nat.zero_le _, (fun h => by cases h), rfl, rfl, rfl⟩
  rintro fr σ m ⟨j, g, hI0, hI1, rfl, rfl, rfl⟩
  refine tQ <| tQ <| tG <| sm 1 rfl <| cV rfl (nCk rfl rfl rfl) <| sm 2 rfl <| nL ?_
  refine tC rfl (fun hc10 => ?_) fun hc10 => ?_
  ·refine tSk <| tBk <| tQ <| tG <| sm 1 rfl <| cV rfl (nCk rfl rfl rfl) <| sm 1 rfl <| c0 (sBx rfl rfl rfl rfl ((fun h => h)) tS4 (rfl) (lb rfl)) <| nL <| tG <| sm 3 rfl <| cV rfl (bPu rfl rfl tZ81 tP81 rfl (fbk rfl) rfl) ?_
   refine cE rfl (cRr (sc_wList f.body hd0 (wIter f.body j) false hok) ent39 rfl rfl (sSm rfl (sSm rfl (Subs.cons (fun _ _ _ _ h => sub_pv (p := .agg [.val (.slice none 0 0), .val (.slice none 0 0), .val (.slice none 0 0)]) (PSub.agg ⟨PSub.nil, PSub.nil, PSub.nil, trivial⟩) h) Subs.nil))) (po2 rfl rfl) (by rfl) (fun k (h : _) => .inr h) rfl (by rfl)) <| nL ?_
   have hp := wStep_pre f.body (wIter f.body j)
   have hin := (wIter_in f.body (j + 1)).len
   have hg : g = true := hc10
   subst hg
   by_cases hgr : wStep f.body (wIter f.body j) = wIter f.body j
   ·have hl : wList hd0 (wIter f.body j) f.body = wIter f.body j := hgr
    refine ⟨_, _, ?_, Sub.of (fr' := [(3, .ptr 3001 0), (1, .ptr 101 0), (2, .ptr 102 0)]) ⟨rfl, rfl, rfl, trivial⟩, j, false, ?_, ?_, rfl, ?_, rfl⟩
    ·simp
    ·exact hI0
    ·exact fun _ => hgr
    rw [hl, gr_self]
    exact funext (by
      intro j
      try simp only [look]
      by_cases h3001 : 3001 = j
      · subst h3001; rfl
      · by_cases h3002 : 3002 = j
        · subst h3002; rfl
        · by_cases h102 : 102 = j
          · subst h102; rfl
          · by_cases h101 : 101 = j
            · subst h101; rfl
            · simp [wH, wM, look, up, beq_ne h3001, beq_ne h3002, beq_ne h102, beq_ne h101])
   have hlt : (wIter f.body j).length < (wIter f.body (j + 1)).length := by
     rcases Nat.lt_or_ge (wIter f.body j).length (wStep f.body (wIter f.body j)).length with h | h
     ·exact h
     exact absurd (hp.eq h) hgr
   have hge : gr (wIter f.body j) (wList hd0 (wIter f.body j) f.body) false = true := by
     cases hx : gr (wIter f.body j) (wList hd0 (wIter f.body j) f.body) false with
     | true => rfl
     | false => exact absurd ((gr_false hp).1 hx) hgr
   refine ⟨_, _, ?_, Sub.of (fr' := [(3, .ptr 3001 0), (1, .ptr 101 0), (2, .ptr 102 0)]) ⟨rfl, rfl, rfl, trivial⟩, (j + 1), true, ?_, ?_, rfl, ?_, rfl⟩
   ·simp only [Bool.toNat_true]; omega
   ·omega
   ·exact fun h => by cases h
   rw [hge]
   exact funext (by
     intro j
     try simp only [look]
     by_cases h3001 : 3001 = j
     · subst h3001; rfl
     · by_cases h3002 : 3002 = j
       · subst h3002; rfl
       · by_cases h102 : 102 = j
         · subst h102; rfl
         · by_cases h101 : 101 = j
           · subst h101; rfl
           · simp [wH, wM, look, up, beq_ne h3001, beq_ne h3002, beq_ne h102, beq_ne h101])
  refine tEx <| tQ ?_
  have hg : g = false := hc10
  subst hg
  have hdone : wIter f.body j = wSet f.body := wIter_done hI0 (hI1 rfl)
  rw [hdone]
  refine Tr.drawnC mixed (fun k => k ∈ ([101, 102, 3001, 3002] : List Nat)) [9] <| WC.take (i := 0) [1, 2, 3, 7, 8, 9] (by kernel_rfl) (by kernel_rfl) (by kernel_rfl) rfl (by kernel_rfl) (by kernel_rfl) (by kernel_rfl) ((fun _ _ _ h => h)) rfl rfl rfl (ok_move rfl rfl) <| WC.take (i := 1) [2, 3, 7, 8, 9] (by kernel_rfl) (by kernel_rfl) (by kernel_rfl) rfl (by kernel_rfl) (by kernel_rfl) (by kernel_rfl) ((fun _ _ _ h => h)) rfl rfl rfl ((nCk rfl rfl rfl)) <| WC.take (i := 2) [3, 7, 8, 9] (by kernel_rfl) (by kernel_rfl) (by kernel_rfl) rfl (by kernel_rfl) (by kernel_rfl) (by kernel_rfl) ((fun _ _ _ h => h)) rfl rfl rfl ((ok_field_ptr rfl rfl rfl tF78_0)) <| WC.take (i := 3) [7, 8, 9] (by kernel_rfl) (by kernel_rfl) (by kernel_rfl) rfl (by kernel_rfl) (by kernel_rfl) (by kernel_rfl) ((fun _ _ _ h => h)) rfl rfl rfl ((ok_load_box rfl rfl rfl Tryz.underlying76 rfl rfl (by decide))) <| WC.take (i := 4) [5, 7, 8, 9] (by kernel_rfl) (by kernel_rfl) (by kernel_rfl) rfl (by kernel_rfl) (by kernel_rfl) (by kernel_rfl) ((fun _ _ _ h => h)) rfl rfl rfl ((ok_field_ptr rfl rfl rfl tF51_4)) <| WC.take (i := 5) [7, 8, 9] (by kernel_rfl) (by kernel_rfl) (by kernel_rfl) rfl (by kernel_rfl) (by kernel_rfl) (by kernel_rfl) ((fun _ _ _ h => h)) rfl rfl rfl ((ok_load_box rfl rfl rfl uT44 rfl rfl (by decide))) <| WC.take (i := 6) [7, 8, 9] (by kernel_rfl) (by kernel_rfl) (by kernel_rfl) rfl (by kernel_rfl) (by kernel_rfl) (by kernel_rfl) ((fun _ _ _ h => h)) rfl rfl rfl ((bPu rfl rfl tZ81 tP81 rfl (fbk rfl) rfl)) <| WC.one (i := 7) (by kernel_rfl) <| WIC.op rfl rfl rfl (by intro t h; cases h <;> rfl) (fun k (h : _) => h.elim) (nAp rfl) (fun ρ w => cRr (sc_sweep f.body hd0 (wSet f.body) hok hb) ent40 rfl rfl (sSm rfl (sSm rfl (Subs.cons (fun _ _ _ _ h => sub_pv (p := .agg [.val (.slice none 0 0), .val (.slice none 0 0), .val (.slice none 0 0)]) (PSub.agg ⟨PSub.nil, PSub.nil, PSub.nil, trivial⟩) h) Subs.nil))) (po1 rfl) (by rfl) (fun k (h : _) => by (simp only [List.mem_cons, List.not_mem_nil, or_false] at h; rcases h with rfl | rfl | rfl | rfl <;> first | exact .inl rfl | exact .inr rfl | exact .inr (by decide))) rfl (by rfl)) <| WC.take (i := 8) [9] (by kernel_rfl) (by kernel_rfl) (by kernel_rfl) rfl (by kernel_rfl) (by kernel_rfl) (by kernel_rfl) ((fun _ _ _ h => h)) rfl rfl rfl ((ok_field_ptr rfl rfl rfl tF51_4)) <| WC.one (i := 9) (by kernel_rfl) ?_
  refine WIC.last (R2 := fun k => k ∈ ([3002] : List Nat)) (by kernel_rfl) rfl rfl rfl (by intro t h; cases h <;> rfl) (fun k (h : _) => h.elim) (nOl rfl) (fun ρ w => (sBx rfl rfl rfl rfl (by simp) tS44 (rfl) (lb rfl))) <| wDn (by kernel_rfl) <| tQ <| tG <| cV rfl (lBP rfl rfl rfl Tryz.underlying51 rfl tS51 (lb rfl) rfl trivial) <| c0 (sBA rfl rfl rfl rfl rfl ((fun h => h)) tS51 (flk rfl) (lb rfl)) <| nL <| tRt <| rCk (.inl rfl) (fun _ _ ho => lBP ho rfl rfl Tryz.underlying51 rfl tS51 (lb rfl) rfl trivial) rfl nPo
theorem sc_Want (u : Un) (hW : r8Weight u ≤ 536870912) (hok : (shCheck u).1 = 0 → ∀ f ∈ u.flows, wOkL hd0 f.body = true) : SC Tryz.prog 11 [.pv u.enc] [] (fun _ => False) (.tup [.pv (passOf wB u).1.enc, iInt (passOf wB u).2]) [] := by
  refine SC.ofC2 Tryz.func11 rfl (lb rfl) rfl fun F ρ w => ?_
  have hW2 : r8Weight u = u.arrays.length + u.flows.length + wtA u.arrays + wtF u.flows := rfl
  refine tQ <| tG <| cE rfl (ok_box rfl rfl) <| cE rfl (aLc (k := 102) rfl tZ25 rfl rfl rfl rfl) <| sm 1 rfl <| nL <| tQ <| tQ <| tG <| cV rfl (lEA rfl rfl uT25 rfl tS25 (lb rfl)) <| cE rfl (ocq (sc_shCheck u hW) ent22 rfl rfl) <| sm 1 rfl ?_
  refine cV rfl (ok_extract rfl rfl rfl) <| cV rfl (ok_extract rfl rfl rfl) <| sm 2 rfl <| nL <| tQ <| tG <| sm 2 rfl <| nL ?_
  refine tC rfl (fun hc15 => ?_) fun hc15 => ?_
  ·refine tQ <| tG <| cV rfl (bPu rfl rfl tZ25 tP25 rfl (fbk rfl) rfl) <| c0 (sBA rfl rfl rfl rfl rfl ((fun h => h)) tS25 (flk rfl) (lb rfl)) <| sm 1 rfl <| nL <| tRt ?_
   have hz : ((shCheck u).1 == 0) = false := by simpa using hc15
   have hH : passOf wB u = (⟨[], []⟩, 1) := by simp [passOf, hz]
   rw [hH]
   exact ⟨⟨_, _, (fun _ _ ho => lBP ho rfl rfl uT25 rfl tS25 (lb rfl) rfl trivial), rfl, fun _ _ _ _ h => tup2_sub (fun _ h => empty_unit h) h⟩, nPo⟩
  ·have hz : (shCheck u).1 = 0 := by simpa using hc15
   have hH : passOf wB u = (mUnit wB u, 0) := by simp [passOf, hz]
   refine tSk <| tQ <| tG <| sm 2 rfl <| cV rfl (bPu rfl rfl tZ25 tP25 rfl (fbk rfl) rfl) <| cE rfl (aLc (k := 106) rfl tZ25 rfl rfl rfl rfl) <| c0 (sBA rfl rfl rfl rfl rfl ((fun h => h)) tS25 (flk rfl) (lb rfl)) <| nL <| tQ <| tQ <| Tr.growCell (k := 199) (k2 := 106) (j := 1) ⟨51, 5⟩ rfl rfl rfl rfl rfl rfl <| tG ?_
   refine sm 2 rfl <| cV rfl (oSm uT23 rfl) <| sm 1 rfl <| nL <| tBk <| Tr.sub (Sub.of (fr' := [(23, iInt 0), (22, iInt u.flows.length), (21, .pv (flws u.flows)), (6, .ptr 106 0), (2, .ptr 102 0)]) ⟨rfl, rfl, rfl, rfl, rfl, trivial⟩) ?_
   refine Tr.heap (σ' := look [(106, some (.box [.pv (arrs u.arrays), .sl 199 (([] : List Fl).map Fl.enc).length])), (199, some (.row ⟨51, 5⟩ (([] : List Fl).map Fl.enc))), (102, some (.box [.pv (.val (.slice none 0 0)), .pv (.val (.slice none 0 0))]))]) (by
  intro j
  try simp only [look]
  by_cases h106 : 106 = j
  · subst h106; rfl
  · by_cases h199 : 199 = j
    · subst h199; rfl
    · by_cases h102 : 102 = j
      · subst h102; rfl
      · simp [wH, wM, look, up, beq_ne h106, beq_ne h199, beq_ne h102]) ?_
   refine Tr.loop (fun fr σ m => ∃ (k : Nat) (out : List Fl), (k ≤ u.flows.length) ∧ (out ++ (u.flows.drop k).map (mFlow wB) = u.flows.map (mFlow wB)) ∧ (out.length = k) ∧ fr = [(23, iInt k), (22, iInt u.flows.length), (21, .pv (flws u.flows)), (6, .ptr 106 0), (2, .ptr 102 0)] ∧ σ = look [(106, some (.box [.pv (arrs u.arrays), .sl 199 (out.map Fl.enc).length])), (199, some (.row ⟨51, 5⟩ (out.map Fl.enc))), (102, some (.box [.pv (.val (.slice none 0 0)), .pv (.val (.slice none 0 0))]))] ∧ m = u.flows.length - k) (n := u.flows.length - 0) ?_ ?_
   ·exact ⟨0, ([] : List Fl), Nat.zero_le _, rfl, rfl, rfl, rfl, rfl⟩
   rintro fr σ m ⟨k, out, hI0, hI1, hI2, rfl, rfl, rfl⟩
   refine tQ <| tG <| sm 1 rfl <| nL <| tQ ?_
   refine tC rfl (fun hc24 => ?_) fun hc24 => ?_
   ·have hlt : k < u.flows.length := by simpa using hc24
    have hd := List.drop_eq_getElem_cons hlt
    have hm := List.getElem_mem hlt
    have hi := map_get (f := Fl.enc) (List.getElem?_eq_getElem hlt)
    generalize u.flows[k] = x at hd hm hi
    have hxok := hok hz x hm
    have hxb : lsW x.body ≤ 1073741824 := by have := flow_le hW hm; omega
    have hol : (out.map Fl.enc).length = out.length := by simp
    refine tSk <| tQ <| tBk <| tQ <| tG <| cV rfl (iSq rfl rfl rfl uT23 hi tS51 rfl (by rfl)) <| cV rfl (lEA rfl rfl Tryz.underlying51 rfl tS51 (lb rfl)) <| cE rfl (aLc (k := 108) rfl tZ51 rfl rfl rfl rfl) <| c0 (sBA rfl rfl rfl rfl rfl ((fun h => h)) tS51 (flk rfl) (lb rfl)) <| nL <| Tr.freezeBox (t := 8) (k := 108) rfl rfl rfl ?_
    refine Tr.heap (σ' := look [(106, some (.box [.pv (arrs u.arrays), .sl 199 (out.map Fl.enc).length])), (199, some (.row ⟨51, 5⟩ (out.map Fl.enc))), (102, some (.box [.pv (.val (.slice none 0 0)), .pv (.val (.slice none 0 0))]))]) (by
      skip
      intro j
      try simp only [look]
      by_cases h108 : 108 = j
      · subst h108; rfl
      · by_cases h106 : 106 = j
        · subst h106; rfl
        · by_cases h199 : 199 = j
          · subst h199; rfl
          · by_cases h102 : 102 = j
            · subst h102; rfl
            · simp [wH, wM, look, up, beq_ne h108, beq_ne h106, beq_ne h199, beq_ne h102]) ?_
    refine Tr.drawnC mixed (fun k => k ∈ ([106] : List Nat)) [7] <| WC.take (i := 0) [1, 5, 6, 7] (by kernel_rfl) (by kernel_rfl) (by kernel_rfl) rfl (by kernel_rfl) (by kernel_rfl) (by kernel_rfl) ((fun _ _ _ h => h)) rfl rfl rfl ((ok_field_ptr rfl rfl rfl tF25_1)) <| WC.take (i := 1) [5, 6, 7] (by kernel_rfl) (by kernel_rfl) (by kernel_rfl) rfl (by kernel_rfl) (by kernel_rfl) (by kernel_rfl) ((fun _ _ _ h => h)) rfl rfl rfl ((ok_load_box rfl rfl rfl uT23 rfl rfl (by decide))) <| WC.take (i := 2) [3, 4, 5, 6, 7] (by kernel_rfl) (by kernel_rfl) (by kernel_rfl) rfl (by kernel_rfl) (by kernel_rfl) (by kernel_rfl) ((fun _ _ _ h => h)) rfl rfl rfl ((lEA rfl rfl Tryz.underlying51 rfl tS51 (lb rfl))) <| WC.one (i := 3) (by kernel_rfl) <| WIC.op rfl rfl rfl (by intro t h; cases h <;> rfl) (fun k (h : _) => h.elim) (fun _ h1 h2 => absurd h1 h2) (fun ρ w => ok_callq (sc_wFlow x hxok hxb) ent23 rfl rfl (sRf _ _) rfl) <| WC.one (i := 4) (by kernel_rfl) <| WIC.op rfl rfl rfl (by intro t h; cases h <;> rfl) (fun k (h : _) => h.elim) (fun _ h1 h2 => absurd h1 h2) (fun ρ w => bSl rfl rfl uT23 tZ51 tS51 rfl rfl rfl rfl (fbk rfl) rfl) <| WC.one (i := 5) (by kernel_rfl) ?_
    refine WIC.op rfl rfl rfl (by intro t h; cases h <;> rfl) (fun k (h : _) => h.elim) (nOl rfl) (fun ρ w => aPp rfl rfl rfl rfl (by rfl) (by simp) uT23 tB51 (by decide) (by (simp [chunks]; done)) (hone_flow5 _ _ _ _ _) (by simp [maxLen, chunks]; omega) (by simp [chunks]; omega)) ?_
    refine WC.take (i := 6) [7] (by kernel_rfl) (by kernel_rfl) (by kernel_rfl) rfl (by kernel_rfl) (by kernel_rfl) (by kernel_rfl) ((fun _ _ _ h => h)) rfl rfl rfl ((ok_field_ptr rfl rfl rfl tF25_1)) <| WC.one (i := 7) (by kernel_rfl) <| WIC.last (R2 := fun k => k ∈ ([] : List Nat)) (by kernel_rfl) rfl rfl rfl (by intro t h; cases h <;> rfl) (fun k (h : _) => h.elim) (nOl rfl) (fun ρ w => (sBx rfl rfl rfl rfl (by simp) tS23 (⟨_, _, rfl, by simp⟩) (lb rfl))) <| wDn (by kernel_rfl) ?_
    refine Tr.heap (σ' := look [(106, some (.box [.pv (arrs u.arrays), .sl 199 ((out ++ [mFlow wB x]).map Fl.enc).length])), (199, some (.row ⟨51, 5⟩ ((out ++ [mFlow wB x]).map Fl.enc))), (102, some (.box [.pv (.val (.slice none 0 0)), .pv (.val (.slice none 0 0))]))]) (by
      rw [enc_snocM, List.length_append]
      intro j
      try simp only [look]
      by_cases h106 : 106 = j
      · subst h106; rfl
      · by_cases h199 : 199 = j
        · subst h199; rfl
        · by_cases h102 : 102 = j
          · subst h102; rfl
          · simp [wH, wM, look, up, beq_ne h106, beq_ne h199, beq_ne h102]) ?_
    refine tG <| cV rfl (oB rfl rfl (i64_add rfl (by omega))) <| sm 1 rfl <| nL ?_
    refine ⟨_, _, ?_, Sub.of (fr' := [(23, iInt (k + 1)), (22, iInt u.flows.length), (21, .pv (flws u.flows)), (6, .ptr 106 0), (2, .ptr 102 0)]) ⟨rfl, rfl, rfl, rfl, rfl, trivial⟩, (k + 1), (out ++ [mFlow wB x]), ?_, ?_, ?_, rfl, rfl, rfl⟩
    ·omega
    ·omega
    ·rw [List.append_assoc, ← hI1, hd]; rfl
    simp [hI2]
   refine tEx <| tQ <| Tr.freezeCell (k := 199) (k2 := 106) (j := 1) rfl rfl rfl rfl (by decide) <| tG <| cV rfl (lBP rfl rfl rfl uT25 rfl tS25 (lb rfl) rfl trivial) <| c0 (sBA rfl rfl rfl rfl rfl ((fun h => h)) tS25 (flk rfl) (lb rfl)) <| sm 1 rfl <| nL <| tRt <| retC2_ok (.inl rfl) (fun _ _ ho => lBP ho rfl rfl uT25 rfl tS25 (lb rfl) rfl trivial) rfl ?_ nPo
   have hge : u.flows.length ≤ k := by simpa using hc24
   have hout : out = u.flows.map (mFlow wB) := by rw [← hI1, List.drop_eq_nil_of_le hge]; simp
   rw [hH, hout]
   rfl
theorem sc_sameHeads (u v : Un) : SC Tryz.prog 20 [.pv u.enc, .pv v.enc] [] (fun _ => False) (iBool (sameHeads u v)) [] := by
  refine SC.of Tryz.func20 rfl (lb rfl) fun F ρ w => ?_
  refine tQ <| tG <| cE rfl (ok_box rfl rfl) <| cE rfl (ok_box rfl rfl) <| sm 1 rfl <| nL <| tQ <| tQ <| tG <| sm 2 rfl <| cV rfl (oSm uT22 rfl) <| sm 2 rfl ?_
  refine cV rfl (oSm uT22 rfl) <| sm 2 rfl ?_
  refine wS 17 rfl (fun hb17 => ?_) fun hb17 => ?_
  ·refine sm 8 rfl <| nL <| Tr.condT rfl <| tQ <| tG <| sm 1 rfl <| nL <| tRt <| rOk rfl ?_ nPo
   refine congrArg (fun b => iBool b) ?_
   have hne : ¬ (u.arrays.length = v.arrays.length ∧ u.flows.length = v.flows.length) := by
     rintro ⟨h1, h2⟩
     simp_all
   unfold sameHeads
   by_cases h1 : u.arrays.length = v.arrays.length
   ·have h2 : ¬ u.flows.length = v.flows.length := fun h2 => hne ⟨h1, h2⟩
    simp [h2]
   simp [h1]
  refine sm 2 rfl <| yV rfl rfl (oSm uT23 rfl) <| sm 2 rfl <| yV rfl rfl (oSm uT23 rfl) <| sm 2 rfl <| nL ?_
  refine tC rfl (fun hc25 => ?_) fun hc25 => ?_
  ·refine tQ <| tG <| sm 1 rfl <| nL <| tRt <| rOk rfl ?_ nPo
   refine congrArg (fun b => iBool b) ?_
   have hne : ¬ (u.arrays.length = v.arrays.length ∧ u.flows.length = v.flows.length) := by
     rintro ⟨h1, h2⟩
     simp_all
   unfold sameHeads
   by_cases h1 : u.arrays.length = v.arrays.length
   ·have h2 : ¬ u.flows.length = v.flows.length := fun h2 => hne ⟨h1, h2⟩
    simp [h2]
   simp [h1]
  have hlen : u.arrays.length = v.arrays.length ∧ u.flows.length = v.flows.length := by
    (simp_all <;> omega)
  refine tSk <| tQ <| tQ <| tG <| sm 1 rfl <| nL <| tBk <| Tr.sub (Sub.of (fr' := [(5, iInt 0), (2, .pv (.ept [arrs u.arrays, flws u.flows] 0)), (3, .pv (.ept [arrs v.arrays, flws v.flows] 0))]) ⟨rfl, rfl, rfl, trivial⟩) ?_
  refine Tr.loop (fun fr σ m => ∃ (k : Nat), (k ≤ u.arrays.length) ∧ (sameAs u.arrays v.arrays = sameAs (u.arrays.drop k) (v.arrays.drop k)) ∧ fr = [(5, iInt k), (2, .pv (.ept [arrs u.arrays, flws u.flows] 0)), (3, .pv (.ept [arrs v.arrays, flws v.flows] 0))] ∧ σ = look [] ∧ m = u.arrays.length - k) (n := u.arrays.length - 0) ?_ ?_
  ·exact ⟨0, Nat.zero_le _, rfl, rfl, rfl, rfl⟩
  rintro fr σ m ⟨k, hI0, hI1, rfl, rfl, rfl⟩
  refine tQ <| tQ <| tG <| sm 3 rfl ?_
  refine WL.lenOf (t := 28) rfl (fun hl1 => ?_)
  simp only [List.length_map] at hl1
  refine cV rfl (oSm uT22 rfl) <| sm 1 rfl <| nL ?_
  refine tC rfl (fun hc30 => ?_) fun hc30 => ?_
  ·have hlt : k < u.arrays.length := by simpa using hc30
   have hd := List.drop_eq_getElem_cons hlt
   have hm := List.getElem_mem hlt
   have hi := map_get (f := Ar.enc) (List.getElem?_eq_getElem hlt)
   generalize u.arrays[k] = x at hd hm hi
   have hltw : k < v.arrays.length := by omega
   have hdw := List.drop_eq_getElem_cons hltw
   have hw := map_get (f := Ar.enc) (List.getElem?_eq_getElem hltw)
   generalize v.arrays[k] = y at hdw hw
   refine tSk <| tQ <| tBk <| tQ <| Tr.still mixed (by kernel_rfl) rfl <| smS 3 rfl <| sV rfl (iSq rfl rfl rfl uT22 hi tS49 rfl (by rfl)) <| sV rfl (lEA rfl rfl Tryz.underlying49 rfl tS49 (lb rfl)) <| smS 3 rfl <| sV rfl (iSq rfl rfl rfl uT22 hw tS49 rfl (by rfl)) <| sV rfl (lEA rfl rfl Tryz.underlying49 rfl tS49 (lb rfl)) <| sV rfl (ok_neq_strint rfl rfl rfl Tryz.underlying49 uT9 uT3 rfl rfl (by decide) (by decide) (by kernel_rfl) (by kernel_rfl)) ?_
   refine WS.nil ?_
   refine tC rfl (fun hc43 => ?_) fun hc43 => ?_
   ·refine tQ <| tG <| sm 1 rfl <| nL <| tRt <| rOk rfl ?_ nPo
    have hxy : sameA x y = false := by
      clear hd hdw hm hi hw hI1
      cases hb1 : (x.name.toList == y.name.toList) <;> cases hb2 : (x.size == y.size) <;> simp_all [sameA]
    have hA : sameAs u.arrays v.arrays = false := by rw [hI1, hd, hdw]; simp [sameAs, hxy]
    simp [sameHeads, hA]
   refine tSk <| tG <| sm 1 rfl <| cV rfl (oB rfl rfl (i64_add rfl (by omega))) <| sm 1 rfl <| nL ?_
   refine ⟨_, _, ?_, Sub.of (fr' := [(5, iInt (k + 1)), (2, .pv (.ept [arrs u.arrays, flws u.flows] 0)), (3, .pv (.ept [arrs v.arrays, flws v.flows] 0))]) ⟨rfl, rfl, rfl, trivial⟩, (k + 1), ?_, ?_, rfl, rfl, rfl⟩
   ·omega
   ·omega
   rw [hI1, hd, hdw]
   have hxy : sameA x y = true := by
     clear hd hdw hm hi hw
     simp_all [sameA]
   simp [sameAs, hxy]
  refine tEx <| tQ <| tQ ?_
  have hAs : sameAs u.arrays v.arrays = true := by
    have hge : u.arrays.length ≤ k := by simpa using hc30
    rw [hI1, List.drop_eq_nil_of_le hge, List.drop_eq_nil_of_le (by omega)]
    rfl
  refine tG <| sm 1 rfl <| nL <| tBk <| Tr.sub (Sub.of (fr' := [(6, iInt 0), (2, .pv (.ept [arrs u.arrays, flws u.flows] 0)), (3, .pv (.ept [arrs v.arrays, flws v.flows] 0))]) ⟨rfl, rfl, rfl, trivial⟩) ?_
  refine Tr.loop (fun fr σ m => ∃ (k : Nat), (k ≤ u.flows.length) ∧ (headFs u.flows v.flows = headFs (u.flows.drop k) (v.flows.drop k)) ∧ fr = [(6, iInt k), (2, .pv (.ept [arrs u.arrays, flws u.flows] 0)), (3, .pv (.ept [arrs v.arrays, flws v.flows] 0))] ∧ σ = look [] ∧ m = u.flows.length - k) (n := u.flows.length - 0) ?_ ?_
  ·exact ⟨0, Nat.zero_le _, rfl, rfl, rfl, rfl⟩
  rintro fr σ m ⟨k, hI0, hI1, rfl, rfl, rfl⟩
  refine tQ <| tQ <| tG <| sm 3 rfl ?_
  refine WL.lenOf (t := 46) rfl (fun hl1 => ?_)
  simp only [List.length_map] at hl1
  refine cV rfl (oSm uT23 rfl) <| sm 1 rfl <| nL ?_
  refine tC rfl (fun hc48 => ?_) fun hc48 => ?_
  ·have hlt : k < u.flows.length := by simpa using hc48
   have hd := List.drop_eq_getElem_cons hlt
   have hm := List.getElem_mem hlt
   have hi := map_get (f := Fl.enc) (List.getElem?_eq_getElem hlt)
   generalize u.flows[k] = x at hd hm hi
   have hltw : k < v.flows.length := by omega
   have hdw := List.drop_eq_getElem_cons hltw
   have hw := map_get (f := Fl.enc) (List.getElem?_eq_getElem hltw)
   generalize v.flows[k] = y at hdw hw
   refine tSk <| tQ <| tBk <| tQ ?_
   refine Tr.cut (fr' := [(8, .ptr 108 0), (7, .ptr 107 0), (6, iInt k), (2, .pv (.ept [arrs u.arrays, flws u.flows] 0)), (3, .pv (.ept [arrs v.arrays, flws v.flows] 0))]) (σ' := look [(107, some (.box [iStr x.name, iInt x.ty, iInt x.params, .pv (ints x.types), .pv (nodes x.body)])), (108, some (.box [iStr y.name, iInt y.ty, iInt y.params, .pv (ints y.types), .pv (nodes y.body)]))]) ?_ ?_
   ·refine tDr mixed (fun k => k ∈ ([] : List Nat)) <| wR 4 [0, 1, 2, 3, 4, 5, 6, 7, 8, 9] (by kernel_rfl) (fun _ _ _ h => pn h.1) <| smR 3 rfl <| rV rfl rfl (iSq rfl rfl rfl uT23 hi tS51 rfl (by rfl)) <| rV rfl rfl (lEA rfl rfl Tryz.underlying51 rfl tS51 (lb rfl)) <| smR 3 rfl <| rV rfl rfl (iSq rfl rfl rfl uT23 hw tS51 rfl (by rfl)) <| rV rfl rfl (lEA rfl rfl Tryz.underlying51 rfl tS51 (lb rfl)) <| nR <| WA.all (rs := [10, 11]) (by kernel_rfl) (by simp) ?_
    refine fmc ⟨?_, fmc ⟨?_, by simp⟩⟩
    ·refine wI rfl rfl nf (new_one rfl) (fun _ _ => aLc (k := 107) rfl tZ51 rfl rfl rfl rfl) <| wO 11 (by kernel_rfl) <| wI rfl rfl nf (new_one rfl) (fun _ _ => aLc (k := 108) rfl tZ51 rfl rfl rfl rfl) <| wO 12 (by kernel_rfl) <| wI rfl rfl nf (nOl rfl) (fun _ _ => sBA rfl rfl rfl rfl rfl (by simp) tS51 (flk rfl) (lb rfl)) <| wO 13 (by kernel_rfl) <| wI rfl rfl nf (nOl rfl) (fun _ _ => sBA rfl rfl rfl rfl rfl (by simp) tS51 (flk rfl) (lb rfl)) <| wDn (by kernel_rfl) ?_
     refine ⟨rfl, Sub.of ⟨rfl, rfl, rfl, rfl, rfl, trivial⟩, ?_⟩
     exact look_two rfl rfl (fun k h1 h2 => by simp [look, beq_ne (Ne.symm h1), beq_ne (Ne.symm h2)]) (by decide)
    refine wI rfl rfl nf (new_one rfl) (fun _ _ => aLc (k := 108) rfl tZ51 rfl rfl rfl rfl) <| wO 10 (by kernel_rfl) <| wI rfl rfl nf (new_one rfl) (fun _ _ => aLc (k := 107) rfl tZ51 rfl rfl rfl rfl) <| wO 12 (by kernel_rfl) <| wI rfl rfl nf (nOl rfl) (fun _ _ => sBA rfl rfl rfl rfl rfl (by simp) tS51 (flk rfl) (lb rfl)) <| wO 13 (by kernel_rfl) <| wI rfl rfl nf (nOl rfl) (fun _ _ => sBA rfl rfl rfl rfl rfl (by simp) tS51 (flk rfl) (lb rfl)) <| wDn (by kernel_rfl) ?_
    refine ⟨rfl, Sub.of ⟨rfl, rfl, rfl, rfl, rfl, trivial⟩, ?_⟩
    exact look_two rfl rfl (fun k h1 h2 => by simp [look, beq_ne (Ne.symm h1), beq_ne (Ne.symm h2)]) (by decide)
   refine Tr.freezeBox (t := 7) (k := 107) rfl rfl rfl <| Tr.freezeBox (t := 8) (k := 108) rfl rfl rfl <| Tr.heap (σ' := look []) (fun k => by simp only [look]; cases Nat.beq 107 k <;> cases Nat.beq 108 k <;> rfl) <| tQ <| tQ <| tG <| sm 4 rfl <| cV rfl (bSt rfl rfl rfl rfl) <| sm 1 rfl ?_
   refine wS 66 rfl (fun hb66 => ?_) fun hb66 => ?_
   ·refine sm 13 rfl <| nL <| Tr.condT rfl <| tQ <| tG <| sm 1 rfl <| nL <| tRt <| rOk rfl ?_ nPo
    have hxy : headF x y = false := by
      clear hd hdw hm hi hw hI1
      simp_all [headF]
    have hF : headFs u.flows v.flows = false := by rw [hI1, hd, hdw]; simp [headFs, hxy]
    simp [sameHeads, hF]
   refine sm 7 rfl ?_
   refine wS 73 rfl (fun hb73 => ?_) fun hb73 => ?_
   ·refine sm 6 rfl <| nL <| Tr.condT rfl <| tQ <| tG <| sm 1 rfl <| nL <| tRt <| rOk rfl ?_ nPo
    have hxy : headF x y = false := by
      clear hd hdw hm hi hw hI1
      simp_all [headF]
    have hF : headFs u.flows v.flows = false := by rw [hI1, hd, hdw]; simp [headFs, hxy]
    simp [sameHeads, hF]
   refine sm 6 rfl <| nL ?_
   refine tC rfl (fun hc79 => ?_) fun hc79 => ?_
   ·refine tQ <| tG <| sm 1 rfl <| nL <| tRt <| rOk rfl ?_ nPo
    have hxy : headF x y = false := by
      clear hd hdw hm hi hw hI1
      simp_all [headF]
    have hF : headFs u.flows v.flows = false := by rw [hI1, hd, hdw]; simp [headFs, hxy]
    simp [sameHeads, hF]
   have hh1 : (x.name.toList == y.name.toList) = true := by clear hd hdw hi hw hm; simp_all
   have hh2 : (x.ty == y.ty) = true := by clear hd hdw hi hw hm; simp_all
   have hh3 : (x.params == y.params) = true := by clear hd hdw hi hw hm; simp_all
   refine tSk <| tQ <| tG <| sm 1 rfl <| nL <| tBk <| Tr.sub (Sub.of (fr' := [(9, iInt 0), (8, .pv (.ept [vStr y.name, vInt y.ty, vInt y.params, ints y.types, nodes y.body] 0)), (7, .pv (.ept [vStr x.name, vInt x.ty, vInt x.params, ints x.types, nodes x.body] 0)), (6, iInt k), (2, .pv (.ept [arrs u.arrays, flws u.flows] 0)), (3, .pv (.ept [arrs v.arrays, flws v.flows] 0))]) ⟨rfl, rfl, rfl, rfl, rfl, rfl, trivial⟩) ?_
   refine Tr.loop (fun fr σ m => ∃ (i : Nat), (i ≤ x.types.length) ∧ (∀ j, j < i → headTyAt x.types y.types j = true) ∧ fr = [(9, iInt i), (8, .pv (.ept [vStr y.name, vInt y.ty, vInt y.params, ints y.types, nodes y.body] 0)), (7, .pv (.ept [vStr x.name, vInt x.ty, vInt x.params, ints x.types, nodes x.body] 0)), (6, iInt k), (2, .pv (.ept [arrs u.arrays, flws u.flows] 0)), (3, .pv (.ept [arrs v.arrays, flws v.flows] 0))] ∧ σ = look [] ∧ m = x.types.length - i) (n := x.types.length - 0) ?_ ?_
   ·exact ⟨0, Nat.zero_le _, (fun j hj => absurd hj (Nat.not_lt_zero j)), rfl, rfl, rfl⟩
   rintro fr σ m ⟨i, hJ0, hJ1, rfl, rfl, rfl⟩
   refine tQ <| tQ <| tG <| sm 4 rfl <| nL ?_
   refine tC rfl (fun hc83 => ?_) fun hc83 => ?_
   ·refine tSk <| tQ <| tBk <| tQ <| Tr.still mixed (by kernel_rfl) rfl <| smS 3 rfl ?_
    refine WS.lenOf (t := 88) rfl (fun hl4 => ?_)
    simp only [List.length_map] at hl4
    refine sV rfl (oSm uT35 rfl) <| smS 2 rfl ?_
    refine WS.split (t := 91) rfl (fun hb91 => ?_) (fun hb91 => ?_)
    ·refine smS 19 rfl <| WS.nil <| Tr.condT rfl <| tQ <| tG <| sm 1 rfl <| nL <| tRt <| rOk rfl ?_ nPo
     have hat : headTyAt x.types y.types i = false := by
       clear hd hdw hi hw hm
       unfold headTyAt
       (simp_all <;> omega)
     have hty : headTy x.types y.types x.params = false := headTy_no (k := i) (by simpa using hc83) hat
     have hxy : headF x y = false := by unfold headF; rw [hty]; simp
     have hF : headFs u.flows v.flows = false := by rw [hI1, hd, hdw]; simp [headFs, hxy]
     simp [sameHeads, hF]
    refine smS 3 rfl <| syV rfl rfl (oSm uT35 rfl) <| smS 3 rfl ?_
    refine WS.split (t := 98) rfl (fun hb98 => ?_) (fun hb98 => ?_)
    ·refine smS 12 rfl <| WS.nil <| Tr.condT rfl <| tQ <| tG <| sm 1 rfl <| nL <| tRt <| rOk rfl ?_ nPo
     have hat : headTyAt x.types y.types i = false := by
       clear hd hdw hi hw hm
       unfold headTyAt
       (simp_all <;> omega)
     have hty : headTy x.types y.types x.params = false := headTy_no (k := i) (by simpa using hc83) hat
     have hxy : headF x y = false := by unfold headF; rw [hty]; simp
     have hF : headFs u.flows v.flows = false := by rw [hI1, hd, hdw]; simp [headFs, hxy]
     simp [sameHeads, hF]
    have hit : i < x.types.length ∧ i < y.types.length := by simp at hb91 hb98; omega
    have hta : (x.types.map eInt)[i]? = some [vInt (x.types.getD i 0)] := by rw [List.getElem?_map]; simp [eInt, List.getD, hit.1]
    have htb : (y.types.map eInt)[i]? = some [vInt (y.types.getD i 0)] := by rw [List.getElem?_map]; simp [eInt, List.getD, hit.2]
    refine smS 3 rfl <| syV rfl rfl (iSq rfl rfl rfl uT35 hta tS3 rfl (by rfl)) <| smS 4 rfl <| syV rfl rfl (iSq rfl rfl rfl uT35 htb tS3 rfl (by rfl)) <| smS 3 rfl <| WS.nil ?_
    refine tC rfl (fun hc110 => ?_) fun hc110 => ?_
    ·refine tQ <| tG <| sm 1 rfl <| nL <| tRt <| rOk rfl ?_ nPo
     have hat : headTyAt x.types y.types i = false := by
       clear hd hdw hi hw hm
       unfold headTyAt
       simp_all
     have hty : headTy x.types y.types x.params = false := headTy_no (k := i) (by simpa using hc83) hat
     have hxy : headF x y = false := by unfold headF; rw [hty]; simp
     have hF : headFs u.flows v.flows = false := by rw [hI1, hd, hdw]; simp [headFs, hxy]
     simp [sameHeads, hF]
    have hlt1 : i < x.types.length ∧ i < y.types.length := by simp at hb91 hb98; omega
    have hat : headTyAt x.types y.types i = true := by
      have he : x.types.getD i 0 = y.types.getD i 0 := by simpa using hc110
      unfold headTyAt
      rw [he]
      simp [hlt1.1, hlt1.2]
    refine tSk <| tG <| sm 1 rfl <| cV rfl (oB rfl rfl (i64_add rfl (by omega))) <| sm 1 rfl <| nL ?_
    refine ⟨_, _, ?_, Sub.of (fr' := [(9, iInt (i + 1)), (8, .pv (.ept [vStr y.name, vInt y.ty, vInt y.params, ints y.types, nodes y.body] 0)), (7, .pv (.ept [vStr x.name, vInt x.ty, vInt x.params, ints x.types, nodes x.body] 0)), (6, iInt k), (2, .pv (.ept [arrs u.arrays, flws u.flows] 0)), (3, .pv (.ept [arrs v.arrays, flws v.flows] 0))]) ⟨rfl, rfl, rfl, rfl, rfl, rfl, trivial⟩, (i + 1), ?_, ?_, rfl, rfl, rfl⟩
    ·omega
    ·omega
    intro j hj
    by_cases e : j = i
    ·subst e; exact hat
    exact hJ1 j (by omega)
   refine tEx <| tG <| sm 1 rfl <| cV rfl (oB rfl rfl (i64_add rfl (by omega))) <| sm 1 rfl <| nL ?_
   refine ⟨_, _, ?_, Sub.of (fr' := [(6, iInt (k + 1)), (2, .pv (.ept [arrs u.arrays, flws u.flows] 0)), (3, .pv (.ept [arrs v.arrays, flws v.flows] 0))]) ⟨rfl, rfl, rfl, trivial⟩, (k + 1), ?_, ?_, rfl, rfl, rfl⟩
   ·omega
   ·omega
   rw [hI1, hd, hdw]
   have hty : headTy x.types y.types x.params = true := headTy_yes (k := i) (by simp at hc83; omega) hJ1
   have hxy : headF x y = true := by
     unfold headF
     rw [hty, hh1, hh2, hh3]
     rfl
   simp [headFs, hxy]
  refine tEx <| tQ <| tG <| sm 1 rfl <| nL <| tRt <| rOk rfl ?_ nPo
  have hge : u.flows.length ≤ k := by simpa using hc48
  have hF : headFs u.flows v.flows = true := by rw [hI1, List.drop_eq_nil_of_le hge, List.drop_eq_nil_of_le (by omega)]; rfl
  simp [sameHeads, hAs, hF, hlen.1, hlen.2]
theorem sc_fits (u : Un) (hW : r8Weight u ≤ 536870912) : SC Tryz.prog 9 [.pv u.enc] [] (fun _ => False) (iBool true) [] := by
  refine SC.of Tryz.func9 rfl (lb rfl) fun F ρ w => ?_
  refine tQ <| tG <| cE rfl (ok_box rfl rfl) <| sm 1 rfl <| nL <| tQ <| tG <| cV rfl (lEA rfl rfl uT25 rfl tS25 (lb rfl)) <| cE rfl (ocq (sc_Want u hW wok_valid) ent11 rfl rfl) <| sm 1 rfl <| cV rfl (ok_extract rfl rfl rfl) <| cV rfl (ok_extract rfl rfl rfl) ?_
  refine cE rfl (aLc (k := 103) rfl tZ25 rfl rfl rfl rfl) <| c0 (sBA rfl rfl rfl rfl rfl ((fun h => h)) tS25 (flk rfl) (lb rfl)) <| sm 1 rfl <| nL <| tQ <| Tr.freezeBox (t := 3) (k := 103) rfl rfl rfl <| Tr.heap (σ' := look []) (fun k => by simp only [look]; cases Nat.beq 103 k <;> rfl) <| tG <| cV rfl (lEA rfl rfl uT25 rfl tS25 (lb rfl)) <| cE rfl (ocq (sc_r8Check u hW) ent19 rfl rfl) <| sm 1 rfl <| cV rfl (ok_extract rfl rfl rfl) ?_
  refine cV rfl (ok_extract rfl rfl rfl) <| sm 2 rfl <| nL <| tQ <| tQ <| tG <| sm 2 rfl <| nL ?_
  refine tC rfl (fun hc20 => ?_) fun hc20 => ?_
  ·refine tQ <| tG <| sm 3 rfl ?_
   refine wS 23 rfl (fun hb23 => ?_) fun hb23 => ?_
   ·refine yV rfl rfl (lEA rfl rfl uT25 rfl tS25 (lb rfl)) <| yV rfl rfl (bPu rfl rfl tZ25 tP25 rfl (fbk rfl) rfl) <| WL.yes rfl rfl rfl rfl rfl rfl (ok_callq (sc_r8Same (passOf wB u).1 ⟨[], []⟩) ent15 rfl rfl (sSm rfl (Subs.cons (fun _ _ _ _ h => empty_unit h) Subs.nil)) rfl) <| sm 2 rfl <| nL <| tRt <| rOk rfl ?_ nPo
    have hH := passOf_bad wB (u := u) (by simpa using hc20)
    have h1 : ((passOf wB u).2 == 1) = true := by rw [hH]; rfl
    have h2 : r8Same (passOf wB u).1 ⟨[], []⟩ = true := by rw [hH]; exact (show r8Same ⟨[], []⟩ ⟨[], []⟩ = true from rfl)
    refine congrArg (fun b => iBool b) ?_
    exact h2
   refine sm 5 rfl <| nL <| tRt <| rOk rfl ?_ nPo
   have hH := passOf_bad wB (u := u) (by simpa using hc20)
   have h1 : ((passOf wB u).2 == 1) = true := by rw [hH]; rfl
   have h2 : r8Same (passOf wB u).1 ⟨[], []⟩ = true := by rw [hH]; exact (show r8Same ⟨[], []⟩ ⟨[], []⟩ = true from rfl)
   refine congrArg (fun b => iBool b) ?_
   simp_all
  refine tSk <| tQ <| tG <| cV rfl (lEA rfl rfl uT25 rfl tS25 (lb rfl)) <| cE rfl (ocq (sc_r8Check (passOf wB u).1 (Nat.le_trans (passOf_weight wB nodes_want u) hW)) ent19 rfl rfl) <| sm 1 rfl <| cV rfl (ok_extract rfl rfl rfl) <| cV rfl (ok_extract rfl rfl rfl) <| sm 2 rfl <| nL <| tQ <| tG ?_
  refine sm 3 rfl ?_
  refine wS 35 rfl (fun hb35 => ?_) fun hb35 => ?_
  ·refine sm 4 rfl ?_
   refine wS 39 rfl (fun hb39 => ?_) fun hb39 => ?_
   ·refine yV rfl rfl (lEA rfl rfl uT25 rfl tS25 (lb rfl)) <| yV rfl rfl (lEA rfl rfl uT25 rfl tS25 (lb rfl)) <| WL.yes rfl rfl rfl rfl rfl rfl (ok_callq (sc_sameHeads u (passOf wB u).1) ent20 rfl rfl (sRf _ _) rfl) <| sm 2 rfl <| nL <| tRt <| rOk rfl ?_ nPo
    have hz : (r8Check u).1 = 0 := by simpa using hc20
    have hH := passOf_good wB (u := u) hz
    have hK := check_want hz
    have hS := sameHeads_m wB (u := u) (by rw [shCheck_eq]; exact hz)
    have h1 : ((passOf wB u).2 == 0) = true := by rw [hH]; rfl
    have h2 : ((r8Check (passOf wB u).1).1 == 0) = true := by rw [hH, hK]; rfl
    have h3 : sameHeads u (passOf wB u).1 = true := by rw [hH]; exact hS
    refine congrArg (fun b => iBool b) ?_
    exact h3
   refine sm 5 rfl <| nL <| tRt <| rOk rfl ?_ nPo
   have hz : (r8Check u).1 = 0 := by simpa using hc20
   have hH := passOf_good wB (u := u) hz
   have hK := check_want hz
   have hS := sameHeads_m wB (u := u) (by rw [shCheck_eq]; exact hz)
   have h1 : ((passOf wB u).2 == 0) = true := by rw [hH]; rfl
   have h2 : ((r8Check (passOf wB u).1).1 == 0) = true := by rw [hH, hK]; rfl
   have h3 : sameHeads u (passOf wB u).1 = true := by rw [hH]; exact hS
   refine congrArg (fun b => iBool b) ?_
   simp_all
  refine sm 9 rfl <| nL <| tRt <| rOk rfl ?_ nPo
  have hz : (r8Check u).1 = 0 := by simpa using hc20
  have hH := passOf_good wB (u := u) hz
  have hK := check_want hz
  have hS := sameHeads_m wB (u := u) (by rw [shCheck_eq]; exact hz)
  have h1 : ((passOf wB u).2 == 0) = true := by rw [hH]; rfl
  have h2 : ((r8Check (passOf wB u).1).1 == 0) = true := by rw [hH, hK]; rfl
  have h3 : sameHeads u (passOf wB u).1 = true := by rw [hH]; exact hS
  refine congrArg (fun b => iBool b) ?_
  simp_all
theorem sc_uses_aux (N : Nat) : ∀ (l : List Nd) (v : Int), SizeOf.sizeOf l < N → SC Tryz.prog 41 [.pv (nodes l), iInt v] [] (fun _ => False) (iBool (uL v l)) [] := by
  induction N with
  | zero => intro l v hN; exact absurd hN (Nat.not_lt_zero _)
  | succ N ih =>
    intro l v hN
    refine SC.of Tryz.func41 rfl (lb rfl) fun F ρ w => ?_
    refine Tr.lenOf (t := 0) rfl (fun hl => ?_)
    simp only [List.length_map] at hl
    refine tQ <| tG <| sm 1 rfl <| nL <| tQ <| tQ <| tG <| sm 1 rfl <| nL <| tBk <| Tr.sub (Sub.of (fr' := [(5, iInt 0), (0, .pv (nodes l)), (1, iInt v)]) ⟨rfl, rfl, rfl, trivial⟩) ?_
    refine Tr.loop (fun fr σ m => ∃ (k : Nat), (k ≤ l.length) ∧ (uL v l = uL v (l.drop k)) ∧ fr = [(5, iInt k), (0, .pv (nodes l)), (1, iInt v)] ∧ σ = look [] ∧ m = l.length - k) (n := l.length - 0) ?_ ?_
    ·exact ⟨0, Nat.zero_le _, rfl, rfl, rfl, rfl⟩
    rintro fr σ m ⟨k, hI0, hI1, rfl, rfl, rfl⟩
    refine tQ <| tQ <| tG <| sm 2 rfl <| cV rfl (oSm uT44 rfl) <| sm 1 rfl <| nL ?_
    refine tC rfl (fun hc11 => ?_) fun hc11 => ?_
    ·have hlt : k < l.length := by simpa using hc11
     have hd := List.drop_eq_getElem_cons hlt
     have hm := List.getElem_mem hlt
     have hi := nodes_get (List.getElem?_eq_getElem hlt)
     generalize l[k] = x at hd hm hi
     refine tSk <| tQ <| tBk <| tQ <| tQ <| tG <| sm 1 rfl <| nL <| tBk <| Tr.sub (Sub.of (fr' := [(6, iInt 0), (5, iInt k), (0, .pv (nodes l)), (1, iInt v)]) ⟨rfl, rfl, rfl, rfl, trivial⟩) ?_
     refine Tr.loop (fun fr σ m => ∃ (i : Nat), (i ≤ x.args.length) ∧ (x.args.contains v = (x.args.drop i).contains v) ∧ fr = [(6, iInt i), (5, iInt k), (0, .pv (nodes l)), (1, iInt v)] ∧ σ = look [] ∧ m = x.args.length - i) (n := x.args.length - 0) ?_ ?_
     ·exact ⟨0, Nat.zero_le _, rfl, rfl, rfl, rfl⟩
     rintro fr σ m ⟨i, hJ0, hJ1, rfl, rfl, rfl⟩
     refine tQ <| tQ <| tG <| sm 3 rfl <| cV rfl (iSq rfl rfl rfl uT44 hi tS43 rfl (by rfl)) <| sm 2 rfl ?_
     refine WL.lenOf (t := 19) rfl (fun hl2 => ?_)
     simp only [List.length_map] at hl2
     refine cV rfl (oSm uT35 rfl) <| sm 1 rfl <| nL ?_
     refine tC rfl (fun hc21 => ?_) fun hc21 => ?_
     ·have hlt2 : i < x.args.length := by simpa using hc21
      have hd2 := List.drop_eq_getElem_cons hlt2
      have hm2 := List.getElem_mem hlt2
      have hi2 := map_get (f := eInt) (List.getElem?_eq_getElem hlt2)
      generalize x.args[i] = y at hd2 hm2 hi2
      refine tSk <| tQ <| tBk <| tQ <| tG <| sm 2 rfl <| cV rfl (iSq rfl rfl rfl uT44 hi tS43 rfl (by rfl)) <| sm 3 rfl <| cV rfl (iSq rfl rfl rfl uT35 hi2 tS3 rfl (by rfl)) <| sm 3 rfl <| nL ?_
      refine tC rfl (fun hc33 => ?_) fun hc33 => ?_
      ·refine tQ <| tG <| sm 1 rfl <| nL <| tRt <| rOk rfl ?_ nPo
       have hyv : (y == v) = true := hc33
       have hxa : x.args.contains v = true := by rw [hJ1, hd2]; exact cont_eq hyv
       rw [hI1, hd]
       simp only [uL, uN_eq, hxa, Bool.true_or]
      refine tSk <| tG <| sm 1 rfl <| cV rfl (oB rfl rfl (i64_add rfl (by omega))) <| sm 1 rfl <| nL ?_
      refine ⟨_, _, ?_, Sub.of (fr' := [(6, iInt (i + 1)), (5, iInt k), (0, .pv (nodes l)), (1, iInt v)]) ⟨rfl, rfl, rfl, rfl, trivial⟩, (i + 1), ?_, ?_, rfl, rfl, rfl⟩
      ·omega
      ·omega
      rw [hJ1, hd2]
      have hyv : (y == v) = false := by simpa using hc33
      rw [cont_ne hyv]
     have hxa : x.args.contains v = false := by
       have hge : x.args.length ≤ i := by simpa using hc21
       rw [hJ1, List.drop_eq_nil_of_le hge]
       rfl
     refine tEx <| tQ <| tG <| sm 1 rfl <| nL <| tBk <| Tr.sub (Sub.of (fr' := [(7, iInt 0), (5, iInt k), (0, .pv (nodes l)), (1, iInt v)]) ⟨rfl, rfl, rfl, rfl, trivial⟩) ?_
     refine Tr.loop (fun fr σ m => ∃ (j : Nat), (j ≤ x.kids.length) ∧ (uK v x.kids = uK v (x.kids.drop j)) ∧ fr = [(7, iInt j), (5, iInt k), (0, .pv (nodes l)), (1, iInt v)] ∧ σ = look [] ∧ m = x.kids.length - j) (n := x.kids.length - 0) ?_ ?_
     ·exact ⟨0, Nat.zero_le _, rfl, rfl, rfl, rfl⟩
     rintro fr σ m ⟨j, hK0, hK1, rfl, rfl, rfl⟩
     refine tQ <| tQ <| tG <| sm 3 rfl <| cV rfl (iSq rfl rfl rfl uT44 hi tS43 rfl (by rfl)) <| sm 2 rfl ?_
     refine WL.lenOf (t := 39) rfl (fun hl3 => ?_)
     simp only [List.length_map] at hl3
     refine cV rfl (oSm uT41 rfl) <| sm 1 rfl <| nL ?_
     refine tC rfl (fun hc41 => ?_) fun hc41 => ?_
     ·have hlt3 : j < x.kids.length := by simpa using hc41
      have hd3 := List.drop_eq_getElem_cons hlt3
      have hm3 := List.getElem_mem hlt3
      have hi3 := map_get (f := eKid) (List.getElem?_eq_getElem hlt3)
      generalize x.kids[j] = q at hd3 hm3 hi3
      have hdec : SizeOf.sizeOf q < N := Nat.lt_of_lt_of_le (kid_lt hm rfl hm3) (Nat.le_of_lt_succ hN)
      refine tSk <| tQ <| tBk <| tQ <| tG <| sm 2 rfl <| cV rfl (iSq rfl rfl rfl uT44 hi tS43 rfl (by rfl)) <| sm 3 rfl <| cV rfl (iSq rfl rfl rfl uT41 hi3 tS44 rfl (by rfl)) <| sm 2 rfl <| cE rfl (ocq (ih q v hdec) ent41 rfl rfl) <| nL ?_
      refine tC rfl (fun hc53 => ?_) fun hc53 => ?_
      ·refine tQ <| tG <| sm 1 rfl <| nL <| tRt <| rOk rfl ?_ nPo
       have hq : uL v q = true := hc53
       rw [hI1, hd]
       simp only [uL, uN_eq, hK1, hd3, uK, hq, Bool.true_or, Bool.or_true]
      refine tSk <| tG <| sm 1 rfl <| cV rfl (oB rfl rfl (i64_add rfl (by omega))) <| sm 1 rfl <| nL ?_
      refine ⟨_, _, ?_, Sub.of (fr' := [(7, iInt (j + 1)), (5, iInt k), (0, .pv (nodes l)), (1, iInt v)]) ⟨rfl, rfl, rfl, rfl, trivial⟩, (j + 1), ?_, ?_, rfl, rfl, rfl⟩
      ·omega
      ·omega
      rw [hK1, hd3]
      have hq : uL v q = false := by simpa using hc53
      simp only [uK, hq, Bool.false_or]
     have hxk : uK v x.kids = false := by
       have hge : x.kids.length ≤ j := by simpa using hc41
       rw [hK1, List.drop_eq_nil_of_le hge]
       rfl
     refine tEx <| tG <| sm 1 rfl <| cV rfl (oB rfl rfl (i64_add rfl (by omega))) <| sm 1 rfl <| nL ?_
     refine ⟨_, _, ?_, Sub.of (fr' := [(5, iInt (k + 1)), (0, .pv (nodes l)), (1, iInt v)]) ⟨rfl, rfl, rfl, trivial⟩, (k + 1), ?_, ?_, rfl, rfl, rfl⟩
     ·omega
     ·omega
     rw [hI1, hd]
     simp only [uL, uN_eq, hxa, hxk, Bool.false_or]
    refine tEx <| tQ <| tG <| sm 1 rfl <| nL <| tRt <| rOk rfl ?_ nPo
    have hge : l.length ≤ k := by simpa using hc11
    rw [hI1, List.drop_eq_nil_of_le hge]
    rfl
theorem sc_uses (l : List Nd) (v : Int) : SC Tryz.prog 41 [.pv (nodes l), iInt v] [] (fun _ => False) (iBool (uL v l)) [] := sc_uses_aux _ l v (Nat.lt_succ_self _)
theorem sc_wanted_aux (N : Nat) : ∀ (all l : List Nd), SizeOf.sizeOf l < N → SC Tryz.prog 24 [.pv (nodes all), .pv (nodes l)] [] (fun _ => False) (iBool (wdL all l)) [] := by
  induction N with
  | zero => intro all l hN; exact absurd hN (Nat.not_lt_zero _)
  | succ N ih =>
    intro all l hN
    refine SC.of Tryz.func24 rfl (lb rfl) fun F ρ w => ?_
    refine Tr.lenOf (t := 1) rfl (fun hl => ?_)
    simp only [List.length_map] at hl
    refine tQ <| tG <| sm 1 rfl <| nL <| tQ <| tQ <| tG <| sm 1 rfl <| nL <| tBk <| Tr.sub (Sub.of (fr' := [(5, iInt 0), (0, .pv (nodes all)), (1, .pv (nodes l))]) ⟨rfl, rfl, rfl, trivial⟩) ?_
    refine Tr.loop (fun fr σ m => ∃ (k : Nat), (k ≤ l.length) ∧ (wdL all l = wdL all (l.drop k)) ∧ fr = [(5, iInt k), (0, .pv (nodes all)), (1, .pv (nodes l))] ∧ σ = look [] ∧ m = l.length - k) (n := l.length - 0) ?_ ?_
    ·exact ⟨0, Nat.zero_le _, rfl, rfl, rfl, rfl⟩
    rintro fr σ m ⟨k, hI0, hI1, rfl, rfl, rfl⟩
    refine tQ <| tQ <| tG <| sm 2 rfl <| cV rfl (oSm uT44 rfl) <| sm 1 rfl <| nL ?_
    refine tC rfl (fun hc12 => ?_) fun hc12 => ?_
    ·have hlt : k < l.length := by simpa using hc12
     have hd := List.drop_eq_getElem_cons hlt
     have hm := List.getElem_mem hlt
     have hi := nodes_get (List.getElem?_eq_getElem hlt)
     generalize l[k] = x at hd hm hi
     refine tSk <| tQ <| tBk <| tQ <| tG <| sm 2 rfl <| cV rfl (iSq rfl rfl rfl uT44 hi tS43 rfl (by rfl)) <| cV rfl (lEA rfl rfl uT43 rfl tS43 (lb rfl)) <| cE rfl (aLc (k := 106) rfl tZ43 rfl rfl rfl rfl) <| c0 (sBA rfl rfl rfl rfl rfl ((fun h => h)) tS43 (flk rfl) (lb rfl)) <| nL <| tQ ?_
     refine Tr.freezeBox (t := 6) (k := 106) rfl rfl rfl <| Tr.heap (σ' := look []) (fun k => by simp only [look]; cases Nat.beq 106 k <;> rfl) ?_
     refine Tr.cut (fr' := [(7, iBool (wIdle x)), (6, .pv (.ept [vInt x.kind, vInt x.op, vInt x.n, vStr x.name, ints x.args, ints x.outs, ints x.params, kids x.kids] 0)), (5, iInt k), (0, .pv (nodes all)), (1, .pv (nodes l))]) (σ' := look []) ?_ ?_
     ·refine tG <| sm 4 rfl ?_
      refine wS 22 rfl (fun hb22 => ?_) fun hb22 => ?_
      ·refine sm 4 rfl <| nUu rfl rfl rfl rfl rfl rfl <| nUu rfl rfl rfl rfl rfl rfl <| nUu rfl rfl rfl rfl rfl rfl <| sm 2 rfl <| nUu rfl rfl rfl rfl rfl rfl <| nUu rfl rfl rfl rfl rfl rfl <| nUu rfl rfl rfl rfl rfl rfl <| sm 3 rfl <| nL ?_
       refine ⟨rfl, Sub.of ⟨?_, rfl, rfl, rfl, rfl, trivial⟩, rfl⟩
       refine congrArg (fun b => some (iBool b)) ?_
       unfold wIdle
       simp_all
      refine sm 4 rfl ?_
      refine wS 26 rfl (fun hb26 => ?_) fun hb26 => ?_
      ·refine sm 5 rfl ?_
       refine wS 31 rfl (fun hb31 => ?_) fun hb31 => ?_
       ·refine sm 6 rfl <| nL ?_
        refine ⟨rfl, Sub.of ⟨?_, rfl, rfl, rfl, rfl, trivial⟩, rfl⟩
        refine congrArg (fun b => some (iBool b)) ?_
        unfold wIdle
        simp_all
       refine sm 6 rfl <| nL ?_
       refine ⟨rfl, Sub.of ⟨?_, rfl, rfl, rfl, rfl, trivial⟩, rfl⟩
       refine congrArg (fun b => some (iBool b)) ?_
       unfold wIdle
       simp_all
      refine sm 11 rfl <| nL ?_
      refine ⟨rfl, Sub.of ⟨?_, rfl, rfl, rfl, rfl, trivial⟩, rfl⟩
      refine congrArg (fun b => some (iBool b)) ?_
      unfold wIdle
      simp_all
     refine tQ <| tQ ?_
     refine Tr.cut (fr' := [(52, iBool (wIdle x && ((x.outs.length : Int) != 1 || !uL (x.outs.getD 0 0) all))), (6, .pv (.ept [vInt x.kind, vInt x.op, vInt x.n, vStr x.name, ints x.args, ints x.outs, ints x.params, kids x.kids] 0)), (5, iInt k), (0, .pv (nodes all)), (1, .pv (nodes l))]) (σ' := look []) ?_ ?_
     ·refine tG <| sm 2 rfl ?_
      refine wS 38 rfl (fun hb38 => ?_) fun hb38 => ?_
      ·refine sm 2 rfl <| yV rfl rfl (oSm uT35 rfl) <| sm 2 rfl ?_
       refine wS 43 rfl (fun hb43 => ?_) fun hb43 => ?_
       ·refine sm 9 rfl <| nL ?_
        refine ⟨rfl, Sub.of ⟨?_, rfl, rfl, rfl, rfl, trivial⟩, rfl⟩
        refine congrArg (fun b => some (iBool b)) ?_
        simp_all
       obtain ⟨o0, ho⟩ : ∃ o, x.outs = [o] := List.length_eq_one_iff.1 (by have := hb43; simp at this; omega)
       have hio : (x.outs.map eInt)[0]? = some [vInt o0] := by rw [ho]; rfl
       refine sm 3 rfl <| yV rfl rfl (iSq rfl rfl rfl uT35 hio tS3 rfl (by rfl)) <| sm 1 rfl <| WL.yes rfl rfl rfl rfl rfl rfl (ok_callq (sc_uses all o0) ent41 rfl rfl (sRf _ _) rfl) <| sm 3 rfl <| nL ?_
       refine ⟨rfl, Sub.of ⟨?_, rfl, rfl, rfl, rfl, trivial⟩, rfl⟩
       refine congrArg (fun b => some (iBool b)) ?_
       simp_all
      refine sm 5 rfl <| nUu rfl rfl rfl rfl rfl rfl <| nUu rfl rfl rfl rfl rfl rfl <| nUu rfl rfl rfl rfl rfl rfl <| nUu rfl rfl rfl rfl rfl rfl <| nUu rfl rfl rfl rfl rfl rfl <| nUu rfl rfl rfl rfl rfl rfl <| nUu rfl rfl rfl rfl rfl rfl <| sm 2 rfl <| nL ?_
      refine ⟨rfl, Sub.of ⟨?_, rfl, rfl, rfl, rfl, trivial⟩, rfl⟩
      refine congrArg (fun b => some (iBool b)) ?_
      simp_all
     refine tC rfl (fun hc52 => ?_) fun hc52 => ?_
     ·refine tQ <| tG <| sm 1 rfl <| nL <| tRt <| rOk rfl ?_ nPo
      have hf : (wIdle x && ((x.outs.length : Int) != 1 || !uL (x.outs.getD 0 0) all)) = true := hc52
      rw [hI1, hd]
      simp only [wdL, wdN_eq, hf, Bool.not_true, Bool.false_and]
     refine tSk <| tQ ?_
     have hf : (wIdle x && ((x.outs.length : Int) != 1 || !uL (x.outs.getD 0 0) all)) = false := hc52
     refine tG <| sm 1 rfl <| nL <| tBk <| Tr.sub (Sub.of (fr' := [(8, iInt 0), (6, .pv (.ept [vInt x.kind, vInt x.op, vInt x.n, vStr x.name, ints x.args, ints x.outs, ints x.params, kids x.kids] 0)), (5, iInt k), (0, .pv (nodes all)), (1, .pv (nodes l))]) ⟨rfl, rfl, rfl, rfl, rfl, trivial⟩) ?_
     refine Tr.loop (fun fr σ m => ∃ (i : Nat), (i ≤ x.kids.length) ∧ (wdK all x.kids = wdK all (x.kids.drop i)) ∧ fr = [(8, iInt i), (6, .pv (.ept [vInt x.kind, vInt x.op, vInt x.n, vStr x.name, ints x.args, ints x.outs, ints x.params, kids x.kids] 0)), (5, iInt k), (0, .pv (nodes all)), (1, .pv (nodes l))] ∧ σ = look [] ∧ m = x.kids.length - i) (n := x.kids.length - 0) ?_ ?_
     ·exact ⟨0, Nat.zero_le _, rfl, rfl, rfl, rfl⟩
     rintro fr σ m ⟨i, hJ0, hJ1, rfl, rfl, rfl⟩
     refine tQ <| tQ <| tG <| sm 3 rfl ?_
     refine WL.lenOf (t := 55) rfl (fun hl2 => ?_)
     simp only [List.length_map] at hl2
     refine cV rfl (oSm uT41 rfl) <| sm 1 rfl <| nL ?_
     refine tC rfl (fun hc57 => ?_) fun hc57 => ?_
     ·have hlt2 : i < x.kids.length := by simpa using hc57
      have hd2 := List.drop_eq_getElem_cons hlt2
      have hm2 := List.getElem_mem hlt2
      have hi2 := map_get (f := eKid) (List.getElem?_eq_getElem hlt2)
      generalize x.kids[i] = q at hd2 hm2 hi2
      have hdec : SizeOf.sizeOf q < N := Nat.lt_of_lt_of_le (kid_lt hm rfl hm2) (Nat.le_of_lt_succ hN)
      refine tSk <| tQ <| tBk <| tQ <| tG <| sm 4 rfl <| cV rfl (iSq rfl rfl rfl uT41 hi2 tS44 rfl (by rfl)) <| sm 1 rfl <| cE rfl (ocq (ih all q hdec) ent24 rfl rfl) <| sm 1 rfl <| nL ?_
      refine tC rfl (fun hc67 => ?_) fun hc67 => ?_
      ·refine tQ <| tG <| sm 1 rfl <| nL <| tRt <| rOk rfl ?_ nPo
       have hq : wdL all q = false := by simpa using hc67
       rw [hI1, hd]
       simp only [wdL, wdN_eq, hJ1, hd2, wdK, hq, Bool.false_and, Bool.and_false]
      refine tSk <| tG <| sm 1 rfl <| cV rfl (oB rfl rfl (i64_add rfl (by omega))) <| sm 1 rfl <| nL ?_
      refine ⟨_, _, ?_, Sub.of (fr' := [(8, iInt (i + 1)), (6, .pv (.ept [vInt x.kind, vInt x.op, vInt x.n, vStr x.name, ints x.args, ints x.outs, ints x.params, kids x.kids] 0)), (5, iInt k), (0, .pv (nodes all)), (1, .pv (nodes l))]) ⟨rfl, rfl, rfl, rfl, rfl, trivial⟩, (i + 1), ?_, ?_, rfl, rfl, rfl⟩
      ·omega
      ·omega
      rw [hJ1, hd2]
      have hq : wdL all q = true := by simpa using hc67
      simp only [wdK, hq, Bool.true_and]
     have hxf : wdN all x = true := by
       have hge : x.kids.length ≤ i := by simpa using hc57
       rw [wdN_eq, hf, hJ1, List.drop_eq_nil_of_le hge]
       rfl
     refine tEx <| tG <| sm 1 rfl <| cV rfl (oB rfl rfl (i64_add rfl (by omega))) <| sm 1 rfl <| nL ?_
     refine ⟨_, _, ?_, Sub.of (fr' := [(5, iInt (k + 1)), (0, .pv (nodes all)), (1, .pv (nodes l))]) ⟨rfl, rfl, rfl, trivial⟩, (k + 1), ?_, ?_, rfl, rfl, rfl⟩
     ·omega
     ·omega
     rw [hI1, hd]
     simp only [wdL, hxf, Bool.true_and]
    refine tEx <| tQ <| tG <| sm 1 rfl <| nL <| tRt <| rOk rfl ?_ nPo
    have hge : l.length ≤ k := by simpa using hc12
    rw [hI1, List.drop_eq_nil_of_le hge]
    rfl
theorem sc_wanted (all l : List Nd) : SC Tryz.prog 24 [.pv (nodes all), .pv (nodes l)] [] (fun _ => False) (iBool (wdL all l)) [] := sc_wanted_aux _ all l (Nat.lt_succ_self _)
theorem sc_right (u : Un) : SC Tryz.prog 12 [.pv u.enc] [] (fun _ => False) (iBool (wRight u)) [] := by
  refine SC.of Tryz.func12 rfl (lb rfl) fun F ρ w => ?_
  refine tQ <| tG <| cE rfl (ok_box rfl rfl) <| sm 1 rfl <| nL <| tQ <| tQ <| tG <| sm 1 rfl <| nL <| tBk <| Tr.sub (Sub.of (fr' := [(3, iInt 0), (1, .pv (.ept [arrs u.arrays, flws u.flows] 0))]) ⟨rfl, rfl, trivial⟩) ?_
  refine Tr.loop (fun fr σ m => ∃ (k : Nat), (k ≤ u.flows.length) ∧ (wRight u = (u.flows.drop k).all (fun f => wdL f.body f.body)) ∧ fr = [(3, iInt k), (1, .pv (.ept [arrs u.arrays, flws u.flows] 0))] ∧ σ = look [] ∧ m = u.flows.length - k) (n := u.flows.length - 0) ?_ ?_
  ·exact ⟨0, Nat.zero_le _, rfl, rfl, rfl, rfl⟩
  rintro fr σ m ⟨k, hI0, hI1, rfl, rfl, rfl⟩
  refine tQ <| tQ <| tG <| sm 3 rfl ?_
  refine WL.lenOf (t := 6) rfl (fun hl2 => ?_)
  simp only [List.length_map] at hl2
  refine cV rfl (oSm uT23 rfl) <| sm 1 rfl <| nL ?_
  refine tC rfl (fun hc8 => ?_) fun hc8 => ?_
  ·have hlt : k < u.flows.length := by simpa using hc8
   have hd := List.drop_eq_getElem_cons hlt
   have hm := List.getElem_mem hlt
   have hi := map_get (f := Fl.enc) (List.getElem?_eq_getElem hlt)
   generalize u.flows[k] = x at hd hm hi
   refine tSk <| tQ <| tBk <| tQ <| tDr mixed (fun k => k ∈ ([] : List Nat)) <| wR 2 [0, 1, 2, 3, 4, 5, 6, 7, 8, 9, 10, 11] (by kernel_rfl) (fun _ _ _ h => h) <| smR 3 rfl <| rV rfl rfl (iSq rfl rfl rfl uT23 hi tS51 rfl (by rfl)) <| smR 5 rfl <| rV rfl rfl (iSq rfl rfl rfl uT23 hi tS51 rfl (by rfl)) <| smR 2 rfl <| nR ?_
   refine wO 12 (by kernel_rfl) <| wI rfl rfl nf nw (fun _ _ => ocq (sc_wanted x.body x.body) ent24 rfl rfl) <| wR 0 [13] (by kernel_rfl) (fun _ _ _ h => h) <| smR 1 rfl <| nR <| wDn (by kernel_rfl) ?_
   refine tC rfl (fun hc24 => ?_) fun hc24 => ?_
   ·refine tQ <| tG <| sm 1 rfl <| nL <| tRt <| rOk rfl ?_ nPo
    have hq : wdL x.body x.body = false := by simpa using hc24
    rw [hI1, hd]
    simp only [List.all_cons, hq, Bool.false_and]
   refine tSk <| tG <| sm 1 rfl <| cV rfl (oB rfl rfl (i64_add rfl (by omega))) <| sm 1 rfl <| nL ?_
   refine ⟨_, _, ?_, Sub.of (fr' := [(3, iInt (k + 1)), (1, .pv (.ept [arrs u.arrays, flws u.flows] 0))]) ⟨rfl, rfl, trivial⟩, (k + 1), ?_, ?_, rfl, rfl, rfl⟩
   ·omega
   ·omega
   rw [hI1, hd]
   have hq : wdL x.body x.body = true := by simpa using hc24
   simp only [List.all_cons, hq, Bool.true_and]
  refine tEx <| tQ <| tG <| sm 1 rfl <| nL <| tRt <| rOk rfl ?_ nPo
  have hge : u.flows.length ≤ k := by simpa using hc8
  rw [hI1, List.drop_eq_nil_of_le hge]
  rfl
theorem sc_unit14 (ts : List Int) (l : List Nd) : SC Tryz.prog 16 [.pv (ints ts), .pv (nodes l)] [] (fun _ => False) (.pv (.agg [.val (.slice none 0 0), flws [⟨mainName, 1, 0, ts, l⟩]])) [] := by
  refine SC.ofC Tryz.func16 rfl (lb rfl) rfl fun F ρ w => ?_
  refine tQ <| tG <| cE rfl (aLc (k := 104) rfl tZ25 rfl rfl rfl rfl) <| nL <| tQ <| tG <| sm 2 rfl <| cV rfl (bPu rfl rfl tZ51 tP51 rfl (fbk rfl) rfl) <| cE rfl (bSl rfl rfl uT23 tZ51 tS51 rfl rfl rfl rfl (fbk rfl) rfl) <| cV rfl (bPu rfl rfl tZ25 tP25 rfl (fbk rfl) rfl) <| c0 (sBA rfl rfl rfl rfl rfl ((fun h => h)) tS25 (flk rfl) (lb rfl)) <| nL ?_
  refine tRt <| rCk (.inl rfl) (fun _ _ ho => lBP ho rfl rfl uT25 rfl tS25 (lb rfl) rfl trivial) ?_ nPo
  rfl
def w64 (n : Int) : Int := IntKind.i64.wrap n
def andI (a b : Int) : Int := IntKind.i64.wrap (BitVec.ofInt IntKind.i64.bits a &&& BitVec.ofInt IntKind.i64.bits b).toNat
def orI (a b : Int) : Int := IntKind.i64.wrap (BitVec.ofInt IntKind.i64.bits a ||| BitVec.ofInt IntKind.i64.bits b).toNat
def xorI (a b : Int) : Int := IntKind.i64.wrap (BitVec.ofInt IntKind.i64.bits a ^^^ BitVec.ofInt IntKind.i64.bits b).toNat
def mFlag (b : Bool) : Int := if b then 1 else 0
def mOne (op a : Int) : Int :=
  if op == 20 then w64 (0 - a) else if op == 21 then w64 (-1 - a) else if op == 22 then mFlag (a == 0)
  else if op == 26 then andI a 255 else if op == 27 then andI a 65535 else if op == 28 then andI a 4294967295
  else if op == 23 then w64 (xorI (andI a 255) 128 - 128) else if op == 24 then w64 (xorI (andI a 65535) 32768 - 32768)
  else if op == 25 then w64 (xorI (andI a 4294967295) 2147483648 - 2147483648) else 0
def mTwo (op a b : Int) : Int × Bool :=
  if op == 1 then (w64 (a + b), true) else if op == 2 then (w64 (a - b), true) else if op == 3 then (w64 (a * b), true)
  else if op == 4 || op == 5 then (if b == 0 then (0, false) else if op == 4 then (w64 (a.tdiv b), true) else (a.tmod b, true))
  else if op == 6 then (andI a b, true) else if op == 7 then (orI a b, true) else if op == 8 then (xorI a b, true)
  else if op == 9 then (w64 (a * 2 ^ min (andI b 63).toNat IntKind.i64.bits), true) else if op == 10 then (a.fdiv (2 ^ min (andI b 63).toNat IntKind.i64.bits), true)
  else if op == 11 then (w64 ((IntKind.u64.wrap a).fdiv (2 ^ min (andI b 63).toNat IntKind.u64.bits)), true)
  else if op == 12 then (mFlag (decide (a < b)), true) else if op == 13 then (mFlag (decide (a ≤ b)), true) else if op == 14 then (mFlag (decide (a > b)), true)
  else if op == 15 then (mFlag (decide (a ≥ b)), true) else if op == 16 then (mFlag (a == b), true) else if op == 17 then (mFlag (a != b), true) else (0, false)
theorem and63 (b : Int) : 0 ≤ andI b 63 := by
  unfold andI
  have h : (BitVec.ofInt IntKind.i64.bits b &&& BitVec.ofInt IntKind.i64.bits 63).toNat ≤ 63 := by
    rw [BitVec.toNat_and]
    have : (BitVec.ofInt IntKind.i64.bits 63).toNat = 63 := by decide
    rw [this]
    exact Nat.and_le_right
  rw [IntWalk.i64_in _ (by omega)]
  omega
structure Rs where
  ins : List Int
  ar : List (List Int)
  st : Int
  code : Int
  out : List Int
  cost : Int
  fuel : Int
  spent : Bool
def mOver (s : Rs) : Bool := s.spent || s.st != 0
def mStep (s : Rs) : Bool × Rs := if mOver s then (false, s) else if s.fuel < 1 then (false, { s with spent := true }) else (true, { s with fuel := w64 (s.fuel - 1) })
def getV (v : List Int) (i : Int) : Option Int := if 0 ≤ i then v[i.toNat]? else none
def setV (v : List Int) (i x : Int) : Option (List Int) := if 0 ≤ i ∧ i.toNat < v.length then some (v.set i.toNat x) else none
def mOf (v : List Int) : List Int → Option (List Int)
  | [] => some []
  | i :: r => (getV v i).bind fun x => (mOf v r).map fun y => x :: y
def mSet (v : List Int) : List Int → List Int → Option (List Int)
  | [], _ => some v
  | _ :: _, [] => none
  | i :: r, x :: n => (setV v i x).bind fun v' => mSet v' r n
def mCell (s : Rs) (k n : Int) : Option (Bool × Rs) :=
  if n < 0 then some (false, { s with st := 3 })
  else if 0 ≤ k then (s.ar[k.toNat]?).bind fun row => if n ≥ row.length then some (false, { s with st := 3 }) else some (true, s) else none
abbrev Rend := Int × List Int
abbrev Rres := Rend × List Int × Rs
def mNode (rec : List Nd → List Int → Rs → Option Rres) (recLoop : Nd → List Int → List Int → Rs → Option Rres) (recSum : Nd → List Int → Rs → Option (Int × Rs)) (x : Nd) (a v : List Int) (s : Rs) : Option Rres :=
  if x.kind == 1 || x.kind == 2 then (x.outs[0]?).bind fun o => (setV v o x.n).map fun v' => ((0, []), v', s)
  else if x.kind == 12 || x.kind == 13 || x.kind == 14 || x.kind == 15 then some ((x.kind, a), v, s)
  else if x.kind == 10 then (a[0]?).bind fun a0 => (x.kids[if a0 != 0 then 0 else 1]?).bind fun q => (rec q v s).bind fun r =>
    if !mOver r.2.2 && r.1.1 == 12 then (mSet r.2.1 x.outs r.1.2).map fun v' => ((0, []), v', r.2.2) else some r
  else if x.kind == 11 then recLoop x v a s
  else (recSum x a s).bind fun r => if !mOver r.2 && decide (0 < x.outs.length) then (x.outs[0]?).bind fun o => (setV v o r.1).map fun v' => ((0, []), v', r.2) else some ((0, []), v, r.2)
mutual
def mList (u : Un) : Nat → List Nd → List Int → Rs → Option Rres
  | 0, _, _, _ => none
  | _ + 1, [], v, s => some ((0, []), v, s)
  | d + 1, x :: l, v, s =>
    match mStep s with
    | (false, s) => some ((0, []), v, s)
    | (true, s) => (mOf v x.args).bind fun a => (mNode (mList u d) (mLoop u d) (mSum u d) x a v s).bind fun r =>
      if mOver r.2.2 || r.1.1 != 0 then some r else mList u d l r.2.1 r.2.2
def mLoop (u : Un) : Nat → Nd → List Int → List Int → Rs → Option Rres
  | 0, _, _, _, _ => none
  | d + 1, x, v, a, s => (mSet v x.params a).bind fun v => (x.kids[0]?).bind fun q => (mList u d q v s).bind fun r =>
    if mOver r.2.2 || r.1.1 == 15 then some r
    else if r.1.1 == 14 then (mSet r.2.1 x.outs r.1.2).map fun v => ((0, []), v, r.2.2)
    else mLoop u d x r.2.1 r.1.2 r.2.2
def mSum (u : Un) : Nat → Nd → List Int → Rs → Option (Int × Rs)
  | 0, _, _, _ => none
  | d + 1, x, a, s0 =>
    let s := { s0 with cost := w64 (s0.cost + 1) }
    let k := r8Array x.name u.arrays 0
    if x.kind == 3 then (a[0]?).map fun a0 => (mOne x.op a0, s)
    else if x.kind == 4 then (a[0]?).bind fun a0 => (a[1]?).map fun a1 => ((mTwo x.op a0 a1).1, if (mTwo x.op a0 a1).2 then s else { s with st := 2 })
    else if x.kind == 5 then (a[0]?).bind fun a0 => (mCell s k a0).bind fun r => if r.1 then (s.ar[k.toNat]?).bind fun row => (row[a0.toNat]?).map fun y => (y, s) else some (0, r.2)
    else if x.kind == 6 then (a[0]?).bind fun a0 => (mCell s k a0).bind fun r => if r.1 then (a[1]?).bind fun a1 => (s.ar[k.toNat]?).map fun row => (0, { s with ar := s.ar.set k.toNat (row.set a0.toNat a1) }) else some (0, r.2)
    else if x.kind == 7 then mCall u d (r8Place x.name u.flows 0) a s
    else if x.kind == 9 then (a[0]?).bind fun a0 => if s.out.length < 1073741824 then some (0, { s with out := s.out ++ [a0] }) else none
    else if x.kind == 8 then (match s.ins with | [] => some (0, { s with st := 4 }) | y :: r => some (y, { s with ins := r }))
    else some (0, s)
def mCall (u : Un) : Nat → Int → List Int → Rs → Option (Int × Rs)
  | 0, _, _, _ => none
  | d + 1, k, a, s => if 0 ≤ k then (u.flows[k.toNat]?).bind fun f => if a.length ≤ f.types.length ∧ f.types.length ≤ 1073741824 then
      (mList u d f.body (a ++ List.replicate (f.types.length - a.length) 0) s).bind fun r => if mOver r.2.2 then some (0, r.2.2) else some (r.1.2.headD 0, r.2.2) else none else none
end
def runBox (u : Un) (s : Rs) : HO := .box [.pv (arrs u.arrays), .pv (flws u.flows), .pv (ints s.ins), .pv (.val (.slice none 0 0)), iInt s.st, iInt s.code, .sl 1002 (s.out.map eInt).length, iInt s.cost, iInt s.fuel, iBool s.spent]
def rowI (l : List Int) : HO := .row ⟨3, 1⟩ (l.map eInt)
def runH (u : Un) (s : Rs) : List (Nat × HO) := [(1001, runBox u s), (1002, rowI s.out)]
def runV (u : Un) (s : Rs) (v : List Int) : List (Nat × HO) := [(1001, runBox u s), (1002, rowI s.out), (510, rowI v)]
def endv (e : Rend) : PV := .agg [vInt e.1, ints e.2]
theorem sc_mFlag (b : Bool) : SC Tryz.prog 106 [iBool b] [] (fun _ => False) (iInt (mFlag b)) [] := by
  refine SC.of Tryz.func106 rfl (lb rfl) fun F ρ w => ?_
  refine tQ <| tG <| sm 1 rfl <| nL <| tQ <| tQ <| tG <| sm 1 rfl <| nL ?_
  refine tC rfl (fun hc3 => ?_) fun hc3 => ?_
  ·refine tQ <| tG <| sm 1 rfl <| nL <| tRt <| rOk rfl ?_ nPo
   cases b <;> first | rfl | (simp_all; done)
  refine tSk <| tQ <| tG <| sm 1 rfl <| nL <| tRt <| rOk rfl ?_ nPo
  cases b <;> first | rfl | (simp_all; done)
theorem sc_mOne (op a : Int) : SC Tryz.prog 89 [iInt op, iInt a] [] (fun _ => False) (iInt (mOne op a)) [] := by
  refine SC.of Tryz.func89 rfl (lb rfl) fun F ρ w => ?_
  refine tQ <| tG <| sm 1 rfl <| nL <| tQ <| tQ <| tG <| sm 1 rfl <| nL <| tBk <| tQ <| tG ?_
  refine sm 2 rfl <| nL ?_
  refine tC rfl (fun hc6 => ?_) fun hc6 => ?_
  ·refine tQ <| tG <| sm 3 rfl <| nL <| tRt <| rOk rfl ?_ nPo
   (simp only [mOne, *, if_true, Bool.false_eq_true, if_false, Bool.or_true, Bool.true_or, Bool.or_false] <;> rfl)
  refine tQ <| tG <| sm 2 rfl <| nL ?_
  refine tC rfl (fun hc10 => ?_) fun hc10 => ?_
  ·refine tQ <| tG <| sm 3 rfl <| nL <| tRt <| rOk rfl ?_ nPo
   (simp only [mOne, *, if_true, Bool.false_eq_true, if_false, Bool.or_true, Bool.true_or, Bool.or_false] <;> rfl)
  refine tQ <| tG <| sm 2 rfl <| nL ?_
  refine tC rfl (fun hc14 => ?_) fun hc14 => ?_
  ·refine tQ <| tG <| sm 2 rfl <| cE rfl (ocq (sc_mFlag _) ent106 rfl rfl) <| sm 1 rfl <| nL <| tRt <| rOk rfl ?_ nPo
   (simp only [mOne, *, if_true, Bool.false_eq_true, if_false, Bool.or_true, Bool.true_or, Bool.or_false] <;> rfl)
  refine tQ <| tG <| sm 2 rfl <| nL ?_
  refine tC rfl (fun hc19 => ?_) fun hc19 => ?_
  ·refine tQ <| tG <| sm 3 rfl <| nL <| tRt <| rOk rfl ?_ nPo
   (simp only [mOne, *, if_true, Bool.false_eq_true, if_false, Bool.or_true, Bool.true_or, Bool.or_false] <;> rfl)
  refine tQ <| tG <| sm 2 rfl <| nL ?_
  refine tC rfl (fun hc23 => ?_) fun hc23 => ?_
  ·refine tQ <| tG <| sm 3 rfl <| nL <| tRt <| rOk rfl ?_ nPo
   (simp only [mOne, *, if_true, Bool.false_eq_true, if_false, Bool.or_true, Bool.true_or, Bool.or_false] <;> rfl)
  refine tQ <| tG <| sm 2 rfl <| nL ?_
  refine tC rfl (fun hc27 => ?_) fun hc27 => ?_
  ·refine tQ <| tG <| sm 3 rfl <| nL <| tRt <| rOk rfl ?_ nPo
   (simp only [mOne, *, if_true, Bool.false_eq_true, if_false, Bool.or_true, Bool.true_or, Bool.or_false] <;> rfl)
  refine tQ <| tG <| sm 2 rfl <| nL ?_
  refine tC rfl (fun hc31 => ?_) fun hc31 => ?_
  ·refine tQ <| tG <| sm 5 rfl <| nL <| tRt <| rOk rfl ?_ nPo
   (simp only [mOne, *, if_true, Bool.false_eq_true, if_false, Bool.or_true, Bool.true_or, Bool.or_false] <;> rfl)
  refine tQ <| tG <| sm 2 rfl <| nL ?_
  refine tC rfl (fun hc37 => ?_) fun hc37 => ?_
  ·refine tQ <| tG <| sm 5 rfl <| nL <| tRt <| rOk rfl ?_ nPo
   (simp only [mOne, *, if_true, Bool.false_eq_true, if_false, Bool.or_true, Bool.true_or, Bool.or_false] <;> rfl)
  refine tQ <| tG <| sm 2 rfl <| nL ?_
  refine tC rfl (fun hc43 => ?_) fun hc43 => ?_
  ·refine tQ <| tG <| sm 5 rfl <| nL <| tRt <| rOk rfl ?_ nPo
   (simp only [mOne, *, if_true, Bool.false_eq_true, if_false, Bool.or_true, Bool.true_or, Bool.or_false] <;> rfl)
  refine tSk <| tQ <| tG <| sm 1 rfl <| nL <| tRt <| rOk rfl ?_ nPo
  (simp only [mOne, *, if_true, Bool.false_eq_true, if_false, Bool.or_true, Bool.true_or, Bool.or_false] <;> rfl)
theorem sc_mTwo (op a b : Int) : SC Tryz.prog 90 [iInt op, iInt a, iInt b] [] (fun _ => False) (.tup [iInt (mTwo op a b).1, iBool (mTwo op a b).2]) [] := by
  refine SC.of Tryz.func90 rfl (lb rfl) fun F ρ w => ?_
  refine tQ <| tG <| sm 2 rfl <| nL <| tQ <| tQ <| tG <| sm 1 rfl <| nL <| tBk <| tQ <| tG ?_
  refine sm 2 rfl <| nL ?_
  refine tC rfl (fun hc9 => ?_) fun hc9 => ?_
  ·refine tQ <| tG <| sm 5 rfl <| nL <| tRt <| rOk rfl ?_ nPo
   (simp only [mTwo, *, if_true, Bool.false_eq_true, if_false, Bool.or_true, Bool.true_or, Bool.or_false] <;> rfl)
  refine tQ <| tG <| sm 2 rfl <| nL ?_
  refine tC rfl (fun hc14 => ?_) fun hc14 => ?_
  ·refine tQ <| tG <| sm 5 rfl <| nL <| tRt <| rOk rfl ?_ nPo
   (simp only [mTwo, *, if_true, Bool.false_eq_true, if_false, Bool.or_true, Bool.true_or, Bool.or_false] <;> rfl)
  refine tQ <| tG <| sm 2 rfl <| nL ?_
  refine tC rfl (fun hc19 => ?_) fun hc19 => ?_
  ·refine tQ <| tG <| sm 5 rfl <| nL <| tRt <| rOk rfl ?_ nPo
   (simp only [mTwo, *, if_true, Bool.false_eq_true, if_false, Bool.or_true, Bool.true_or, Bool.or_false] <;> rfl)
  refine tQ <| tQ <| tG <| sm 2 rfl <| nL ?_
  refine tC rfl (fun hc24 => ?_) fun hc24 => ?_
  ·refine tSk ?_
   refine tC rfl (fun hc24 => ?_) fun hc24 => ?_
   ·refine tQ <| tQ <| tG <| sm 2 rfl <| nL ?_
    refine tC rfl (fun hc28 => ?_) fun hc28 => ?_
    ·refine tQ <| tG <| sm 2 rfl <| nL <| tRt <| rOk rfl ?_ nPo
     (simp only [mTwo, *, if_true, Bool.false_eq_true, if_false, Bool.or_true, Bool.true_or, Bool.or_false] <;> rfl)
    refine tSk <| tQ <| tQ <| tG <| sm 2 rfl <| nL ?_
    refine tC rfl (fun hc30 => ?_) fun hc30 => ?_
    ·refine tQ <| tG <| sm 2 rfl <| cV rfl (oB rfl rfl (show intBin .quo .i64 a b = some (.int .i64 (w64 (a.tdiv b))) by simp [intBin, w64, show ¬ b = 0 by simpa using hc28])) <| sm 2 rfl <| nL <| tRt <| rOk rfl ?_ nPo
     (simp only [mTwo, *, if_true, Bool.false_eq_true, if_false, Bool.or_true, Bool.true_or, Bool.or_false] <;> rfl)
    refine tSk <| tQ <| tG <| sm 2 rfl <| cV rfl (oB rfl rfl (show intBin .rem .i64 a b = some (.int .i64 (a.tmod b)) by simp [intBin, show ¬ b = 0 by simpa using hc28])) <| sm 2 rfl <| nL <| tRt <| rOk rfl ?_ nPo
    (exfalso; simp_all; done)
   refine tQ <| tG <| sm 2 rfl <| nL ?_
   refine tC rfl (fun hc37 => ?_) fun hc37 => ?_
   ·refine tQ <| tG <| sm 5 rfl <| nL <| tRt <| rOk rfl ?_ nPo
    (exfalso; simp_all; done)
   refine tQ <| tG <| sm 2 rfl <| nL ?_
   refine tC rfl (fun hc42 => ?_) fun hc42 => ?_
   ·refine tQ <| tG <| sm 5 rfl <| nL <| tRt <| rOk rfl ?_ nPo
    (exfalso; simp_all; done)
   refine tQ <| tG <| sm 2 rfl <| nL ?_
   refine tC rfl (fun hc47 => ?_) fun hc47 => ?_
   ·refine tQ <| tG <| sm 5 rfl <| nL <| tRt <| rOk rfl ?_ nPo
    (exfalso; simp_all; done)
   refine tQ <| tG <| sm 2 rfl <| nL ?_
   refine tC rfl (fun hc52 => ?_) fun hc52 => ?_
   ·refine tQ <| tG <| sm 3 rfl <| cV rfl (ok_shl rfl rfl rfl (and63 b)) <| sm 2 rfl <| nL <| tRt <| rOk rfl ?_ nPo
    (exfalso; simp_all; done)
   refine tQ <| tG <| sm 2 rfl <| nL ?_
   refine tC rfl (fun hc58 => ?_) fun hc58 => ?_
   ·refine tQ <| tG <| sm 3 rfl <| cV rfl (ok_shr rfl rfl rfl (and63 b)) <| sm 2 rfl <| nL <| tRt <| rOk rfl ?_ nPo
    (exfalso; simp_all; done)
   refine tQ <| tG <| sm 2 rfl <| nL ?_
   refine tC rfl (fun hc64 => ?_) fun hc64 => ?_
   ·refine tQ <| tG <| sm 1 rfl <| cV rfl (ok_conv_int rfl rfl ⟨_, uT3⟩ Tryz.underlying136) <| sm 2 rfl <| cV rfl (ok_shr rfl rfl rfl (and63 b)) <| cV rfl (ok_conv_int rfl rfl ⟨_, Tryz.underlying136⟩ uT3) <| sm 2 rfl <| nL <| tRt <| rOk rfl ?_ nPo
    (exfalso; simp_all; done)
   refine tQ <| tG <| sm 2 rfl <| nL ?_
   refine tC rfl (fun hc72 => ?_) fun hc72 => ?_
   ·refine tQ <| tG <| sm 3 rfl <| cE rfl (ocq (sc_mFlag _) ent106 rfl rfl) <| sm 2 rfl <| nL <| tRt <| rOk rfl ?_ nPo
    (exfalso; simp_all; done)
   refine tQ <| tG <| sm 2 rfl <| nL ?_
   refine tC rfl (fun hc78 => ?_) fun hc78 => ?_
   ·refine tQ <| tG <| sm 3 rfl <| cE rfl (ocq (sc_mFlag _) ent106 rfl rfl) <| sm 2 rfl <| nL <| tRt <| rOk rfl ?_ nPo
    (exfalso; simp_all; done)
   refine tQ <| tG <| sm 2 rfl <| nL ?_
   refine tC rfl (fun hc84 => ?_) fun hc84 => ?_
   ·refine tQ <| tG <| sm 3 rfl <| cE rfl (ocq (sc_mFlag _) ent106 rfl rfl) <| sm 2 rfl <| nL <| tRt <| rOk rfl ?_ nPo
    (exfalso; simp_all; done)
   refine tQ <| tG <| sm 2 rfl <| nL ?_
   refine tC rfl (fun hc90 => ?_) fun hc90 => ?_
   ·refine tQ <| tG <| sm 3 rfl <| cE rfl (ocq (sc_mFlag _) ent106 rfl rfl) <| sm 2 rfl <| nL <| tRt <| rOk rfl ?_ nPo
    (exfalso; simp_all; done)
   refine tQ <| tG <| sm 2 rfl <| nL ?_
   refine tC rfl (fun hc96 => ?_) fun hc96 => ?_
   ·refine tQ <| tG <| sm 3 rfl <| cE rfl (ocq (sc_mFlag _) ent106 rfl rfl) <| sm 2 rfl <| nL <| tRt <| rOk rfl ?_ nPo
    (exfalso; simp_all; done)
   refine tQ <| tG <| sm 2 rfl <| nL ?_
   refine tC rfl (fun hc102 => ?_) fun hc102 => ?_
   ·refine tQ <| tG <| sm 3 rfl <| cE rfl (ocq (sc_mFlag _) ent106 rfl rfl) <| sm 2 rfl <| nL <| tRt <| rOk rfl ?_ nPo
    (exfalso; simp_all; done)
   refine tSk <| tQ <| tG <| sm 2 rfl <| nL <| tRt <| rOk rfl ?_ nPo
   (exfalso; simp_all; done)
  refine tG <| sm 2 rfl <| nL ?_
  refine tC rfl (fun hc24 => ?_) fun hc24 => ?_
  ·refine tQ <| tQ <| tG <| sm 2 rfl <| nL ?_
   refine tC rfl (fun hc28 => ?_) fun hc28 => ?_
   ·refine tQ <| tG <| sm 2 rfl <| nL <| tRt <| rOk rfl ?_ nPo
    (simp only [mTwo, *, if_true, Bool.false_eq_true, if_false, Bool.or_true, Bool.true_or, Bool.or_false] <;> rfl)
   refine tSk <| tQ <| tQ <| tG <| sm 2 rfl <| nL ?_
   refine tC rfl (fun hc30 => ?_) fun hc30 => ?_
   ·refine tQ <| tG <| sm 2 rfl <| cV rfl (oB rfl rfl (show intBin .quo .i64 a b = some (.int .i64 (w64 (a.tdiv b))) by simp [intBin, w64, show ¬ b = 0 by simpa using hc28])) <| sm 2 rfl <| nL <| tRt <| rOk rfl ?_ nPo
    (exfalso; simp_all; done)
   refine tSk <| tQ <| tG <| sm 2 rfl <| cV rfl (oB rfl rfl (show intBin .rem .i64 a b = some (.int .i64 (a.tmod b)) by simp [intBin, show ¬ b = 0 by simpa using hc28])) <| sm 2 rfl <| nL <| tRt <| rOk rfl ?_ nPo
   (simp only [mTwo, *, if_true, Bool.false_eq_true, if_false, Bool.or_true, Bool.true_or, Bool.or_false] <;> rfl)
  refine tQ <| tG <| sm 2 rfl <| nL ?_
  refine tC rfl (fun hc37 => ?_) fun hc37 => ?_
  ·refine tQ <| tG <| sm 5 rfl <| nL <| tRt <| rOk rfl ?_ nPo
   (simp only [mTwo, *, if_true, Bool.false_eq_true, if_false, Bool.or_true, Bool.true_or, Bool.or_false] <;> rfl)
  refine tQ <| tG <| sm 2 rfl <| nL ?_
  refine tC rfl (fun hc42 => ?_) fun hc42 => ?_
  ·refine tQ <| tG <| sm 5 rfl <| nL <| tRt <| rOk rfl ?_ nPo
   (simp only [mTwo, *, if_true, Bool.false_eq_true, if_false, Bool.or_true, Bool.true_or, Bool.or_false] <;> rfl)
  refine tQ <| tG <| sm 2 rfl <| nL ?_
  refine tC rfl (fun hc47 => ?_) fun hc47 => ?_
  ·refine tQ <| tG <| sm 5 rfl <| nL <| tRt <| rOk rfl ?_ nPo
   (simp only [mTwo, *, if_true, Bool.false_eq_true, if_false, Bool.or_true, Bool.true_or, Bool.or_false] <;> rfl)
  refine tQ <| tG <| sm 2 rfl <| nL ?_
  refine tC rfl (fun hc52 => ?_) fun hc52 => ?_
  ·refine tQ <| tG <| sm 3 rfl <| cV rfl (ok_shl rfl rfl rfl (and63 b)) <| sm 2 rfl <| nL <| tRt <| rOk rfl ?_ nPo
   (simp only [mTwo, *, if_true, Bool.false_eq_true, if_false, Bool.or_true, Bool.true_or, Bool.or_false] <;> rfl)
  refine tQ <| tG <| sm 2 rfl <| nL ?_
  refine tC rfl (fun hc58 => ?_) fun hc58 => ?_
  ·refine tQ <| tG <| sm 3 rfl <| cV rfl (ok_shr rfl rfl rfl (and63 b)) <| sm 2 rfl <| nL <| tRt <| rOk rfl ?_ nPo
   (simp only [mTwo, *, if_true, Bool.false_eq_true, if_false, Bool.or_true, Bool.true_or, Bool.or_false] <;> rfl)
  refine tQ <| tG <| sm 2 rfl <| nL ?_
  refine tC rfl (fun hc64 => ?_) fun hc64 => ?_
  ·refine tQ <| tG <| sm 1 rfl <| cV rfl (ok_conv_int rfl rfl ⟨_, uT3⟩ Tryz.underlying136) <| sm 2 rfl <| cV rfl (ok_shr rfl rfl rfl (and63 b)) <| cV rfl (ok_conv_int rfl rfl ⟨_, Tryz.underlying136⟩ uT3) <| sm 2 rfl <| nL <| tRt <| rOk rfl ?_ nPo
   (simp only [mTwo, *, if_true, Bool.false_eq_true, if_false, Bool.or_true, Bool.true_or, Bool.or_false] <;> rfl)
  refine tQ <| tG <| sm 2 rfl <| nL ?_
  refine tC rfl (fun hc72 => ?_) fun hc72 => ?_
  ·refine tQ <| tG <| sm 3 rfl <| cE rfl (ocq (sc_mFlag _) ent106 rfl rfl) <| sm 2 rfl <| nL <| tRt <| rOk rfl ?_ nPo
   (simp only [mTwo, *, if_true, Bool.false_eq_true, if_false, Bool.or_true, Bool.true_or, Bool.or_false] <;> rfl)
  refine tQ <| tG <| sm 2 rfl <| nL ?_
  refine tC rfl (fun hc78 => ?_) fun hc78 => ?_
  ·refine tQ <| tG <| sm 3 rfl <| cE rfl (ocq (sc_mFlag _) ent106 rfl rfl) <| sm 2 rfl <| nL <| tRt <| rOk rfl ?_ nPo
   (simp only [mTwo, *, if_true, Bool.false_eq_true, if_false, Bool.or_true, Bool.true_or, Bool.or_false] <;> rfl)
  refine tQ <| tG <| sm 2 rfl <| nL ?_
  refine tC rfl (fun hc84 => ?_) fun hc84 => ?_
  ·refine tQ <| tG <| sm 3 rfl <| cE rfl (ocq (sc_mFlag _) ent106 rfl rfl) <| sm 2 rfl <| nL <| tRt <| rOk rfl ?_ nPo
   (simp only [mTwo, *, if_true, Bool.false_eq_true, if_false, Bool.or_true, Bool.true_or, Bool.or_false] <;> rfl)
  refine tQ <| tG <| sm 2 rfl <| nL ?_
  refine tC rfl (fun hc90 => ?_) fun hc90 => ?_
  ·refine tQ <| tG <| sm 3 rfl <| cE rfl (ocq (sc_mFlag _) ent106 rfl rfl) <| sm 2 rfl <| nL <| tRt <| rOk rfl ?_ nPo
   (simp only [mTwo, *, if_true, Bool.false_eq_true, if_false, Bool.or_true, Bool.true_or, Bool.or_false] <;> rfl)
  refine tQ <| tG <| sm 2 rfl <| nL ?_
  refine tC rfl (fun hc96 => ?_) fun hc96 => ?_
  ·refine tQ <| tG <| sm 3 rfl <| cE rfl (ocq (sc_mFlag _) ent106 rfl rfl) <| sm 2 rfl <| nL <| tRt <| rOk rfl ?_ nPo
   (simp only [mTwo, *, if_true, Bool.false_eq_true, if_false, Bool.or_true, Bool.true_or, Bool.or_false] <;> rfl)
  refine tQ <| tG <| sm 2 rfl <| nL ?_
  refine tC rfl (fun hc102 => ?_) fun hc102 => ?_
  ·refine tQ <| tG <| sm 3 rfl <| cE rfl (ocq (sc_mFlag _) ent106 rfl rfl) <| sm 2 rfl <| nL <| tRt <| rOk rfl ?_ nPo
   (simp only [mTwo, *, if_true, Bool.false_eq_true, if_false, Bool.or_true, Bool.true_or, Bool.or_false] <;> rfl)
  refine tSk <| tQ <| tG <| sm 2 rfl <| nL <| tRt <| rOk rfl ?_ nPo
  (simp only [mTwo, *, if_true, Bool.false_eq_true, if_false, Bool.or_true, Bool.true_or, Bool.or_false] <;> rfl)
theorem getV_some {v : List Int} {x y : Int} (h : getV v x = some y) : 0 ≤ x ∧ x.toNat < (v.map eInt).length ∧ (v.map eInt)[x.toNat]? = some [vInt y] := by
  unfold getV at h
  split at h
  · rename_i hx
    exact ⟨hx, by simpa using (List.getElem?_eq_some_iff.1 h).1, map_get h⟩
  · cases h
theorem setV_some {v v' : List Int} {x y : Int} (h : setV v x y = some v') : 0 ≤ x ∧ x.toNat < (v.map eInt).length ∧ v' = v.set x.toNat y := by
  unfold setV at h
  split at h
  · rename_i hx
    exact ⟨hx.1, by simpa using hx.2, by cases h; rfl⟩
  · cases h
theorem row_at {v : List Int} {i : Nat} (h : i < (v.map eInt).length) : ∃ z, (v.map eInt)[i]? = some [vInt z] := by
  rw [List.length_map] at h
  exact ⟨v[i], map_get (f := eInt) (List.getElem?_eq_getElem h)⟩
theorem set_row (v : List Int) (i : Nat) (y : Int) (el : List PV) (hel : (v.map eInt)[i]? = some el) : (v.map eInt).set i (el.set 0 (vInt y)) = (v.set i y).map eInt := by
  rw [List.map_set]
  have h2 := hel
  rw [List.getElem?_map, Option.map_eq_some_iff] at h2
  obtain ⟨z, _, rfl⟩ := h2
  rfl
theorem mOf_step {v : List Int} {x : Int} {r acc o : List Int} (h : (mOf v (x :: r)).map (acc ++ ·) = some o) : ∃ y, getV v x = some y ∧ (mOf v r).map ((acc ++ [y]) ++ ·) = some o := by
  simp only [mOf, Option.map_eq_some_iff, Option.bind_eq_some_iff] at h
  obtain ⟨_, ⟨y, hy, z, hz, rfl⟩, rfl⟩ := h
  exact ⟨y, hy, by rw [hz]; simp⟩
theorem mSet_step {v v' : List Int} {x : Int} {r n : List Int} (h : mSet v (x :: r) n = some v') : ∃ y n' v1, n = y :: n' ∧ setV v x y = some v1 ∧ mSet v1 r n' = some v' := by
  cases n with
  | nil => cases h
  | cons y n' =>
    simp only [mSet, Option.bind_eq_some_iff] at h
    obtain ⟨v1, h1, h2⟩ := h
    exact ⟨y, n', v1, rfl, h1, h2⟩
theorem sc_over (u : Un) (s : Rs) : SC Tryz.prog 31 [.ptr 1001 0] (runH u s) (fun _ => True) (iBool (mOver s)) (runH u s) := by
  refine SC.of Tryz.func31 rfl (lb rfl) fun F ρ w => ?_
  refine tQ <| tG <| sm 1 rfl <| nL <| tQ <| tG <| sm 1 rfl <| cV rfl (nCk rfl rfl rfl) <| sm 3 rfl ?_
  refine wS 7 rfl (fun hb7 => ?_) fun hb7 => ?_
  ·refine sm 8 rfl <| nL <| tRt <| rOk rfl ?_ (fun _ _ h => h)
   cases hsp : s.spent <;> simp_all [mOver, iBool]
  refine sm 1 rfl <| yV rfl rfl (nCk rfl rfl rfl) <| sm 6 rfl <| nL <| tRt <| rOk rfl ?_ (fun _ _ h => h)
  cases hsp : s.spent <;> simp_all [mOver, iBool]
theorem sc_step (u : Un) (s : Rs) : SC Tryz.prog 65 [.ptr 1001 0] (runH u s) (fun _ => False) (iBool (mStep s).1) (runH u (mStep s).2) := by
  refine SC.of Tryz.func65 rfl (lb rfl) fun F ρ w => ?_
  refine tQ <| tG <| sm 1 rfl <| nL <| tQ <| tQ <| tG <| sm 1 rfl <| cE rfl (ocr (sc_over u s) ent31 rfl (fun _ _ h => h) rfl (fun k (h : _) => .inr trivial) rfl rfl) <| nL ?_
  refine tC rfl (fun hc4 => ?_) fun hc4 => ?_
  ·refine tQ <| tG <| sm 1 rfl <| nL <| tRt ?_
   have e : mStep s = (false, s) := by simp [mStep, hc4]
   rw [e]
   refine rOk rfl rfl (po2 rfl rfl)
  refine tSk <| tQ <| tQ <| tG <| sm 1 rfl <| cV rfl (nCk rfl rfl rfl) <| sm 4 rfl <| nL ?_
  refine tC rfl (fun hc10 => ?_) fun hc10 => ?_
  ·refine tQ <| tG <| sm 1 rfl <| cV rfl (nCk rfl rfl rfl) <| sm 1 rfl <| c0 (sBx rfl rfl rfl rfl ((fun h => h)) tS4 (rfl) (lb rfl)) <| nL <| tQ <| tG <| sm 1 rfl <| nL <| tRt ?_
   have e : mStep s = (false, { s with spent := true }) := by
     have h1 : s.fuel < 1 := by simpa using hc10
     simp [mStep, hc4, h1]
   rw [e]
   refine rOk rfl rfl (po2 rfl rfl)
  refine tSk <| tQ <| tG <| sm 2 rfl <| cV rfl (nCk rfl rfl rfl) <| sm 4 rfl <| cV rfl (nCk rfl rfl rfl) <| sm 2 rfl <| c0 (sBx rfl rfl rfl rfl ((fun h => h)) tS3 (rfl) (lb rfl)) <| nL <| tQ <| tG ?_
  refine sm 1 rfl <| nL <| tRt ?_
  have e : mStep s = (true, { s with fuel := w64 (s.fuel - 1) }) := by
    have h1 : ¬ s.fuel < 1 := by simpa using hc10
    simp [mStep, hc4, h1]
  rw [e]
  refine rOk rfl rfl (po2 rfl rfl)
theorem sc_of (v l o : List Int) (h : mOf v l = some o) (hb : l.length ≤ 1073741824) : SC Tryz.prog 66 [.sl 510 (v.map eInt).length, .pv (ints l)] [(510, rowI v)] (fun k => k = 510) (.pv (ints o)) [(510, rowI v)] := by
  refine SC.of Tryz.func66 rfl (lb rfl) fun F ρ w => ?_
  refine Tr.lenOf (t := 1) rfl (fun hl => ?_)
  simp only [List.length_map] at hl
  refine tQ <| tG <| sm 1 rfl <| nL <| tQ <| tG <| sm 1 rfl <| nL <| tQ <| tQ <| Tr.grow (t := 5) (k := 105) ⟨3, 1⟩ rfl rfl rfl rfl rfl <| tG ?_
  refine sm 1 rfl <| nL <| tBk <| Tr.sub (Sub.of (fr' := [(6, iInt 0), (5, .sl 105 (([] : List Int).map eInt).length), (0, .sl 510 (v.map eInt).length), (1, .pv (ints l))]) ⟨rfl, rfl, rfl, rfl, trivial⟩) ?_
  refine Tr.heap (σ' := look [(105, some (rowI ([] : List Int))), (510, some (rowI v))]) (by
  intro j
  simp only [look]
  by_cases h1 : 105 = j
  · subst h1; rfl
  · simp [look, up, beq_ne h1]) ?_
  refine Tr.loop (fun fr σ m => ∃ (k : Nat) (acc : List Int), (k ≤ l.length) ∧ ((mOf v (l.drop k)).map (acc ++ ·) = some o) ∧ (acc.length = k) ∧ fr = [(6, iInt k), (5, .sl 105 (acc.map eInt).length), (0, .sl 510 (v.map eInt).length), (1, .pv (ints l))] ∧ σ = look [(105, some (rowI acc)), (510, some (rowI v))] ∧ m = l.length - k) (n := l.length - 0) ?_ ?_
  ·exact ⟨0, ([] : List Int), Nat.zero_le _, (by rw [List.drop_zero, h]; rfl), rfl, rfl, rfl, rfl⟩
  rintro fr σ m ⟨k, acc, hI0, hI1, hI2, rfl, rfl, rfl⟩
  refine tQ <| tQ <| tG <| sm 2 rfl <| cV rfl (oSm uT35 rfl) <| sm 1 rfl <| nL ?_
  refine tC rfl (fun hc10 => ?_) fun hc10 => ?_
  ·have hlt : k < l.length := by simpa using hc10
   have hd := List.drop_eq_getElem_cons hlt
   have hm := List.getElem_mem hlt
   have hi := map_get (f := eInt) (List.getElem?_eq_getElem hlt)
   generalize l[k] = x at hd hm hi
   rw [hd] at hI1
   obtain ⟨y, hy, hO⟩ := mOf_step hI1
   obtain ⟨hx0, hxl, hxg⟩ := getV_some hy
   have hal : (acc.map eInt).length = acc.length := by simp
   refine tSk <| tQ <| tBk <| tG <| sm 4 rfl <| cV rfl (iSq rfl rfl rfl uT35 hi tS3 rfl (by rfl)) <| sm 1 rfl <| cV rfl (iRw rfl rfl rfl rfl rfl uT35 tS3 hxl (by omega)) <| cV rfl (lRw rfl rfl rfl rfl (Nat.add_zero _).symm hxg rfl uT3 rfl trivial) <| cE rfl (bSl rfl rfl uT35 tZ3 tS3 rfl rfl rfl rfl (fbk rfl) rfl) ?_
   refine cE rfl (aPp rfl rfl rfl rfl (by rfl) (by simp) uT35 tB3 (by decide) (by (simp [chunks]; done)) (by (simp [chunks, PV.one]; rfl)) (by simp [maxLen, chunks]; omega) (by simp [chunks]; omega)) ?_
   refine sm 1 rfl <| nL <| tG <| sm 1 rfl <| cV rfl (oB rfl rfl (i64_add rfl (by omega))) <| sm 1 rfl <| nL ?_
   refine ⟨_, _, ?_, Sub.of (fr' := [(6, iInt (k + 1)), (5, .sl 105 ((acc ++ [y]).map eInt).length), (0, .sl 510 (v.map eInt).length), (1, .pv (ints l))]) ⟨rfl, congrArg (fun z => some (IV.sl _ z)) (by simp [chunks, eInt]), rfl, rfl, trivial⟩, (k + 1), (acc ++ [y]), ?_, ?_, ?_, rfl, (funext (by
  intro j
  simp only [look]
  by_cases h1 : 105 = j
  · subst h1; exact congrArg (fun z => some (HO.row _ z)) (by simp [chunks, eInt])
  · simp [look, beq_ne h1])), rfl⟩
   ·omega
   ·omega
   ·exact hO
   simp [hI2]
  refine tEx <| tQ <| Tr.freeze (t := 5) (k := 105) rfl rfl (by simp) <| tG <| sm 2 rfl <| nL <| tRt <| rOk rfl ?_ (po1 rfl)
  have hge : l.length ≤ k := by simpa using hc10
  rw [List.drop_eq_nil_of_le hge] at hI1
  have : acc = o := by simpa [mOf] using hI1
  rw [this]
  rfl
theorem sc_set (v l n v' : List Int) (h : mSet v l n = some v') : SC Tryz.prog 67 [.sl 510 (v.map eInt).length, .pv (ints l), .pv (ints n)] [(510, rowI v)] (fun _ => False) (.tup []) [(510, rowI v')] := by
  refine SC.of Tryz.func67 rfl (lb rfl) fun F ρ w => ?_
  refine Tr.lenOf (t := 1) rfl (fun hl => ?_)
  simp only [List.length_map] at hl
  refine Tr.lenOf (t := 2) rfl (fun hl2 => ?_)
  simp only [List.length_map] at hl2
  refine tQ <| tG <| sm 1 rfl <| nL <| tBk <| Tr.sub (Sub.of (fr' := [(6, iInt 0), (0, .sl 510 (v.map eInt).length), (1, .pv (ints l)), (2, .pv (ints n))]) ⟨rfl, rfl, rfl, rfl, trivial⟩) ?_
  refine Tr.loop (fun fr σ m => ∃ (k : Nat) (w1 : List Int) (m1 : List Int), (k ≤ l.length) ∧ (mSet w1 (l.drop k) m1 = some v') ∧ (w1.length = v.length) ∧ (m1 = n.drop k) ∧ fr = [(6, iInt k), (0, .sl 510 (v.map eInt).length), (1, .pv (ints l)), (2, .pv (ints n))] ∧ σ = look [(510, some (rowI w1))] ∧ m = l.length - k) (n := l.length - 0) ?_ ?_
  ·exact ⟨0, v, n, Nat.zero_le _, h, rfl, rfl, rfl, rfl, rfl⟩
  rintro fr σ m ⟨k, w1, m1, hI0, hI1, hI2, hI3, rfl, rfl, rfl⟩
  refine tQ <| tQ <| tG <| sm 2 rfl <| cV rfl (oSm uT35 rfl) <| sm 1 rfl <| nL ?_
  refine tC rfl (fun hc10 => ?_) fun hc10 => ?_
  ·have hlt : k < l.length := by simpa using hc10
   have hd := List.drop_eq_getElem_cons hlt
   have hm := List.getElem_mem hlt
   have hi := map_get (f := eInt) (List.getElem?_eq_getElem hlt)
   generalize l[k] = x at hd hm hi
   rw [hd] at hI1
   obtain ⟨y, m2, w2, hm1, hs, hO⟩ := mSet_step hI1
   obtain ⟨hx0, hxl, hw2⟩ := setV_some hs
   obtain ⟨z0, hxg⟩ := row_at hxl
   have hwn : (w1.map eInt).length = (v.map eInt).length := by simp [hI2]
   have hxl2 : x.toNat < (v.map eInt).length := by rw [← hwn]; exact hxl
   have hnk : n[k]? = some y := by
     have h0 := List.getElem?_drop (xs := n) (i := k) (j := 0)
     rw [← hI3, hm1] at h0
     simpa using h0.symm
   have hi2 := map_get (f := eInt) hnk
   refine tSk <| tQ <| tBk <| tDr mixed (fun k => k ∈ ([] : List Nat)) <| wR 1 [0, 1, 2, 3, 4, 5, 6, 7, 8, 9] (by kernel_rfl) (fun _ _ _ h => h) <| smR 3 rfl <| rV rfl rfl (iSq rfl rfl rfl uT35 hi tS3 rfl (by rfl)) <| smR 3 rfl <| rV rfl rfl (iSq rfl rfl rfl uT35 hi2 tS3 rfl (by rfl)) <| smR 1 rfl <| rV rfl rfl (iRw rfl rfl rfl rfl hwn uT35 tS3 hxl2 (by omega)) <| nR ?_
   refine wO 10 (by kernel_rfl) <| wI rfl rfl nf (nOl rfl) (fun _ _ => ok_store_row rfl rfl rfl rfl hwn (Nat.add_zero _).symm hxg (by simp) tS3 rfl (by simp)) <| wDn (by kernel_rfl) <| tG <| sm 1 rfl <| cV rfl (oB rfl rfl (i64_add rfl (by omega))) <| sm 1 rfl <| nL ?_
   refine ⟨_, _, ?_, Sub.of (fr' := [(6, iInt (k + 1)), (0, .sl 510 (v.map eInt).length), (1, .pv (ints l)), (2, .pv (ints n))]) ⟨rfl, rfl, rfl, rfl, trivial⟩, (k + 1), w2, m2, ?_, ?_, ?_, ?_, rfl, (funext (by
  intro j
  simp only [look]
  by_cases h1 : 510 = j
  · subst h1; exact congrArg (fun z => some (HO.row _ z)) (by rw [hw2]; exact set_row _ _ _ _ hxg)
  · simp [look, beq_ne h1])), rfl⟩
   ·omega
   ·omega
   ·exact hO
   ·rw [hw2, List.length_set]; exact hI2
   rw [← List.drop_drop, ← hI3, hm1]; rfl
  refine tEx ?_
  have hge : l.length ≤ k := by simpa using hc10
  rw [List.drop_eq_nil_of_le hge] at hI1
  have hw : w1 = v' := by simpa [mSet] using hI1
  subst hw
  refine end_ok rfl rfl (po1 rfl)
section
def mCost (s : Rs) : Rs := { s with cost := w64 (s.cost + 1) }
theorem setV_len {v v' : List Int} {x y : Int} (h : setV v x y = some v') : v'.length = v.length := by
  rw [(setV_some h).2.2, List.length_set]
theorem mSet_len : ∀ {l n v v' : List Int}, mSet v l n = some v' → v'.length = v.length
  | [], _, _, _, h => by cases h; rfl
  | _ :: _, _, _, _, h => by
    obtain ⟨y, n', v1, rfl, h1, h2⟩ := mSet_step h
    rw [mSet_len h2, setV_len h1]
theorem mNode_len {rec : List Nd → List Int → Rs → Option Rres} {recLoop : Nd → List Int → List Int → Rs → Option Rres} {recSum : Nd → List Int → Rs → Option (Int × Rs)} {x : Nd} {a v : List Int} {s : Rs} {r : Rres}
    (hr : ∀ q v s r, rec q v s = some r → r.2.1.length = v.length) (hl : ∀ x v a s r, recLoop x v a s = some r → r.2.1.length = v.length) (h : mNode rec recLoop recSum x a v s = some r) : r.2.1.length = v.length := by
  unfold mNode at h
  split at h
  ·simp only [Option.bind_eq_some_iff, Option.map_eq_some_iff] at h
   obtain ⟨o, _, v', h1, rfl⟩ := h
   exact setV_len h1
  split at h
  ·cases h; rfl
  split at h
  ·simp only [Option.bind_eq_some_iff] at h
   obtain ⟨a0, _, q, _, r1, h1, h2⟩ := h
   have h3 := hr _ _ _ _ h1
   split at h2
   ·simp only [Option.map_eq_some_iff] at h2
    obtain ⟨v', h4, rfl⟩ := h2
    exact (mSet_len h4).trans h3
   cases h2; exact h3
  split at h
  ·exact hl _ _ _ _ _ h
  simp only [Option.bind_eq_some_iff] at h
  obtain ⟨r1, h1, h2⟩ := h
  split at h2
  ·simp only [Option.bind_eq_some_iff, Option.map_eq_some_iff] at h2
   obtain ⟨o, _, v', h4, rfl⟩ := h2
   exact setV_len h4
  cases h2; rfl
theorem mLL_len (u : Un) : ∀ d, (∀ l v s r, mList u d l v s = some r → r.2.1.length = v.length) ∧ ∀ x v a s r, mLoop u d x v a s = some r → r.2.1.length = v.length
  | 0 => ⟨fun _ _ _ _ h => by simp [mList] at h, fun _ _ _ _ _ h => by simp [mLoop] at h⟩
  | d + 1 => by
    obtain ⟨i1, i2⟩ := mLL_len u d
    refine ⟨fun l v s r h => ?_, fun x v a s r h => ?_⟩
    ·cases l with
     | nil => simp only [mList] at h; cases h; rfl
     | cons x l =>
       rw [mList] at h
       split at h
       ·cases h; rfl
       simp only [Option.bind_eq_some_iff] at h
       obtain ⟨a, _, r1, h1, h2⟩ := h
       have h3 := mNode_len i1 i2 h1
       split at h2
       ·cases h2; exact h3
       exact (i1 _ _ _ _ h2).trans h3
    rw [mLoop] at h
    simp only [Option.bind_eq_some_iff] at h
    obtain ⟨v1, hv1, q, _, r1, h1, h2⟩ := h
    have h3 := (i1 _ _ _ _ h1).trans (mSet_len hv1)
    split at h2
    ·cases h2; exact h3
    split at h2
    ·simp only [Option.map_eq_some_iff] at h2
     obtain ⟨v', h4, rfl⟩ := h2
     exact (mSet_len h4).trans h3
    exact (i2 _ _ _ _ _ h2).trans h3
theorem mList_len {u : Un} {d : Nat} {l : List Nd} {v : List Int} {s : Rs} {r : Rres} (h : mList u d l v s = some r) : r.2.1.length = v.length := (mLL_len u d).1 _ _ _ _ h
theorem mLoop_step {u : Un} {d : Nat} {x : Nd} {v a : List Int} {s : Rs} {r : Rres} (h : mLoop u d x v a s = some r) : ∃ d1 v2 q r1, d = d1 + 1 ∧ mSet v x.params a = some v2 ∧ x.kids[0]? = some q ∧ mList u d1 q v2 s = some r1 ∧
    (if mOver r1.2.2 || r1.1.1 == 15 then some r1 else if r1.1.1 == 14 then (mSet r1.2.1 x.outs r1.1.2).map fun v => ((0, []), v, r1.2.2) else mLoop u d1 x r1.2.1 r1.1.2 r1.2.2) = some r := by
  cases d with
  | zero => simp [mLoop] at h
  | succ d =>
    rw [mLoop] at h
    simp only [Option.bind_eq_some_iff] at h
    obtain ⟨v2, h1, q, h2, r1, h3, h4⟩ := h
    exact ⟨d, v2, q, r1, rfl, h1, h2, h3, h4⟩
theorem mList_step {u : Un} {d : Nat} {x : Nd} {l : List Nd} {v : List Int} {s s2 : Rs} {r : Rres} (hs2 : (mStep s).2 = s2) (h : mList u d (x :: l) v s = some r) : ∃ d1, d = d1 + 1 ∧ (((mStep s).1 = false ∧ r = ((0, []), v, s2)) ∨
    ((mStep s).1 = true ∧ ∃ a r1, mOf v x.args = some a ∧ mNode (mList u d1) (mLoop u d1) (mSum u d1) x a v s2 = some r1 ∧ (if mOver r1.2.2 || r1.1.1 != 0 then some r1 else mList u d1 l r1.2.1 r1.2.2) = some r)) := by
  cases d with
  | zero => simp [mList] at h
  | succ d =>
    refine ⟨d, rfl, ?_⟩
    subst hs2
    rw [mList] at h
    split at h
    ·rename_i s' e; cases h; exact .inl ⟨by rw [e], by rw [e]⟩
    rename_i s' e
    simp only [Option.bind_eq_some_iff] at h
    obtain ⟨a, h1, r1, h2, h3⟩ := h
    exact .inr ⟨by rw [e], a, r1, h1, by rw [e]; exact h2, h3⟩
section
variable {rec : List Nd → List Int → Rs → Option Rres} {recLoop : Nd → List Int → List Int → Rs → Option Rres} {recSum : Nd → List Int → Rs → Option (Int × Rs)} {x : Nd} {a v : List Int} {s : Rs} {r : Rres}
theorem mNode_set (h : mNode rec recLoop recSum x a v s = some r) (hk : (x.kind == 1 || x.kind == 2) = true) : ∃ o v2, x.outs[0]? = some o ∧ setV v o x.n = some v2 ∧ r = ((0, []), v2, s) := by
  unfold mNode at h
  rw [if_pos hk] at h
  simp only [Option.bind_eq_some_iff, Option.map_eq_some_iff] at h
  obtain ⟨o, h1, v2, h2, rfl⟩ := h
  exact ⟨o, v2, h1, h2, rfl⟩
theorem mNode_end (h : mNode rec recLoop recSum x a v s = some r) (hk : (x.kind == 12 || x.kind == 13 || x.kind == 14 || x.kind == 15) = true) : r = ((x.kind, a), v, s) := by
  unfold mNode at h
  rw [if_neg (by simp only [Bool.or_eq_true, beq_iff_eq] at hk ⊢; omega), if_pos hk] at h
  cases h; rfl
theorem mNode_if (h : mNode rec recLoop recSum x a v s = some r) (hk : (x.kind == 10) = true) : ∃ a0 q r1, a[0]? = some a0 ∧ x.kids[if a0 != 0 then 0 else 1]? = some q ∧ rec q v s = some r1 ∧
    (if !mOver r1.2.2 && r1.1.1 == 12 then (mSet r1.2.1 x.outs r1.1.2).map fun v' => ((0, []), v', r1.2.2) else some r1) = some r := by
  unfold mNode at h
  rw [if_neg (by simp only [Bool.or_eq_true, beq_iff_eq] at hk ⊢; omega), if_neg (by simp only [Bool.or_eq_true, beq_iff_eq] at hk ⊢; omega), if_pos hk] at h
  simp only [Option.bind_eq_some_iff] at h
  obtain ⟨a0, h1, q, h2, r1, h3, h4⟩ := h
  exact ⟨a0, q, r1, h1, h2, h3, h4⟩
theorem mNode_loop (h : mNode rec recLoop recSum x a v s = some r) (hk : (x.kind == 11) = true) : recLoop x v a s = some r := by
  unfold mNode at h
  rw [if_neg (by simp only [Bool.or_eq_true, beq_iff_eq] at hk ⊢; omega), if_neg (by simp only [Bool.or_eq_true, beq_iff_eq] at hk ⊢; omega), if_neg (by simp only [beq_iff_eq] at hk ⊢; omega), if_pos hk] at h
  exact h
theorem mNode_sum (h : mNode rec recLoop recSum x a v s = some r) (h1 : (x.kind == 1 || x.kind == 2) = false) (h2 : (x.kind == 12 || x.kind == 13 || x.kind == 14 || x.kind == 15) = false) (h3 : (x.kind == 10) = false) (h4 : (x.kind == 11) = false) : ∃ r1, recSum x a s = some r1 ∧
    (if !mOver r1.2 && decide (0 < x.outs.length) then (x.outs[0]?).bind fun o => (setV v o r1.1).map fun v' => ((0, []), v', r1.2) else some ((0, []), v, r1.2)) = some r := by
  unfold mNode at h
  rw [h1, h2, h3, h4] at h
  simp only [Bool.false_eq_true, if_false, Option.bind_eq_some_iff] at h
  exact h
end
theorem mCall_step {u : Un} {d : Nat} {k : Int} {a : List Int} {s : Rs} {r : Int × Rs} (h : mCall u d k a s = some r) : ∃ d1 f r1, d = d1 + 1 ∧ 0 ≤ k ∧ u.flows[k.toNat]? = some f ∧ a.length ≤ f.types.length ∧ f.types.length ≤ 1073741824 ∧
    mList u d1 f.body (a ++ List.replicate (f.types.length - a.length) 0) s = some r1 ∧ r = (if mOver r1.2.2 then 0 else r1.1.2.headD 0, r1.2.2) := by
  cases d with
  | zero => simp [mCall] at h
  | succ d =>
    rw [mCall] at h
    split at h
    ·rename_i hk
     simp only [Option.bind_eq_some_iff] at h
     obtain ⟨f, hf, h⟩ := h
     split at h
     ·rename_i hl
      simp only [Option.bind_eq_some_iff] at h
      obtain ⟨r1, h1, h2⟩ := h
      refine ⟨d, f, r1, rfl, hk, hf, hl.1, hl.2, h1, ?_⟩
      split at h2 <;> cases h2 <;> simp_all
     cases h
    cases h
variable {u : Un} {d : Nat} {x : Nd} {a : List Int} {s : Rs} {r : Int × Rs}
theorem mSum_pos (h : mSum u d x a s = some r) : ∃ d', d = d' + 1 := by
  cases d with
  | zero => simp [mSum] at h
  | succ d => exact ⟨d, rfl⟩
theorem mSum_one (h : mSum u (d + 1) x a s = some r) (hk : (x.kind == 3) = true) : ∃ a0, a[0]? = some a0 ∧ r = (mOne x.op a0, mCost s) := by
  simp only [mSum, hk, if_true, Option.map_eq_some_iff] at h
  obtain ⟨a0, h1, rfl⟩ := h
  exact ⟨a0, h1, rfl⟩
theorem mSum_two (h : mSum u (d + 1) x a s = some r) (hk : (x.kind == 4) = true) : ∃ a0 a1, a[0]? = some a0 ∧ a[1]? = some a1 ∧ r = ((mTwo x.op a0 a1).1, if (mTwo x.op a0 a1).2 then mCost s else { mCost s with st := 2 }) := by
  have h3 : (x.kind == 3) = false := by have := eq_of_beq hk; rw [this]; rfl
  simp only [mSum, h3, hk, if_true, Bool.false_eq_true, if_false, Option.map_eq_some_iff, Option.bind_eq_some_iff] at h
  obtain ⟨a0, h1, a1, h2, rfl⟩ := h
  exact ⟨a0, a1, h1, h2, rfl⟩
theorem mCell_neg {k n : Int} {q : Bool × Rs} (hk : k < 0) (h : mCell s k n = some q) : n < 0 ∧ q = (false, { s with st := 3 }) := by
  unfold mCell at h
  split at h
  ·rename_i h1; cases h; exact ⟨h1, rfl⟩
  rw [if_neg (by omega)] at h; cases h
theorem mSum_load (hu : u.arrays = []) (h : mSum u (d + 1) x a s = some r) (hk : (x.kind == 5) = true) : ∃ a0, a[0]? = some a0 ∧ a0 < 0 ∧ r = (0, { mCost s with st := 3 }) := by
  have h3 : (x.kind == 3) = false := by have := eq_of_beq hk; rw [this]; rfl
  have h4 : (x.kind == 4) = false := by have := eq_of_beq hk; rw [this]; rfl
  simp only [mSum, h3, h4, hk, if_true, Bool.false_eq_true, if_false, Option.bind_eq_some_iff] at h
  obtain ⟨a0, h1, q, h2, h5⟩ := h
  rw [hu] at h2
  obtain ⟨h6, rfl⟩ := mCell_neg (by show (-1 : Int) < 0; decide) h2
  simp only [Bool.false_eq_true, if_false] at h5
  cases h5
  exact ⟨a0, h1, h6, rfl⟩
theorem mSum_store (hu : u.arrays = []) (h : mSum u (d + 1) x a s = some r) (hk : (x.kind == 6) = true) : ∃ a0, a[0]? = some a0 ∧ a0 < 0 ∧ r = (0, { mCost s with st := 3 }) := by
  have h3 : (x.kind == 3) = false := by have := eq_of_beq hk; rw [this]; rfl
  have h4 : (x.kind == 4) = false := by have := eq_of_beq hk; rw [this]; rfl
  have h5 : (x.kind == 5) = false := by have := eq_of_beq hk; rw [this]; rfl
  simp only [mSum, h3, h4, h5, hk, if_true, Bool.false_eq_true, if_false, Option.bind_eq_some_iff] at h
  obtain ⟨a0, h1, q, h2, h5⟩ := h
  rw [hu] at h2
  obtain ⟨h6, rfl⟩ := mCell_neg (by show (-1 : Int) < 0; decide) h2
  simp only [Bool.false_eq_true, if_false] at h5
  cases h5
  exact ⟨a0, h1, h6, rfl⟩
theorem mSum_call (h : mSum u (d + 1) x a s = some r) (hk : (x.kind == 7) = true) : mCall u d (r8Place x.name u.flows 0) a (mCost s) = some r := by
  have e := eq_of_beq hk
  simp only [mSum, e] at h
  exact h
theorem mSum_print (h : mSum u (d + 1) x a s = some r) (hk : (x.kind == 9) = true) : ∃ a0, a[0]? = some a0 ∧ s.out.length < 1073741824 ∧ r = (0, { mCost s with out := s.out ++ [a0] }) := by
  have e := eq_of_beq hk
  simp only [mSum, e] at h
  simp only [show ((9 : Int) == 3) = false from rfl, show ((9 : Int) == 4) = false from rfl, show ((9 : Int) == 5) = false from rfl, show ((9 : Int) == 6) = false from rfl, show ((9 : Int) == 7) = false from rfl, show ((9 : Int) == 9) = true from rfl, if_true, Bool.false_eq_true, if_false, Option.bind_eq_some_iff] at h
  obtain ⟨a0, h1, h2⟩ := h
  split at h2
  ·rename_i h3; cases h2; exact ⟨a0, h1, h3, rfl⟩
  cases h2
theorem mSum_read (h : mSum u (d + 1) x a s = some r) (hk : (x.kind == 8) = true) : (s.ins = [] ∧ r = (0, { mCost s with st := 4 })) ∨ ∃ y q, s.ins = y :: q ∧ r = (y, { mCost s with ins := q }) := by
  have e := eq_of_beq hk
  simp only [mSum, e] at h
  simp only [show ((8 : Int) == 3) = false from rfl, show ((8 : Int) == 4) = false from rfl, show ((8 : Int) == 5) = false from rfl, show ((8 : Int) == 6) = false from rfl, show ((8 : Int) == 7) = false from rfl, show ((8 : Int) == 9) = false from rfl, show ((8 : Int) == 8) = true from rfl, if_true, Bool.false_eq_true, if_false] at h
  split at h
  ·rename_i h1; cases h; exact .inl ⟨h1, rfl⟩
  rename_i y q h1; cases h; exact .inr ⟨y, q, h1, rfl⟩
theorem mSum_else (h : mSum u (d + 1) x a s = some r) (h3 : (x.kind == 3) = false) (h4 : (x.kind == 4) = false) (h5 : (x.kind == 5) = false) (h6 : (x.kind == 6) = false) (h7 : (x.kind == 7) = false) (h9 : (x.kind == 9) = false) (h8 : (x.kind == 8) = false) : r = (0, mCost s) := by
  simp only [mSum, h3, h4, h5, h6, h7, h8, h9, Bool.false_eq_true, if_false] at h
  cases h; rfl
end
theorem sc_cell0 (u : Un) (s : Rs) (k n : Int) (hn : n < 0) : SC Tryz.prog 91 [.ptr 1001 0, iInt k, iInt n] (runH u s) (fun _ => False) (iBool false) (runH u { s with st := 3 }) := by
  refine SC.of Tryz.func91 rfl (lb rfl) fun F ρ w => ?_
  refine tQ <| tG <| sm 1 rfl <| nL <| tQ <| tQ <| tG <| sm 3 rfl ?_
  refine wS 9 rfl (fun hb9 => ?_) fun hb9 => ?_
  ·refine sm 11 rfl <| nL <| Tr.condT rfl <| tQ <| tG <| sm 1 rfl <| cV rfl (nCk rfl rfl rfl) <| sm 2 rfl <| c0 (sBx rfl rfl rfl rfl ((fun h => h)) tS3 (rfl) (lb rfl)) <| nL <| tQ <| tG ?_
   refine sm 1 rfl <| nL <| tRt <| rOk rfl rfl (po2 rfl rfl)
  exact absurd hn (by simpa using hb9)
def SCC (u : Un) (D : Nat) : Prop := ∀ d, d < D → ∀ k a s r, mCall u d k a s = some r → SC Tryz.prog 29 [.ptr 1001 0, iInt k, .pv (ints a)] (runH u s) (fun _ => False) (iInt r.1) (runH u r.2)
def SCL (u : Un) (D : Nat) : Prop := ∀ d, d < D → ∀ l v s r, mList u d l v s = some r → lsW l ≤ 1073741824 → SC Tryz.prog 45 [.ptr 1001 0, .pv (nodes l), .sl 510 (v.map eInt).length] (runV u s v) (fun _ => False) (.pv (endv r.1)) (runV u r.2.2 r.2.1)
theorem sc_sum (u : Un) (hu : u.arrays = []) (D : Nat) (ihC : SCC u D) (d : Nat) (hd : d ≤ D) (x : Nd) (a : List Int) (s : Rs) (r : Int × Rs) (h : mSum u d x a s = some r) : SC Tryz.prog 69 [.ptr 1001 0, .pv (ndv x), .pv (ints a)] (runH u s) (fun _ => False) (iInt r.1) (runH u r.2) := by
  refine SC.of Tryz.func69 rfl (lb rfl) fun F ρ w => ?_
  obtain ⟨d, rfl⟩ := mSum_pos h
  refine Tr.lenOf (t := 2) rfl (fun hl => ?_)
  simp only [List.length_map] at hl
  refine tQ <| tG <| cE rfl (ok_box rfl rfl) <| sm 1 rfl <| nL <| tQ <| tG <| sm 2 rfl <| cV rfl (nCk rfl rfl rfl) <| sm 4 rfl <| cV rfl (nCk rfl rfl rfl) <| sm 2 rfl ?_
  refine c0 (sBx rfl rfl rfl rfl ((fun h => h)) tS3 (rfl) (lb rfl)) <| nL <| tQ <| Tr.heap (σ' := look (up (runH u (mCost s)))) (lkq [1001, 1002] rfl rfl ⟨rfl, rfl, trivial⟩) <| tDr mixed (fun k => k ∈ ([1001] : List Nat)) <| wR 2 [0, 1, 2, 3, 4, 5] (by kernel_rfl) (fun _ _ _ h => h) <| smR 1 rfl <| rV rfl rfl (nCk rfl rfl rfl) <| smR 1 rfl <| rV rfl rfl (lBP rfl rfl rfl uT25 rfl tS25 (lb rfl) rfl (by decide)) <| smR 2 rfl <| nR ?_
  refine wO 6 (by kernel_rfl) <| wI rfl rfl nf nw (fun _ _ => ocq (sc_r8Array _ _) ent47 rfl rfl) <| wR 0 [7] (by kernel_rfl) (fun _ _ _ h => h) <| smR 1 rfl <| nR <| wDn (by kernel_rfl) <| tQ <| tQ <| tG <| sm 2 rfl <| nL <| tBk ?_
  refine tQ <| tG <| sm 2 rfl <| nL ?_
  refine tC rfl (fun hc30 => ?_) fun hc30 => ?_
  ·obtain ⟨a0, h0, rfl⟩ := mSum_one h hc30
   have hi0 := map_get (f := eInt) h0
   refine tQ <| tDr mixed (fun k => k ∈ ([] : List Nat)) <| wR 2 [0, 1, 2, 3, 4] (by kernel_rfl) (fun _ _ _ h => h) <| smR 3 rfl <| rV rfl rfl (iSq rfl rfl rfl uT35 hi0 tS3 rfl (by rfl)) <| smR 1 rfl <| nR <| wO 5 (by kernel_rfl) <| wI rfl rfl nf nw (fun _ _ => ocq (sc_mOne _ _) ent89 rfl rfl) <| wR 0 [6] (by kernel_rfl) (fun _ _ _ h => h) <| smR 1 rfl <| nR ?_
   refine wDn (by kernel_rfl) <| tRt <| rOk rfl ?_ (po2 rfl rfl)
   rfl
  refine tQ <| tG <| sm 2 rfl <| nL ?_
  refine tC rfl (fun hc38 => ?_) fun hc38 => ?_
  ·obtain ⟨a0, a1, h0, h1, rfl⟩ := mSum_two h hc38
   have hi0 := map_get (f := eInt) h0
   have hi1 := map_get (f := eInt) h1
   refine tQ <| tDr mixed (fun k => k ∈ ([] : List Nat)) <| wR 6 [0, 1, 2, 3, 4, 5, 6, 7] (by kernel_rfl) (fun _ _ _ h => h) <| smR 3 rfl <| rV rfl rfl (iSq rfl rfl rfl uT35 hi0 tS3 rfl (by rfl)) <| smR 2 rfl <| rV rfl rfl (iSq rfl rfl rfl uT35 hi1 tS3 rfl (by rfl)) <| smR 1 rfl <| nR <| wO 8 (by kernel_rfl) <| wI rfl rfl nf nw (fun _ _ => ocq (sc_mTwo _ _ _) ent90 rfl rfl) <| wR 0 [9, 10, 11, 12, 13] (by kernel_rfl) (fun _ _ _ h => h) ?_
   refine smR 1 rfl <| rV rfl rfl (ok_extract rfl rfl rfl) <| rV rfl rfl (ok_extract rfl rfl rfl) <| smR 2 rfl <| nR <| wDn (by kernel_rfl) <| tQ <| tQ <| tG <| sm 2 rfl <| nL ?_
   refine tC rfl (fun hc53 => ?_) fun hc53 => ?_
   ·have hok : (mTwo x.op a0 a1).2 = false := by simpa using hc53
    refine tG <| sm 1 rfl <| cV rfl (nCk rfl rfl rfl) <| sm 2 rfl <| c0 (sBx rfl rfl rfl rfl ((fun h => h)) tS3 (rfl) (lb rfl)) <| nL <| tQ <| tG <| sm 2 rfl <| nL <| tRt ?_
    rw [hok]
    refine rOk rfl rfl (po2 rfl rfl)
   have hok : (mTwo x.op a0 a1).2 = true := by simpa using hc53
   refine tSk <| tQ <| tG <| sm 2 rfl <| nL <| tRt ?_
   rw [hok]
   refine rOk rfl rfl (po2 rfl rfl)
  refine tQ <| tG <| sm 2 rfl <| nL ?_
  refine tC rfl (fun hc59 => ?_) fun hc59 => ?_
  ·obtain ⟨a0, h0, ha0, rfl⟩ := mSum_load hu h hc59
   have hi0 := map_get (f := eInt) h0
   refine tQ <| tG <| sm 3 rfl <| cV rfl (iSq rfl rfl rfl uT35 hi0 tS3 rfl (by rfl)) <| sm 1 rfl <| cE rfl (ocr (sc_cell0 u (mCost s) _ a0 ha0) ent91 rfl (fun _ _ h => h) rfl (fun k (h : _) => .inr h) rfl rfl) <| nL ?_
   refine tC rfl (fun hc66 => ?_) fun hc66 => ?_
   ·cases hc66
   refine tSk <| tQ <| tG <| sm 1 rfl <| nL <| tRt <| rOk rfl rfl (po2 rfl rfl)
  refine tQ <| tG <| sm 2 rfl <| nL ?_
  refine tC rfl (fun hc79 => ?_) fun hc79 => ?_
  ·obtain ⟨a0, h0, ha0, rfl⟩ := mSum_store hu h hc79
   have hi0 := map_get (f := eInt) h0
   refine tQ <| tG <| sm 3 rfl <| cV rfl (iSq rfl rfl rfl uT35 hi0 tS3 rfl (by rfl)) <| sm 1 rfl <| cE rfl (ocr (sc_cell0 u (mCost s) _ a0 ha0) ent91 rfl (fun _ _ h => h) rfl (fun k (h : _) => .inr h) rfl rfl) <| nL ?_
   refine tC rfl (fun hc86 => ?_) fun hc86 => ?_
   ·cases hc86
   refine tSk <| tQ <| tG <| sm 1 rfl <| nL <| tRt <| rOk rfl rfl (po2 rfl rfl)
  refine tQ <| tG <| sm 2 rfl <| nL ?_
  refine tC rfl (fun hc101 => ?_) fun hc101 => ?_
  ·have hcall := mSum_call h hc101
   refine tQ <| tDr mixed (fun k => k ∈ ([] : List Nat)) <| wR 4 [0, 1, 2, 3, 5, 6, 8] (by kernel_rfl) (fun _ _ _ h => h) <| smR 2 rfl <| rV rfl rfl (nCk rfl rfl rfl) <| smR 4 rfl <| nR <| wO 4 (by kernel_rfl) <| wI rfl rfl nf nw (fun _ _ => OkV.ok (R1 := fun _ => True) ((lBP rfl rfl rfl uT25 rfl tS25 (lb rfl) rfl trivial))) <| wO 7 (by kernel_rfl) <| wI rfl rfl nf nw (fun _ _ => ocq (sc_r8Place _ _) ent30 rfl rfl) <| wO 9 (by kernel_rfl) ?_
   refine wI rfl rfl nf (nAp rfl) (fun _ _ => ocr (ihC d (by omega) _ a (mCost s) r hcall) ent29 rfl (fun _ _ h => h) rfl nl rfl rfl) <| wR 0 [10] (by kernel_rfl) (fun _ _ _ h => h) <| smR 1 rfl <| nR <| wDn (by kernel_rfl) <| tRt <| rOk rfl ?_ (po2 rfl rfl)
   rfl
  refine tQ <| tG <| sm 2 rfl <| nL ?_
  refine tC rfl (fun hc113 => ?_) fun hc113 => ?_
  ·obtain ⟨a0, h0, hol, rfl⟩ := mSum_print h hc113
   have hi0 := map_get (f := eInt) h0
   have hol2 : (mCost s).out.length < 1073741824 := hol
   refine tDr mixed (fun k => k ∈ ([] : List Nat)) <| wR 7 [0, 1, 2, 3, 4, 6, 7, 8] (by kernel_rfl) (fun _ _ _ h => h) <| smR 2 rfl <| rV rfl rfl (nCk rfl rfl rfl) <| smR 3 rfl <| rV rfl rfl (iSq rfl rfl rfl uT35 hi0 tS3 rfl (by rfl)) <| smR 1 rfl <| nR <| WA.all (rs := [5, 9]) (by kernel_rfl) (by simp) ?_
   refine fmc ⟨?_, fmc ⟨?_, by simp⟩⟩
   ·refine wI rfl rfl nf nw (fun _ _ => OkV.ok (R1 := fun _ => True) ((ok_load_box rfl rfl rfl uT35 rfl rfl trivial))) <| wO 9 (by kernel_rfl) <| wI rfl rfl nf nw (fun _ _ => bSl rfl rfl uT35 tZ3 tS3 rfl rfl rfl rfl (fbk rfl) rfl) <| wO 10 (by kernel_rfl) ?_
    refine wI rfl rfl nf (nOl rfl) (fun _ _ => aPp rfl rfl rfl rfl (by rfl) (by simp) uT35 tB3 (by decide) (by (simp [chunks]; done)) (by (simp [chunks, PV.one]; rfl)) (by simp [maxLen, chunks]; omega) (by simp [chunks]; omega)) ?_
    refine wR 1 [11, 12, 13] (by kernel_rfl) (fun _ _ _ h => h) <| rV rfl rfl (nCk rfl rfl rfl) <| smR 2 rfl <| nR <| wO 14 (by kernel_rfl) <| wI rfl rfl nf (nOl rfl) (fun _ _ => sBx rfl rfl rfl rfl (by simp) tS35 (⟨_, _, rfl, by simp⟩) (lb rfl)) <| wDn (by kernel_rfl) <| tQ <| tG <| sm 1 rfl <| nL <| tRt <| rOk rfl rfl (post_ok (And.intro (congrArg (fun z => some (HO.box z)) (by simp [chunks, eInt, mCost])) (And.intro (congrArg (fun z => some (HO.row _ z)) (by simp [chunks, eInt, mCost])) trivial)))
   refine wI rfl rfl nf nw (fun _ _ => bSl rfl rfl uT35 tZ3 tS3 rfl rfl rfl rfl (fbk rfl) rfl) <| wO 5 (by kernel_rfl) <| wI rfl rfl nf nw (fun _ _ => OkV.ok (R1 := fun _ => True) ((ok_load_box rfl rfl rfl uT35 rfl rfl trivial))) <| wO 10 (by kernel_rfl) ?_
   refine wI rfl rfl nf (nOl rfl) (fun _ _ => aPp rfl rfl rfl rfl (by rfl) (by simp) uT35 tB3 (by decide) (by (simp [chunks]; done)) (by (simp [chunks, PV.one]; rfl)) (by simp [maxLen, chunks]; omega) (by simp [chunks]; omega)) ?_
   refine wR 1 [11, 12, 13] (by kernel_rfl) (fun _ _ _ h => h) <| rV rfl rfl (nCk rfl rfl rfl) <| smR 2 rfl <| nR <| wO 14 (by kernel_rfl) <| wI rfl rfl nf (nOl rfl) (fun _ _ => sBx rfl rfl rfl rfl (by simp) tS35 (⟨_, _, rfl, by simp⟩) (lb rfl)) <| wDn (by kernel_rfl) <| tQ <| tG <| sm 1 rfl <| nL <| tRt <| rOk rfl rfl (post_ok (And.intro (congrArg (fun z => some (HO.box z)) (by simp [chunks, eInt, mCost])) (And.intro (congrArg (fun z => some (HO.row _ z)) (by simp [chunks, eInt, mCost])) trivial)))
  refine tQ <| tG <| sm 2 rfl <| nL ?_
  refine tC rfl (fun hc129 => ?_) fun hc129 => ?_
  ·have hrd := mSum_read h hc129
   refine tQ <| tQ <| tG <| sm 1 rfl <| cV rfl (nCk rfl rfl rfl) <| sm 2 rfl <| cV rfl (oSm uT35 rfl) <| sm 1 rfl <| nL ?_
   refine tC rfl (fun hc136 => ?_) fun hc136 => ?_
   ·obtain ⟨hin, rfl⟩ : s.ins = [] ∧ r = (0, { mCost s with st := 4 }) := by
      rcases hrd with h1 | ⟨y, q, h1, _⟩
      ·exact h1
      simp [mCost, h1] at hc136
      omega
    refine tQ <| tG <| sm 1 rfl <| cV rfl (nCk rfl rfl rfl) <| sm 2 rfl <| c0 (sBx rfl rfl rfl rfl ((fun h => h)) tS3 (rfl) (lb rfl)) <| nL <| tQ <| tG <| sm 1 rfl <| nL <| tRt <| rOk rfl ?_ (po2 rfl rfl)
    rfl
   obtain ⟨y, q, hin, rfl⟩ : ∃ y q, s.ins = y :: q ∧ r = (y, { mCost s with ins := q }) := by
     rcases hrd with ⟨h1, _⟩ | h1
     ·simp [mCost, h1] at hc136
     exact h1
   have hil : (mCost s).ins = y :: q := hin
   have hi0 : ((mCost s).ins.map eInt)[0]? = some (eInt y) := by show (s.ins.map eInt)[0]? = _; rw [hin]; rfl
   refine tSk <| tQ <| tG <| sm 1 rfl <| cV rfl (nCk rfl rfl rfl) <| sm 2 rfl <| cV rfl (iSq rfl rfl rfl uT35 hi0 tS3 rfl (by rfl)) <| sm 2 rfl <| nL <| tQ <| tG <| sm 2 rfl ?_
   refine cV rfl (nCk rfl rfl rfl) <| sm 2 rfl ?_
   refine cV rfl (ok_slice_seq (i := 1) (j := (y :: q).length) rfl (show _ = some (IV.pv (ints (mCost s).ins)) from rfl) uT35 tS3 (.inr ⟨_, _, rfl, rfl⟩) (.inl ⟨rfl, by simp [hil]⟩) (by simp) (by simp [hil]) hw_int) ?_
   refine cV rfl (nCk rfl rfl rfl) <| sm 1 rfl <| c0 (sBx rfl rfl rfl rfl ((fun h => h)) tS35 (rfl) (lb rfl)) <| nL <| tQ <| tG <| sm 2 rfl <| nL <| tRt <| rOk rfl rfl (post_ok (And.intro (congrArg (fun z => some (HO.box z)) (by (simp [hil, ints, List.take_of_length_le]; done))) (And.intro rfl trivial)))
  obtain rfl := mSum_else h hc30 hc38 hc59 hc79 hc101 hc113 hc129
  refine tSk <| tQ <| tG <| sm 1 rfl <| nL <| tRt <| rOk rfl rfl (po2 rfl rfl)
theorem end_nil : PSub (.agg [vInt 0, .val (.slice none 0 0)]) (endv (0, [])) := PSub.agg (ps := [vInt 0, .val (.slice none 0 0)]) (qs := [vInt 0, .seq []]) (And.intro (PSub.refl _) (And.intro PSub.nil trivial))
theorem sc_loop (u : Un) (D : Nat) (ihL : SCL u D) (d : Nat) (hd : d ≤ D) (x : Nd) (hx : ndW x ≤ 1073741824) (v a : List Int) (s : Rs) (r : Rres) (h : mLoop u d x v a s = some r) : SC Tryz.prog 68 [.ptr 1001 0, .pv (ndv x), .sl 510 (v.map eInt).length, .pv (ints a)] (runV u s v) (fun _ => False) (.pv (endv r.1)) (runV u r.2.2 r.2.1) := by
  refine SC.ofC Tryz.func68 rfl (lb rfl) rfl fun F ρ w => ?_
  refine tQ <| tG <| cE rfl (ok_box rfl rfl) <| cE rfl (aLc (k := 108) rfl tZ85 rfl rfl rfl rfl) <| nL <| tBk <| Tr.sub (Sub.of (fr' := [(8, .ptr 108 0), (5, .pv (.ept [vInt x.kind, vInt x.op, vInt x.n, vStr x.name, ints x.args, ints x.outs, ints x.params, kids x.kids] 0)), (0, .ptr 1001 0), (2, .sl 510 (v.map eInt).length), (3, .pv (ints a))]) ⟨rfl, rfl, rfl, rfl, rfl, trivial⟩) <| Tr.heap (σ' := look [(108, some (.box [iInt 0, .pv (.val (.slice none 0 0))])), (1001, some (runBox u s)), (1002, some (rowI (s).out)), (510, some (rowI v))]) (lkq [108, 1001, 1002, 510] rfl rfl ⟨rfl, rfl, rfl, rfl, trivial⟩) ?_
  refine Tr.loop (fun fr σ m => ∃ (d0 : Nat) (v1 : List Int) (a1 : List Int) (s1 : Rs), (d0 ≤ d) ∧ (mLoop u d0 x v1 a1 s1 = some r) ∧ ((v1.map eInt).length = (v.map eInt).length) ∧ fr = [(8, .ptr 108 0), (5, .pv (.ept [vInt x.kind, vInt x.op, vInt x.n, vStr x.name, ints x.args, ints x.outs, ints x.params, kids x.kids] 0)), (0, .ptr 1001 0), (2, .sl 510 (v.map eInt).length), (3, .pv (ints a1))] ∧ σ = look [(108, some (.box [iInt 0, .pv (.val (.slice none 0 0))])), (1001, some (runBox u s1)), (1002, some (rowI (s1).out)), (510, some (rowI v1))] ∧ m = d0) (n := d) ?_ ?_
  ·exact ⟨d, v, a, s, Nat.le_refl _, h, rfl, rfl, rfl, rfl⟩
  rintro fr σ m ⟨d0, v1, a1, s1, hI0, hI1, hI2, rfl, rfl, rfl⟩
  obtain ⟨d1, v2, q, r1, rfl, hset, hq, hlist, hrest⟩ := mLoop_step hI1
  have hi0 := map_get (f := eKid) hq
  have hqb : lsW q ≤ 1073741824 := by have := kdW_mem (List.mem_of_getElem? hq); have := ndW_eq x; omega
  have hl2 : (v2.map eInt).length = (v.map eInt).length := by rw [← hI2]; simp [mSet_len hset]
  have hl3 : (r1.2.1.map eInt).length = (v.map eInt).length := by rw [← hl2]; simp [mList_len hlist]
  refine tBk <| tQ <| tG <| sm 4 rfl <| cE rfl (cRr (sc_set v1 x.params a1 v2 hset) ent67 rfl rfl (sSm (congrArg (fun n => IV.sl 510 n) hI2.symm) (sRf _ _)) (po1 rfl) (by rfl) (fun k (h : _) => .inr h) rfl (by rfl)) <| nL <| tQ <| Tr.heap (σ' := look [(108, some (.box [iInt 0, .pv (.val (.slice none 0 0))])), (1001, some (runBox u s1)), (1002, some (rowI (s1).out)), (510, some (rowI v2))]) (lkq [108, 1001, 1002, 510] rfl rfl ⟨rfl, rfl, rfl, rfl, trivial⟩) <| tG <| sm 3 rfl <| cV rfl (iSq rfl rfl rfl uT41 hi0 tS44 rfl (by rfl)) <| sm 2 rfl ?_
  refine cE rfl (cRr (ihL d1 (by omega) q v2 s1 r1 hlist hqb) ent45 rfl rfl (sSm rfl (sSm rfl (sSm (congrArg (fun n => IV.sl 510 n) hl2.symm) Subs.nil))) (po3 rfl rfl rfl) (by rfl) (fun k (h : _) => .inr h) rfl (by rfl)) <| cE rfl (aLc (k := 109) rfl tZ85 rfl rfl rfl rfl) <| c0 (sBA rfl rfl rfl rfl rfl ((fun h => h)) tS85 (flk rfl) (lb rfl)) <| nL <| tQ <| tBk <| tQ <| Tr.freezeBox (t := 9) (k := 109) rfl rfl rfl <| Tr.heap (σ' := look [(108, some (.box [iInt 0, .pv (.val (.slice none 0 0))])), (1001, some (runBox u r1.2.2)), (1002, some (rowI (r1.2.2).out)), (510, some (rowI r1.2.1))]) (lkq [109, 108, 1001, 1002, 510] rfl rfl ⟨rfl, rfl, rfl, rfl, rfl, trivial⟩) <| tG <| sm 1 rfl <| cE rfl (ocr (sc_over u r1.2.2) ent31 rfl (po2 rfl rfl) rfl (fun k (h : _) => .inr trivial) rfl rfl) ?_
  refine sm 1 rfl ?_
  refine wS 25 rfl (fun hb25 => ?_) fun hb25 => ?_
  ·refine sm 5 rfl <| nL <| Tr.condT rfl <| tQ <| tG <| cV rfl (lEA rfl rfl Tryz.underlying85 rfl tS85 (lb rfl)) <| c0 (sBA rfl rfl rfl rfl rfl ((fun h => h)) tS85 (flk rfl) (lb rfl)) <| nL <| tRt ?_
   have hov : (mOver r1.2.2 || r1.1.1 == 15) = true := by first | (rw [hb25]; rfl) | (rw [hc22, Bool.or_true])
   rw [if_pos hov] at hrest
   obtain rfl : r1 = r := by injection hrest
   refine rCk (.inl rfl) (fun _ _ ho => lBP ho rfl rfl Tryz.underlying85 rfl tS85 (lb rfl) rfl trivial) rfl (po3 rfl rfl rfl)
  refine sm 5 rfl <| nL ?_
  refine tC rfl (fun hc22 => ?_) fun hc22 => ?_
  ·refine tQ <| tG <| cV rfl (lEA rfl rfl Tryz.underlying85 rfl tS85 (lb rfl)) <| c0 (sBA rfl rfl rfl rfl rfl ((fun h => h)) tS85 (flk rfl) (lb rfl)) <| nL <| tRt ?_
   have hov : (mOver r1.2.2 || r1.1.1 == 15) = true := by first | (rw [hb25]; rfl) | (rw [hc22, Bool.or_true])
   rw [if_pos hov] at hrest
   obtain rfl : r1 = r := by injection hrest
   refine rCk (.inl rfl) (fun _ _ ho => lBP ho rfl rfl Tryz.underlying85 rfl tS85 (lb rfl) rfl trivial) rfl (po3 rfl rfl rfl)
  rw [if_neg (by rw [hb25, hc22]; decide)] at hrest
  refine tQ <| tG <| sm 4 rfl <| nL ?_
  refine tC rfl (fun hc31 => ?_) fun hc31 => ?_
  ·rw [if_pos hc31, Option.map_eq_some_iff] at hrest
   obtain ⟨v3, hset2, rfl⟩ := hrest
   refine tQ <| tG <| sm 5 rfl <| cE rfl (cRr (sc_set r1.2.1 x.outs r1.1.2 v3 hset2) ent67 rfl rfl (sSm (congrArg (fun n => IV.sl 510 n) hl3.symm) (sRf _ _)) (po1 rfl) (by rfl) (fun k (h : _) => .inr h) rfl (by rfl)) <| nL <| tQ <| tG <| cV rfl (bPu rfl rfl tZ85 tP85 rfl (fbk rfl) rfl) <| WL.sub (Sub.cons2 (fun _ _ _ _ h => sub_pv end_nil h) Sub.rfl') <| c0 (sBA rfl rfl rfl rfl rfl ((fun h => h)) tS85 (flk rfl) (lb rfl)) <| nL <| tRt <| rCk (.inl rfl) (fun _ _ ho => lBP ho rfl rfl Tryz.underlying85 rfl tS85 (lb rfl) rfl trivial) rfl (po3 rfl rfl rfl)
  rw [if_neg (by rw [hc31]; decide)] at hrest
  have hrest3 := hrest
  refine tSk <| tG <| sm 3 rfl <| nL ?_
  refine ⟨_, _, ?_, Sub.of (fr' := [(8, .ptr 108 0), (5, .pv (.ept [vInt x.kind, vInt x.op, vInt x.n, vStr x.name, ints x.args, ints x.outs, ints x.params, kids x.kids] 0)), (0, .ptr 1001 0), (2, .sl 510 (v.map eInt).length), (3, .pv (ints r1.1.2))]) ⟨rfl, rfl, rfl, rfl, rfl, trivial⟩, d1, r1.2.1, r1.1.2, r1.2.2, ?_, ?_, ?_, rfl, (funext (lkq [108, 1001, 1002, 510] rfl rfl ⟨rfl, rfl, rfl, rfl, trivial⟩)), rfl⟩
  ·omega
  ·omega
  ·exact hrest3
  exact hl3
theorem mList_nil {u : Un} {d : Nat} {v : List Int} {s : Rs} {r : Rres} (h : mList u d [] v s = some r) : r = ((0, []), v, s) := by
  cases d with
  | zero => simp [mList] at h
  | succ d => simp only [mList] at h; cases h; rfl
theorem sc_list0 (u : Un) (hu : u.arrays = []) (D : Nat) (ihC : SCC u D) (ihL : SCL u D) (d : Nat) (hd : d ≤ D) (l : List Nd) (v : List Int) (s : Rs) (r : Rres) (h : mList u d l v s = some r) (hb : lsW l ≤ 1073741824) : SC Tryz.prog 45 [.ptr 1001 0, .pv (nodes l), .sl 510 (v.map eInt).length] (runV u s v) (fun _ => False) (.pv (endv r.1)) (runV u r.2.2 r.2.1) := by
  refine SC.ofC Tryz.func45 rfl (lb rfl) rfl fun F ρ w => ?_
  refine Tr.lenOf (t := 1) rfl (fun hl => ?_)
  simp only [List.length_map] at hl
  refine tQ <| tG <| cE rfl (aLc (k := 106) rfl tZ85 rfl rfl rfl rfl) <| nL <| tQ <| tQ <| Tr.subBox (k := 106) [.pv (vInt 0), .pv (ints [])] rfl ⟨ISub.refl _, ISub.pv PSub.nil, trivial⟩ (fun h => h) <| tG <| sm 1 rfl <| nL <| tBk <| Tr.sub (Sub.of (fr' := [(7, iInt 0), (6, .ptr 106 0), (0, .ptr 1001 0), (1, .pv (nodes l)), (2, .sl 510 (v.map eInt).length)]) ⟨rfl, rfl, rfl, rfl, rfl, trivial⟩) ?_
  refine Tr.heap (σ' := look [(106, some (.box [.pv (vInt 0), .pv (ints [])])), (1001, some (runBox u s)), (1002, some (rowI (s).out)), (510, some (rowI v))]) (lkq [106, 1001, 1002, 510] rfl rfl ⟨rfl, rfl, rfl, rfl, trivial⟩) ?_
  refine Tr.loop (fun fr σ m => ∃ (k : Nat) (d0 : Nat) (v1 : List Int) (s1 : Rs), (k ≤ l.length) ∧ (d0 ≤ d) ∧ (mList u d0 (l.drop k) v1 s1 = some r) ∧ ((v1.map eInt).length = (v.map eInt).length) ∧ fr = [(7, iInt k), (6, .ptr 106 0), (0, .ptr 1001 0), (1, .pv (nodes l)), (2, .sl 510 (v.map eInt).length)] ∧ σ = look [(106, some (.box [.pv (vInt 0), .pv (ints [])])), (1001, some (runBox u s1)), (1002, some (rowI (s1).out)), (510, some (rowI v1))] ∧ m = l.length - k) (n := l.length - 0) ?_ ?_
  ·exact ⟨0, d, v, s, Nat.zero_le _, Nat.le_refl _, h, rfl, rfl, rfl, rfl⟩
  rintro fr σ m ⟨k, d0, v1, s1, hIk, hI1, hI2, hI3, rfl, rfl, rfl⟩
  refine tQ <| tQ <| tG <| sm 2 rfl <| cV rfl (oSm uT44 rfl) <| sm 1 rfl <| nL ?_
  refine tC rfl (fun hc16 => ?_) fun hc16 => ?_
  ·have hlt : k < l.length := by simpa using hc16
   have hd2 := List.drop_eq_getElem_cons hlt
   have hm := List.getElem_mem hlt
   have hi := nodes_get (List.getElem?_eq_getElem hlt)
   generalize l[k] = x at hd2 hm hi
   rw [hd2] at hI2
   obtain ⟨s2, hs2⟩ : ∃ s2, (mStep s1).2 = s2 := ⟨_, rfl⟩
   obtain ⟨d1, rfl, hst⟩ := mList_step hs2 hI2
   have hxb : ndW x ≤ 1073741824 := by have := ndW_mem hm; omega
   refine tSk <| tQ <| tBk <| tQ <| tG <| sm 2 rfl <| cV rfl (iSq rfl rfl rfl uT44 hi tS43 rfl (by rfl)) <| cV rfl (lEA rfl rfl uT43 rfl tS43 (lb rfl)) <| cE rfl (aLc (k := 108) rfl tZ43 rfl rfl rfl rfl) <| c0 (sBA rfl rfl rfl rfl rfl ((fun h => h)) tS43 (flk rfl) (lb rfl)) <| nL <| tQ ?_
   refine tQ <| Tr.freezeBox (t := 8) (k := 108) rfl rfl rfl <| Tr.heap (σ' := look [(106, some (.box [.pv (vInt 0), .pv (ints [])])), (1001, some (runBox u s1)), (1002, some (rowI (s1).out)), (510, some (rowI v1))]) (lkq [108, 106, 1001, 1002, 510] rfl rfl ⟨rfl, rfl, rfl, rfl, rfl, trivial⟩) <| tG <| sm 1 rfl <| cE rfl (ocr (sc_step u s1) ent65 rfl (po2 rfl rfl) rfl (fun k (h : _) => .inr h) rfl rfl) ?_
   rw [hs2]
   refine sm 1 rfl <| nL ?_
   refine tC rfl (fun hc25 => ?_) fun hc25 => ?_
   ·refine tQ <| tG <| cV rfl (bPu rfl rfl tZ85 tP85 rfl (fbk rfl) rfl) <| WL.sub (Sub.cons2 (fun _ _ _ _ h => sub_pv end_nil h) Sub.rfl') <| c0 (sBA rfl rfl rfl rfl rfl ((fun h => h)) tS85 (flk rfl) (lb rfl)) <| nL <| tRt ?_
    obtain rfl : r = ((0, []), v1, s2) := by
      rcases hst with ⟨_, e⟩ | ⟨e, _⟩
      ·exact e
      rw [e] at hc25; exact absurd hc25 (by decide)
    refine rCk (.inl rfl) (fun _ _ ho => lBP ho rfl rfl Tryz.underlying85 rfl tS85 (lb rfl) rfl trivial) rfl (po3 rfl rfl rfl)
   obtain ⟨hst1, a, r1, hof, hnode, hrest⟩ := hst.resolve_left (fun hh => by rw [hh.1] at hc25; exact absurd hc25 (by decide))
   have hl1 : (r1.2.1.map eInt).length = (v.map eInt).length := by
     have := mNode_len (fun _ _ _ _ h => (mLL_len u d1).1 _ _ _ _ h) (fun _ _ _ _ _ h => (mLL_len u d1).2 _ _ _ _ _ h) hnode
     rw [← hI3, List.length_map, List.length_map, this]
   refine Tr.heap (σ' := look [(106, some (.box [.pv (vInt 0), .pv (ints [])])), (1001, some (runBox u s2)), (1002, some (rowI (s2).out)), (510, some (rowI v1))]) (lkq [106, 1001, 1002, 510] rfl rfl ⟨rfl, rfl, rfl, rfl, trivial⟩) <| tSk <| tQ <| tG <| sm 3 rfl <| cE rfl (cRr (sc_of v1 x.args a hof (by have := ndW_eq x; omega)) ent66 rfl rfl (sSm (congrArg (fun n => IV.sl 510 n) hI3.symm) (sRf _ _)) (po1 rfl) (by rfl) (fun k (h : _) => (show False from h).elim) rfl (by rfl)) <| sm 1 rfl <| nL <| tQ <| tG <| cE rfl (aLc (k := 110) rfl tZ85 rfl rfl rfl rfl) <| nL ?_
   refine tQ <| tQ <| Tr.subBox (k := 110) [.pv (vInt 0), .pv (ints [])] rfl ⟨ISub.refl _, ISub.pv PSub.nil, trivial⟩ (fun h => h) <| Tr.heap (σ' := look [(110, some (.box [.pv (vInt (((0, []) : Rend)).1), .pv (ints (((0, []) : Rend)).2)])), (106, some (.box [.pv (vInt 0), .pv (ints [])])), (1001, some (runBox u s2)), (1002, some (rowI (s2).out)), (510, some (rowI v1))]) (lkq [110, 106, 1001, 1002, 510] rfl rfl ⟨rfl, rfl, rfl, rfl, rfl, trivial⟩) <| tG <| sm 2 rfl <| nL ?_
   refine Tr.cutR (fr' := [(10, .ptr 110 0), (7, iInt k), (6, .ptr 106 0), (0, .ptr 1001 0), (1, .pv (nodes l)), (2, .sl 510 (v.map eInt).length)]) (σ' := look [(110, some (.box [.pv (vInt (r1.1).1), .pv (ints (r1.1).2)])), (106, some (.box [.pv (vInt 0), .pv (ints [])])), (1001, some (runBox u r1.2.2)), (1002, some (rowI (r1.2.2).out)), (510, some (rowI r1.2.1))]) ?_ ?_
   ·refine tBk <| tQ <| tQ <| tG <| sm 2 rfl <| nL ?_
    refine tC rfl (fun hc53 => ?_) fun hc53 => ?_
    ·refine tSk ?_
     refine tC rfl (fun hd53 => ?_) fun hd53 => ?_
     ·have hk : (x.kind == 1 || x.kind == 2) = true := by first | (rw [hc53]; rfl) | (rw [hc53, Bool.or_true])
      obtain ⟨o, v2, ho, hv0, rfl⟩ := mNode_set hnode hk
      obtain ⟨hx0, hxl, hv2⟩ := setV_some hv0
      obtain ⟨z0, hxg⟩ := row_at hxl
      have hi2 := map_get (f := eInt) ho
      have hxl2 : o.toNat < (v.map eInt).length := by rw [← hI3]; exact hxl
      refine tDr mixed (fun k => k ∈ ([] : List Nat)) <| wR 1 [0, 1, 2, 3, 4, 5, 6, 7] (by kernel_rfl) (fun _ _ _ h => h.elim (fun g => pn g.1) (fun g => g.2)) <| smR 3 rfl <| rV rfl rfl (iSq rfl rfl rfl uT35 hi2 tS3 rfl (by rfl)) <| smR 3 rfl <| rV rfl rfl (iRw rfl rfl rfl rfl hI3 uT35 tS3 hxl2 (by omega)) <| nR <| wO 8 (by kernel_rfl) <| wI rfl rfl nf (nOl rfl) (fun _ _ => ok_store_row rfl rfl rfl rfl hI3 (Nat.add_zero _).symm hxg (by simp) tS3 rfl (by simp)) <| wDn (by kernel_rfl) <| Or.inl ?_
      refine ⟨rfl, Sub.of ⟨rfl, rfl, rfl, rfl, rfl, rfl, trivial⟩, funext (lkq [110, 106, 1001, 1002, 510] rfl rfl ⟨rfl, rfl, rfl, rfl, (by first | rfl | exact congrArg (fun z => some (HO.row _ z)) (by rw [hv2]; exact set_row _ _ _ _ hxg)), trivial⟩)⟩
     exact absurd (hc53.symm.trans hd53) (by decide)
    have hk1 := hc53
    refine tG <| sm 2 rfl <| nL ?_
    refine tC rfl (fun hc53 => ?_) fun hc53 => ?_
    ·have hk : (x.kind == 1 || x.kind == 2) = true := by first | (rw [hc53]; rfl) | (rw [hc53, Bool.or_true])
     obtain ⟨o, v2, ho, hv0, rfl⟩ := mNode_set hnode hk
     obtain ⟨hx0, hxl, hv2⟩ := setV_some hv0
     obtain ⟨z0, hxg⟩ := row_at hxl
     have hi2 := map_get (f := eInt) ho
     have hxl2 : o.toNat < (v.map eInt).length := by rw [← hI3]; exact hxl
     refine tDr mixed (fun k => k ∈ ([] : List Nat)) <| wR 1 [0, 1, 2, 3, 4, 5, 6, 7] (by kernel_rfl) (fun _ _ _ h => h.elim (fun g => pn g.1) (fun g => g.2)) <| smR 3 rfl <| rV rfl rfl (iSq rfl rfl rfl uT35 hi2 tS3 rfl (by rfl)) <| smR 3 rfl <| rV rfl rfl (iRw rfl rfl rfl rfl hI3 uT35 tS3 hxl2 (by omega)) <| nR <| wO 8 (by kernel_rfl) <| wI rfl rfl nf (nOl rfl) (fun _ _ => ok_store_row rfl rfl rfl rfl hI3 (Nat.add_zero _).symm hxg (by simp) tS3 rfl (by simp)) <| wDn (by kernel_rfl) <| Or.inl ?_
     refine ⟨rfl, Sub.of ⟨rfl, rfl, rfl, rfl, rfl, rfl, trivial⟩, funext (lkq [110, 106, 1001, 1002, 510] rfl rfl ⟨rfl, rfl, rfl, rfl, (by first | rfl | exact congrArg (fun z => some (HO.row _ z)) (by rw [hv2]; exact set_row _ _ _ _ hxg)), trivial⟩)⟩
    refine tQ <| tQ ?_
    have hk12 : (x.kind == 1 || x.kind == 2) = false := by rw [hk1, hc53]; rfl
    refine tG <| sm 2 rfl <| nL ?_
    refine tC rfl (fun hc64 => ?_) fun hc64 => ?_
    ·refine tSk ?_
     refine tC rfl (fun hd64 => ?_) fun hd64 => ?_
     ·refine tQ ?_
      have hke : (x.kind == 12 || x.kind == 13 || x.kind == 14 || x.kind == 15) = true := by simp only [hc64, Bool.or_true, Bool.true_or]
      obtain rfl := mNode_end hnode hke
      have hne : (x.kind != 0) = true := by rw [eq_of_beq hc64]; rfl
      simp only [hne, Bool.or_true, if_true] at hrest
      cases hrest
      refine tG <| sm 3 rfl <| cV rfl (bPu rfl rfl tZ85 tP85 rfl (fbk rfl) rfl) <| c0 (sBA rfl rfl rfl rfl rfl ((fun h => h)) tS85 (flk rfl) (lb rfl)) <| nL <| tRt ?_
      refine Or.inr ⟨Exit.noConfusion, ?_⟩
      refine rCk (.inl rfl) (fun _ _ ho => lBP ho rfl rfl Tryz.underlying85 rfl tS85 (lb rfl) rfl trivial) rfl (po3 rfl rfl rfl)
     exact absurd (hc64.symm.trans hd64) (by decide)
    refine tQ ?_
    have hk3 := hc64
    refine tG <| sm 2 rfl <| nL ?_
    refine tC rfl (fun hc64 => ?_) fun hc64 => ?_
    ·refine tSk ?_
     refine tC rfl (fun hd64 => ?_) fun hd64 => ?_
     ·refine tQ ?_
      have hke : (x.kind == 12 || x.kind == 13 || x.kind == 14 || x.kind == 15) = true := by simp only [hc64, Bool.or_true, Bool.true_or]
      obtain rfl := mNode_end hnode hke
      have hne : (x.kind != 0) = true := by rw [eq_of_beq hc64]; rfl
      simp only [hne, Bool.or_true, if_true] at hrest
      cases hrest
      refine tG <| sm 3 rfl <| cV rfl (bPu rfl rfl tZ85 tP85 rfl (fbk rfl) rfl) <| c0 (sBA rfl rfl rfl rfl rfl ((fun h => h)) tS85 (flk rfl) (lb rfl)) <| nL <| tRt ?_
      refine Or.inr ⟨Exit.noConfusion, ?_⟩
      refine rCk (.inl rfl) (fun _ _ ho => lBP ho rfl rfl Tryz.underlying85 rfl tS85 (lb rfl) rfl trivial) rfl (po3 rfl rfl rfl)
     exact absurd (hc64.symm.trans hd64) (by decide)
    refine tQ ?_
    have hk4 := hc64
    refine tG <| sm 2 rfl <| nL ?_
    refine tC rfl (fun hc64 => ?_) fun hc64 => ?_
    ·refine tSk ?_
     refine tC rfl (fun hd64 => ?_) fun hd64 => ?_
     ·refine tQ ?_
      have hke : (x.kind == 12 || x.kind == 13 || x.kind == 14 || x.kind == 15) = true := by simp only [hc64, Bool.or_true, Bool.true_or]
      obtain rfl := mNode_end hnode hke
      have hne : (x.kind != 0) = true := by rw [eq_of_beq hc64]; rfl
      simp only [hne, Bool.or_true, if_true] at hrest
      cases hrest
      refine tG <| sm 3 rfl <| cV rfl (bPu rfl rfl tZ85 tP85 rfl (fbk rfl) rfl) <| c0 (sBA rfl rfl rfl rfl rfl ((fun h => h)) tS85 (flk rfl) (lb rfl)) <| nL <| tRt ?_
      refine Or.inr ⟨Exit.noConfusion, ?_⟩
      refine rCk (.inl rfl) (fun _ _ ho => lBP ho rfl rfl Tryz.underlying85 rfl tS85 (lb rfl) rfl trivial) rfl (po3 rfl rfl rfl)
     exact absurd (hc64.symm.trans hd64) (by decide)
    have hk5 := hc64
    refine tG <| sm 2 rfl <| nL ?_
    refine tC rfl (fun hc64 => ?_) fun hc64 => ?_
    ·refine tQ ?_
     have hke : (x.kind == 12 || x.kind == 13 || x.kind == 14 || x.kind == 15) = true := by simp only [hc64, Bool.or_true, Bool.true_or]
     obtain rfl := mNode_end hnode hke
     have hne : (x.kind != 0) = true := by rw [eq_of_beq hc64]; rfl
     simp only [hne, Bool.or_true, if_true] at hrest
     cases hrest
     refine tG <| sm 3 rfl <| cV rfl (bPu rfl rfl tZ85 tP85 rfl (fbk rfl) rfl) <| c0 (sBA rfl rfl rfl rfl rfl ((fun h => h)) tS85 (flk rfl) (lb rfl)) <| nL <| tRt ?_
     refine Or.inr ⟨Exit.noConfusion, ?_⟩
     refine rCk (.inl rfl) (fun _ _ ho => lBP ho rfl rfl Tryz.underlying85 rfl tS85 (lb rfl) rfl trivial) rfl (po3 rfl rfl rfl)
    refine tQ ?_
    have hke : (x.kind == 12 || x.kind == 13 || x.kind == 14 || x.kind == 15) = false := by rw [hk3, hk4, hk5, hc64]; rfl
    refine tG <| sm 2 rfl <| nL ?_
    refine tC rfl (fun hc73 => ?_) fun hc73 => ?_
    ·refine tQ ?_
     obtain ⟨a0, q, r2, ha0, hq, hlist, hcont⟩ := mNode_if hnode hc73
     have hi0 := map_get (f := eInt) ha0
     have hl2 : (r2.2.1.map eInt).length = (v.map eInt).length := by rw [← hI3]; simp [mList_len hlist]
     refine tG <| sm 1 rfl <| nL <| tQ <| tQ <| tG <| sm 1 rfl <| cV rfl (iSq rfl rfl rfl uT35 hi0 tS3 rfl (by rfl)) <| sm 2 rfl <| nL ?_
     refine tC rfl (fun hc78 => ?_) fun hc78 => ?_
     ·rw [if_pos hc78] at hq
      have hi1 := map_get (f := eKid) hq
      have hqb : lsW q ≤ 1073741824 := by have := kdW_mem (List.mem_of_getElem? hq); have := ndW_eq x; omega
      refine tG <| sm 1 rfl <| nL <| tQ <| tG <| sm 4 rfl <| cV rfl (iSq rfl rfl rfl uT41 hi1 tS44 rfl (by rfl)) <| sm 2 rfl <| cE rfl (cRr (ihL d1 (by omega) q v1 s2 r2 hlist hqb) ent45 rfl rfl (sSm rfl (sSm rfl (sSm (congrArg (fun n => IV.sl 510 n) hI3.symm) Subs.nil))) (po3 rfl rfl rfl) (by rfl) (fun k (h : _) => .inr h) rfl (by rfl)) <| c0 (sBA rfl rfl rfl rfl rfl ((fun h => h)) tS85 (flk rfl) (lb rfl)) <| nL <| tQ ?_
      refine tG <| sm 1 rfl <| cE rfl (ocr (sc_over u r2.2.2) ent31 rfl (po2 rfl rfl) rfl (fun k (h : _) => .inr trivial) rfl rfl) <| sm 2 rfl ?_
      refine wS 90 rfl (fun hb90 => ?_) fun hb90 => ?_
      ·refine sm 4 rfl <| nL ?_
       refine tC rfl (fun hc94 => ?_) fun hc94 => ?_
       ·have hcd : (!mOver r2.2.2 && r2.1.1 == 12) = true := by rw [hb90, hc94]; rfl
        rw [if_pos hcd, Option.map_eq_some_iff] at hcont
        obtain ⟨v3, hset, rfl⟩ := hcont
        refine tQ <| tG <| sm 5 rfl <| cE rfl (cRr (sc_set r2.2.1 x.outs r2.1.2 v3 hset) ent67 rfl rfl (sSm (congrArg (fun n => IV.sl 510 n) hl2.symm) (sRf _ _)) (po1 rfl) (by rfl) (fun k (h : _) => .inr h) rfl (by rfl)) <| nL <| tG <| cV rfl (bPu rfl rfl tZ85 tP85 rfl (fbk rfl) rfl) <| WL.sub (Sub.cons2 (fun _ _ _ _ h => sub_pv end_nil h) Sub.rfl') <| c0 (sBA rfl rfl rfl rfl rfl ((fun h => h)) tS85 (flk rfl) (lb rfl)) <| nL <| Or.inl ?_
        refine ⟨rfl, Sub.of ⟨rfl, rfl, rfl, rfl, rfl, rfl, trivial⟩, funext (lkq [110, 106, 1001, 1002, 510] rfl rfl ⟨rfl, rfl, rfl, rfl, (by first | rfl | exact congrArg (fun z => some (HO.row _ z)) (by rw [hv2]; exact set_row _ _ _ _ hxg)), trivial⟩)⟩
       have hcd : (!mOver r2.2.2 && r2.1.1 == 12) = false := by first | (rw [hb90, hc94]; rfl) | (rw [hb90]; rfl)
       rw [if_neg (by rw [hcd]; decide)] at hcont
       cases hcont
       refine tSk <| Or.inl ?_
       refine ⟨rfl, Sub.of ⟨rfl, rfl, rfl, rfl, rfl, rfl, trivial⟩, funext (lkq [110, 106, 1001, 1002, 510] rfl rfl ⟨rfl, rfl, rfl, rfl, (by first | rfl | exact congrArg (fun z => some (HO.row _ z)) (by rw [hv2]; exact set_row _ _ _ _ hxg)), trivial⟩)⟩
      refine sm 4 rfl <| nL <| Tr.condF rfl ?_
      have hcd : (!mOver r2.2.2 && r2.1.1 == 12) = false := by first | (rw [hb90, hc94]; rfl) | (rw [hb90]; rfl)
      rw [if_neg (by rw [hcd]; decide)] at hcont
      cases hcont
      refine tSk <| Or.inl ?_
      refine ⟨rfl, Sub.of ⟨rfl, rfl, rfl, rfl, rfl, rfl, trivial⟩, funext (lkq [110, 106, 1001, 1002, 510] rfl rfl ⟨rfl, rfl, rfl, rfl, (by first | rfl | exact congrArg (fun z => some (HO.row _ z)) (by rw [hv2]; exact set_row _ _ _ _ hxg)), trivial⟩)⟩
     rw [if_neg (by rw [hc78]; decide)] at hq
     have hi1 := map_get (f := eKid) hq
     have hqb : lsW q ≤ 1073741824 := by have := kdW_mem (List.mem_of_getElem? hq); have := ndW_eq x; omega
     refine tSk <| tQ <| tG <| sm 4 rfl <| cV rfl (iSq rfl rfl rfl uT41 hi1 tS44 rfl (by rfl)) <| sm 2 rfl <| cE rfl (cRr (ihL d1 (by omega) q v1 s2 r2 hlist hqb) ent45 rfl rfl (sSm rfl (sSm rfl (sSm (congrArg (fun n => IV.sl 510 n) hI3.symm) Subs.nil))) (po3 rfl rfl rfl) (by rfl) (fun k (h : _) => .inr h) rfl (by rfl)) <| c0 (sBA rfl rfl rfl rfl rfl ((fun h => h)) tS85 (flk rfl) (lb rfl)) <| nL <| tQ <| tG <| sm 1 rfl ?_
     refine cE rfl (ocr (sc_over u r2.2.2) ent31 rfl (po2 rfl rfl) rfl (fun k (h : _) => .inr trivial) rfl rfl) <| sm 2 rfl ?_
     refine wS 90 rfl (fun hb90 => ?_) fun hb90 => ?_
     ·refine sm 4 rfl <| nL ?_
      refine tC rfl (fun hc94 => ?_) fun hc94 => ?_
      ·have hcd : (!mOver r2.2.2 && r2.1.1 == 12) = true := by rw [hb90, hc94]; rfl
       rw [if_pos hcd, Option.map_eq_some_iff] at hcont
       obtain ⟨v3, hset, rfl⟩ := hcont
       refine tQ <| tG <| sm 5 rfl <| cE rfl (cRr (sc_set r2.2.1 x.outs r2.1.2 v3 hset) ent67 rfl rfl (sSm (congrArg (fun n => IV.sl 510 n) hl2.symm) (sRf _ _)) (po1 rfl) (by rfl) (fun k (h : _) => .inr h) rfl (by rfl)) <| nL <| tG <| cV rfl (bPu rfl rfl tZ85 tP85 rfl (fbk rfl) rfl) <| WL.sub (Sub.cons2 (fun _ _ _ _ h => sub_pv end_nil h) Sub.rfl') <| c0 (sBA rfl rfl rfl rfl rfl ((fun h => h)) tS85 (flk rfl) (lb rfl)) <| nL <| Or.inl ?_
       refine ⟨rfl, Sub.of ⟨rfl, rfl, rfl, rfl, rfl, rfl, trivial⟩, funext (lkq [110, 106, 1001, 1002, 510] rfl rfl ⟨rfl, rfl, rfl, rfl, (by first | rfl | exact congrArg (fun z => some (HO.row _ z)) (by rw [hv2]; exact set_row _ _ _ _ hxg)), trivial⟩)⟩
      have hcd : (!mOver r2.2.2 && r2.1.1 == 12) = false := by first | (rw [hb90, hc94]; rfl) | (rw [hb90]; rfl)
      rw [if_neg (by rw [hcd]; decide)] at hcont
      cases hcont
      refine tSk <| Or.inl ?_
      refine ⟨rfl, Sub.of ⟨rfl, rfl, rfl, rfl, rfl, rfl, trivial⟩, funext (lkq [110, 106, 1001, 1002, 510] rfl rfl ⟨rfl, rfl, rfl, rfl, (by first | rfl | exact congrArg (fun z => some (HO.row _ z)) (by rw [hv2]; exact set_row _ _ _ _ hxg)), trivial⟩)⟩
     refine sm 4 rfl <| nL <| Tr.condF rfl ?_
     have hcd : (!mOver r2.2.2 && r2.1.1 == 12) = false := by first | (rw [hb90, hc94]; rfl) | (rw [hb90]; rfl)
     rw [if_neg (by rw [hcd]; decide)] at hcont
     cases hcont
     refine tSk <| Or.inl ?_
     refine ⟨rfl, Sub.of ⟨rfl, rfl, rfl, rfl, rfl, rfl, trivial⟩, funext (lkq [110, 106, 1001, 1002, 510] rfl rfl ⟨rfl, rfl, rfl, rfl, (by first | rfl | exact congrArg (fun z => some (HO.row _ z)) (by rw [hv2]; exact set_row _ _ _ _ hxg)), trivial⟩)⟩
    refine tQ ?_
    have hk10 := hc73
    refine tG <| sm 2 rfl <| nL ?_
    refine tC rfl (fun hc102 => ?_) fun hc102 => ?_
    ·have hlp := mNode_loop hnode hc102
     refine tG <| sm 1 rfl <| cV rfl (lEA rfl rfl uT43 rfl tS43 (lb rfl)) <| sm 2 rfl <| cE rfl (cRr (sc_loop u D ihL d1 (by omega) x hxb v1 a s2 r1 hlp) ent68 rfl rfl (sSm rfl (sSm rfl (sSm (congrArg (fun n => IV.sl 510 n) hI3.symm) (sRf _ _)))) (po3 rfl rfl rfl) (by rfl) (fun k (h : _) => .inr h) rfl (by rfl)) <| c0 (sBA rfl rfl rfl rfl rfl ((fun h => h)) tS85 (flk rfl) (lb rfl)) <| nL <| Or.inl ?_
     refine ⟨rfl, Sub.of ⟨rfl, rfl, rfl, rfl, rfl, rfl, trivial⟩, funext (lkq [110, 106, 1001, 1002, 510] rfl rfl ⟨rfl, rfl, rfl, rfl, (by first | rfl | exact congrArg (fun z => some (HO.row _ z)) (by rw [hv2]; exact set_row _ _ _ _ hxg)), trivial⟩)⟩
    refine tQ ?_
    obtain ⟨q1, hsum, hcont⟩ := mNode_sum hnode hk12 hke hk10 hc102
    refine tG <| sm 1 rfl <| cV rfl (lEA rfl rfl uT43 rfl tS43 (lb rfl)) <| sm 1 rfl <| cE rfl (ocr (sc_sum u hu D ihC d1 (by omega) x a s2 q1 hsum) ent69 rfl (po2 rfl rfl) rfl (fun k (h : _) => .inr h) rfl rfl) <| sm 1 rfl <| nL <| tQ <| tG <| sm 1 rfl <| cE rfl (ocr (sc_over u q1.2) ent31 rfl (po2 rfl rfl) rfl (fun k (h : _) => .inr trivial) rfl rfl) <| sm 2 rfl ?_
    refine wS 40 rfl (fun hb40 => ?_) fun hb40 => ?_
    ·refine sm 2 rfl <| yV rfl rfl (oSm uT35 rfl) <| sm 2 rfl <| nL ?_
     refine tC rfl (fun hc45 => ?_) fun hc45 => ?_
     ·have h0 : 0 < x.outs.length := by simpa using hc45
      rw [if_pos (by rw [hb40, decide_eq_true h0]; rfl)] at hcont
      simp only [Option.bind_eq_some_iff, Option.map_eq_some_iff] at hcont
      obtain ⟨o, ho, v2, hv0, rfl⟩ := hcont
      obtain ⟨hx0, hxl, hv2⟩ := setV_some hv0
      obtain ⟨z0, hxg⟩ := row_at hxl
      have hi2 := map_get (f := eInt) ho
      have hxl2 : o.toNat < (v.map eInt).length := by rw [← hI3]; exact hxl
      refine tG <| sm 3 rfl <| cV rfl (iSq rfl rfl rfl uT35 hi2 tS3 rfl (by rfl)) <| sm 2 rfl <| cV rfl (iRw rfl rfl rfl rfl hI3 uT35 tS3 hxl2 (by omega)) <| c0 (ok_store_row rfl rfl rfl rfl hI3 (Nat.add_zero _).symm hxg (by simp) tS3 rfl (by simp)) <| nL <| Or.inl ?_
      refine ⟨rfl, Sub.of ⟨rfl, rfl, rfl, rfl, rfl, rfl, trivial⟩, funext (lkq [110, 106, 1001, 1002, 510] rfl rfl ⟨rfl, rfl, rfl, rfl, (by first | rfl | exact congrArg (fun z => some (HO.row _ z)) (by rw [hv2]; exact set_row _ _ _ _ hxg)), trivial⟩)⟩
     have hcd : (!mOver q1.2 && decide (0 < x.outs.length)) = false := by first | (rw [hb40]; rfl) | (rw [hb40]; simpa using hc45)
     rw [if_neg (by rw [hcd]; decide)] at hcont
     cases hcont
     refine tSk <| Or.inl ?_
     refine ⟨rfl, Sub.of ⟨rfl, rfl, rfl, rfl, rfl, rfl, trivial⟩, funext (lkq [110, 106, 1001, 1002, 510] rfl rfl ⟨rfl, rfl, rfl, rfl, (by first | rfl | exact congrArg (fun z => some (HO.row _ z)) (by rw [hv2]; exact set_row _ _ _ _ hxg)), trivial⟩)⟩
    refine sm 5 rfl <| nL <| Tr.condF rfl ?_
    have hcd : (!mOver q1.2 && decide (0 < x.outs.length)) = false := by first | (rw [hb40]; rfl) | (rw [hb40]; simpa using hc45)
    rw [if_neg (by rw [hcd]; decide)] at hcont
    cases hcont
    refine tSk <| Or.inl ?_
    refine ⟨rfl, Sub.of ⟨rfl, rfl, rfl, rfl, rfl, rfl, trivial⟩, funext (lkq [110, 106, 1001, 1002, 510] rfl rfl ⟨rfl, rfl, rfl, rfl, (by first | rfl | exact congrArg (fun z => some (HO.row _ z)) (by rw [hv2]; exact set_row _ _ _ _ hxg)), trivial⟩)⟩
   refine tQ <| tG <| sm 1 rfl <| cE rfl (ocr (sc_over u r1.2.2) ent31 rfl (po2 rfl rfl) rfl (fun k (h : _) => .inr trivial) rfl rfl) <| sm 1 rfl ?_
   refine wS 111 rfl (fun hb111 => ?_) fun hb111 => ?_
   ·refine sm 4 rfl <| nL <| Tr.condT rfl ?_
    have hov : (mOver r1.2.2 || r1.1.1 != 0) = true := by first | (rw [hb111]; rfl) | (rw [hc115, Bool.or_true])
    rw [if_pos hov] at hrest
    obtain rfl : r1 = r := by injection hrest
    refine tQ <| tG <| cV rfl (lBP rfl rfl rfl Tryz.underlying85 rfl tS85 (lb rfl) rfl trivial) <| c0 (sBA rfl rfl rfl rfl rfl ((fun h => h)) tS85 (flk rfl) (lb rfl)) <| nL <| tRt <| rCk (.inl rfl) (fun _ _ ho => lBP ho rfl rfl Tryz.underlying85 rfl tS85 (lb rfl) rfl trivial) rfl (po3 rfl rfl rfl)
   refine sm 4 rfl <| nL ?_
   refine tC rfl (fun hc115 => ?_) fun hc115 => ?_
   ·have hov : (mOver r1.2.2 || r1.1.1 != 0) = true := by first | (rw [hb111]; rfl) | (rw [hc115, Bool.or_true])
    rw [if_pos hov] at hrest
    obtain rfl : r1 = r := by injection hrest
    refine tQ <| tG <| cV rfl (lBP rfl rfl rfl Tryz.underlying85 rfl tS85 (lb rfl) rfl trivial) <| c0 (sBA rfl rfl rfl rfl rfl ((fun h => h)) tS85 (flk rfl) (lb rfl)) <| nL <| tRt <| rCk (.inl rfl) (fun _ _ ho => lBP ho rfl rfl Tryz.underlying85 rfl tS85 (lb rfl) rfl trivial) rfl (po3 rfl rfl rfl)
   rw [if_neg (by rw [hb111, hc115]; decide)] at hrest
   refine tSk <| Tr.drop (k := 110) <| tG <| sm 1 rfl <| cV rfl (oB rfl rfl (i64_add rfl (by omega))) <| sm 1 rfl <| nL ?_
   refine ⟨_, _, ?_, Sub.of (fr' := [(7, iInt (k + 1)), (6, .ptr 106 0), (0, .ptr 1001 0), (1, .pv (nodes l)), (2, .sl 510 (v.map eInt).length)]) ⟨rfl, rfl, rfl, rfl, rfl, trivial⟩, (k + 1), d1, r1.2.1, r1.2.2, ?_, ?_, ?_, ?_, rfl, (funext (lkq [110, 106, 1001, 1002, 510] rfl rfl ⟨rfl, rfl, rfl, rfl, rfl, trivial⟩)), rfl⟩
   ·omega
   ·omega
   ·omega
   ·exact hrest
   exact hl1
  refine tEx <| tQ ?_
  have hge : l.length ≤ k := by simpa using hc16
  rw [List.drop_eq_nil_of_le hge] at hI2
  obtain rfl := mList_nil hI2
  refine tG <| cV rfl (bPu rfl rfl tZ85 tP85 rfl (fbk rfl) rfl) <| WL.sub (Sub.cons2 (fun _ _ _ _ h => sub_pv end_nil h) Sub.rfl') <| c0 (sBA rfl rfl rfl rfl rfl ((fun h => h)) tS85 (flk rfl) (lb rfl)) <| nL <| tRt <| rCk (.inl rfl) (fun _ _ ho => lBP ho rfl rfl Tryz.underlying85 rfl tS85 (lb rfl) rfl trivial) rfl (po3 rfl rfl rfl)
theorem copy_step {a : List Int} {i n : Nat} {x : Int} (hx : a[i]? = some x) (hn : a.length ≤ n) : (a.take i ++ List.replicate (n - i) 0).set i x = a.take (i + 1) ++ List.replicate (n - (i + 1)) 0 := by
  have hi : i < a.length := (List.getElem?_eq_some_iff.1 hx).1
  have hl : (a.take i).length = i := by rw [List.length_take]; omega
  rw [List.set_append_right _ _ (by omega), hl, Nat.sub_self, show n - i = (n - (i + 1)) + 1 by omega, List.replicate_succ, List.set_cons_zero, List.take_add_one, hx]
  simp
theorem sc_call0 (u : Un) (hub : ∀ f ∈ u.flows, lsW f.body ≤ 1073741824) (D : Nat) (ihL : SCL u D) (d : Nat) (hd : d ≤ D) (k : Int) (a : List Int) (s : Rs) (r : Int × Rs) (h : mCall u d k a s = some r) : SC Tryz.prog 29 [.ptr 1001 0, iInt k, .pv (ints a)] (runH u s) (fun _ => False) (iInt r.1) (runH u r.2) := by
  refine SC.of Tryz.func29 rfl (lb rfl) fun F ρ w => ?_
  refine Tr.lenOf (t := 2) rfl (fun hl => ?_)
  simp only [List.length_map] at hl
  obtain ⟨d1, f, r1, rfl, hk0, hf, hal, hfl, hlist, rfl⟩ := mCall_step h
  have hif := map_get (f := Fl.enc) hf
  have hfb := hub f (List.mem_of_getElem? hf)
  refine tQ <| tG <| sm 1 rfl <| nL <| tQ <| tG <| sm 1 rfl <| cV rfl (nCk rfl rfl rfl) <| sm 4 rfl <| cV rfl (iSq rfl rfl rfl uT23 hif tS51 rfl (by omega)) <| cV rfl (lEA rfl rfl Tryz.underlying51 rfl tS51 (lb rfl)) <| cE rfl (aLc (k := 107) rfl tZ51 rfl rfl rfl rfl) ?_
  refine c0 (sBA rfl rfl rfl rfl rfl ((fun h => h)) tS51 (flk rfl) (lb rfl)) <| nL <| tQ <| Tr.freezeBox (t := 7) (k := 107) rfl rfl rfl <| tG <| sm 2 rfl <| cV rfl (oSm uT35 rfl) <| cE rfl (ok_makeSlice (k := 510) (s := ⟨3, 1⟩) rfl rfl rfl uT35 tZ3 tC3 rfl (by decide) (by omega) (by omega) rfl rfl rfl rfl) <| sm 1 rfl <| nL <| tQ <| tQ ?_
  refine tG <| sm 1 rfl <| nL <| tBk <| Tr.sub (Sub.of (fr' := [(9, iInt 0), (8, .sl 510 f.types.length), (7, .pv (.ept [vStr f.name, vInt f.ty, vInt f.params, ints f.types, nodes f.body] 0)), (0, .ptr 1001 0), (2, .pv (ints a))]) ⟨rfl, rfl, rfl, rfl, rfl, trivial⟩) <| Tr.heap (σ' := look [(1001, some (runBox u s)), (1002, some (rowI (s).out)), (510, some (rowI (a.take 0 ++ List.replicate (f.types.length - 0) 0)))]) (lkq [107, 1001, 1002, 510] rfl rfl ⟨rfl, rfl, rfl, (by exact congrArg (fun z => some (HO.row _ z)) (by rw [List.take_zero, List.nil_append, Nat.sub_zero, List.map_replicate]; rfl)), trivial⟩) ?_
  refine Tr.loop (fun fr σ m => ∃ (i : Nat), (i ≤ a.length) ∧ fr = [(9, iInt i), (8, .sl 510 f.types.length), (7, .pv (.ept [vStr f.name, vInt f.ty, vInt f.params, ints f.types, nodes f.body] 0)), (0, .ptr 1001 0), (2, .pv (ints a))] ∧ σ = look [(1001, some (runBox u s)), (1002, some (rowI (s).out)), (510, some (rowI (a.take i ++ List.replicate (f.types.length - i) 0)))] ∧ m = a.length - i) (n := a.length - 0) ?_ ?_
  ·exact ⟨0, Nat.zero_le _, rfl, rfl, rfl⟩
  rintro fr σ m ⟨i, hI0, rfl, rfl, rfl⟩
  refine tQ <| tQ <| tG <| sm 2 rfl <| cV rfl (oSm uT35 rfl) <| sm 1 rfl <| nL ?_
  refine tC rfl (fun hc26 => ?_) fun hc26 => ?_
  ·have hlt : i < a.length := by simpa using hc26
   have hil : i < f.types.length := by omega
   obtain ⟨x, hx⟩ : ∃ x, a[i]? = some x := ⟨_, List.getElem?_eq_getElem hlt⟩
   have hi := map_get (f := eInt) hx
   have hvl : ((a.take i ++ List.replicate (f.types.length - i) 0).map eInt).length = f.types.length := by simp; omega
   obtain ⟨z0, hxg⟩ := row_at (v := (a.take i ++ List.replicate (f.types.length - i) 0)) (i := i) (by rw [hvl]; omega)
   refine tSk <| tQ <| tBk <| tG <| sm 4 rfl <| cV rfl (iSq rfl rfl rfl uT35 hi tS3 rfl (by rfl)) <| sm 1 rfl <| cV rfl (iRw rfl rfl rfl rfl hvl uT35 tS3 hil rfl) <| c0 (ok_store_row rfl rfl rfl rfl hvl (Nat.add_zero _).symm hxg (by simp) tS3 rfl (by simp)) <| nL <| tG <| sm 1 rfl ?_
   refine cV rfl (oB rfl rfl (i64_add rfl (by omega))) <| sm 1 rfl <| nL ?_
   refine ⟨_, _, ?_, Sub.of (fr' := [(9, iInt (i + 1)), (8, .sl 510 f.types.length), (7, .pv (.ept [vStr f.name, vInt f.ty, vInt f.params, ints f.types, nodes f.body] 0)), (0, .ptr 1001 0), (2, .pv (ints a))]) ⟨rfl, rfl, rfl, rfl, rfl, trivial⟩, (i + 1), ?_, rfl, (funext (lkq [1001, 1002, 510] rfl rfl ⟨rfl, rfl, (congrArg (fun z => some (HO.row _ z)) ((set_row _ _ _ _ hxg).trans (congrArg (List.map eInt) (copy_step hx hal)))), trivial⟩)), rfl⟩
   ·omega
   omega
  refine tEx <| tQ ?_
  have he : (a.take i ++ List.replicate (f.types.length - i) 0) = a ++ List.replicate (f.types.length - a.length) 0 := by
    have hge : a.length ≤ i := by simpa using hc26
    obtain rfl : i = a.length := by omega
    rw [List.take_length]
  rw [he]
  have hvl2 : ((a ++ List.replicate (f.types.length - a.length) 0).map eInt).length = f.types.length := by simp; omega
  refine tG <| sm 4 rfl <| cE rfl (cRr (ihL d1 (by omega) f.body (a ++ List.replicate (f.types.length - a.length) 0) s r1 hlist hfb) ent45 rfl rfl (sSm rfl (sSm rfl (sSm (congrArg (fun n => IV.sl 510 n) hvl2.symm) Subs.nil))) (po3 rfl rfl rfl) (by rfl) (fun k (h : _) => .inr h) rfl (by rfl)) <| cE rfl (aLc (k := 110) rfl tZ85 rfl rfl rfl rfl) <| c0 (sBA rfl rfl rfl rfl rfl ((fun h => h)) tS85 (flk rfl) (lb rfl)) <| nL <| tQ <| tQ <| tG <| sm 1 rfl <| cE rfl (ocr (sc_over u r1.2.2) ent31 rfl (po2 rfl rfl) rfl (fun k (h : _) => .inr trivial) rfl rfl) <| sm 1 rfl ?_
  refine wS 43 rfl (fun hb43 => ?_) fun hb43 => ?_
  ·refine sm 5 rfl <| nL <| Tr.condT rfl <| tQ <| tG <| sm 1 rfl <| nL <| tRt <| rOk rfl ?_ (po2 rfl rfl)
   (rw [if_pos hb43]; done)
  refine sm 2 rfl <| yV rfl rfl (oSm uT35 rfl) <| sm 2 rfl <| nL ?_
  refine tC rfl (fun hc48 => ?_) fun hc48 => ?_
  ·refine tQ <| tG <| sm 1 rfl <| nL <| tRt <| rOk rfl ?_ (po2 rfl rfl)
   (have hz : r1.1.2 = [] := by simpa using hc48
    rw [hz]
    split <;> rfl)
  obtain ⟨x, q, hxq⟩ : ∃ x q, r1.1.2 = x :: q := by
    cases hz : r1.1.2 with
    | nil => rw [hz] at hc48; simp at hc48
    | cons x q => exact ⟨x, q, rfl⟩
  have hi0 : (r1.1.2.map eInt)[0]? = some (eInt x) := by rw [hxq]; rfl
  refine tSk <| tQ <| tG <| sm 2 rfl <| cV rfl (iSq rfl rfl rfl uT35 hi0 tS3 rfl (by rfl)) <| sm 2 rfl <| nL <| tRt <| rOk rfl ?_ (po2 rfl rfl)
  rw [if_neg (by rw [hb43]; decide), hxq]
  rfl
theorem sc_run_all (u : Un) (hu : u.arrays = []) (hub : ∀ f ∈ u.flows, lsW f.body ≤ 1073741824) : ∀ D, SCC u D ∧ SCL u D
  | 0 => ⟨fun _ h => absurd h (Nat.not_lt_zero _), fun _ h => absurd h (Nat.not_lt_zero _)⟩
  | D + 1 => ⟨fun d hd k a s r h => sc_call0 u hub D (sc_run_all u hu hub D).2 d (Nat.le_of_lt_succ hd) k a s r h,
      fun d hd l v s r h hb => sc_list0 u hu D (sc_run_all u hu hub D).1 (sc_run_all u hu hub D).2 d (Nat.le_of_lt_succ hd) l v s r h hb⟩
def run0 (ins : List Int) (fuel : Int) : Rs := { ins := ins, ar := [], st := 0, code := 0, out := [], cost := 0, fuel := if fuel < 0 then 0 else fuel, spent := false }
def mEnd (r : Int × Rs) : Rs := if mOver r.2 then r.2 else { r.2 with st := 1, code := r.1 }
def runv (s : Rs) : PV := .agg [vInt s.st, vInt s.code, ints s.out, vInt s.cost, vInt s.fuel]
theorem sc_run0 (u : Un) (hu : u.arrays = []) (hW : r8Weight u ≤ 536870912) (hz : (r8Check u).1 = 0) (ins : List Int) (fuel : Int) (d : Nat) (r : Int × Rs) (h : mCall u d (r8Place mainName u.flows 0) [] (run0 ins fuel) = some r) : SC Tryz.prog 17 [.pv u.enc, .pv (ints ins), iInt fuel] [] (fun _ => False) (.pv (runv (mEnd r))) [] := by
  refine SC.ofC Tryz.func17 rfl (lb rfl) rfl fun F ρ w => ?_
  have hub : ∀ f ∈ u.flows, lsW f.body ≤ 1073741824 := fun f hf => Nat.le_trans (flow_le hW hf) (by omega)
  have hcall := (sc_run_all u hu hub (d + 1)).1 d (Nat.lt_succ_self d) _ _ _ _ h
  refine tQ <| tG <| cE rfl (ok_box rfl rfl) <| cE rfl (aLc (k := 106) rfl tZ46 rfl rfl rfl rfl) <| nL <| tQ <| tQ <| tG <| cV rfl (lEA rfl rfl uT25 rfl tS25 (lb rfl)) <| cE rfl (ocq (sc_r8Check u hW) ent19 rfl rfl) <| sm 1 rfl <| cV rfl (ok_extract rfl rfl rfl) ?_
  refine cV rfl (ok_extract rfl rfl rfl) <| sm 2 rfl <| nL <| tQ <| tG <| sm 2 rfl <| nL ?_
  refine tC rfl (fun hc18 => ?_) fun hc18 => ?_
  ·exact absurd hc18 (by rw [hz]; decide)
  refine tSk <| tQ <| tG <| cV rfl (lEA rfl rfl uT25 rfl tS25 (lb rfl)) <| sm 2 rfl <| cV rfl (ok_max rfl rfl rfl) <| cV rfl (bPu rfl rfl tZ46 tP46 rfl (fbk rfl) rfl) <| cV rfl (bPu rfl rfl tZ66 tP66 rfl (fbk rfl) rfl) <| cE rfl (ok_boxOwnP (k := 1001) rfl rfl rfl rfl rfl rfl) <| sm 1 rfl <| nL <| tQ ?_
  refine tQ <| Tr.growCell (k := 1002) (k2 := 1001) (j := 6) ⟨3, 1⟩ rfl rfl rfl rfl rfl rfl <| tG <| sm 1 rfl <| nL <| tBk <| Tr.sub (Sub.of (fr' := [(10, iInt 0), (9, .ptr 1001 0), (6, .ptr 106 0), (3, .pv (.ept [arrs u.arrays, flws u.flows] 0))]) ⟨rfl, rfl, rfl, rfl, trivial⟩) <| Tr.heap (σ' := look [(106, some (.box [iInt 0, iInt 0, .pv (.val (.slice none 0 0)), iInt 0, iInt 0])), (1001, some (runBox u (run0 ins fuel))), (1002, some (rowI []))]) (lkq [106, 1001, 1002] rfl rfl ⟨rfl, rfl, rfl, trivial⟩) ?_
  refine Tr.loop (fun fr σ m => fr = [(10, iInt 0), (9, .ptr 1001 0), (6, .ptr 106 0), (3, .pv (.ept [arrs u.arrays, flws u.flows] 0))] ∧ σ = look [(106, some (.box [iInt 0, iInt 0, .pv (.val (.slice none 0 0)), iInt 0, iInt 0])), (1001, some (runBox u (run0 ins fuel))), (1002, some (rowI []))] ∧ m = 0) (n := 0) ?_ ?_
  ·exact ⟨rfl, rfl, rfl⟩
  rintro fr σ m ⟨rfl, rfl, rfl⟩
  refine tQ <| tQ <| tG <| sm 3 rfl <| cV rfl (oSm uT22 rfl) <| sm 1 rfl <| nL ?_
  refine tC rfl (fun hc31 => ?_) fun hc31 => ?_
  ·exact absurd hc31 (by rw [hu]; simp)
  refine tEx <| tQ <| tG <| sm 1 rfl <| cV rfl (lEA rfl rfl uT25 rfl tS25 (lb rfl)) <| cE rfl (ocq (sc_r8Place _ _) ent30 rfl rfl) <| cE rfl (cRr (hcall) ent29 rfl rfl (sSm rfl (sSm rfl (Subs.cons (fun _ _ _ _ h => sub_pv PSub.nil h) Subs.nil))) (po2 rfl rfl) (by rfl) (fun k (h : _) => .inr h) rfl (by rfl)) <| sm 1 rfl <| nL <| tQ <| tQ <| tG ?_
  refine sm 1 rfl <| cE rfl (ocr (sc_over u r.2) ent31 rfl (po2 rfl rfl) rfl (fun k (h : _) => .inr trivial) rfl rfl) <| sm 1 rfl <| nL ?_
  refine tC rfl (fun hc56 => ?_) fun hc56 => ?_
  ·have hend : mEnd r = { r.2 with st := 1, code := r.1 } := if_neg (by intro hh; rw [hh] at hc56; exact absurd hc56 (by decide))
   refine tG <| sm 3 rfl <| cV rfl (nCk rfl rfl rfl) <| sm 2 rfl <| c0 (sBx rfl rfl rfl rfl ((fun h => h)) tS3 (rfl) (lb rfl)) <| cV rfl (nCk rfl rfl rfl) <| sm 2 rfl <| c0 (sBx rfl rfl rfl rfl ((fun h => h)) tS3 (rfl) (lb rfl)) <| nL <| tQ <| Tr.freezeCell (k := 1002) (k2 := 1001) (j := 6) (n := (r.2.out.map eInt).length) rfl rfl rfl rfl (by decide) <| tG ?_
   refine sm 1 rfl <| cV rfl (nCk rfl rfl rfl) <| sm 1 rfl <| cV rfl (lBP rfl rfl rfl Tryz.underlying46 rfl tS46 (lb rfl) rfl trivial) <| c0 (sBA rfl rfl rfl rfl rfl ((fun h => h)) tS46 (flk rfl) (lb rfl)) <| nL <| tRt ?_
   rw [hend]
   refine rCk (.inl rfl) (fun _ _ ho => lBP ho rfl rfl Tryz.underlying46 rfl tS46 (lb rfl) rfl trivial) rfl nPo
  have hend : mEnd r = r.2 := if_pos (by simpa using hc56)
  refine tSk <| tQ <| Tr.freezeCell (k := 1002) (k2 := 1001) (j := 6) (n := (r.2.out.map eInt).length) rfl rfl rfl rfl (by decide) <| tG <| sm 1 rfl <| cV rfl (nCk rfl rfl rfl) <| sm 1 rfl <| cV rfl (lBP rfl rfl rfl Tryz.underlying46 rfl tS46 (lb rfl) rfl trivial) <| c0 (sBA rfl rfl rfl rfl rfl ((fun h => h)) tS46 (flk rfl) (lb rfl)) <| nL <| tRt ?_
  rw [hend]
  refine rCk (.inl rfl) (fun _ _ ho => lBP ho rfl rfl Tryz.underlying46 rfl tS46 (lb rfl) rfl trivial) rfl nPo
def wakeL : List Nd := [(.mk 1 0 1 ⟨#[]⟩ [] [0] [] []), (.mk 1 0 2 ⟨#[]⟩ [] [1] [] []), (.mk 15 0 0 ⟨#[]⟩ [1] [] [] [])]
def wakeU : Un := ⟨[], [⟨mainName, 1, 0, [1, 1], wakeL⟩]⟩
theorem wake_check : (r8Check wakeU).1 = 0 := by decide +kernel
theorem wake_weight : r8Weight wakeU ≤ 536870912 := by decide +kernel
theorem wake_run0 : ((mCall (mUnit wB wakeU) 20 (r8Place mainName (mUnit wB wakeU).flows 0) [] (run0 [] 3)).map fun r => (mOver r.2, r.1)) = some (false, 2) := by decide +kernel
theorem wake_run : ∃ r, mCall (mUnit wB wakeU) 20 (r8Place mainName (mUnit wB wakeU).flows 0) [] (run0 [] 3) = some r ∧ (mEnd r).st = 1 ∧ (mEnd r).code = 2 := by
  have h := wake_run0
  rw [Option.map_eq_some_iff] at h
  obtain ⟨r, h1, h2⟩ := h
  simp only [Prod.mk.injEq] at h2
  refine ⟨r, h1, ?_, ?_⟩
  ·simp only [mEnd, h2.1, Bool.false_eq_true, if_false]
  simp only [mEnd, h2.1, Bool.false_eq_true, if_false, h2.2]
def wakeRaw : PV := .seq [[vInt 1, vInt 0, vInt 1, vStr ⟨#[]⟩, .val (.slice none 0 0), .seq [[vInt 0]], .val (.slice none 0 0), .val (.slice none 0 0)], [vInt 1, vInt 0, vInt 2, vStr ⟨#[]⟩, .val (.slice none 0 0), .seq [[vInt 1]], .val (.slice none 0 0), .val (.slice none 0 0)], [vInt 15, vInt 0, vInt 0, vStr ⟨#[]⟩, .seq [[vInt 1]], .val (.slice none 0 0), .val (.slice none 0 0), .val (.slice none 0 0)]]
theorem wake_sub : PSub wakeRaw (nodes wakeL) := by
  show PSub _ (.seq [_, _, _])
  repeat' (first | exact PSub.nil | exact PSub.refl _ | exact trivial | refine And.intro ?_ ?_ | refine PSub.seq (ps := [_, _, _]) (qs := [_, _, _]) ?_ | refine PSub.seq (ps := [_]) (qs := [_]) ?_)
theorem empty_want : passOf wB ⟨[], []⟩ = (⟨[], []⟩, 1) := passOf_bad wB (by decide +kernel)
theorem sc_awake0 (L : List Nd) (hL : PSub wakeRaw (nodes L)) (V : Un) (hH : passOf wB (⟨[], [⟨mainName, 1, 0, [1, 1], L⟩]⟩ : Un) = (V, 0)) (hW : r8Weight (⟨[], [⟨mainName, 1, 0, [1, 1], L⟩]⟩ : Un) ≤ 536870912) (hVa : V.arrays = []) (hVl : V.flows.length = 1) (hVr : wRight V = true) (hVW : r8Weight V ≤ 536870912) (hVz : (r8Check V).1 = 0) (r : Int × Rs) (hr : mCall V 20 (r8Place mainName V.flows 0) [] (run0 [] 3) = some r) (h1 : (mEnd r).st = 1) (h2 : (mEnd r).code = 2) : SC Tryz.prog 7 [] [] (fun _ => False) (iBool true) [] := by
  refine SC.of Tryz.func7 rfl (lb rfl) fun F ρ w => ?_
  have hsc := sc_Want (⟨[], [⟨mainName, 1, 0, [1, 1], L⟩]⟩ : Un) hW wok_valid
  rw [hH] at hsc
  have hse := sc_Want ⟨[], []⟩ (by decide) wok_valid
  rw [empty_want] at hse
  refine tQ <| tG <| sm 1 rfl <| nL <| tQ <| tG <| sm 1 rfl <| nL <| tQ <| tG <| sm 2 rfl <| cE rfl (bSl rfl rfl uT35 tZ3 tS3 rfl rfl rfl rfl (fbk rfl) rfl) ?_
  refine cE rfl (bSl rfl rfl uT35 tZ3 tS3 rfl rfl rfl rfl (fbk rfl) rfl) <| cV rfl (bPu rfl rfl tZ43 tP43 rfl (fbk rfl) rfl) <| cE rfl (bSl rfl rfl uT35 tZ3 tS3 rfl rfl rfl rfl (fbk rfl) rfl) <| cV rfl (bPu rfl rfl tZ43 tP43 rfl (fbk rfl) rfl) <| cE rfl (bSl rfl rfl uT35 tZ3 tS3 rfl rfl rfl rfl (fbk rfl) rfl) <| cV rfl (bPu rfl rfl tZ43 tP43 rfl (fbk rfl) rfl) <| cE rfl (bSl rfl rfl uT44 tZ43 tS43 rfl rfl rfl rfl (fbk rfl) rfl) <| cE rfl (ok_callq (sc_unit14 [1, 1] L) ent16 rfl rfl (sSm rfl (Subs.cons (fun _ _ _ _ h => sub_pv hL h) Subs.nil)) rfl) <| cE rfl (ok_callq (hsc) ent11 rfl rfl (Subs.cons (fun _ _ _ _ h => sub_pv (PSub.agg (ps := [.val (.slice none 0 0), flws [⟨mainName, 1, 0, [1, 1], L⟩]]) (qs := [.seq [], flws [⟨mainName, 1, 0, [1, 1], L⟩]]) (And.intro PSub.nil (And.intro (PSub.refl _) trivial))) h) Subs.nil) rfl) <| sm 1 rfl <| cV rfl (ok_extract rfl rfl rfl) <| cV rfl (ok_extract rfl rfl rfl) ?_
  refine cE rfl (aLc (k := 102) rfl tZ25 rfl rfl rfl rfl) <| c0 (sBA rfl rfl rfl rfl rfl ((fun h => h)) tS25 (flk rfl) (lb rfl)) <| sm 1 rfl <| nL <| tQ <| tG <| cV rfl (lBP rfl rfl rfl uT25 rfl tS25 (lb rfl) rfl trivial) <| cE rfl (ok_callq (sc_run0 V hVa hVW hVz [] 3 20 r hr) ent17 rfl rfl (sSm rfl (Subs.cons (fun _ _ _ _ h => sub_pv PSub.nil h) (sSm rfl Subs.nil))) rfl) <| cE rfl (aLc (k := 104) rfl tZ46 rfl rfl rfl rfl) <| c0 (sBA rfl rfl rfl rfl rfl ((fun h => h)) tS46 (flk rfl) (lb rfl)) <| nL <| tQ ?_
  refine tG <| sm 3 rfl ?_
  refine wS 27 rfl (fun hb27 => ?_) fun hb27 => ?_
  ·refine sm 2 rfl <| yV rfl rfl (oSm uT23 rfl) <| sm 3 rfl ?_
   refine wS 33 rfl (fun hb33 => ?_) fun hb33 => ?_
   ·refine yV rfl rfl (lBP rfl rfl rfl uT25 rfl tS25 (lb rfl) rfl trivial) <| WL.yes rfl rfl rfl rfl rfl rfl (ok_callq (sc_right V) ent12 rfl rfl (sRf _ _) rfl) <| sm 2 rfl ?_
    refine wS 37 rfl (fun hb37 => ?_) fun hb37 => ?_
    ·refine sm 5 rfl ?_
     refine wS 42 rfl (fun hb42 => ?_) fun hb42 => ?_
     ·refine sm 5 rfl <| nL <| tQ <| tG <| cV rfl (bPu rfl rfl tZ25 tP25 rfl (fbk rfl) rfl) <| cE rfl (ok_callq (hse) ent11 rfl rfl (Subs.cons (fun _ _ _ _ h => empty_unit h) Subs.nil) rfl) <| sm 1 rfl <| cV rfl (ok_extract rfl rfl rfl) <| cV rfl (ok_extract rfl rfl rfl) <| cE rfl (aLc (k := 106) rfl tZ25 rfl rfl rfl rfl) <| c0 (sBA rfl rfl rfl rfl rfl ((fun h => h)) tS25 (flk rfl) (lb rfl)) <| sm 1 rfl ?_
      refine nL <| tQ <| tG <| sm 3 rfl ?_
      refine wS 54 rfl (fun hb54 => ?_) fun hb54 => ?_
      ·refine sm 3 rfl <| nL <| tRt <| rOk rfl ?_ nPo
       rw [h2]
       rfl
      exact Bool.noConfusion (show true = false from hb54)
     rw [h1] at hb42
     cases hb42
    rw [hVr] at hb37
    cases hb37
   simp [hVl] at hb33
  exact Bool.noConfusion (show true = false from hb27)
theorem sc_awake : SC Tryz.prog 7 [] [] (fun _ => False) (iBool true) [] := by
  obtain ⟨r, hr, h1, h2⟩ := wake_run
  have hc := check_want wake_check
  exact sc_awake0 wakeL wake_sub (mUnit wB wakeU) (passOf_good wB wake_check) wake_weight rfl rfl (by have := right_want wakeU; rw [passOf_good wB wake_check] at this; exact this) (by have := passOf_weight wB nodes_want wakeU; rw [passOf_good wB wake_check] at this; exact Nat.le_trans this wake_weight) (by rw [hc]) r hr h1 h2
theorem sc_WantAny (u : Un) (hW : r8Weight u ≤ 536870912) : SC Tryz.prog 3 [.pv u.enc] [] (fun _ => False) (iBool true) [] := by
  refine SC.of Tryz.func3 rfl (lb rfl) fun F ρ w => ?_
  refine tQ <| tG <| cE rfl (ok_box rfl rfl) <| sm 1 rfl <| nL <| tQ <| tG <| cE rfl (ocq (sc_awake) ent7 rfl rfl) <| sm 1 rfl ?_
  refine wS 4 rfl (fun hb4 => ?_) fun hb4 => ?_
  ·refine yV rfl rfl (lEA rfl rfl uT25 rfl tS25 (lb rfl)) <| WL.yes rfl rfl rfl rfl rfl rfl (ok_callq (sc_r8Weight u (by omega)) ent8 rfl rfl (sRf _ _) rfl) <| sm 2 rfl ?_
   refine wS 8 rfl (fun hb8 => ?_) fun hb8 => ?_
   ·refine sm 5 rfl <| nL <| tRt <| rOk rfl ?_ nPo
    rfl
   refine yV rfl rfl (lEA rfl rfl uT25 rfl tS25 (lb rfl)) <| WL.yes rfl rfl rfl rfl rfl rfl (ok_callq (sc_fits u hW) ent9 rfl rfl (sRf _ _) rfl) <| sm 3 rfl <| nL <| tRt <| rOk rfl ?_ nPo
   rfl
  exact absurd hb4 (by decide)
section
open Go Go.ChangeShapes Go.WideShapes Go.ChangeAt Go.RowKit
section
variable {H : Type} {enc : TypeId × Value → H} {P : Program} {w : World} {base : Nat} {spare : Nat → Bool} {held : Bool}
def RepEl (own : Nat → Prop) (w : World) (ps : List PV) (cs : List Value) : Prop := ps.length = cs.length ∧ ∀ (j : Nat) p v, ps[j]? = some p → cs[j]? = some v → RepP own w p v
theorem RepEl.nil {own : Nat → Prop} : RepEl own w [] [] := ⟨rfl, fun j p v h => by simp at h⟩
theorem RepEl.cons {own : Nat → Prop} {p : PV} {v : Value} {ps : List PV} {cs : List Value} (h : RepP own w p v) (hr : RepEl own w ps cs) : RepEl own w (p :: ps) (v :: cs) := by
  refine ⟨by simp [hr.1], fun j q x hq hx => ?_⟩
  cases j with
  | zero => simp at hq hx; subst hq; subst hx; exact h
  | succ j => exact hr.2 j q x (by simpa using hq) (by simpa using hx)
theorem choose_els {α : Type} (f : α → List PV) (wt : α → Nat) {own : Nat → Prop} (R : Nat → DataW H × List MemPlace → List Value → Prop)
    (hR : ∀ i y cs, R i y cs → ∃ z : α, RepEl own w (f z) cs ∧ wt z + 1 ≤ Rows.uptoBulk y.1) :
    ∀ (ys : List (DataW H × List MemPlace)) (s : Nat), (∀ i y, ys[i]? = some y → ∃ cs, R (s + i) y cs) →
      ∃ l : List α, l.length = ys.length ∧ (∀ i z, l[i]? = some z → ∃ y cs, ys[i]? = some y ∧ R (s + i) y cs ∧ RepEl own w (f z) cs) ∧ (l.map wt).sum + l.length ≤ Rows.uptoBulkAll (ys.map (·.1))
  | [], _, _ => ⟨[], rfl, fun i z h => by simp at h, by simp [Rows.uptoBulkAll]⟩
  | y :: ys, s, h => by
    obtain ⟨cs, hcs⟩ := h 0 y rfl
    obtain ⟨z, hz, hw⟩ := hR _ _ _ hcs
    obtain ⟨l, hl, hg, hb⟩ := choose_els f wt R hR ys (s + 1) (fun i y' hy => by
      have := h (i + 1) y' (by simpa using hy)
      rwa [show s + 1 + i = s + (i + 1) by omega])
    refine ⟨z :: l, by simp [hl], fun i z' hz' => ?_, ?_⟩
    ·cases i with
     | zero => simp at hz'; subst hz'; exact ⟨y, cs, rfl, hcs, hz⟩
     | succ i =>
       obtain ⟨y', cs', h1, h2, h3⟩ := hg i z' (by simpa using hz')
       exact ⟨y', cs', by simpa using h1, by rwa [show s + (i + 1) = s + 1 + i by omega], h3⟩
    simp only [List.map_cons, List.sum_cons, List.length_cons, Rows.uptoBulkAll]; omega
theorem trod_list {α : Type} (f : α → List PV) (wt : α → Nat) {own : Nat → Prop} (hown : ∀ b, b < w.heap.size → ¬ own b) {t e : TypeId} {fuel : Nat} {cs : List Value} {x : DataW H × List MemPlace} {N : Nat} (ht : P.underlying t = some (.slice e)) (hC : P.cellsOf e = N) (hN : 0 < N)
    (h : DataW.trod enc P w base spare held fuel t cs = some x)
    (hel : ∀ n cs' y, n < fuel → cs'.length = N → DataW.trod enc P w base spare held n e cs' = some y → ∃ z : α, RepEl own w (f z) cs' ∧ wt z + 1 ≤ Rows.uptoBulk y.1) :
    ∃ (l : List α) (v : Value), cs = [v] ∧ RepP own w (.seq (l.map f)) v ∧ (l.map wt).sum + l.length + 1 ≤ Rows.uptoBulk x.1 := by
  rcases DataW.trod_slice ht h with ⟨rfl, rfl⟩ | ⟨a, len, cap, elems, rest, n, rfl, rfl, rfl, hb, hl, hm, hlen, hg, _, _⟩
  ·refine ⟨[], _, rfl, ?_, by simp [Rows.uptoBulk]⟩
   have := RepP.seq (own := own) (w := w) [] none 0 0 0 (fun _ _ => default) (fun h => absurd rfl h) (fun h => absurd rfl h) (Nat.le_refl _) (Nat.zero_le _) (fun i el h => by simp at h) (fun i el h => by simp at h)
   simpa using this
  obtain ⟨l, hll, hat, hsum⟩ := choose_els (w := w) f wt (own := own) (fun i y cs => w.cells? base (a.add (i * P.cellsOf e)) (P.cellsOf e) = some cs ∧ DataW.trod enc P w base spare held n e cs = some y)
    (fun i y cs' hr => hel n cs' y (Nat.lt_succ_self _) (by rw [(World.cells?_some hr.1).2.1, hC]) hr.2) elems 0 (fun i y hy => by
      have hlt : i < len := by rw [← hlen]; exact (List.getElem?_eq_some_iff.1 hy).1
      have h1 := hg i hlt
      rw [hy, Option.bind_eq_some_iff] at h1
      obtain ⟨cs', h2, h3⟩ := h1
      exact ⟨cs', by rw [Nat.zero_add]; exact h2, h3⟩)
  obtain ⟨ab, ao, asp⟩ := a
  have hlen2 : l.length = len := by rw [hll, hlen]
  -- a cell that can be read
  have hsp : l ≠ [] → asp = none ∧ ab < w.heap.size := by
    intro hne
    obtain ⟨z, r, rfl⟩ := List.exists_cons_of_ne_nil hne
    obtain ⟨y, cs', _, hr, hrep⟩ := hat 0 z rfl
    obtain ⟨_, hcl, hcell⟩ := World.cells?_some hr.1
    have h0 := hcell 0 (by rw [hC]; exact hN)
    have hlt : 0 < cs'.length := by rw [hcl, hC]; exact hN
    rw [List.getElem?_eq_getElem hlt] at h0
    unfold World.cell? at h0
    have e0 : (Addr.add (Addr.add ⟨ab, ao, asp⟩ ((0 + 0) * P.cellsOf e)) 0) = ⟨ab, ao, asp⟩ := by simp [Addr.add]
    rw [e0] at h0
    split at h0
    ·rename_i hh
     refine ⟨?_, (Array.getElem?_eq_some_iff.1 hh).1⟩
     cases asp with
     | none => rfl
     | some _ => simp at h0
    cases h0
  refine ⟨l, _, rfl, ?_, ?_⟩
  ·-- the cells of an element
   have key : ∀ i z, l[i]? = some z → ∃ cs', RepEl own w (f z) cs' ∧ cs'.length = N ∧ ∀ j, j < N → w.cell? ⟨ab, ao + i * N + j, none⟩ = cs'[j]? := by
     intro i z hz
     obtain ⟨y, cs', _, hr, hrep⟩ := hat i z hz
     obtain ⟨_, hcl, hcell⟩ := World.cells?_some hr.1
     refine ⟨cs', hrep, hcl.trans hC, fun j hj => ?_⟩
     have h1 := hcell j (by rw [hC]; exact hj)
     have hne : l ≠ [] := by intro e; subst e; simp at hz
     have hs := (hsp hne).1
     subst hs
     rw [← h1, Addr.add_mid, Addr.add_mid, hC, Nat.zero_add]
   have hrep := RepP.seq (own := own) (w := w) (l.map f) (some ⟨ab, ao, asp⟩) cap ab ao (fun i j => (w.cell? ⟨ab, ao + i * N + j, none⟩).getD default)
     (fun hne => by rw [(hsp (by intro e; subst e; exact hne rfl)).1]) (fun hne => by
       have := (hsp (by intro e; subst e; exact hne rfl)).2
       exact ⟨hown _ this, this⟩) (by simp; omega) hm ?_ ?_
   ·rw [List.length_map, hlen2] at hrep; exact hrep
   ·intro i el hi j c hj
    rw [List.getElem?_map, Option.map_eq_some_iff] at hi
    obtain ⟨z, hz, rfl⟩ := hi
    obtain ⟨cs', hrep, hcl, hcell⟩ := key i z hz
    have hjN : j < N := by have := (List.getElem?_eq_some_iff.1 hj).1; rw [hrep.1, hcl] at this; exact this
    have h1 := hcell j hjN
    have hfl : (f z).length = N := by rw [hrep.1, hcl]
    rw [hfl, h1, List.getElem?_eq_getElem (by omega)]
    rfl
   intro i el hi j c hj
   rw [List.getElem?_map, Option.map_eq_some_iff] at hi
   obtain ⟨z, hz, rfl⟩ := hi
   obtain ⟨cs', hrep, hcl, hcell⟩ := key i z hz
   have hjN : j < N := by have := (List.getElem?_eq_some_iff.1 hj).1; rw [hrep.1, hcl] at this; exact this
   have h1 := hcell j hjN
   rw [List.getElem?_eq_getElem (by omega)] at h1
   rw [h1]
   exact hrep.2 j c _ hj (List.getElem?_eq_getElem (by omega))
  simp only [Rows.uptoBulk]; omega
theorem trod_ints {own : Nat → Prop} (hown : ∀ b, b < w.heap.size → ¬ own b) {t e : TypeId} {fuel : Nat} {cs : List Value} {x : DataW H × List MemPlace} (ht : P.underlying t = some (.slice e)) (he : P.underlying e = some (.int .i64)) (hC : P.cellsOf e = 1)
    (h : DataW.trod enc P w base spare held fuel t cs = some x) : ∃ (l : List Int) (v : Value), cs = [v] ∧ RepP own w (ints l) v ∧ l.length + 1 ≤ Rows.uptoBulk x.1 := by
  obtain ⟨l, v, h1, h2, h3⟩ := trod_list eInt (fun _ => 0) hown ht hC (by decide) h (fun n cs' y _ _ hy => by
    obtain ⟨k, rfl, rfl, _⟩ := DataW.trod_int he hy
    exact ⟨k, RepEl.cons (.val _) .nil, by simp [Rows.uptoBulk]⟩)
  exact ⟨l, v, h1, h2, by omega⟩
end
end
section
open Go Go.ChangeShapes Go.WideShapes Go.ChangeAt Go.RowKit Go.Deep
section
variable {H : Type} {enc : TypeId × Value → H} {w : World} {base : Nat} {spare : Nat → Bool} {held : Bool}
theorem trod_fields {P : Program} {t : TypeId} {fs : Array Field} {fuel : Nat} {cs : List Value} {x : DataW H × List MemPlace} (hs : P.underlying t = some (.struct fs)) (hone : oneCellFields P fs = true)
    (h : DataW.trod enc P w base spare held fuel t cs = some x) : ∃ (xs : List (DataW H × List MemPlace)) (n : Nat), fuel = n + 1 ∧ x.1 = .agg (xs.map (·.1)) ∧ xs.length = fs.size ∧
      ∀ (j : Nat) (f : Field) (v : Value) y, fs[j]? = some f → cs[j]? = some v → xs[j]? = some y → DataW.trod enc P w base spare held n f.type [v] = some y := by
  obtain ⟨xs, n, hn, rfl, hl, hxl, hg⟩ := DataW.trod_struct hs h
  refine ⟨xs, n, hn, rfl, hxl, fun j f v y hf hv hy => ?_⟩
  obtain ⟨ho, hk⟩ := hone_of hone j f hf
  have h1 := hg j f hf
  rw [ho, hk] at h1
  have hjl : j < cs.length := (List.getElem?_eq_some_iff.1 hv).1
  have hvv : cs[j] = v := (List.getElem?_eq_some_iff.1 hv).2
  rw [List.drop_eq_getElem_cons hjl] at h1
  simp only [List.take_succ_cons, List.take_zero, hvv] at h1
  rw [h1, hy]
theorem str_len (s : ByteArray) : s.data.toList.length = s.size := Array.length_toList
theorem len2 {α : Type} : ∀ {l : List α}, l.length = 2 → ∃ a b, l = [a, b]
  | [a, b], _ => ⟨a, b, rfl⟩
theorem len5 {α : Type} : ∀ {l : List α}, l.length = 5 → ∃ a b c d e, l = [a, b, c, d, e]
  | [a, b, c, d, e], _ => ⟨a, b, c, d, e, rfl⟩
theorem len8 {α : Type} : ∀ {l : List α}, l.length = 8 → ∃ a b c d e f g h, l = [a, b, c, d, e, f, g, h]
  | [a, b, c, d, e, f, g, h], _ => ⟨a, b, c, d, e, f, g, h, rfl⟩
theorem wtL_sum : ∀ l : List Nd, wtL l = (l.map wtN).sum
  | [] => rfl
  | x :: r => by simp [wtL, wtL_sum r]
theorem wtK_sum : ∀ l : List (List Nd), wtK l = (l.map fun q => q.length + wtL q).sum + l.length
  | [] => rfl
  | x :: r => by simp only [wtK, wtK_sum r, List.map_cons, List.sum_cons, List.length_cons]; omega
theorem trod_nodes {own : Nat → Prop} (hown : ∀ b, b < w.heap.size → ¬ own b) : ∀ (N fuel : Nat) (cs : List Value) (x : DataW H × List MemPlace), fuel < N → DataW.trod enc Tryz.prog w base spare held fuel 44 cs = some x →
    ∃ (l : List Nd) (v : Value), cs = [v] ∧ RepP own w (nodes l) v ∧ wtL l + l.length + 1 ≤ Rows.uptoBulk x.1
  | 0, fuel, _, _, h, _ => absurd h (Nat.not_lt_zero _)
  | N + 1, fuel, cs, x, hN, h => by
    obtain ⟨l, v, h1, h2, h3⟩ := trod_list Nd.enc wtN hown uT44 (N := 8) (by kernel_rfl) (by decide) h (fun n cs' y hn hcl hy => by
      obtain ⟨xs, m, rfl, hx, hxl, hf⟩ := trod_fields uT43 (by kernel_rfl) hy
      obtain ⟨c0, c1, c2, c3, c4, c5, c6, c7, rfl⟩ := len8 hcl
      obtain ⟨y0, y1, y2, y3, y4, y5, y6, y7, rfl⟩ := len8 hxl
      obtain ⟨k0, e0, f0, _⟩ := DataW.trod_int uT3 (hf 0 _ _ _ rfl rfl rfl)
      obtain ⟨k1, e1, f1, _⟩ := DataW.trod_int uT3 (hf 1 _ _ _ rfl rfl rfl)
      obtain ⟨k2, e2, f2, _⟩ := DataW.trod_int uT3 (hf 2 _ _ _ rfl rfl rfl)
      obtain ⟨s, e3, f3, _⟩ := DataW.trod_string uT9 (hf 3 _ _ _ rfl rfl rfl)
      obtain ⟨as_, v4, e4, r4, b4⟩ := trod_ints hown uT35 uT3 (by kernel_rfl) (hf 4 _ _ _ rfl rfl rfl)
      obtain ⟨os_, v5, e5, r5, b5⟩ := trod_ints hown uT35 uT3 (by kernel_rfl) (hf 5 _ _ _ rfl rfl rfl)
      obtain ⟨ps_, v6, e6, r6, b6⟩ := trod_ints hown uT35 uT3 (by kernel_rfl) (hf 6 _ _ _ rfl rfl rfl)
      obtain ⟨ks, v7, e7, r7, b7⟩ := trod_list eKid (fun q => q.length + wtL q) hown uT41 (N := 1) (by kernel_rfl) (by decide) (hf 7 _ _ _ rfl rfl rfl) (fun n' cs2 y' hn' _ hy' => by
        obtain ⟨q, v', h1', h2', h3'⟩ := trod_nodes hown N n' cs2 y' (by omega) hy'
        subst h1'
        exact ⟨q, RepEl.cons h2' .nil, by omega⟩)
      cases e0; cases e1; cases e2; cases e3; cases e4; cases e5; cases e6; cases e7
      refine ⟨.mk k0 k1 k2 s as_ os_ ps_ ks, ?_, ?_⟩
      · refine RepEl.cons (.val _) (.cons (.val _) (.cons (.val _) (.cons (.val _) (.cons r4 (.cons r5 (.cons r6 (.cons ?_ .nil)))))))
        rw [Nd.encK_eq]; exact r7
      · rw [hx]
        have hs := str_len s
        simp only [Rows.uptoBulk, Rows.uptoBulkAll, List.map_cons, List.map_nil, f0, f1, f2, f3, wtN, wtK_sum, hs]
        omega)
    exact ⟨l, v, h1, h2, by rw [wtL_sum]; exact h3⟩
theorem wtA_sum : ∀ l : List Ar, wtA l = (l.map fun a => a.name.size).sum
  | [] => rfl
  | x :: r => by simp [wtA, wtA_sum r]
theorem wtF_sum : ∀ l : List Fl, wtF l = (l.map fun f => f.name.size + f.types.length + r8nodes f.body).sum
  | [] => rfl
  | x :: r => by simp [wtF, wtF_sum r]
theorem trod_unit {own : Nat → Prop} (hown : ∀ b, b < w.heap.size → ¬ own b) {fuel : Nat} {cs : List Value} {x : DataW H × List MemPlace} (h : DataW.trod enc Tryz.prog w base spare held fuel 25 cs = some x) :
    ∃ u : Un, RepEl own w [arrs u.arrays, flws u.flows] cs ∧ r8Weight u ≤ Rows.uptoBulk x.1 := by
  have hcl : cs.length = 2 := by
    obtain ⟨_, _, _, _, hl, _, _⟩ := DataW.trod_struct uT25 h
    exact hl.trans (by kernel_rfl)
  obtain ⟨xs, m, rfl, hx, hxl, hf⟩ := trod_fields uT25 (by kernel_rfl) h
  obtain ⟨c0, c1, rfl⟩ := len2 hcl
  obtain ⟨y0, y1, rfl⟩ := len2 hxl
  obtain ⟨as_, v0, e0, r0, b0⟩ := trod_list Ar.enc (fun a => a.name.size) hown uT22 (N := 2) (by kernel_rfl) (by decide) (hf 0 _ _ _ rfl rfl rfl) (fun n cs' y hn hcl hy => by
    obtain ⟨xs, m, rfl, hx, hxl, hf⟩ := trod_fields Tryz.underlying49 (by kernel_rfl) hy
    obtain ⟨c0, c1, rfl⟩ := len2 hcl
    obtain ⟨y0, y1, rfl⟩ := len2 hxl
    obtain ⟨s, e3, f3, _⟩ := DataW.trod_string uT9 (hf 0 _ _ _ rfl rfl rfl)
    obtain ⟨k0, e0, f0, _⟩ := DataW.trod_int uT3 (hf 1 _ _ _ rfl rfl rfl)
    cases e0; cases e3
    refine ⟨⟨s, k0⟩, RepEl.cons (.val _) (.cons (.val _) .nil), ?_⟩
    rw [hx]
    have hs := str_len s
    simp only [Rows.uptoBulk, Rows.uptoBulkAll, List.map_cons, List.map_nil, f0, f3, hs]
    omega)
  obtain ⟨fs_, v1, e1, r1, b1⟩ := trod_list Fl.enc (fun f => f.name.size + f.types.length + r8nodes f.body) hown uT23 (N := 5) (by kernel_rfl) (by decide) (hf 1 _ _ _ rfl rfl rfl) (fun n cs' y hn hcl hy => by
    obtain ⟨xs, m, rfl, hx, hxl, hf⟩ := trod_fields Tryz.underlying51 (by kernel_rfl) hy
    obtain ⟨c0, c1, c2, c3, c4, rfl⟩ := len5 hcl
    obtain ⟨y0, y1, y2, y3, y4, rfl⟩ := len5 hxl
    obtain ⟨s, e3, f3, _⟩ := DataW.trod_string uT9 (hf 0 _ _ _ rfl rfl rfl)
    obtain ⟨k0, e0, f0, _⟩ := DataW.trod_int uT3 (hf 1 _ _ _ rfl rfl rfl)
    obtain ⟨k1, e1, f1, _⟩ := DataW.trod_int uT3 (hf 2 _ _ _ rfl rfl rfl)
    obtain ⟨ts_, v4, e4, r4, b4⟩ := trod_ints hown uT35 uT3 (by kernel_rfl) (hf 3 _ _ _ rfl rfl rfl)
    obtain ⟨q, v5, e5, r5, b5⟩ := trod_nodes hown _ _ _ _ (Nat.lt_succ_self _) (hf 4 _ _ _ rfl rfl rfl)
    cases e0; cases e1; cases e3; cases e4; cases e5
    refine ⟨⟨s, k0, k1, ts_, q⟩, RepEl.cons (.val _) (.cons (.val _) (.cons (.val _) (.cons r4 (.cons r5 .nil)))), ?_⟩
    rw [hx]
    have hs := str_len s
    simp only [Rows.uptoBulk, Rows.uptoBulkAll, List.map_cons, List.map_nil, f0, f1, f3, hs, r8nodes]
    omega)
  cases e0; cases e1
  refine ⟨⟨as_, fs_⟩, RepEl.cons r0 (.cons r1 .nil), ?_⟩
  rw [hx]
  simp only [Rows.uptoBulk, Rows.uptoBulkAll, List.map_cons, List.map_nil, r8Weight, wtA_sum, wtF_sum]
  omega
end
end
section
open Go Go.ChangeShapes Go.WideShapes Go.ChangeAt Go.RowKit Go.Deep
theorem Tryz.own : ownKnob Tryz.prog.godebug = none := by kernel_rfl
theorem Tryz.laidOut : laidOutB Tryz.prog = true := by kernel_rfl
section
variable {H : Type} {enc : TypeId × Value → H} {P : Program}
theorem sameAt_of {W W' : World} {p : MemPlace} (h : W'.heap[p.block]? = W.heap[p.block]?) : W.sameAt W' p := by
  cases p <;> simp_all [World.sameAt, MemPlace.block, World.cell?]
theorem trodAll_stays (hl : laidOutB P = true) {W W' : World} (hb : ∀ b, b < W.heap.size → W'.heap[b]? = W.heap[b]?) : ∀ (ts : List TypeId) (vs : List Value) (ds : List (DataW H)) (ps : List MemPlace),
    (∀ t ∈ ts, P.readableRec t = true ∧ t < P.types.size) → DataW.TrodAll enc P W 0 (fun _ => true) true ts vs ds ps → (∀ x ∈ ps, x.block < W.heap.size) →
    DataW.TrodAll enc P W' 0 (fun b => decide (b < W.heap.size)) true ts vs ds ps
  | [], vs, ds, ps, _, h, _ => by
    obtain ⟨rfl, rfl, rfl⟩ := trodAll_nil h
    exact trodAll_mk0
  | t :: ts, vs, ds, ps, hr, h, hp => by
    obtain ⟨v, vs', d, ds', p, q, rfl, rfl, rfl, h1, h2⟩ := trodAll_cons h
    have ht := hr t (.head _)
    refine ⟨p, q, ?_, trodAll_stays hl hb ts vs' ds' q (fun t' h' => hr t' (.tail _ h')) h2 (fun x hx => hp x (List.mem_append_right _ hx)), rfl⟩
    refine WideElems.Trod_stays hl ht.1 ht.2 h1 (fun x hx => ?_) (fun x hx => by simpa using hp x (List.mem_append_left _ hx))
    exact sameAt_of (hb _ (hp x (List.mem_append_left _ hx)))
theorem keptBut_of {W W' : World} (may : MemPlace → Prop) (hos : W'.os = W.os) (hout : W'.output = W.output) (hb : ∀ b, b < W.heap.size → W'.heap[b]? = W.heap[b]?) : W.keptBut W' may := by
  refine ⟨hos, hout, fun i hi => ?_⟩
  rw [hb i hi]
  rcases h : W.heap[i]? with _ | o
  ·trivial
  cases o with
  | cells c t fr => exact ⟨rfl, rfl, rfl, fun _ _ => rfl⟩
  | map es clock => exact .inr ⟨rfl, rfl⟩
  | _ => rfl
theorem post_true {f : Func} {s : ChangeSpec} {apart fresh handsOn : Bool} {W W' : World} {args : Array Value} {ds gs : List (DataW H)} {before : List MemPlace} {tb : TypeId} (hl : laidOutB P = true) (hv0 : s.vars = [])
    (hW : DataW.Whole enc P f.params.toList s.vars apart W args.toList ds gs before) (hrd : ∀ t ∈ f.params.toList, P.readableRec t = true ∧ t < P.types.size) (hres : f.resultTypes = #[tb]) (htb : P.underlying tb = some .bool)
    (hs : s.fn H (ds ++ gs) = { results := [.lit (.bool true)], args := ds }) (hos : W'.os = W.os) (hout : W'.output = W.output) (hb : ∀ b, b < W.heap.size → W'.heap[b]? = W.heap[b]?) :
    s.post enc P f apart fresh handsOn false W args (.bool true) W' := by
  have hlt := hW.lt
  have hW' := hW
  obtain ⟨p, q, hA, hV, rfl, _, _⟩ := hW
  refine ⟨ds, gs, p ++ q, [], p, [], hW', ?_, ?_, ?_, keptBut_of _ hos hout hb, fun h => by cases h⟩
  ·rw [hs, hres]
   exact trodAll_mk1 ⟨1, by simp [DataW.trod, htb, Value.cells]⟩
  ·rw [hs]
   exact trodAll_stays hl hb _ _ _ _ hrd hA (fun x hx => hlt x (List.mem_append_left _ hx))
  rw [hs, hv0]
  exact rfl
end
theorem relH_none {W : World} : RelH (fun _ => False) (fun _ => none) (look (up [])) W where
  inj _ _ _ _ _ h := by cases h
  apart _ _ _ h := by cases h
  old _ h := h.elim
  obj _ _ _ h := by cases h
  real _ _ h := by cases h
theorem call_true {P : Program} {f : FuncId} {args : List IV} {R : Nat → Prop} (hsc : SC P f args [] R (iBool true) []) {W : World} {vs : List Value} (hr : RepL (fun _ => False) (fun _ => none) (look (up [])) W args vs) :
    Calls P f vs.toArray W fun e W' => e = .returned (.bool true) ∧ W'.os = W.os ∧ W'.output = W.output ∧ ∀ b, b < W.heap.size → W'.heap[b]? = W.heap[b]? := by
  refine (hsc (fun _ => False) (fun _ => none) W vs relH_none hr).mono ?_
  rintro e W' ⟨ρ', v, rfl, hv, _, t⟩
  refine ⟨?_, t.os, t.output, fun b hb => t.blk b hb fun k c h => by cases h⟩
  cases hv with
  | pv _ _ hp => cases hp; rfl
theorem own_none {b : Nat} : ¬ owned (fun _ => False) (fun _ => none) b := by
  rintro (h | ⟨_, _, h⟩)
  ·exact h
  cases h
end
section
open Go Go.ChangeShapes Go.WideShapes Go.ChangeAt Go.RowKit Go.Deep
theorem repEl_agg {own : Nat → Prop} {w : World} {ps : List PV} {cs : Array Value} (h : RepEl own w ps cs.toList) : RepP own w (.agg ps) (.agg cs) := by
  refine .agg ps cs (fun j => cs[j]?.getD default) (by simpa using h.1.symm) (fun j c hj => ?_) (fun j c hj => ?_)
  ·have hlt : j < cs.size := by have := (List.getElem?_eq_some_iff.1 hj).1; rw [h.1] at this; simpa using this
   rw [Array.getElem?_eq_getElem hlt]; rfl
  have hlt : j < cs.size := by have := (List.getElem?_eq_some_iff.1 hj).1; rw [h.1] at this; simpa using this
  refine h.2 j c _ hj ?_
  rw [Array.getElem?_toList, Array.getElem?_eq_getElem hlt]; rfl
theorem repL_one {x : IV} {v : Value} {F : Nat → Prop} {ρ : Loc} {σ : Heap'} {w : World} (h : RepI F ρ σ w x v) : RepL F ρ σ w [x] [v] := by
  refine ⟨rfl, fun j y hj => ?_⟩
  cases j with
  | zero => simp at hj; subst hj; exact ⟨v, rfl, h⟩
  | succ j => simp at hj
set_option maxRecDepth 100000 in
theorem open_unit {H : Type} {enc : TypeId × Value → H} {W : World} {base b0 : Nat} {spare : Nat → Bool} {held : Bool} {r : Reach} {v : Value} {d : DataW H} {p : List MemPlace} (hv : Value.okWide Tryz.prog W r b0 25 v)
    (h : DataW.Trod enc Tryz.prog W base spare held 25 v d p) : ∃ u : Un, RepI (fun _ => False) (fun _ => none) (look (up [])) W (.pv u.enc) v ∧ r8Weight u ≤ Rows.uptoBulk d := by
  obtain ⟨cs, rfl, _⟩ := okWide_struct uT25 hv
  obtain ⟨fuel, hf⟩ := h
  obtain ⟨u, h1, h2⟩ := trod_unit (own := owned (fun _ => False) (fun _ => none)) (fun _ _ => own_none) hf
  exact ⟨u, .pv _ _ (repEl_agg h1), h2⟩
theorem bulk_of {H : Type} {l : List (DataW H)} (hk : Rows.uptoSmall H l = true) : Rows.uptoBulkAll l ≤ 1048576 := by
  unfold Rows.uptoSmall at hk
  exact of_decide_eq_true hk
set_option maxRecDepth 100000 in
theorem wantAny_contract (hsc : ∀ u : Un, r8Weight u ≤ 1048576 → SC Tryz.prog 3 [.pv u.enc] [] (fun _ => False) (iBool true) []) (H : Type) (enc : TypeId × Value → H) (W : World) (base : Nat) (args : Array Value) (ds gs : List (DataW H)) (before : List MemPlace)
    (hval : ∀ (j : Nat) t v, Tryz.f3.params[j]? = some t → args[j]? = some v → Value.okWide Tryz.prog W .any base t v)
    (hW : DataW.Whole enc Tryz.prog Tryz.f3.params.toList Rows.wantAnySpec.vars false W args.toList ds gs before) (hk : Rows.uptoSmall H (ds ++ gs) = true) :
    Calls Tryz.prog 3 args W fun e W' => ∃ v, e = .returned v ∧ Rows.wantAnySpec.post enc Tryz.prog Tryz.f3 false true false false W args v W' := by
  have hW' := hW
  obtain ⟨p, q, hA0, hV, rfl, hfz, hnd⟩ := hW
  have hA : DataW.TrodAll enc Tryz.prog W 0 (fun _ => true) true Tryz.f3.params.toList args.toList ds p := hA0
  rw [Tryz.params3] at hA hval
  obtain ⟨v0, vs0, d0, ds0, p0, q0, hargs, rfl, rfl, h0, r0⟩ := trodAll_cons hA
  obtain ⟨rfl, rfl, rfl⟩ := trodAll_nil r0
  obtain rfl : args = #[v0] := by cases args; simp_all
  obtain ⟨rfl, rfl⟩ := trodVars_none hV
  obtain ⟨u, hu, hw⟩ := open_unit (hval 0 25 v0 rfl rfl) h0
  have hb := bulk_of hk
  simp only [List.append_nil, Rows.uptoBulkAll] at hb
  refine (call_true (hsc u (by omega)) (repL_one hu)).mono ?_
  rintro e W' ⟨rfl, hos, hout, hbl⟩
  exact ⟨_, rfl, post_true Tryz.laidOut rfl hW' (fun t ht => by
    rw [Tryz.params3] at ht
    obtain rfl : t = 25 := by simpa using ht
    exact ⟨by kernel_rfl, of_decide_eq_true (by kernel_rfl)⟩) (by kernel_rfl) Tryz.underlying4 rfl hos hout hbl⟩
set_option maxRecDepth 100000 in
theorem wantAny_lifted (hsc : ∀ u : Un, r8Weight u ≤ 1048576 → SC Tryz.prog 3 [.pv u.enc] [] (fun _ => False) (iBool true) []) (os : Os) (started : os.Started) (H : Type) (enc : TypeId × Value → H) (F : Stop.Interp) :
    ReturnsInHanded {} Tryz.checked os 3 .any ((Rows.OpenSpec.upto Rows.wantAnySpec).pre6 enc Tryz.prog Tryz.f3 Rows.wantAnyUptoRow.domain false) (((Rows.OpenSpec.upto Rows.wantAnySpec).at F).post enc Tryz.prog Tryz.f3 false true false false) := by
  refine returnsInHanded_of_cond (C := Tryz.checked) (s := Rows.OpenSpec.upto Rows.wantAnySpec) (k := Rows.uptoSmall) rfl Tryz.own started (by kernel_rfl) Tryz.func3
    (OpenSpec.witness (enc := enc) (C := Tryz.checked) (s := Rows.OpenSpec.upto Rows.wantAnySpec) (k := Rows.uptoSmall) rfl false ⟨#[], #[.agg #[.slice none 0 0, .slice none 0 0]], []⟩ 8 (by kernel_rfl) (by kernel_rfl) (by kernel_rfl)
      (x := ([.agg [.nil, .nil]], [], [])) (by kernel_rfl) rfl (by kernel_rfl)) ?_
  intro W base args ds gs before hval hW _ hk _
  exact wantAny_contract hsc H enc W base args ds gs before hval hW hk
theorem wantAny_of (hsc : ∀ u : Un, r8Weight u ≤ 1048576 → SC Tryz.prog 3 [.pv u.enc] [] (fun _ => False) (iBool true) []) : Rows.WantAnyUptoSaid :=
  OpenClaim.holds_of_cond 3 Tryz.f3 rfl rfl rfl rfl rfl rfl rfl ⟨rfl, rfl, rfl, rfl, rfl⟩ rfl rfl rfl rfl rfl (by kernel_rfl) Tryz.func3 (by kernel_rfl)
    (of_decide_eq_true (by kernel_rfl)) (by unfold Func.isWrapper; first | (rw [if_pos (by decide +kernel)]; kernel_rfl) | (rw [if_neg (by decide +kernel)]; exact ⟨rfl, rfl⟩))
    (fun os started H enc _ F => wantAny_lifted hsc os started H enc F)
end
theorem wantAny_holds : Rows.WantAnyUptoSaid := wantAny_of fun u hW => sc_WantAny u (Nat.le_trans hW (Nat.le_of_ble_eq_true rfl))
end Go.Proofs.YtiflpehjefhnmaaGreat
