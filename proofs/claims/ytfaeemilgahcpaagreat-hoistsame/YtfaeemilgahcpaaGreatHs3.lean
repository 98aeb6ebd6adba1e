/- PART 3 of 6 of a proof: see the last part. -/
import Derived.Test.YtfaeemilgahcpaaGreatHs2
set_option maxRecDepth 8000
set_option maxHeartbeats 2000000
set_option linter.unusedSimpArgs false
set_option linter.unusedVariables false
set_option linter.unusedSectionVars false
namespace Go.Proofs.YtfaeemilgahcpaaGreat
open Go
theorem sc_gSimple (l : List UInt8) (seen : List Int) (g : Gn) (hs : InR g.types seen) (hb : g.pos ≤ 999980) (hbt : g.types.length ≤ 999990) (hsl : seen.length ≤ 1000000) : SC Tryz.prog 50 [.ptr 2001 0, .sl 2003 (seen.map eInt).length] (gHs l g seen) (fun _ => False) (.pv (ndv (gSimple l seen g).1)) (gHs l (gSimple l seen g).2 seen) := by
  refine SC.ofC Tryz.func50 rfl (lb rfl) rfl fun F ρ w => ?_
  have h12 : (gPick l 12 g).1 < 12 := gPick_lt (by omega)
  have hN : (gNums.map eInt)[(gPick l 6 (gPick l 12 g).2).1]? = some [vInt (gNums.getD (gPick l 6 (gPick l 12 g).2).1 0)] := getD_at (gPick_lt (by omega))
  have hO : (gOnes.map eInt)[(gPick l 4 (gPick l 12 g).2).1]? = some [vInt (gOnes.getD (gPick l 4 (gPick l 12 g).2).1 0)] := getD_at (gPick_lt (by omega))
  have hp11 : (gPick l 11 (gPick l 12 g).2).1 < 11 := gPick_lt (by omega)
  have hp6 : (gPick l 6 (gPick l 12 g).2).1 < 6 := gPick_lt (by omega)
  refine tQ <| tG <| cE rfl (aLc (k := 104) rfl tZ42 rfl rfl rfl rfl) <| nL <| tQ <| tG <| sm 1 rfl <| nL <| tQ <| tQ <| tG <| sm 1 rfl ?_
  refine cE rfl (ocr (sc_gPick l 12 g (by omega) (by omega)) ent49 rfl (po2 rfl rfl) rfl (fun k (h : _) => .inr h) rfl rfl) <| nL <| tBk <| tQ <| tG <| sm 2 rfl <| nL ?_
  refine tC rfl (fun hc8 => ?_) fun hc8 => ?_
  ·have hk : (gPick l 12 g).1 = 0 := by simp at hc8; omega
   have e : gSimple l seen g = gNode l 1 0 (gNums.getD (gPick l 6 (gPick l 12 g).2).1 0) nName seen [] [1] (gPick l 6 (gPick l 12 g).2).2 := by
     unfold gSimple
     simp only []
     rw [if_pos (by omega)]
   rw [e]
   have hP6 := sc_gPick l 6 (gPick l 12 g).2 (by omega) (by (simp only [gPick]; omega))
   have hO6 := sc_gOuts l [1] (gPick l 6 (gPick l 12 g).2).2 (by simp only [gPick, gEach_st, List.length_cons, List.length_nil]; omega)
   refine tQ <| tDr mixed (fun k => k ∈ ([] : List Nat)) <| wR 8 [1, 5, 6] (by kernel_rfl) (fun _ _ _ h => h) <| smR 3 rfl <| nR <| WA.all (rs := [0, 2, 7]) (by kernel_rfl) (by simp) ?_
   refine fmc ⟨?_, fmc ⟨?_, fmc ⟨?_, by simp⟩⟩⟩
   ·refine wI rfl rfl nf nw (fun _ _ => bSl rfl rfl uT35 tZ3 tS3 rfl rfl rfl rfl (fbk rfl) rfl) <| WA.all (rs := [2, 7]) (by kernel_rfl) (by simp) ?_
    refine fmc ⟨?_, fmc ⟨?_, by simp⟩⟩
    ·refine wI rfl rfl nf (nAp rfl) (fun _ _ => ocr (hP6) ent49 rfl (po2 rfl rfl) rfl nl rfl rfl) <| wR 4 [3, 4] (by kernel_rfl) (fun _ _ _ h => h) <| rV rfl rfl (iSq rfl rfl rfl uT35 hN tS3 rfl rfl) <| smR 1 rfl <| nR <| wO 7 (by kernel_rfl) <| wI rfl rfl nf nw (fun _ _ => bSl rfl rfl uT35 tZ3 tS3 rfl rfl rfl rfl (fbk rfl) rfl) <| wO 8 (by kernel_rfl) <| wI rfl rfl nf (nAp rfl) (fun _ _ => ocr (hO6) ent34 rfl (po2 rfl rfl) rfl nl rfl rfl) <| wR 1 [9] (by kernel_rfl) (fun _ _ _ h => h) <| rV rfl rfl (bPu rfl rfl tZ42 tP42 rfl (fbk rfl) rfl) <| nR ?_
     refine wO 10 (by kernel_rfl) <| wI rfl rfl nf (nOl rfl) (fun _ _ => sBA rfl rfl rfl rfl rfl (by simp) tS42 (flk rfl) (lb rfl)) <| wDn (by kernel_rfl) <| Tr.fixNil (k := 104) rfl (fun h => h) <| tRt <| rCk (.inl rfl) (fun _ _ ho => lBP ho rfl rfl uT42 rfl tS42 (lb rfl) rfl trivial) rfl (po3 rfl rfl rfl)
    refine wI rfl rfl nf nw (fun _ _ => bSl rfl rfl uT35 tZ3 tS3 rfl rfl rfl rfl (fbk rfl) rfl) <| wO 2 (by kernel_rfl) <| wI rfl rfl nf (nAp rfl) (fun _ _ => ocr (hP6) ent49 rfl (po2 rfl rfl) rfl nl rfl rfl) <| wR 3 [3, 4] (by kernel_rfl) (fun _ _ _ h => h) <| rV rfl rfl (iSq rfl rfl rfl uT35 hN tS3 rfl rfl) <| smR 1 rfl <| nR <| wO 8 (by kernel_rfl) <| wI rfl rfl nf (nAp rfl) (fun _ _ => ocr (hO6) ent34 rfl (po2 rfl rfl) rfl nl rfl rfl) <| wR 1 [9] (by kernel_rfl) (fun _ _ _ h => h) <| rV rfl rfl (bPu rfl rfl tZ42 tP42 rfl (fbk rfl) rfl) <| nR ?_
    refine wO 10 (by kernel_rfl) <| wI rfl rfl nf (nOl rfl) (fun _ _ => sBA rfl rfl rfl rfl rfl (by simp) tS42 (flk rfl) (lb rfl)) <| wDn (by kernel_rfl) <| Tr.fixNil (k := 104) rfl (fun h => h) <| tRt <| rCk (.inl rfl) (fun _ _ ho => lBP ho rfl rfl uT42 rfl tS42 (lb rfl) rfl trivial) rfl (po3 rfl rfl rfl)
   ·refine wI rfl rfl nf (nAp rfl) (fun _ _ => ocr (hP6) ent49 rfl (po2 rfl rfl) rfl nl rfl rfl) <| WA.all (rs := [0, 7]) (by kernel_rfl) (by simp) ?_
    refine fmc ⟨?_, fmc ⟨?_, by simp⟩⟩
    ·refine wI rfl rfl nf nw (fun _ _ => bSl rfl rfl uT35 tZ3 tS3 rfl rfl rfl rfl (fbk rfl) rfl) <| wR 4 [3, 4] (by kernel_rfl) (fun _ _ _ h => h) <| rV rfl rfl (iSq rfl rfl rfl uT35 hN tS3 rfl rfl) <| smR 1 rfl <| nR <| wO 7 (by kernel_rfl) <| wI rfl rfl nf nw (fun _ _ => bSl rfl rfl uT35 tZ3 tS3 rfl rfl rfl rfl (fbk rfl) rfl) <| wO 8 (by kernel_rfl) <| wI rfl rfl nf (nAp rfl) (fun _ _ => ocr (hO6) ent34 rfl (po2 rfl rfl) rfl nl rfl rfl) <| wR 1 [9] (by kernel_rfl) (fun _ _ _ h => h) <| rV rfl rfl (bPu rfl rfl tZ42 tP42 rfl (fbk rfl) rfl) <| nR ?_
     refine wO 10 (by kernel_rfl) <| wI rfl rfl nf (nOl rfl) (fun _ _ => sBA rfl rfl rfl rfl rfl (by simp) tS42 (flk rfl) (lb rfl)) <| wDn (by kernel_rfl) <| Tr.fixNil (k := 104) rfl (fun h => h) <| tRt <| rCk (.inl rfl) (fun _ _ ho => lBP ho rfl rfl uT42 rfl tS42 (lb rfl) rfl trivial) rfl (po3 rfl rfl rfl)
    refine wI rfl rfl nf nw (fun _ _ => bSl rfl rfl uT35 tZ3 tS3 rfl rfl rfl rfl (fbk rfl) rfl) <| WA.all (rs := [0, 8]) (by kernel_rfl) (by simp) ?_
    refine fmc ⟨?_, fmc ⟨?_, by simp⟩⟩
    ·refine wI rfl rfl nf nw (fun _ _ => bSl rfl rfl uT35 tZ3 tS3 rfl rfl rfl rfl (fbk rfl) rfl) <| wR 3 [3, 4] (by kernel_rfl) (fun _ _ _ h => h) <| rV rfl rfl (iSq rfl rfl rfl uT35 hN tS3 rfl rfl) <| smR 1 rfl <| nR <| wO 8 (by kernel_rfl) <| wI rfl rfl nf (nAp rfl) (fun _ _ => ocr (hO6) ent34 rfl (po2 rfl rfl) rfl nl rfl rfl) <| wR 1 [9] (by kernel_rfl) (fun _ _ _ h => h) <| rV rfl rfl (bPu rfl rfl tZ42 tP42 rfl (fbk rfl) rfl) <| nR <| wO 10 (by kernel_rfl) <| wI rfl rfl nf (nOl rfl) (fun _ _ => sBA rfl rfl rfl rfl rfl (by simp) tS42 (flk rfl) (lb rfl)) ?_
     refine wDn (by kernel_rfl) <| Tr.fixNil (k := 104) rfl (fun h => h) <| tRt <| rCk (.inl rfl) (fun _ _ ho => lBP ho rfl rfl uT42 rfl tS42 (lb rfl) rfl trivial) rfl (po3 rfl rfl rfl)
    refine wI rfl rfl nf (nAp rfl) (fun _ _ => ocr (hO6) ent34 rfl (po2 rfl rfl) rfl nl rfl rfl) <| wO 0 (by kernel_rfl) <| wI rfl rfl nf nw (fun _ _ => bSl rfl rfl uT35 tZ3 tS3 rfl rfl rfl rfl (fbk rfl) rfl) <| wR 1 [3, 4, 9] (by kernel_rfl) (fun _ _ _ h => h) <| rV rfl rfl (iSq rfl rfl rfl uT35 hN tS3 rfl rfl) <| smR 1 rfl <| rV rfl rfl (bPu rfl rfl tZ42 tP42 rfl (fbk rfl) rfl) <| nR <| wO 10 (by kernel_rfl) <| wI rfl rfl nf (nOl rfl) (fun _ _ => sBA rfl rfl rfl rfl rfl (by simp) tS42 (flk rfl) (lb rfl)) <| wDn (by kernel_rfl) <| Tr.fixNil (k := 104) rfl (fun h => h) ?_
    refine tRt <| rCk (.inl rfl) (fun _ _ ho => lBP ho rfl rfl uT42 rfl tS42 (lb rfl) rfl trivial) rfl (po3 rfl rfl rfl)
   refine wI rfl rfl nf nw (fun _ _ => bSl rfl rfl uT35 tZ3 tS3 rfl rfl rfl rfl (fbk rfl) rfl) <| WA.all (rs := [0, 2]) (by kernel_rfl) (by simp) ?_
   refine fmc ⟨?_, fmc ⟨?_, by simp⟩⟩
   ·refine wI rfl rfl nf nw (fun _ _ => bSl rfl rfl uT35 tZ3 tS3 rfl rfl rfl rfl (fbk rfl) rfl) <| wO 2 (by kernel_rfl) <| wI rfl rfl nf (nAp rfl) (fun _ _ => ocr (hP6) ent49 rfl (po2 rfl rfl) rfl nl rfl rfl) <| wR 3 [3, 4] (by kernel_rfl) (fun _ _ _ h => h) <| rV rfl rfl (iSq rfl rfl rfl uT35 hN tS3 rfl rfl) <| smR 1 rfl <| nR <| wO 8 (by kernel_rfl) <| wI rfl rfl nf (nAp rfl) (fun _ _ => ocr (hO6) ent34 rfl (po2 rfl rfl) rfl nl rfl rfl) <| wR 1 [9] (by kernel_rfl) (fun _ _ _ h => h) <| rV rfl rfl (bPu rfl rfl tZ42 tP42 rfl (fbk rfl) rfl) <| nR ?_
    refine wO 10 (by kernel_rfl) <| wI rfl rfl nf (nOl rfl) (fun _ _ => sBA rfl rfl rfl rfl rfl (by simp) tS42 (flk rfl) (lb rfl)) <| wDn (by kernel_rfl) <| Tr.fixNil (k := 104) rfl (fun h => h) <| tRt <| rCk (.inl rfl) (fun _ _ ho => lBP ho rfl rfl uT42 rfl tS42 (lb rfl) rfl trivial) rfl (po3 rfl rfl rfl)
   refine wI rfl rfl nf (nAp rfl) (fun _ _ => ocr (hP6) ent49 rfl (po2 rfl rfl) rfl nl rfl rfl) <| WA.all (rs := [0, 8]) (by kernel_rfl) (by simp) ?_
   refine fmc ⟨?_, fmc ⟨?_, by simp⟩⟩
   ·refine wI rfl rfl nf nw (fun _ _ => bSl rfl rfl uT35 tZ3 tS3 rfl rfl rfl rfl (fbk rfl) rfl) <| wR 3 [3, 4] (by kernel_rfl) (fun _ _ _ h => h) <| rV rfl rfl (iSq rfl rfl rfl uT35 hN tS3 rfl rfl) <| smR 1 rfl <| nR <| wO 8 (by kernel_rfl) <| wI rfl rfl nf (nAp rfl) (fun _ _ => ocr (hO6) ent34 rfl (po2 rfl rfl) rfl nl rfl rfl) <| wR 1 [9] (by kernel_rfl) (fun _ _ _ h => h) <| rV rfl rfl (bPu rfl rfl tZ42 tP42 rfl (fbk rfl) rfl) <| nR <| wO 10 (by kernel_rfl) <| wI rfl rfl nf (nOl rfl) (fun _ _ => sBA rfl rfl rfl rfl rfl (by simp) tS42 (flk rfl) (lb rfl)) ?_
    refine wDn (by kernel_rfl) <| Tr.fixNil (k := 104) rfl (fun h => h) <| tRt <| rCk (.inl rfl) (fun _ _ ho => lBP ho rfl rfl uT42 rfl tS42 (lb rfl) rfl trivial) rfl (po3 rfl rfl rfl)
   refine wI rfl rfl nf (nAp rfl) (fun _ _ => ocr (hO6) ent34 rfl (po2 rfl rfl) rfl nl rfl rfl) <| wO 0 (by kernel_rfl) <| wI rfl rfl nf nw (fun _ _ => bSl rfl rfl uT35 tZ3 tS3 rfl rfl rfl rfl (fbk rfl) rfl) <| wR 1 [3, 4, 9] (by kernel_rfl) (fun _ _ _ h => h) <| rV rfl rfl (iSq rfl rfl rfl uT35 hN tS3 rfl rfl) <| smR 1 rfl <| rV rfl rfl (bPu rfl rfl tZ42 tP42 rfl (fbk rfl) rfl) <| nR <| wO 10 (by kernel_rfl) <| wI rfl rfl nf (nOl rfl) (fun _ _ => sBA rfl rfl rfl rfl rfl (by simp) tS42 (flk rfl) (lb rfl)) <| wDn (by kernel_rfl) <| Tr.fixNil (k := 104) rfl (fun h => h) ?_
   refine tRt <| rCk (.inl rfl) (fun _ _ ho => lBP ho rfl rfl uT42 rfl tS42 (lb rfl) rfl trivial) rfl (po3 rfl rfl rfl)
  have n0 : ¬ (gPick l 12 g).1 = 0 := by simp at hc8; omega
  refine tQ <| tG <| sm 2 rfl <| nL ?_
  refine tC rfl (fun hc20 => ?_) fun hc20 => ?_
  ·have hk : (gPick l 12 g).1 = 1 := by simp at hc20; omega
   refine tQ <| tG <| sm 1 rfl <| cE rfl (ocr (sc_gPick l 2 (gPick l 12 g).2 (by omega) (by (simp only [gPick]; omega))) ent49 rfl (po2 rfl rfl) rfl (fun k (h : _) => .inr h) rfl rfl) <| sm 1 rfl <| cE rfl (bSl rfl rfl uT35 tZ3 tS3 rfl rfl rfl rfl (fbk rfl) rfl) ?_
   refine cE rfl (ocr (sc_gOuts l [2] (gPick l 2 (gPick l 12 g).2).2 (by simp only [gPick, gEach_st, List.length_cons, List.length_nil]; omega)) ent34 rfl (po2 rfl rfl) rfl (fun k (h : _) => .inr h) rfl rfl) ?_
   refine cV rfl (bPu rfl rfl tZ42 tP42 rfl (fbk rfl) rfl) <| c0 (sBA rfl rfl rfl rfl rfl ((fun h => h)) tS42 (flk rfl) (lb rfl)) <| nL <| Tr.fixNil (k := 104) rfl (fun h => h) <| tRt ?_
   have e : gSimple l seen g = gNode l 2 0 (gPick l 2 (gPick l 12 g).2).1 nName seen [] [2] (gPick l 2 (gPick l 12 g).2).2 := by
     unfold gSimple
     simp only []
     rw [if_neg (by omega)]; rw [if_pos (by omega)]
   rw [e]
   refine rCk (.inl rfl) (fun _ _ ho => lBP ho rfl rfl uT42 rfl tS42 (lb rfl) rfl trivial) rfl (po3 rfl rfl rfl)
  have n1 : ¬ (gPick l 12 g).1 = 1 := by simp at hc20; omega
  refine tQ <| tG <| sm 2 rfl <| nL ?_
  refine tC rfl (fun hc28 => ?_) fun hc28 => ?_
  ·have hk : (gPick l 12 g).1 = 2 := by simp at hc28; omega
   have e : gSimple l seen g = gNode l 3 (gOnes.getD (gPick l 4 (gPick l 12 g).2).1 0) 0 nName seen [1] [1] (gPick l 4 (gPick l 12 g).2).2 := by
     unfold gSimple
     simp only []
     rw [if_neg (by omega)]; rw [if_neg (by omega)]; rw [if_pos (by omega)]
   rw [e]
   have hP4 := sc_gPick l 4 (gPick l 12 g).2 (by omega) (by (simp only [gPick]; omega))
   have hE4 := sc_gEach l seen [1] (gPick l 4 (gPick l 12 g).2).2 hs (by simp only [gPick, List.length_cons, List.length_nil]; omega) hsl
   have hO4 := sc_gOuts l [1] (gEach l seen [1] (gPick l 4 (gPick l 12 g).2).2).2 (by simp only [gPick, gEach_st, List.length_cons, List.length_nil]; omega)
   refine tQ <| tDr mixed (fun k => k ∈ ([] : List Nat)) <| wR 10 [1, 5, 6, 7, 10, 11] (by kernel_rfl) (fun _ _ _ h => h) <| smR 6 rfl <| nR <| WA.all (rs := [0, 2, 8, 12]) (by kernel_rfl) (by simp) ?_
   refine fmc ⟨?_, fmc ⟨?_, fmc ⟨?_, fmc ⟨?_, by simp⟩⟩⟩⟩
   ·refine wI rfl rfl nf nw (fun _ _ => bSl rfl rfl uT35 tZ3 tS3 rfl rfl rfl rfl (fbk rfl) rfl) <| WA.all (rs := [2, 8, 12]) (by kernel_rfl) (by simp) ?_
    refine fmc ⟨?_, fmc ⟨?_, fmc ⟨?_, by simp⟩⟩⟩
    ·refine wI rfl rfl nf (nAp rfl) (fun _ _ => ocr (hP4) ent49 rfl (po2 rfl rfl) rfl nl rfl rfl) <| wR 6 [3, 4] (by kernel_rfl) (fun _ _ _ h => h) <| rV rfl rfl (iSq rfl rfl rfl uT35 hO tS3 rfl rfl) <| smR 1 rfl <| nR <| WA.all (rs := [8, 12]) (by kernel_rfl) (by simp) ?_
     refine fmc ⟨?_, fmc ⟨?_, by simp⟩⟩
     ·refine wI rfl rfl nf nw (fun _ _ => bSl rfl rfl uT35 tZ3 tS3 rfl rfl rfl rfl (fbk rfl) rfl) <| WA.all (rs := [9, 12]) (by kernel_rfl) (by simp) ?_
      refine fmc ⟨?_, fmc ⟨?_, by simp⟩⟩
      ·refine wI rfl rfl nf (nAp rfl) (fun _ _ => ocr (hE4) ent52 rfl (po3 rfl rfl rfl) rfl nl rfl rfl) <| wO 12 (by kernel_rfl) <| wI rfl rfl nf nw (fun _ _ => bSl rfl rfl uT35 tZ3 tS3 rfl rfl rfl rfl (fbk rfl) rfl) <| wO 13 (by kernel_rfl) <| wI rfl rfl nf (nAp rfl) (fun _ _ => ocr (hO4) ent34 rfl (po2 rfl rfl) rfl nl rfl rfl) <| wR 1 [14] (by kernel_rfl) (fun _ _ _ h => h) <| rV rfl rfl (bPu rfl rfl tZ42 tP42 rfl (fbk rfl) rfl) <| nR <| wO 15 (by kernel_rfl) <| wI rfl rfl nf (nOl rfl) (fun _ _ => sBA rfl rfl rfl rfl rfl (by simp) tS42 (flk rfl) (lb rfl)) <| wDn (by kernel_rfl) <| Tr.fixNil (k := 104) rfl (fun h => h) ?_
       refine tRt <| rCk (.inl rfl) (fun _ _ ho => lBP ho rfl rfl uT42 rfl tS42 (lb rfl) rfl trivial) rfl (po3 rfl rfl rfl)
      refine wI rfl rfl nf nw (fun _ _ => bSl rfl rfl uT35 tZ3 tS3 rfl rfl rfl rfl (fbk rfl) rfl) <| wO 9 (by kernel_rfl) <| wI rfl rfl nf (nAp rfl) (fun _ _ => ocr (hE4) ent52 rfl (po3 rfl rfl rfl) rfl nl rfl rfl) <| wO 13 (by kernel_rfl) <| wI rfl rfl nf (nAp rfl) (fun _ _ => ocr (hO4) ent34 rfl (po2 rfl rfl) rfl nl rfl rfl) <| wR 1 [14] (by kernel_rfl) (fun _ _ _ h => h) <| rV rfl rfl (bPu rfl rfl tZ42 tP42 rfl (fbk rfl) rfl) <| nR <| wO 15 (by kernel_rfl) <| wI rfl rfl nf (nOl rfl) (fun _ _ => sBA rfl rfl rfl rfl rfl (by simp) tS42 (flk rfl) (lb rfl)) <| wDn (by kernel_rfl) <| Tr.fixNil (k := 104) rfl (fun h => h) ?_
      refine tRt <| rCk (.inl rfl) (fun _ _ ho => lBP ho rfl rfl uT42 rfl tS42 (lb rfl) rfl trivial) rfl (po3 rfl rfl rfl)
     refine wI rfl rfl nf nw (fun _ _ => bSl rfl rfl uT35 tZ3 tS3 rfl rfl rfl rfl (fbk rfl) rfl) <| wO 8 (by kernel_rfl) <| wI rfl rfl nf nw (fun _ _ => bSl rfl rfl uT35 tZ3 tS3 rfl rfl rfl rfl (fbk rfl) rfl) <| wO 9 (by kernel_rfl) <| wI rfl rfl nf (nAp rfl) (fun _ _ => ocr (hE4) ent52 rfl (po3 rfl rfl rfl) rfl nl rfl rfl) <| wO 13 (by kernel_rfl) <| wI rfl rfl nf (nAp rfl) (fun _ _ => ocr (hO4) ent34 rfl (po2 rfl rfl) rfl nl rfl rfl) <| wR 1 [14] (by kernel_rfl) (fun _ _ _ h => h) <| rV rfl rfl (bPu rfl rfl tZ42 tP42 rfl (fbk rfl) rfl) <| nR <| wO 15 (by kernel_rfl) <| wI rfl rfl nf (nOl rfl) (fun _ _ => sBA rfl rfl rfl rfl rfl (by simp) tS42 (flk rfl) (lb rfl)) ?_
     refine wDn (by kernel_rfl) <| Tr.fixNil (k := 104) rfl (fun h => h) <| tRt <| rCk (.inl rfl) (fun _ _ ho => lBP ho rfl rfl uT42 rfl tS42 (lb rfl) rfl trivial) rfl (po3 rfl rfl rfl)
    ·refine wI rfl rfl nf nw (fun _ _ => bSl rfl rfl uT35 tZ3 tS3 rfl rfl rfl rfl (fbk rfl) rfl) <| WA.all (rs := [2, 12]) (by kernel_rfl) (by simp) ?_
     refine fmc ⟨?_, fmc ⟨?_, by simp⟩⟩
     ·refine wI rfl rfl nf (nAp rfl) (fun _ _ => ocr (hP4) ent49 rfl (po2 rfl rfl) rfl nl rfl rfl) <| wR 5 [3, 4] (by kernel_rfl) (fun _ _ _ h => h) <| rV rfl rfl (iSq rfl rfl rfl uT35 hO tS3 rfl rfl) <| smR 1 rfl <| nR <| WA.all (rs := [9, 12]) (by kernel_rfl) (by simp) ?_
      refine fmc ⟨?_, fmc ⟨?_, by simp⟩⟩
      ·refine wI rfl rfl nf (nAp rfl) (fun _ _ => ocr (hE4) ent52 rfl (po3 rfl rfl rfl) rfl nl rfl rfl) <| wO 12 (by kernel_rfl) <| wI rfl rfl nf nw (fun _ _ => bSl rfl rfl uT35 tZ3 tS3 rfl rfl rfl rfl (fbk rfl) rfl) <| wO 13 (by kernel_rfl) <| wI rfl rfl nf (nAp rfl) (fun _ _ => ocr (hO4) ent34 rfl (po2 rfl rfl) rfl nl rfl rfl) <| wR 1 [14] (by kernel_rfl) (fun _ _ _ h => h) <| rV rfl rfl (bPu rfl rfl tZ42 tP42 rfl (fbk rfl) rfl) <| nR <| wO 15 (by kernel_rfl) <| wI rfl rfl nf (nOl rfl) (fun _ _ => sBA rfl rfl rfl rfl rfl (by simp) tS42 (flk rfl) (lb rfl)) <| wDn (by kernel_rfl) <| Tr.fixNil (k := 104) rfl (fun h => h) ?_
       refine tRt <| rCk (.inl rfl) (fun _ _ ho => lBP ho rfl rfl uT42 rfl tS42 (lb rfl) rfl trivial) rfl (po3 rfl rfl rfl)
      refine wI rfl rfl nf nw (fun _ _ => bSl rfl rfl uT35 tZ3 tS3 rfl rfl rfl rfl (fbk rfl) rfl) <| wO 9 (by kernel_rfl) <| wI rfl rfl nf (nAp rfl) (fun _ _ => ocr (hE4) ent52 rfl (po3 rfl rfl rfl) rfl nl rfl rfl) <| wO 13 (by kernel_rfl) <| wI rfl rfl nf (nAp rfl) (fun _ _ => ocr (hO4) ent34 rfl (po2 rfl rfl) rfl nl rfl rfl) <| wR 1 [14] (by kernel_rfl) (fun _ _ _ h => h) <| rV rfl rfl (bPu rfl rfl tZ42 tP42 rfl (fbk rfl) rfl) <| nR <| wO 15 (by kernel_rfl) <| wI rfl rfl nf (nOl rfl) (fun _ _ => sBA rfl rfl rfl rfl rfl (by simp) tS42 (flk rfl) (lb rfl)) <| wDn (by kernel_rfl) <| Tr.fixNil (k := 104) rfl (fun h => h) ?_
      refine tRt <| rCk (.inl rfl) (fun _ _ ho => lBP ho rfl rfl uT42 rfl tS42 (lb rfl) rfl trivial) rfl (po3 rfl rfl rfl)
     refine wI rfl rfl nf nw (fun _ _ => bSl rfl rfl uT35 tZ3 tS3 rfl rfl rfl rfl (fbk rfl) rfl) <| wO 2 (by kernel_rfl) <| wI rfl rfl nf (nAp rfl) (fun _ _ => ocr (hP4) ent49 rfl (po2 rfl rfl) rfl nl rfl rfl) <| wR 4 [3, 4] (by kernel_rfl) (fun _ _ _ h => h) <| rV rfl rfl (iSq rfl rfl rfl uT35 hO tS3 rfl rfl) <| smR 1 rfl <| nR <| wO 9 (by kernel_rfl) <| wI rfl rfl nf (nAp rfl) (fun _ _ => ocr (hE4) ent52 rfl (po3 rfl rfl rfl) rfl nl rfl rfl) <| wO 13 (by kernel_rfl) <| wI rfl rfl nf (nAp rfl) (fun _ _ => ocr (hO4) ent34 rfl (po2 rfl rfl) rfl nl rfl rfl) <| wR 1 [14] (by kernel_rfl) (fun _ _ _ h => h) ?_
     refine rV rfl rfl (bPu rfl rfl tZ42 tP42 rfl (fbk rfl) rfl) <| nR <| wO 15 (by kernel_rfl) <| wI rfl rfl nf (nOl rfl) (fun _ _ => sBA rfl rfl rfl rfl rfl (by simp) tS42 (flk rfl) (lb rfl)) <| wDn (by kernel_rfl) <| Tr.fixNil (k := 104) rfl (fun h => h) <| tRt <| rCk (.inl rfl) (fun _ _ ho => lBP ho rfl rfl uT42 rfl tS42 (lb rfl) rfl trivial) rfl (po3 rfl rfl rfl)
    refine wI rfl rfl nf nw (fun _ _ => bSl rfl rfl uT35 tZ3 tS3 rfl rfl rfl rfl (fbk rfl) rfl) <| WA.all (rs := [2, 8]) (by kernel_rfl) (by simp) ?_
    refine fmc ⟨?_, fmc ⟨?_, by simp⟩⟩
    ·refine wI rfl rfl nf (nAp rfl) (fun _ _ => ocr (hP4) ent49 rfl (po2 rfl rfl) rfl nl rfl rfl) <| wR 5 [3, 4] (by kernel_rfl) (fun _ _ _ h => h) <| rV rfl rfl (iSq rfl rfl rfl uT35 hO tS3 rfl rfl) <| smR 1 rfl <| nR <| wO 8 (by kernel_rfl) <| wI rfl rfl nf nw (fun _ _ => bSl rfl rfl uT35 tZ3 tS3 rfl rfl rfl rfl (fbk rfl) rfl) <| wO 9 (by kernel_rfl) <| wI rfl rfl nf (nAp rfl) (fun _ _ => ocr (hE4) ent52 rfl (po3 rfl rfl rfl) rfl nl rfl rfl) <| wO 13 (by kernel_rfl) <| wI rfl rfl nf (nAp rfl) (fun _ _ => ocr (hO4) ent34 rfl (po2 rfl rfl) rfl nl rfl rfl) <| wR 1 [14] (by kernel_rfl) (fun _ _ _ h => h) ?_
     refine rV rfl rfl (bPu rfl rfl tZ42 tP42 rfl (fbk rfl) rfl) <| nR <| wO 15 (by kernel_rfl) <| wI rfl rfl nf (nOl rfl) (fun _ _ => sBA rfl rfl rfl rfl rfl (by simp) tS42 (flk rfl) (lb rfl)) <| wDn (by kernel_rfl) <| Tr.fixNil (k := 104) rfl (fun h => h) <| tRt <| rCk (.inl rfl) (fun _ _ ho => lBP ho rfl rfl uT42 rfl tS42 (lb rfl) rfl trivial) rfl (po3 rfl rfl rfl)
    refine wI rfl rfl nf nw (fun _ _ => bSl rfl rfl uT35 tZ3 tS3 rfl rfl rfl rfl (fbk rfl) rfl) <| wO 2 (by kernel_rfl) <| wI rfl rfl nf (nAp rfl) (fun _ _ => ocr (hP4) ent49 rfl (po2 rfl rfl) rfl nl rfl rfl) <| wR 4 [3, 4] (by kernel_rfl) (fun _ _ _ h => h) <| rV rfl rfl (iSq rfl rfl rfl uT35 hO tS3 rfl rfl) <| smR 1 rfl <| nR <| wO 9 (by kernel_rfl) <| wI rfl rfl nf (nAp rfl) (fun _ _ => ocr (hE4) ent52 rfl (po3 rfl rfl rfl) rfl nl rfl rfl) <| wO 13 (by kernel_rfl) <| wI rfl rfl nf (nAp rfl) (fun _ _ => ocr (hO4) ent34 rfl (po2 rfl rfl) rfl nl rfl rfl) <| wR 1 [14] (by kernel_rfl) (fun _ _ _ h => h) ?_
    refine rV rfl rfl (bPu rfl rfl tZ42 tP42 rfl (fbk rfl) rfl) <| nR <| wO 15 (by kernel_rfl) <| wI rfl rfl nf (nOl rfl) (fun _ _ => sBA rfl rfl rfl rfl rfl (by simp) tS42 (flk rfl) (lb rfl)) <| wDn (by kernel_rfl) <| Tr.fixNil (k := 104) rfl (fun h => h) <| tRt <| rCk (.inl rfl) (fun _ _ ho => lBP ho rfl rfl uT42 rfl tS42 (lb rfl) rfl trivial) rfl (po3 rfl rfl rfl)
   ·refine wI rfl rfl nf (nAp rfl) (fun _ _ => ocr (hP4) ent49 rfl (po2 rfl rfl) rfl nl rfl rfl) <| WA.all (rs := [0, 8, 12]) (by kernel_rfl) (by simp) ?_
    refine fmc ⟨?_, fmc ⟨?_, fmc ⟨?_, by simp⟩⟩⟩
    ·refine wI rfl rfl nf nw (fun _ _ => bSl rfl rfl uT35 tZ3 tS3 rfl rfl rfl rfl (fbk rfl) rfl) <| wR 6 [3, 4] (by kernel_rfl) (fun _ _ _ h => h) <| rV rfl rfl (iSq rfl rfl rfl uT35 hO tS3 rfl rfl) <| smR 1 rfl <| nR <| WA.all (rs := [8, 12]) (by kernel_rfl) (by simp) ?_
     refine fmc ⟨?_, fmc ⟨?_, by simp⟩⟩
     ·refine wI rfl rfl nf nw (fun _ _ => bSl rfl rfl uT35 tZ3 tS3 rfl rfl rfl rfl (fbk rfl) rfl) <| WA.all (rs := [9, 12]) (by kernel_rfl) (by simp) ?_
      refine fmc ⟨?_, fmc ⟨?_, by simp⟩⟩
      ·refine wI rfl rfl nf (nAp rfl) (fun _ _ => ocr (hE4) ent52 rfl (po3 rfl rfl rfl) rfl nl rfl rfl) <| wO 12 (by kernel_rfl) <| wI rfl rfl nf nw (fun _ _ => bSl rfl rfl uT35 tZ3 tS3 rfl rfl rfl rfl (fbk rfl) rfl) <| wO 13 (by kernel_rfl) <| wI rfl rfl nf (nAp rfl) (fun _ _ => ocr (hO4) ent34 rfl (po2 rfl rfl) rfl nl rfl rfl) <| wR 1 [14] (by kernel_rfl) (fun _ _ _ h => h) <| rV rfl rfl (bPu rfl rfl tZ42 tP42 rfl (fbk rfl) rfl) <| nR <| wO 15 (by kernel_rfl) <| wI rfl rfl nf (nOl rfl) (fun _ _ => sBA rfl rfl rfl rfl rfl (by simp) tS42 (flk rfl) (lb rfl)) <| wDn (by kernel_rfl) <| Tr.fixNil (k := 104) rfl (fun h => h) ?_
       refine tRt <| rCk (.inl rfl) (fun _ _ ho => lBP ho rfl rfl uT42 rfl tS42 (lb rfl) rfl trivial) rfl (po3 rfl rfl rfl)
      refine wI rfl rfl nf nw (fun _ _ => bSl rfl rfl uT35 tZ3 tS3 rfl rfl rfl rfl (fbk rfl) rfl) <| wO 9 (by kernel_rfl) <| wI rfl rfl nf (nAp rfl) (fun _ _ => ocr (hE4) ent52 rfl (po3 rfl rfl rfl) rfl nl rfl rfl) <| wO 13 (by kernel_rfl) <| wI rfl rfl nf (nAp rfl) (fun _ _ => ocr (hO4) ent34 rfl (po2 rfl rfl) rfl nl rfl rfl) <| wR 1 [14] (by kernel_rfl) (fun _ _ _ h => h) <| rV rfl rfl (bPu rfl rfl tZ42 tP42 rfl (fbk rfl) rfl) <| nR <| wO 15 (by kernel_rfl) <| wI rfl rfl nf (nOl rfl) (fun _ _ => sBA rfl rfl rfl rfl rfl (by simp) tS42 (flk rfl) (lb rfl)) <| wDn (by kernel_rfl) <| Tr.fixNil (k := 104) rfl (fun h => h) ?_
      refine tRt <| rCk (.inl rfl) (fun _ _ ho => lBP ho rfl rfl uT42 rfl tS42 (lb rfl) rfl trivial) rfl (po3 rfl rfl rfl)
     refine wI rfl rfl nf nw (fun _ _ => bSl rfl rfl uT35 tZ3 tS3 rfl rfl rfl rfl (fbk rfl) rfl) <| wO 8 (by kernel_rfl) <| wI rfl rfl nf nw (fun _ _ => bSl rfl rfl uT35 tZ3 tS3 rfl rfl rfl rfl (fbk rfl) rfl) <| wO 9 (by kernel_rfl) <| wI rfl rfl nf (nAp rfl) (fun _ _ => ocr (hE4) ent52 rfl (po3 rfl rfl rfl) rfl nl rfl rfl) <| wO 13 (by kernel_rfl) <| wI rfl rfl nf (nAp rfl) (fun _ _ => ocr (hO4) ent34 rfl (po2 rfl rfl) rfl nl rfl rfl) <| wR 1 [14] (by kernel_rfl) (fun _ _ _ h => h) <| rV rfl rfl (bPu rfl rfl tZ42 tP42 rfl (fbk rfl) rfl) <| nR <| wO 15 (by kernel_rfl) <| wI rfl rfl nf (nOl rfl) (fun _ _ => sBA rfl rfl rfl rfl rfl (by simp) tS42 (flk rfl) (lb rfl)) ?_
     refine wDn (by kernel_rfl) <| Tr.fixNil (k := 104) rfl (fun h => h) <| tRt <| rCk (.inl rfl) (fun _ _ ho => lBP ho rfl rfl uT42 rfl tS42 (lb rfl) rfl trivial) rfl (po3 rfl rfl rfl)
    ·refine wI rfl rfl nf nw (fun _ _ => bSl rfl rfl uT35 tZ3 tS3 rfl rfl rfl rfl (fbk rfl) rfl) <| WA.all (rs := [0, 9, 12]) (by kernel_rfl) (by simp) ?_
     refine fmc ⟨?_, fmc ⟨?_, fmc ⟨?_, by simp⟩⟩⟩
     ·refine wI rfl rfl nf nw (fun _ _ => bSl rfl rfl uT35 tZ3 tS3 rfl rfl rfl rfl (fbk rfl) rfl) <| wR 5 [3, 4] (by kernel_rfl) (fun _ _ _ h => h) <| rV rfl rfl (iSq rfl rfl rfl uT35 hO tS3 rfl rfl) <| smR 1 rfl <| nR <| WA.all (rs := [9, 12]) (by kernel_rfl) (by simp) ?_
      refine fmc ⟨?_, fmc ⟨?_, by simp⟩⟩
      ·refine wI rfl rfl nf (nAp rfl) (fun _ _ => ocr (hE4) ent52 rfl (po3 rfl rfl rfl) rfl nl rfl rfl) <| wO 12 (by kernel_rfl) <| wI rfl rfl nf nw (fun _ _ => bSl rfl rfl uT35 tZ3 tS3 rfl rfl rfl rfl (fbk rfl) rfl) <| wO 13 (by kernel_rfl) <| wI rfl rfl nf (nAp rfl) (fun _ _ => ocr (hO4) ent34 rfl (po2 rfl rfl) rfl nl rfl rfl) <| wR 1 [14] (by kernel_rfl) (fun _ _ _ h => h) <| rV rfl rfl (bPu rfl rfl tZ42 tP42 rfl (fbk rfl) rfl) <| nR <| wO 15 (by kernel_rfl) <| wI rfl rfl nf (nOl rfl) (fun _ _ => sBA rfl rfl rfl rfl rfl (by simp) tS42 (flk rfl) (lb rfl)) <| wDn (by kernel_rfl) <| Tr.fixNil (k := 104) rfl (fun h => h) ?_
       refine tRt <| rCk (.inl rfl) (fun _ _ ho => lBP ho rfl rfl uT42 rfl tS42 (lb rfl) rfl trivial) rfl (po3 rfl rfl rfl)
      refine wI rfl rfl nf nw (fun _ _ => bSl rfl rfl uT35 tZ3 tS3 rfl rfl rfl rfl (fbk rfl) rfl) <| wO 9 (by kernel_rfl) <| wI rfl rfl nf (nAp rfl) (fun _ _ => ocr (hE4) ent52 rfl (po3 rfl rfl rfl) rfl nl rfl rfl) <| wO 13 (by kernel_rfl) <| wI rfl rfl nf (nAp rfl) (fun _ _ => ocr (hO4) ent34 rfl (po2 rfl rfl) rfl nl rfl rfl) <| wR 1 [14] (by kernel_rfl) (fun _ _ _ h => h) <| rV rfl rfl (bPu rfl rfl tZ42 tP42 rfl (fbk rfl) rfl) <| nR <| wO 15 (by kernel_rfl) <| wI rfl rfl nf (nOl rfl) (fun _ _ => sBA rfl rfl rfl rfl rfl (by simp) tS42 (flk rfl) (lb rfl)) <| wDn (by kernel_rfl) <| Tr.fixNil (k := 104) rfl (fun h => h) ?_
      refine tRt <| rCk (.inl rfl) (fun _ _ ho => lBP ho rfl rfl uT42 rfl tS42 (lb rfl) rfl trivial) rfl (po3 rfl rfl rfl)
     ·refine wI rfl rfl nf (nAp rfl) (fun _ _ => ocr (hE4) ent52 rfl (po3 rfl rfl rfl) rfl nl rfl rfl) <| WA.all (rs := [0, 12]) (by kernel_rfl) (by simp) ?_
      refine fmc ⟨?_, fmc ⟨?_, by simp⟩⟩
      ·refine wI rfl rfl nf nw (fun _ _ => bSl rfl rfl uT35 tZ3 tS3 rfl rfl rfl rfl (fbk rfl) rfl) <| wR 4 [3, 4] (by kernel_rfl) (fun _ _ _ h => h) <| rV rfl rfl (iSq rfl rfl rfl uT35 hO tS3 rfl rfl) <| smR 1 rfl <| nR <| wO 12 (by kernel_rfl) <| wI rfl rfl nf nw (fun _ _ => bSl rfl rfl uT35 tZ3 tS3 rfl rfl rfl rfl (fbk rfl) rfl) <| wO 13 (by kernel_rfl) <| wI rfl rfl nf (nAp rfl) (fun _ _ => ocr (hO4) ent34 rfl (po2 rfl rfl) rfl nl rfl rfl) <| wR 1 [14] (by kernel_rfl) (fun _ _ _ h => h) <| rV rfl rfl (bPu rfl rfl tZ42 tP42 rfl (fbk rfl) rfl) <| nR ?_
       refine wO 15 (by kernel_rfl) <| wI rfl rfl nf (nOl rfl) (fun _ _ => sBA rfl rfl rfl rfl rfl (by simp) tS42 (flk rfl) (lb rfl)) <| wDn (by kernel_rfl) <| Tr.fixNil (k := 104) rfl (fun h => h) <| tRt <| rCk (.inl rfl) (fun _ _ ho => lBP ho rfl rfl uT42 rfl tS42 (lb rfl) rfl trivial) rfl (po3 rfl rfl rfl)
      refine wI rfl rfl nf nw (fun _ _ => bSl rfl rfl uT35 tZ3 tS3 rfl rfl rfl rfl (fbk rfl) rfl) <| WA.all (rs := [0, 13]) (by kernel_rfl) (by simp) ?_
      refine fmc ⟨?_, fmc ⟨?_, by simp⟩⟩
      ·refine wI rfl rfl nf nw (fun _ _ => bSl rfl rfl uT35 tZ3 tS3 rfl rfl rfl rfl (fbk rfl) rfl) <| wR 3 [3, 4] (by kernel_rfl) (fun _ _ _ h => h) <| rV rfl rfl (iSq rfl rfl rfl uT35 hO tS3 rfl rfl) <| smR 1 rfl <| nR <| wO 13 (by kernel_rfl) <| wI rfl rfl nf (nAp rfl) (fun _ _ => ocr (hO4) ent34 rfl (po2 rfl rfl) rfl nl rfl rfl) <| wR 1 [14] (by kernel_rfl) (fun _ _ _ h => h) <| rV rfl rfl (bPu rfl rfl tZ42 tP42 rfl (fbk rfl) rfl) <| nR <| wO 15 (by kernel_rfl) <| wI rfl rfl nf (nOl rfl) (fun _ _ => sBA rfl rfl rfl rfl rfl (by simp) tS42 (flk rfl) (lb rfl)) ?_
       refine wDn (by kernel_rfl) <| Tr.fixNil (k := 104) rfl (fun h => h) <| tRt <| rCk (.inl rfl) (fun _ _ ho => lBP ho rfl rfl uT42 rfl tS42 (lb rfl) rfl trivial) rfl (po3 rfl rfl rfl)
      refine wI rfl rfl nf (nAp rfl) (fun _ _ => ocr (hO4) ent34 rfl (po2 rfl rfl) rfl nl rfl rfl) <| wO 0 (by kernel_rfl) <| wI rfl rfl nf nw (fun _ _ => bSl rfl rfl uT35 tZ3 tS3 rfl rfl rfl rfl (fbk rfl) rfl) <| wR 1 [3, 4, 14] (by kernel_rfl) (fun _ _ _ h => h) <| rV rfl rfl (iSq rfl rfl rfl uT35 hO tS3 rfl rfl) <| smR 1 rfl <| rV rfl rfl (bPu rfl rfl tZ42 tP42 rfl (fbk rfl) rfl) <| nR <| wO 15 (by kernel_rfl) <| wI rfl rfl nf (nOl rfl) (fun _ _ => sBA rfl rfl rfl rfl rfl (by simp) tS42 (flk rfl) (lb rfl)) <| wDn (by kernel_rfl) <| Tr.fixNil (k := 104) rfl (fun h => h) ?_
      refine tRt <| rCk (.inl rfl) (fun _ _ ho => lBP ho rfl rfl uT42 rfl tS42 (lb rfl) rfl trivial) rfl (po3 rfl rfl rfl)
     refine wI rfl rfl nf nw (fun _ _ => bSl rfl rfl uT35 tZ3 tS3 rfl rfl rfl rfl (fbk rfl) rfl) <| WA.all (rs := [0, 9]) (by kernel_rfl) (by simp) ?_
     refine fmc ⟨?_, fmc ⟨?_, by simp⟩⟩
     ·refine wI rfl rfl nf nw (fun _ _ => bSl rfl rfl uT35 tZ3 tS3 rfl rfl rfl rfl (fbk rfl) rfl) <| wR 4 [3, 4] (by kernel_rfl) (fun _ _ _ h => h) <| rV rfl rfl (iSq rfl rfl rfl uT35 hO tS3 rfl rfl) <| smR 1 rfl <| nR <| wO 9 (by kernel_rfl) <| wI rfl rfl nf (nAp rfl) (fun _ _ => ocr (hE4) ent52 rfl (po3 rfl rfl rfl) rfl nl rfl rfl) <| wO 13 (by kernel_rfl) <| wI rfl rfl nf (nAp rfl) (fun _ _ => ocr (hO4) ent34 rfl (po2 rfl rfl) rfl nl rfl rfl) <| wR 1 [14] (by kernel_rfl) (fun _ _ _ h => h) <| rV rfl rfl (bPu rfl rfl tZ42 tP42 rfl (fbk rfl) rfl) <| nR ?_
      refine wO 15 (by kernel_rfl) <| wI rfl rfl nf (nOl rfl) (fun _ _ => sBA rfl rfl rfl rfl rfl (by simp) tS42 (flk rfl) (lb rfl)) <| wDn (by kernel_rfl) <| Tr.fixNil (k := 104) rfl (fun h => h) <| tRt <| rCk (.inl rfl) (fun _ _ ho => lBP ho rfl rfl uT42 rfl tS42 (lb rfl) rfl trivial) rfl (po3 rfl rfl rfl)
     refine wI rfl rfl nf (nAp rfl) (fun _ _ => ocr (hE4) ent52 rfl (po3 rfl rfl rfl) rfl nl rfl rfl) <| WA.all (rs := [0, 13]) (by kernel_rfl) (by simp) ?_
     refine fmc ⟨?_, fmc ⟨?_, by simp⟩⟩
     ·refine wI rfl rfl nf nw (fun _ _ => bSl rfl rfl uT35 tZ3 tS3 rfl rfl rfl rfl (fbk rfl) rfl) <| wR 3 [3, 4] (by kernel_rfl) (fun _ _ _ h => h) <| rV rfl rfl (iSq rfl rfl rfl uT35 hO tS3 rfl rfl) <| smR 1 rfl <| nR <| wO 13 (by kernel_rfl) <| wI rfl rfl nf (nAp rfl) (fun _ _ => ocr (hO4) ent34 rfl (po2 rfl rfl) rfl nl rfl rfl) <| wR 1 [14] (by kernel_rfl) (fun _ _ _ h => h) <| rV rfl rfl (bPu rfl rfl tZ42 tP42 rfl (fbk rfl) rfl) <| nR <| wO 15 (by kernel_rfl) <| wI rfl rfl nf (nOl rfl) (fun _ _ => sBA rfl rfl rfl rfl rfl (by simp) tS42 (flk rfl) (lb rfl)) ?_
      refine wDn (by kernel_rfl) <| Tr.fixNil (k := 104) rfl (fun h => h) <| tRt <| rCk (.inl rfl) (fun _ _ ho => lBP ho rfl rfl uT42 rfl tS42 (lb rfl) rfl trivial) rfl (po3 rfl rfl rfl)
     refine wI rfl rfl nf (nAp rfl) (fun _ _ => ocr (hO4) ent34 rfl (po2 rfl rfl) rfl nl rfl rfl) <| wO 0 (by kernel_rfl) <| wI rfl rfl nf nw (fun _ _ => bSl rfl rfl uT35 tZ3 tS3 rfl rfl rfl rfl (fbk rfl) rfl) <| wR 1 [3, 4, 14] (by kernel_rfl) (fun _ _ _ h => h) <| rV rfl rfl (iSq rfl rfl rfl uT35 hO tS3 rfl rfl) <| smR 1 rfl <| rV rfl rfl (bPu rfl rfl tZ42 tP42 rfl (fbk rfl) rfl) <| nR <| wO 15 (by kernel_rfl) <| wI rfl rfl nf (nOl rfl) (fun _ _ => sBA rfl rfl rfl rfl rfl (by simp) tS42 (flk rfl) (lb rfl)) <| wDn (by kernel_rfl) <| Tr.fixNil (k := 104) rfl (fun h => h) ?_
     refine tRt <| rCk (.inl rfl) (fun _ _ ho => lBP ho rfl rfl uT42 rfl tS42 (lb rfl) rfl trivial) rfl (po3 rfl rfl rfl)
    refine wI rfl rfl nf nw (fun _ _ => bSl rfl rfl uT35 tZ3 tS3 rfl rfl rfl rfl (fbk rfl) rfl) <| WA.all (rs := [0, 8]) (by kernel_rfl) (by simp) ?_
    refine fmc ⟨?_, fmc ⟨?_, by simp⟩⟩
    ·refine wI rfl rfl nf nw (fun _ _ => bSl rfl rfl uT35 tZ3 tS3 rfl rfl rfl rfl (fbk rfl) rfl) <| wR 5 [3, 4] (by kernel_rfl) (fun _ _ _ h => h) <| rV rfl rfl (iSq rfl rfl rfl uT35 hO tS3 rfl rfl) <| smR 1 rfl <| nR <| wO 8 (by kernel_rfl) <| wI rfl rfl nf nw (fun _ _ => bSl rfl rfl uT35 tZ3 tS3 rfl rfl rfl rfl (fbk rfl) rfl) <| wO 9 (by kernel_rfl) <| wI rfl rfl nf (nAp rfl) (fun _ _ => ocr (hE4) ent52 rfl (po3 rfl rfl rfl) rfl nl rfl rfl) <| wO 13 (by kernel_rfl) <| wI rfl rfl nf (nAp rfl) (fun _ _ => ocr (hO4) ent34 rfl (po2 rfl rfl) rfl nl rfl rfl) <| wR 1 [14] (by kernel_rfl) (fun _ _ _ h => h) ?_
     refine rV rfl rfl (bPu rfl rfl tZ42 tP42 rfl (fbk rfl) rfl) <| nR <| wO 15 (by kernel_rfl) <| wI rfl rfl nf (nOl rfl) (fun _ _ => sBA rfl rfl rfl rfl rfl (by simp) tS42 (flk rfl) (lb rfl)) <| wDn (by kernel_rfl) <| Tr.fixNil (k := 104) rfl (fun h => h) <| tRt <| rCk (.inl rfl) (fun _ _ ho => lBP ho rfl rfl uT42 rfl tS42 (lb rfl) rfl trivial) rfl (po3 rfl rfl rfl)
    refine wI rfl rfl nf nw (fun _ _ => bSl rfl rfl uT35 tZ3 tS3 rfl rfl rfl rfl (fbk rfl) rfl) <| WA.all (rs := [0, 9]) (by kernel_rfl) (by simp) ?_
    refine fmc ⟨?_, fmc ⟨?_, by simp⟩⟩
    ·refine wI rfl rfl nf nw (fun _ _ => bSl rfl rfl uT35 tZ3 tS3 rfl rfl rfl rfl (fbk rfl) rfl) <| wR 4 [3, 4] (by kernel_rfl) (fun _ _ _ h => h) <| rV rfl rfl (iSq rfl rfl rfl uT35 hO tS3 rfl rfl) <| smR 1 rfl <| nR <| wO 9 (by kernel_rfl) <| wI rfl rfl nf (nAp rfl) (fun _ _ => ocr (hE4) ent52 rfl (po3 rfl rfl rfl) rfl nl rfl rfl) <| wO 13 (by kernel_rfl) <| wI rfl rfl nf (nAp rfl) (fun _ _ => ocr (hO4) ent34 rfl (po2 rfl rfl) rfl nl rfl rfl) <| wR 1 [14] (by kernel_rfl) (fun _ _ _ h => h) <| rV rfl rfl (bPu rfl rfl tZ42 tP42 rfl (fbk rfl) rfl) <| nR ?_
     refine wO 15 (by kernel_rfl) <| wI rfl rfl nf (nOl rfl) (fun _ _ => sBA rfl rfl rfl rfl rfl (by simp) tS42 (flk rfl) (lb rfl)) <| wDn (by kernel_rfl) <| Tr.fixNil (k := 104) rfl (fun h => h) <| tRt <| rCk (.inl rfl) (fun _ _ ho => lBP ho rfl rfl uT42 rfl tS42 (lb rfl) rfl trivial) rfl (po3 rfl rfl rfl)
    refine wI rfl rfl nf (nAp rfl) (fun _ _ => ocr (hE4) ent52 rfl (po3 rfl rfl rfl) rfl nl rfl rfl) <| WA.all (rs := [0, 13]) (by kernel_rfl) (by simp) ?_
    refine fmc ⟨?_, fmc ⟨?_, by simp⟩⟩
    ·refine wI rfl rfl nf nw (fun _ _ => bSl rfl rfl uT35 tZ3 tS3 rfl rfl rfl rfl (fbk rfl) rfl) <| wR 3 [3, 4] (by kernel_rfl) (fun _ _ _ h => h) <| rV rfl rfl (iSq rfl rfl rfl uT35 hO tS3 rfl rfl) <| smR 1 rfl <| nR <| wO 13 (by kernel_rfl) <| wI rfl rfl nf (nAp rfl) (fun _ _ => ocr (hO4) ent34 rfl (po2 rfl rfl) rfl nl rfl rfl) <| wR 1 [14] (by kernel_rfl) (fun _ _ _ h => h) <| rV rfl rfl (bPu rfl rfl tZ42 tP42 rfl (fbk rfl) rfl) <| nR <| wO 15 (by kernel_rfl) <| wI rfl rfl nf (nOl rfl) (fun _ _ => sBA rfl rfl rfl rfl rfl (by simp) tS42 (flk rfl) (lb rfl)) ?_
     refine wDn (by kernel_rfl) <| Tr.fixNil (k := 104) rfl (fun h => h) <| tRt <| rCk (.inl rfl) (fun _ _ ho => lBP ho rfl rfl uT42 rfl tS42 (lb rfl) rfl trivial) rfl (po3 rfl rfl rfl)
    refine wI rfl rfl nf (nAp rfl) (fun _ _ => ocr (hO4) ent34 rfl (po2 rfl rfl) rfl nl rfl rfl) <| wO 0 (by kernel_rfl) <| wI rfl rfl nf nw (fun _ _ => bSl rfl rfl uT35 tZ3 tS3 rfl rfl rfl rfl (fbk rfl) rfl) <| wR 1 [3, 4, 14] (by kernel_rfl) (fun _ _ _ h => h) <| rV rfl rfl (iSq rfl rfl rfl uT35 hO tS3 rfl rfl) <| smR 1 rfl <| rV rfl rfl (bPu rfl rfl tZ42 tP42 rfl (fbk rfl) rfl) <| nR <| wO 15 (by kernel_rfl) <| wI rfl rfl nf (nOl rfl) (fun _ _ => sBA rfl rfl rfl rfl rfl (by simp) tS42 (flk rfl) (lb rfl)) <| wDn (by kernel_rfl) <| Tr.fixNil (k := 104) rfl (fun h => h) ?_
    refine tRt <| rCk (.inl rfl) (fun _ _ ho => lBP ho rfl rfl uT42 rfl tS42 (lb rfl) rfl trivial) rfl (po3 rfl rfl rfl)
   ·refine wI rfl rfl nf nw (fun _ _ => bSl rfl rfl uT35 tZ3 tS3 rfl rfl rfl rfl (fbk rfl) rfl) <| WA.all (rs := [0, 2, 12]) (by kernel_rfl) (by simp) ?_
    refine fmc ⟨?_, fmc ⟨?_, fmc ⟨?_, by simp⟩⟩⟩
    ·refine wI rfl rfl nf nw (fun _ _ => bSl rfl rfl uT35 tZ3 tS3 rfl rfl rfl rfl (fbk rfl) rfl) <| WA.all (rs := [2, 12]) (by kernel_rfl) (by simp) ?_
     refine fmc ⟨?_, fmc ⟨?_, by simp⟩⟩
     ·refine wI rfl rfl nf (nAp rfl) (fun _ _ => ocr (hP4) ent49 rfl (po2 rfl rfl) rfl nl rfl rfl) <| wR 5 [3, 4] (by kernel_rfl) (fun _ _ _ h => h) <| rV rfl rfl (iSq rfl rfl rfl uT35 hO tS3 rfl rfl) <| smR 1 rfl <| nR <| WA.all (rs := [9, 12]) (by kernel_rfl) (by simp) ?_
      refine fmc ⟨?_, fmc ⟨?_, by simp⟩⟩
      ·refine wI rfl rfl nf (nAp rfl) (fun _ _ => ocr (hE4) ent52 rfl (po3 rfl rfl rfl) rfl nl rfl rfl) <| wO 12 (by kernel_rfl) <| wI rfl rfl nf nw (fun _ _ => bSl rfl rfl uT35 tZ3 tS3 rfl rfl rfl rfl (fbk rfl) rfl) <| wO 13 (by kernel_rfl) <| wI rfl rfl nf (nAp rfl) (fun _ _ => ocr (hO4) ent34 rfl (po2 rfl rfl) rfl nl rfl rfl) <| wR 1 [14] (by kernel_rfl) (fun _ _ _ h => h) <| rV rfl rfl (bPu rfl rfl tZ42 tP42 rfl (fbk rfl) rfl) <| nR <| wO 15 (by kernel_rfl) <| wI rfl rfl nf (nOl rfl) (fun _ _ => sBA rfl rfl rfl rfl rfl (by simp) tS42 (flk rfl) (lb rfl)) <| wDn (by kernel_rfl) <| Tr.fixNil (k := 104) rfl (fun h => h) ?_
       refine tRt <| rCk (.inl rfl) (fun _ _ ho => lBP ho rfl rfl uT42 rfl tS42 (lb rfl) rfl trivial) rfl (po3 rfl rfl rfl)
      refine wI rfl rfl nf nw (fun _ _ => bSl rfl rfl uT35 tZ3 tS3 rfl rfl rfl rfl (fbk rfl) rfl) <| wO 9 (by kernel_rfl) <| wI rfl rfl nf (nAp rfl) (fun _ _ => ocr (hE4) ent52 rfl (po3 rfl rfl rfl) rfl nl rfl rfl) <| wO 13 (by kernel_rfl) <| wI rfl rfl nf (nAp rfl) (fun _ _ => ocr (hO4) ent34 rfl (po2 rfl rfl) rfl nl rfl rfl) <| wR 1 [14] (by kernel_rfl) (fun _ _ _ h => h) <| rV rfl rfl (bPu rfl rfl tZ42 tP42 rfl (fbk rfl) rfl) <| nR <| wO 15 (by kernel_rfl) <| wI rfl rfl nf (nOl rfl) (fun _ _ => sBA rfl rfl rfl rfl rfl (by simp) tS42 (flk rfl) (lb rfl)) <| wDn (by kernel_rfl) <| Tr.fixNil (k := 104) rfl (fun h => h) ?_
      refine tRt <| rCk (.inl rfl) (fun _ _ ho => lBP ho rfl rfl uT42 rfl tS42 (lb rfl) rfl trivial) rfl (po3 rfl rfl rfl)
     refine wI rfl rfl nf nw (fun _ _ => bSl rfl rfl uT35 tZ3 tS3 rfl rfl rfl rfl (fbk rfl) rfl) <| wO 2 (by kernel_rfl) <| wI rfl rfl nf (nAp rfl) (fun _ _ => ocr (hP4) ent49 rfl (po2 rfl rfl) rfl nl rfl rfl) <| wR 4 [3, 4] (by kernel_rfl) (fun _ _ _ h => h) <| rV rfl rfl (iSq rfl rfl rfl uT35 hO tS3 rfl rfl) <| smR 1 rfl <| nR <| wO 9 (by kernel_rfl) <| wI rfl rfl nf (nAp rfl) (fun _ _ => ocr (hE4) ent52 rfl (po3 rfl rfl rfl) rfl nl rfl rfl) <| wO 13 (by kernel_rfl) <| wI rfl rfl nf (nAp rfl) (fun _ _ => ocr (hO4) ent34 rfl (po2 rfl rfl) rfl nl rfl rfl) <| wR 1 [14] (by kernel_rfl) (fun _ _ _ h => h) ?_
     refine rV rfl rfl (bPu rfl rfl tZ42 tP42 rfl (fbk rfl) rfl) <| nR <| wO 15 (by kernel_rfl) <| wI rfl rfl nf (nOl rfl) (fun _ _ => sBA rfl rfl rfl rfl rfl (by simp) tS42 (flk rfl) (lb rfl)) <| wDn (by kernel_rfl) <| Tr.fixNil (k := 104) rfl (fun h => h) <| tRt <| rCk (.inl rfl) (fun _ _ ho => lBP ho rfl rfl uT42 rfl tS42 (lb rfl) rfl trivial) rfl (po3 rfl rfl rfl)
    ·refine wI rfl rfl nf (nAp rfl) (fun _ _ => ocr (hP4) ent49 rfl (po2 rfl rfl) rfl nl rfl rfl) <| WA.all (rs := [0, 9, 12]) (by kernel_rfl) (by simp) ?_
     refine fmc ⟨?_, fmc ⟨?_, fmc ⟨?_, by simp⟩⟩⟩
     ·refine wI rfl rfl nf nw (fun _ _ => bSl rfl rfl uT35 tZ3 tS3 rfl rfl rfl rfl (fbk rfl) rfl) <| wR 5 [3, 4] (by kernel_rfl) (fun _ _ _ h => h) <| rV rfl rfl (iSq rfl rfl rfl uT35 hO tS3 rfl rfl) <| smR 1 rfl <| nR <| WA.all (rs := [9, 12]) (by kernel_rfl) (by simp) ?_
      refine fmc ⟨?_, fmc ⟨?_, by simp⟩⟩
      ·refine wI rfl rfl nf (nAp rfl) (fun _ _ => ocr (hE4) ent52 rfl (po3 rfl rfl rfl) rfl nl rfl rfl) <| wO 12 (by kernel_rfl) <| wI rfl rfl nf nw (fun _ _ => bSl rfl rfl uT35 tZ3 tS3 rfl rfl rfl rfl (fbk rfl) rfl) <| wO 13 (by kernel_rfl) <| wI rfl rfl nf (nAp rfl) (fun _ _ => ocr (hO4) ent34 rfl (po2 rfl rfl) rfl nl rfl rfl) <| wR 1 [14] (by kernel_rfl) (fun _ _ _ h => h) <| rV rfl rfl (bPu rfl rfl tZ42 tP42 rfl (fbk rfl) rfl) <| nR <| wO 15 (by kernel_rfl) <| wI rfl rfl nf (nOl rfl) (fun _ _ => sBA rfl rfl rfl rfl rfl (by simp) tS42 (flk rfl) (lb rfl)) <| wDn (by kernel_rfl) <| Tr.fixNil (k := 104) rfl (fun h => h) ?_
       refine tRt <| rCk (.inl rfl) (fun _ _ ho => lBP ho rfl rfl uT42 rfl tS42 (lb rfl) rfl trivial) rfl (po3 rfl rfl rfl)
      refine wI rfl rfl nf nw (fun _ _ => bSl rfl rfl uT35 tZ3 tS3 rfl rfl rfl rfl (fbk rfl) rfl) <| wO 9 (by kernel_rfl) <| wI rfl rfl nf (nAp rfl) (fun _ _ => ocr (hE4) ent52 rfl (po3 rfl rfl rfl) rfl nl rfl rfl) <| wO 13 (by kernel_rfl) <| wI rfl rfl nf (nAp rfl) (fun _ _ => ocr (hO4) ent34 rfl (po2 rfl rfl) rfl nl rfl rfl) <| wR 1 [14] (by kernel_rfl) (fun _ _ _ h => h) <| rV rfl rfl (bPu rfl rfl tZ42 tP42 rfl (fbk rfl) rfl) <| nR <| wO 15 (by kernel_rfl) <| wI rfl rfl nf (nOl rfl) (fun _ _ => sBA rfl rfl rfl rfl rfl (by simp) tS42 (flk rfl) (lb rfl)) <| wDn (by kernel_rfl) <| Tr.fixNil (k := 104) rfl (fun h => h) ?_
      refine tRt <| rCk (.inl rfl) (fun _ _ ho => lBP ho rfl rfl uT42 rfl tS42 (lb rfl) rfl trivial) rfl (po3 rfl rfl rfl)
     ·refine wI rfl rfl nf (nAp rfl) (fun _ _ => ocr (hE4) ent52 rfl (po3 rfl rfl rfl) rfl nl rfl rfl) <| WA.all (rs := [0, 12]) (by kernel_rfl) (by simp) ?_
      refine fmc ⟨?_, fmc ⟨?_, by simp⟩⟩
      ·refine wI rfl rfl nf nw (fun _ _ => bSl rfl rfl uT35 tZ3 tS3 rfl rfl rfl rfl (fbk rfl) rfl) <| wR 4 [3, 4] (by kernel_rfl) (fun _ _ _ h => h) <| rV rfl rfl (iSq rfl rfl rfl uT35 hO tS3 rfl rfl) <| smR 1 rfl <| nR <| wO 12 (by kernel_rfl) <| wI rfl rfl nf nw (fun _ _ => bSl rfl rfl uT35 tZ3 tS3 rfl rfl rfl rfl (fbk rfl) rfl) <| wO 13 (by kernel_rfl) <| wI rfl rfl nf (nAp rfl) (fun _ _ => ocr (hO4) ent34 rfl (po2 rfl rfl) rfl nl rfl rfl) <| wR 1 [14] (by kernel_rfl) (fun _ _ _ h => h) <| rV rfl rfl (bPu rfl rfl tZ42 tP42 rfl (fbk rfl) rfl) <| nR ?_
       refine wO 15 (by kernel_rfl) <| wI rfl rfl nf (nOl rfl) (fun _ _ => sBA rfl rfl rfl rfl rfl (by simp) tS42 (flk rfl) (lb rfl)) <| wDn (by kernel_rfl) <| Tr.fixNil (k := 104) rfl (fun h => h) <| tRt <| rCk (.inl rfl) (fun _ _ ho => lBP ho rfl rfl uT42 rfl tS42 (lb rfl) rfl trivial) rfl (po3 rfl rfl rfl)
      refine wI rfl rfl nf nw (fun _ _ => bSl rfl rfl uT35 tZ3 tS3 rfl rfl rfl rfl (fbk rfl) rfl) <| WA.all (rs := [0, 13]) (by kernel_rfl) (by simp) ?_
      refine fmc ⟨?_, fmc ⟨?_, by simp⟩⟩
      ·refine wI rfl rfl nf nw (fun _ _ => bSl rfl rfl uT35 tZ3 tS3 rfl rfl rfl rfl (fbk rfl) rfl) <| wR 3 [3, 4] (by kernel_rfl) (fun _ _ _ h => h) <| rV rfl rfl (iSq rfl rfl rfl uT35 hO tS3 rfl rfl) <| smR 1 rfl <| nR <| wO 13 (by kernel_rfl) <| wI rfl rfl nf (nAp rfl) (fun _ _ => ocr (hO4) ent34 rfl (po2 rfl rfl) rfl nl rfl rfl) <| wR 1 [14] (by kernel_rfl) (fun _ _ _ h => h) <| rV rfl rfl (bPu rfl rfl tZ42 tP42 rfl (fbk rfl) rfl) <| nR <| wO 15 (by kernel_rfl) <| wI rfl rfl nf (nOl rfl) (fun _ _ => sBA rfl rfl rfl rfl rfl (by simp) tS42 (flk rfl) (lb rfl)) ?_
       refine wDn (by kernel_rfl) <| Tr.fixNil (k := 104) rfl (fun h => h) <| tRt <| rCk (.inl rfl) (fun _ _ ho => lBP ho rfl rfl uT42 rfl tS42 (lb rfl) rfl trivial) rfl (po3 rfl rfl rfl)
      refine wI rfl rfl nf (nAp rfl) (fun _ _ => ocr (hO4) ent34 rfl (po2 rfl rfl) rfl nl rfl rfl) <| wO 0 (by kernel_rfl) <| wI rfl rfl nf nw (fun _ _ => bSl rfl rfl uT35 tZ3 tS3 rfl rfl rfl rfl (fbk rfl) rfl) <| wR 1 [3, 4, 14] (by kernel_rfl) (fun _ _ _ h => h) <| rV rfl rfl (iSq rfl rfl rfl uT35 hO tS3 rfl rfl) <| smR 1 rfl <| rV rfl rfl (bPu rfl rfl tZ42 tP42 rfl (fbk rfl) rfl) <| nR <| wO 15 (by kernel_rfl) <| wI rfl rfl nf (nOl rfl) (fun _ _ => sBA rfl rfl rfl rfl rfl (by simp) tS42 (flk rfl) (lb rfl)) <| wDn (by kernel_rfl) <| Tr.fixNil (k := 104) rfl (fun h => h) ?_
      refine tRt <| rCk (.inl rfl) (fun _ _ ho => lBP ho rfl rfl uT42 rfl tS42 (lb rfl) rfl trivial) rfl (po3 rfl rfl rfl)
     refine wI rfl rfl nf nw (fun _ _ => bSl rfl rfl uT35 tZ3 tS3 rfl rfl rfl rfl (fbk rfl) rfl) <| WA.all (rs := [0, 9]) (by kernel_rfl) (by simp) ?_
     refine fmc ⟨?_, fmc ⟨?_, by simp⟩⟩
     ·refine wI rfl rfl nf nw (fun _ _ => bSl rfl rfl uT35 tZ3 tS3 rfl rfl rfl rfl (fbk rfl) rfl) <| wR 4 [3, 4] (by kernel_rfl) (fun _ _ _ h => h) <| rV rfl rfl (iSq rfl rfl rfl uT35 hO tS3 rfl rfl) <| smR 1 rfl <| nR <| wO 9 (by kernel_rfl) <| wI rfl rfl nf (nAp rfl) (fun _ _ => ocr (hE4) ent52 rfl (po3 rfl rfl rfl) rfl nl rfl rfl) <| wO 13 (by kernel_rfl) <| wI rfl rfl nf (nAp rfl) (fun _ _ => ocr (hO4) ent34 rfl (po2 rfl rfl) rfl nl rfl rfl) <| wR 1 [14] (by kernel_rfl) (fun _ _ _ h => h) <| rV rfl rfl (bPu rfl rfl tZ42 tP42 rfl (fbk rfl) rfl) <| nR ?_
      refine wO 15 (by kernel_rfl) <| wI rfl rfl nf (nOl rfl) (fun _ _ => sBA rfl rfl rfl rfl rfl (by simp) tS42 (flk rfl) (lb rfl)) <| wDn (by kernel_rfl) <| Tr.fixNil (k := 104) rfl (fun h => h) <| tRt <| rCk (.inl rfl) (fun _ _ ho => lBP ho rfl rfl uT42 rfl tS42 (lb rfl) rfl trivial) rfl (po3 rfl rfl rfl)
     refine wI rfl rfl nf (nAp rfl) (fun _ _ => ocr (hE4) ent52 rfl (po3 rfl rfl rfl) rfl nl rfl rfl) <| WA.all (rs := [0, 13]) (by kernel_rfl) (by simp) ?_
     refine fmc ⟨?_, fmc ⟨?_, by simp⟩⟩
     ·refine wI rfl rfl nf nw (fun _ _ => bSl rfl rfl uT35 tZ3 tS3 rfl rfl rfl rfl (fbk rfl) rfl) <| wR 3 [3, 4] (by kernel_rfl) (fun _ _ _ h => h) <| rV rfl rfl (iSq rfl rfl rfl uT35 hO tS3 rfl rfl) <| smR 1 rfl <| nR <| wO 13 (by kernel_rfl) <| wI rfl rfl nf (nAp rfl) (fun _ _ => ocr (hO4) ent34 rfl (po2 rfl rfl) rfl nl rfl rfl) <| wR 1 [14] (by kernel_rfl) (fun _ _ _ h => h) <| rV rfl rfl (bPu rfl rfl tZ42 tP42 rfl (fbk rfl) rfl) <| nR <| wO 15 (by kernel_rfl) <| wI rfl rfl nf (nOl rfl) (fun _ _ => sBA rfl rfl rfl rfl rfl (by simp) tS42 (flk rfl) (lb rfl)) ?_
      refine wDn (by kernel_rfl) <| Tr.fixNil (k := 104) rfl (fun h => h) <| tRt <| rCk (.inl rfl) (fun _ _ ho => lBP ho rfl rfl uT42 rfl tS42 (lb rfl) rfl trivial) rfl (po3 rfl rfl rfl)
     refine wI rfl rfl nf (nAp rfl) (fun _ _ => ocr (hO4) ent34 rfl (po2 rfl rfl) rfl nl rfl rfl) <| wO 0 (by kernel_rfl) <| wI rfl rfl nf nw (fun _ _ => bSl rfl rfl uT35 tZ3 tS3 rfl rfl rfl rfl (fbk rfl) rfl) <| wR 1 [3, 4, 14] (by kernel_rfl) (fun _ _ _ h => h) <| rV rfl rfl (iSq rfl rfl rfl uT35 hO tS3 rfl rfl) <| smR 1 rfl <| rV rfl rfl (bPu rfl rfl tZ42 tP42 rfl (fbk rfl) rfl) <| nR <| wO 15 (by kernel_rfl) <| wI rfl rfl nf (nOl rfl) (fun _ _ => sBA rfl rfl rfl rfl rfl (by simp) tS42 (flk rfl) (lb rfl)) <| wDn (by kernel_rfl) <| Tr.fixNil (k := 104) rfl (fun h => h) ?_
     refine tRt <| rCk (.inl rfl) (fun _ _ ho => lBP ho rfl rfl uT42 rfl tS42 (lb rfl) rfl trivial) rfl (po3 rfl rfl rfl)
    refine wI rfl rfl nf nw (fun _ _ => bSl rfl rfl uT35 tZ3 tS3 rfl rfl rfl rfl (fbk rfl) rfl) <| WA.all (rs := [0, 2]) (by kernel_rfl) (by simp) ?_
    refine fmc ⟨?_, fmc ⟨?_, by simp⟩⟩
    ·refine wI rfl rfl nf nw (fun _ _ => bSl rfl rfl uT35 tZ3 tS3 rfl rfl rfl rfl (fbk rfl) rfl) <| wO 2 (by kernel_rfl) <| wI rfl rfl nf (nAp rfl) (fun _ _ => ocr (hP4) ent49 rfl (po2 rfl rfl) rfl nl rfl rfl) <| wR 4 [3, 4] (by kernel_rfl) (fun _ _ _ h => h) <| rV rfl rfl (iSq rfl rfl rfl uT35 hO tS3 rfl rfl) <| smR 1 rfl <| nR <| wO 9 (by kernel_rfl) <| wI rfl rfl nf (nAp rfl) (fun _ _ => ocr (hE4) ent52 rfl (po3 rfl rfl rfl) rfl nl rfl rfl) <| wO 13 (by kernel_rfl) <| wI rfl rfl nf (nAp rfl) (fun _ _ => ocr (hO4) ent34 rfl (po2 rfl rfl) rfl nl rfl rfl) <| wR 1 [14] (by kernel_rfl) (fun _ _ _ h => h) ?_
     refine rV rfl rfl (bPu rfl rfl tZ42 tP42 rfl (fbk rfl) rfl) <| nR <| wO 15 (by kernel_rfl) <| wI rfl rfl nf (nOl rfl) (fun _ _ => sBA rfl rfl rfl rfl rfl (by simp) tS42 (flk rfl) (lb rfl)) <| wDn (by kernel_rfl) <| Tr.fixNil (k := 104) rfl (fun h => h) <| tRt <| rCk (.inl rfl) (fun _ _ ho => lBP ho rfl rfl uT42 rfl tS42 (lb rfl) rfl trivial) rfl (po3 rfl rfl rfl)
    refine wI rfl rfl nf (nAp rfl) (fun _ _ => ocr (hP4) ent49 rfl (po2 rfl rfl) rfl nl rfl rfl) <| WA.all (rs := [0, 9]) (by kernel_rfl) (by simp) ?_
    refine fmc ⟨?_, fmc ⟨?_, by simp⟩⟩
    ·refine wI rfl rfl nf nw (fun _ _ => bSl rfl rfl uT35 tZ3 tS3 rfl rfl rfl rfl (fbk rfl) rfl) <| wR 4 [3, 4] (by kernel_rfl) (fun _ _ _ h => h) <| rV rfl rfl (iSq rfl rfl rfl uT35 hO tS3 rfl rfl) <| smR 1 rfl <| nR <| wO 9 (by kernel_rfl) <| wI rfl rfl nf (nAp rfl) (fun _ _ => ocr (hE4) ent52 rfl (po3 rfl rfl rfl) rfl nl rfl rfl) <| wO 13 (by kernel_rfl) <| wI rfl rfl nf (nAp rfl) (fun _ _ => ocr (hO4) ent34 rfl (po2 rfl rfl) rfl nl rfl rfl) <| wR 1 [14] (by kernel_rfl) (fun _ _ _ h => h) <| rV rfl rfl (bPu rfl rfl tZ42 tP42 rfl (fbk rfl) rfl) <| nR ?_
     refine wO 15 (by kernel_rfl) <| wI rfl rfl nf (nOl rfl) (fun _ _ => sBA rfl rfl rfl rfl rfl (by simp) tS42 (flk rfl) (lb rfl)) <| wDn (by kernel_rfl) <| Tr.fixNil (k := 104) rfl (fun h => h) <| tRt <| rCk (.inl rfl) (fun _ _ ho => lBP ho rfl rfl uT42 rfl tS42 (lb rfl) rfl trivial) rfl (po3 rfl rfl rfl)
    refine wI rfl rfl nf (nAp rfl) (fun _ _ => ocr (hE4) ent52 rfl (po3 rfl rfl rfl) rfl nl rfl rfl) <| WA.all (rs := [0, 13]) (by kernel_rfl) (by simp) ?_
    refine fmc ⟨?_, fmc ⟨?_, by simp⟩⟩
    ·refine wI rfl rfl nf nw (fun _ _ => bSl rfl rfl uT35 tZ3 tS3 rfl rfl rfl rfl (fbk rfl) rfl) <| wR 3 [3, 4] (by kernel_rfl) (fun _ _ _ h => h) <| rV rfl rfl (iSq rfl rfl rfl uT35 hO tS3 rfl rfl) <| smR 1 rfl <| nR <| wO 13 (by kernel_rfl) <| wI rfl rfl nf (nAp rfl) (fun _ _ => ocr (hO4) ent34 rfl (po2 rfl rfl) rfl nl rfl rfl) <| wR 1 [14] (by kernel_rfl) (fun _ _ _ h => h) <| rV rfl rfl (bPu rfl rfl tZ42 tP42 rfl (fbk rfl) rfl) <| nR <| wO 15 (by kernel_rfl) <| wI rfl rfl nf (nOl rfl) (fun _ _ => sBA rfl rfl rfl rfl rfl (by simp) tS42 (flk rfl) (lb rfl)) ?_
     refine wDn (by kernel_rfl) <| Tr.fixNil (k := 104) rfl (fun h => h) <| tRt <| rCk (.inl rfl) (fun _ _ ho => lBP ho rfl rfl uT42 rfl tS42 (lb rfl) rfl trivial) rfl (po3 rfl rfl rfl)
    refine wI rfl rfl nf (nAp rfl) (fun _ _ => ocr (hO4) ent34 rfl (po2 rfl rfl) rfl nl rfl rfl) <| wO 0 (by kernel_rfl) <| wI rfl rfl nf nw (fun _ _ => bSl rfl rfl uT35 tZ3 tS3 rfl rfl rfl rfl (fbk rfl) rfl) <| wR 1 [3, 4, 14] (by kernel_rfl) (fun _ _ _ h => h) <| rV rfl rfl (iSq rfl rfl rfl uT35 hO tS3 rfl rfl) <| smR 1 rfl <| rV rfl rfl (bPu rfl rfl tZ42 tP42 rfl (fbk rfl) rfl) <| nR <| wO 15 (by kernel_rfl) <| wI rfl rfl nf (nOl rfl) (fun _ _ => sBA rfl rfl rfl rfl rfl (by simp) tS42 (flk rfl) (lb rfl)) <| wDn (by kernel_rfl) <| Tr.fixNil (k := 104) rfl (fun h => h) ?_
    refine tRt <| rCk (.inl rfl) (fun _ _ ho => lBP ho rfl rfl uT42 rfl tS42 (lb rfl) rfl trivial) rfl (po3 rfl rfl rfl)
   refine wI rfl rfl nf nw (fun _ _ => bSl rfl rfl uT35 tZ3 tS3 rfl rfl rfl rfl (fbk rfl) rfl) <| WA.all (rs := [0, 2, 8]) (by kernel_rfl) (by simp) ?_
   refine fmc ⟨?_, fmc ⟨?_, fmc ⟨?_, by simp⟩⟩⟩
   ·refine wI rfl rfl nf nw (fun _ _ => bSl rfl rfl uT35 tZ3 tS3 rfl rfl rfl rfl (fbk rfl) rfl) <| WA.all (rs := [2, 8]) (by kernel_rfl) (by simp) ?_
    refine fmc ⟨?_, fmc ⟨?_, by simp⟩⟩
    ·refine wI rfl rfl nf (nAp rfl) (fun _ _ => ocr (hP4) ent49 rfl (po2 rfl rfl) rfl nl rfl rfl) <| wR 5 [3, 4] (by kernel_rfl) (fun _ _ _ h => h) <| rV rfl rfl (iSq rfl rfl rfl uT35 hO tS3 rfl rfl) <| smR 1 rfl <| nR <| wO 8 (by kernel_rfl) <| wI rfl rfl nf nw (fun _ _ => bSl rfl rfl uT35 tZ3 tS3 rfl rfl rfl rfl (fbk rfl) rfl) <| wO 9 (by kernel_rfl) <| wI rfl rfl nf (nAp rfl) (fun _ _ => ocr (hE4) ent52 rfl (po3 rfl rfl rfl) rfl nl rfl rfl) <| wO 13 (by kernel_rfl) <| wI rfl rfl nf (nAp rfl) (fun _ _ => ocr (hO4) ent34 rfl (po2 rfl rfl) rfl nl rfl rfl) <| wR 1 [14] (by kernel_rfl) (fun _ _ _ h => h) ?_
     refine rV rfl rfl (bPu rfl rfl tZ42 tP42 rfl (fbk rfl) rfl) <| nR <| wO 15 (by kernel_rfl) <| wI rfl rfl nf (nOl rfl) (fun _ _ => sBA rfl rfl rfl rfl rfl (by simp) tS42 (flk rfl) (lb rfl)) <| wDn (by kernel_rfl) <| Tr.fixNil (k := 104) rfl (fun h => h) <| tRt <| rCk (.inl rfl) (fun _ _ ho => lBP ho rfl rfl uT42 rfl tS42 (lb rfl) rfl trivial) rfl (po3 rfl rfl rfl)
    refine wI rfl rfl nf nw (fun _ _ => bSl rfl rfl uT35 tZ3 tS3 rfl rfl rfl rfl (fbk rfl) rfl) <| wO 2 (by kernel_rfl) <| wI rfl rfl nf (nAp rfl) (fun _ _ => ocr (hP4) ent49 rfl (po2 rfl rfl) rfl nl rfl rfl) <| wR 4 [3, 4] (by kernel_rfl) (fun _ _ _ h => h) <| rV rfl rfl (iSq rfl rfl rfl uT35 hO tS3 rfl rfl) <| smR 1 rfl <| nR <| wO 9 (by kernel_rfl) <| wI rfl rfl nf (nAp rfl) (fun _ _ => ocr (hE4) ent52 rfl (po3 rfl rfl rfl) rfl nl rfl rfl) <| wO 13 (by kernel_rfl) <| wI rfl rfl nf (nAp rfl) (fun _ _ => ocr (hO4) ent34 rfl (po2 rfl rfl) rfl nl rfl rfl) <| wR 1 [14] (by kernel_rfl) (fun _ _ _ h => h) ?_
    refine rV rfl rfl (bPu rfl rfl tZ42 tP42 rfl (fbk rfl) rfl) <| nR <| wO 15 (by kernel_rfl) <| wI rfl rfl nf (nOl rfl) (fun _ _ => sBA rfl rfl rfl rfl rfl (by simp) tS42 (flk rfl) (lb rfl)) <| wDn (by kernel_rfl) <| Tr.fixNil (k := 104) rfl (fun h => h) <| tRt <| rCk (.inl rfl) (fun _ _ ho => lBP ho rfl rfl uT42 rfl tS42 (lb rfl) rfl trivial) rfl (po3 rfl rfl rfl)
   ·refine wI rfl rfl nf (nAp rfl) (fun _ _ => ocr (hP4) ent49 rfl (po2 rfl rfl) rfl nl rfl rfl) <| WA.all (rs := [0, 8]) (by kernel_rfl) (by simp) ?_
    refine fmc ⟨?_, fmc ⟨?_, by simp⟩⟩
    ·refine wI rfl rfl nf nw (fun _ _ => bSl rfl rfl uT35 tZ3 tS3 rfl rfl rfl rfl (fbk rfl) rfl) <| wR 5 [3, 4] (by kernel_rfl) (fun _ _ _ h => h) <| rV rfl rfl (iSq rfl rfl rfl uT35 hO tS3 rfl rfl) <| smR 1 rfl <| nR <| wO 8 (by kernel_rfl) <| wI rfl rfl nf nw (fun _ _ => bSl rfl rfl uT35 tZ3 tS3 rfl rfl rfl rfl (fbk rfl) rfl) <| wO 9 (by kernel_rfl) <| wI rfl rfl nf (nAp rfl) (fun _ _ => ocr (hE4) ent52 rfl (po3 rfl rfl rfl) rfl nl rfl rfl) <| wO 13 (by kernel_rfl) <| wI rfl rfl nf (nAp rfl) (fun _ _ => ocr (hO4) ent34 rfl (po2 rfl rfl) rfl nl rfl rfl) <| wR 1 [14] (by kernel_rfl) (fun _ _ _ h => h) ?_
     refine rV rfl rfl (bPu rfl rfl tZ42 tP42 rfl (fbk rfl) rfl) <| nR <| wO 15 (by kernel_rfl) <| wI rfl rfl nf (nOl rfl) (fun _ _ => sBA rfl rfl rfl rfl rfl (by simp) tS42 (flk rfl) (lb rfl)) <| wDn (by kernel_rfl) <| Tr.fixNil (k := 104) rfl (fun h => h) <| tRt <| rCk (.inl rfl) (fun _ _ ho => lBP ho rfl rfl uT42 rfl tS42 (lb rfl) rfl trivial) rfl (po3 rfl rfl rfl)
    refine wI rfl rfl nf nw (fun _ _ => bSl rfl rfl uT35 tZ3 tS3 rfl rfl rfl rfl (fbk rfl) rfl) <| WA.all (rs := [0, 9]) (by kernel_rfl) (by simp) ?_
    refine fmc ⟨?_, fmc ⟨?_, by simp⟩⟩
    ·refine wI rfl rfl nf nw (fun _ _ => bSl rfl rfl uT35 tZ3 tS3 rfl rfl rfl rfl (fbk rfl) rfl) <| wR 4 [3, 4] (by kernel_rfl) (fun _ _ _ h => h) <| rV rfl rfl (iSq rfl rfl rfl uT35 hO tS3 rfl rfl) <| smR 1 rfl <| nR <| wO 9 (by kernel_rfl) <| wI rfl rfl nf (nAp rfl) (fun _ _ => ocr (hE4) ent52 rfl (po3 rfl rfl rfl) rfl nl rfl rfl) <| wO 13 (by kernel_rfl) <| wI rfl rfl nf (nAp rfl) (fun _ _ => ocr (hO4) ent34 rfl (po2 rfl rfl) rfl nl rfl rfl) <| wR 1 [14] (by kernel_rfl) (fun _ _ _ h => h) <| rV rfl rfl (bPu rfl rfl tZ42 tP42 rfl (fbk rfl) rfl) <| nR ?_
     refine wO 15 (by kernel_rfl) <| wI rfl rfl nf (nOl rfl) (fun _ _ => sBA rfl rfl rfl rfl rfl (by simp) tS42 (flk rfl) (lb rfl)) <| wDn (by kernel_rfl) <| Tr.fixNil (k := 104) rfl (fun h => h) <| tRt <| rCk (.inl rfl) (fun _ _ ho => lBP ho rfl rfl uT42 rfl tS42 (lb rfl) rfl trivial) rfl (po3 rfl rfl rfl)
    refine wI rfl rfl nf (nAp rfl) (fun _ _ => ocr (hE4) ent52 rfl (po3 rfl rfl rfl) rfl nl rfl rfl) <| WA.all (rs := [0, 13]) (by kernel_rfl) (by simp) ?_
    refine fmc ⟨?_, fmc ⟨?_, by simp⟩⟩
    ·refine wI rfl rfl nf nw (fun _ _ => bSl rfl rfl uT35 tZ3 tS3 rfl rfl rfl rfl (fbk rfl) rfl) <| wR 3 [3, 4] (by kernel_rfl) (fun _ _ _ h => h) <| rV rfl rfl (iSq rfl rfl rfl uT35 hO tS3 rfl rfl) <| smR 1 rfl <| nR <| wO 13 (by kernel_rfl) <| wI rfl rfl nf (nAp rfl) (fun _ _ => ocr (hO4) ent34 rfl (po2 rfl rfl) rfl nl rfl rfl) <| wR 1 [14] (by kernel_rfl) (fun _ _ _ h => h) <| rV rfl rfl (bPu rfl rfl tZ42 tP42 rfl (fbk rfl) rfl) <| nR <| wO 15 (by kernel_rfl) <| wI rfl rfl nf (nOl rfl) (fun _ _ => sBA rfl rfl rfl rfl rfl (by simp) tS42 (flk rfl) (lb rfl)) ?_
     refine wDn (by kernel_rfl) <| Tr.fixNil (k := 104) rfl (fun h => h) <| tRt <| rCk (.inl rfl) (fun _ _ ho => lBP ho rfl rfl uT42 rfl tS42 (lb rfl) rfl trivial) rfl (po3 rfl rfl rfl)
    refine wI rfl rfl nf (nAp rfl) (fun _ _ => ocr (hO4) ent34 rfl (po2 rfl rfl) rfl nl rfl rfl) <| wO 0 (by kernel_rfl) <| wI rfl rfl nf nw (fun _ _ => bSl rfl rfl uT35 tZ3 tS3 rfl rfl rfl rfl (fbk rfl) rfl) <| wR 1 [3, 4, 14] (by kernel_rfl) (fun _ _ _ h => h) <| rV rfl rfl (iSq rfl rfl rfl uT35 hO tS3 rfl rfl) <| smR 1 rfl <| rV rfl rfl (bPu rfl rfl tZ42 tP42 rfl (fbk rfl) rfl) <| nR <| wO 15 (by kernel_rfl) <| wI rfl rfl nf (nOl rfl) (fun _ _ => sBA rfl rfl rfl rfl rfl (by simp) tS42 (flk rfl) (lb rfl)) <| wDn (by kernel_rfl) <| Tr.fixNil (k := 104) rfl (fun h => h) ?_
    refine tRt <| rCk (.inl rfl) (fun _ _ ho => lBP ho rfl rfl uT42 rfl tS42 (lb rfl) rfl trivial) rfl (po3 rfl rfl rfl)
   refine wI rfl rfl nf nw (fun _ _ => bSl rfl rfl uT35 tZ3 tS3 rfl rfl rfl rfl (fbk rfl) rfl) <| WA.all (rs := [0, 2]) (by kernel_rfl) (by simp) ?_
   refine fmc ⟨?_, fmc ⟨?_, by simp⟩⟩
   ·refine wI rfl rfl nf nw (fun _ _ => bSl rfl rfl uT35 tZ3 tS3 rfl rfl rfl rfl (fbk rfl) rfl) <| wO 2 (by kernel_rfl) <| wI rfl rfl nf (nAp rfl) (fun _ _ => ocr (hP4) ent49 rfl (po2 rfl rfl) rfl nl rfl rfl) <| wR 4 [3, 4] (by kernel_rfl) (fun _ _ _ h => h) <| rV rfl rfl (iSq rfl rfl rfl uT35 hO tS3 rfl rfl) <| smR 1 rfl <| nR <| wO 9 (by kernel_rfl) <| wI rfl rfl nf (nAp rfl) (fun _ _ => ocr (hE4) ent52 rfl (po3 rfl rfl rfl) rfl nl rfl rfl) <| wO 13 (by kernel_rfl) <| wI rfl rfl nf (nAp rfl) (fun _ _ => ocr (hO4) ent34 rfl (po2 rfl rfl) rfl nl rfl rfl) <| wR 1 [14] (by kernel_rfl) (fun _ _ _ h => h) ?_
    refine rV rfl rfl (bPu rfl rfl tZ42 tP42 rfl (fbk rfl) rfl) <| nR <| wO 15 (by kernel_rfl) <| wI rfl rfl nf (nOl rfl) (fun _ _ => sBA rfl rfl rfl rfl rfl (by simp) tS42 (flk rfl) (lb rfl)) <| wDn (by kernel_rfl) <| Tr.fixNil (k := 104) rfl (fun h => h) <| tRt <| rCk (.inl rfl) (fun _ _ ho => lBP ho rfl rfl uT42 rfl tS42 (lb rfl) rfl trivial) rfl (po3 rfl rfl rfl)
   refine wI rfl rfl nf (nAp rfl) (fun _ _ => ocr (hP4) ent49 rfl (po2 rfl rfl) rfl nl rfl rfl) <| WA.all (rs := [0, 9]) (by kernel_rfl) (by simp) ?_
   refine fmc ⟨?_, fmc ⟨?_, by simp⟩⟩
   ·refine wI rfl rfl nf nw (fun _ _ => bSl rfl rfl uT35 tZ3 tS3 rfl rfl rfl rfl (fbk rfl) rfl) <| wR 4 [3, 4] (by kernel_rfl) (fun _ _ _ h => h) <| rV rfl rfl (iSq rfl rfl rfl uT35 hO tS3 rfl rfl) <| smR 1 rfl <| nR <| wO 9 (by kernel_rfl) <| wI rfl rfl nf (nAp rfl) (fun _ _ => ocr (hE4) ent52 rfl (po3 rfl rfl rfl) rfl nl rfl rfl) <| wO 13 (by kernel_rfl) <| wI rfl rfl nf (nAp rfl) (fun _ _ => ocr (hO4) ent34 rfl (po2 rfl rfl) rfl nl rfl rfl) <| wR 1 [14] (by kernel_rfl) (fun _ _ _ h => h) <| rV rfl rfl (bPu rfl rfl tZ42 tP42 rfl (fbk rfl) rfl) <| nR ?_
    refine wO 15 (by kernel_rfl) <| wI rfl rfl nf (nOl rfl) (fun _ _ => sBA rfl rfl rfl rfl rfl (by simp) tS42 (flk rfl) (lb rfl)) <| wDn (by kernel_rfl) <| Tr.fixNil (k := 104) rfl (fun h => h) <| tRt <| rCk (.inl rfl) (fun _ _ ho => lBP ho rfl rfl uT42 rfl tS42 (lb rfl) rfl trivial) rfl (po3 rfl rfl rfl)
   refine wI rfl rfl nf (nAp rfl) (fun _ _ => ocr (hE4) ent52 rfl (po3 rfl rfl rfl) rfl nl rfl rfl) <| WA.all (rs := [0, 13]) (by kernel_rfl) (by simp) ?_
   refine fmc ⟨?_, fmc ⟨?_, by simp⟩⟩
   ·refine wI rfl rfl nf nw (fun _ _ => bSl rfl rfl uT35 tZ3 tS3 rfl rfl rfl rfl (fbk rfl) rfl) <| wR 3 [3, 4] (by kernel_rfl) (fun _ _ _ h => h) <| rV rfl rfl (iSq rfl rfl rfl uT35 hO tS3 rfl rfl) <| smR 1 rfl <| nR <| wO 13 (by kernel_rfl) <| wI rfl rfl nf (nAp rfl) (fun _ _ => ocr (hO4) ent34 rfl (po2 rfl rfl) rfl nl rfl rfl) <| wR 1 [14] (by kernel_rfl) (fun _ _ _ h => h) <| rV rfl rfl (bPu rfl rfl tZ42 tP42 rfl (fbk rfl) rfl) <| nR <| wO 15 (by kernel_rfl) <| wI rfl rfl nf (nOl rfl) (fun _ _ => sBA rfl rfl rfl rfl rfl (by simp) tS42 (flk rfl) (lb rfl)) ?_
    refine wDn (by kernel_rfl) <| Tr.fixNil (k := 104) rfl (fun h => h) <| tRt <| rCk (.inl rfl) (fun _ _ ho => lBP ho rfl rfl uT42 rfl tS42 (lb rfl) rfl trivial) rfl (po3 rfl rfl rfl)
   refine wI rfl rfl nf (nAp rfl) (fun _ _ => ocr (hO4) ent34 rfl (po2 rfl rfl) rfl nl rfl rfl) <| wO 0 (by kernel_rfl) <| wI rfl rfl nf nw (fun _ _ => bSl rfl rfl uT35 tZ3 tS3 rfl rfl rfl rfl (fbk rfl) rfl) <| wR 1 [3, 4, 14] (by kernel_rfl) (fun _ _ _ h => h) <| rV rfl rfl (iSq rfl rfl rfl uT35 hO tS3 rfl rfl) <| smR 1 rfl <| rV rfl rfl (bPu rfl rfl tZ42 tP42 rfl (fbk rfl) rfl) <| nR <| wO 15 (by kernel_rfl) <| wI rfl rfl nf (nOl rfl) (fun _ _ => sBA rfl rfl rfl rfl rfl (by simp) tS42 (flk rfl) (lb rfl)) <| wDn (by kernel_rfl) <| Tr.fixNil (k := 104) rfl (fun h => h) ?_
   refine tRt <| rCk (.inl rfl) (fun _ _ ho => lBP ho rfl rfl uT42 rfl tS42 (lb rfl) rfl trivial) rfl (po3 rfl rfl rfl)
  have n2 : ¬ (gPick l 12 g).1 = 2 := by simp at hc28; omega
  refine tQ <| tG <| sm 2 rfl <| nL ?_
  refine tC rfl (fun hc45 => ?_) fun hc45 => ?_
  ·have hk : (gPick l 12 g).1 = 3 := by simp at hc45; omega
   refine tQ <| tG <| sm 2 rfl <| cE rfl (bSl rfl rfl uT35 tZ3 tS3 rfl rfl rfl rfl (fbk rfl) rfl) ?_
   refine cE rfl (ocr (sc_gEach l seen [2] (gPick l 12 g).2 hs (by simp only [gPick, List.length_cons, List.length_nil]; omega) hsl) ent52 rfl (po3 rfl rfl rfl) rfl (fun k (h : _) => .inr h) rfl rfl) ?_
   refine sm 1 rfl <| cE rfl (bSl rfl rfl uT35 tZ3 tS3 rfl rfl rfl rfl (fbk rfl) rfl) ?_
   refine cE rfl (ocr (sc_gOuts l [2] (gEach l seen [2] (gPick l 12 g).2).2 (by simp only [gPick, gEach_st, List.length_cons, List.length_nil]; omega)) ent34 rfl (po2 rfl rfl) rfl (fun k (h : _) => .inr h) rfl rfl) ?_
   refine cV rfl (bPu rfl rfl tZ42 tP42 rfl (fbk rfl) rfl) <| c0 (sBA rfl rfl rfl rfl rfl ((fun h => h)) tS42 (flk rfl) (lb rfl)) <| nL <| Tr.fixNil (k := 104) rfl (fun h => h) <| tRt ?_
   have e : gSimple l seen g = gNode l 3 22 0 nName seen [2] [2] (gPick l 12 g).2 := by
     unfold gSimple
     simp only []
     rw [if_neg (by omega)]; rw [if_neg (by omega)]; rw [if_neg (by omega)]; rw [if_pos (by omega)]
   rw [e]
   refine rCk (.inl rfl) (fun _ _ ho => lBP ho rfl rfl uT42 rfl tS42 (lb rfl) rfl trivial) rfl (po3 rfl rfl rfl)
  have n3 : ¬ (gPick l 12 g).1 = 3 := by simp at hc45; omega
  refine tQ <| tQ <| tG <| sm 2 rfl <| nL ?_
  refine tC rfl (fun hc55 => ?_) fun hc55 => ?_
  ·refine tSk ?_
   refine tC rfl (fun hd55 => ?_) fun hd55 => ?_
   ·refine tQ ?_
    have hk : (gPick l 12 g).1 = 4 ∨ (gPick l 12 g).1 = 5 ∨ (gPick l 12 g).1 = 6 := by simp at hc55; omega
    refine tG <| sm 1 rfl <| cE rfl (ocr (sc_gPick l 11 (gPick l 12 g).2 (by omega) (by (simp only [gPick]; omega))) ent49 rfl (po2 rfl rfl) rfl (fun k (h : _) => .inr h) rfl rfl) <| cV rfl (oB rfl rfl (i64_add rfl (by omega))) <| sm 4 rfl <| cE rfl (bSl rfl rfl uT35 tZ3 tS3 rfl rfl rfl rfl (fbk rfl) rfl) ?_
    refine cE rfl (ocr (sc_gEach l seen [1, 1] (gPick l 11 (gPick l 12 g).2).2 hs (by simp only [gPick, List.length_cons, List.length_nil]; omega) hsl) ent52 rfl (po3 rfl rfl rfl) rfl (fun k (h : _) => .inr h) rfl rfl) ?_
    refine sm 2 rfl <| cE rfl (bSl rfl rfl uT35 tZ3 tS3 rfl rfl rfl rfl (fbk rfl) rfl) ?_
    refine cE rfl (ocr (sc_gOuts l [1] (gEach l seen [1, 1] (gPick l 11 (gPick l 12 g).2).2).2 (by simp only [gPick, gEach_st, List.length_cons, List.length_nil]; omega)) ent34 rfl (po2 rfl rfl) rfl (fun k (h : _) => .inr h) rfl rfl) ?_
    refine cV rfl (bPu rfl rfl tZ42 tP42 rfl (fbk rfl) rfl) <| c0 (sBA rfl rfl rfl rfl rfl ((fun h => h)) tS42 (flk rfl) (lb rfl)) <| nL <| Tr.fixNil (k := 104) rfl (fun h => h) <| tRt ?_
    have e : gSimple l seen g = gNode l 4 (1 + ((gPick l 11 (gPick l 12 g).2).1 : Int)) 0 nName seen [1, 1] [1] (gPick l 11 (gPick l 12 g).2).2 := by
      unfold gSimple
      simp only []
      rw [if_neg (by omega)]; rw [if_neg (by omega)]; rw [if_neg (by omega)]; rw [if_neg (by omega)]; rw [if_pos (by omega)]
    rw [e]
    refine rCk (.inl rfl) (fun _ _ ho => lBP ho rfl rfl uT42 rfl tS42 (lb rfl) rfl trivial) rfl (po3 rfl rfl rfl)
   exact absurd (hc55.symm.trans hd55) (by decide)
  refine tQ ?_
  have n4 : ¬ (gPick l 12 g).1 = 4 := by simp at hc55; omega
  refine tG <| sm 2 rfl <| nL ?_
  refine tC rfl (fun hc55 => ?_) fun hc55 => ?_
  ·refine tSk ?_
   refine tC rfl (fun hd55 => ?_) fun hd55 => ?_
   ·refine tQ ?_
    have hk : (gPick l 12 g).1 = 4 ∨ (gPick l 12 g).1 = 5 ∨ (gPick l 12 g).1 = 6 := by simp at hc55; omega
    refine tG <| sm 1 rfl <| cE rfl (ocr (sc_gPick l 11 (gPick l 12 g).2 (by omega) (by (simp only [gPick]; omega))) ent49 rfl (po2 rfl rfl) rfl (fun k (h : _) => .inr h) rfl rfl) <| cV rfl (oB rfl rfl (i64_add rfl (by omega))) <| sm 4 rfl <| cE rfl (bSl rfl rfl uT35 tZ3 tS3 rfl rfl rfl rfl (fbk rfl) rfl) ?_
    refine cE rfl (ocr (sc_gEach l seen [1, 1] (gPick l 11 (gPick l 12 g).2).2 hs (by simp only [gPick, List.length_cons, List.length_nil]; omega) hsl) ent52 rfl (po3 rfl rfl rfl) rfl (fun k (h : _) => .inr h) rfl rfl) ?_
    refine sm 2 rfl <| cE rfl (bSl rfl rfl uT35 tZ3 tS3 rfl rfl rfl rfl (fbk rfl) rfl) ?_
    refine cE rfl (ocr (sc_gOuts l [1] (gEach l seen [1, 1] (gPick l 11 (gPick l 12 g).2).2).2 (by simp only [gPick, gEach_st, List.length_cons, List.length_nil]; omega)) ent34 rfl (po2 rfl rfl) rfl (fun k (h : _) => .inr h) rfl rfl) ?_
    refine cV rfl (bPu rfl rfl tZ42 tP42 rfl (fbk rfl) rfl) <| c0 (sBA rfl rfl rfl rfl rfl ((fun h => h)) tS42 (flk rfl) (lb rfl)) <| nL <| Tr.fixNil (k := 104) rfl (fun h => h) <| tRt ?_
    have e : gSimple l seen g = gNode l 4 (1 + ((gPick l 11 (gPick l 12 g).2).1 : Int)) 0 nName seen [1, 1] [1] (gPick l 11 (gPick l 12 g).2).2 := by
      unfold gSimple
      simp only []
      rw [if_neg (by omega)]; rw [if_neg (by omega)]; rw [if_neg (by omega)]; rw [if_neg (by omega)]; rw [if_pos (by omega)]
    rw [e]
    refine rCk (.inl rfl) (fun _ _ ho => lBP ho rfl rfl uT42 rfl tS42 (lb rfl) rfl trivial) rfl (po3 rfl rfl rfl)
   exact absurd (hc55.symm.trans hd55) (by decide)
  have n5 : ¬ (gPick l 12 g).1 = 5 := by simp at hc55; omega
  refine tG <| sm 2 rfl <| nL ?_
  refine tC rfl (fun hc55 => ?_) fun hc55 => ?_
  ·refine tQ ?_
   have hk : (gPick l 12 g).1 = 4 ∨ (gPick l 12 g).1 = 5 ∨ (gPick l 12 g).1 = 6 := by simp at hc55; omega
   refine tG <| sm 1 rfl <| cE rfl (ocr (sc_gPick l 11 (gPick l 12 g).2 (by omega) (by (simp only [gPick]; omega))) ent49 rfl (po2 rfl rfl) rfl (fun k (h : _) => .inr h) rfl rfl) <| cV rfl (oB rfl rfl (i64_add rfl (by omega))) <| sm 4 rfl <| cE rfl (bSl rfl rfl uT35 tZ3 tS3 rfl rfl rfl rfl (fbk rfl) rfl) ?_
   refine cE rfl (ocr (sc_gEach l seen [1, 1] (gPick l 11 (gPick l 12 g).2).2 hs (by simp only [gPick, List.length_cons, List.length_nil]; omega) hsl) ent52 rfl (po3 rfl rfl rfl) rfl (fun k (h : _) => .inr h) rfl rfl) ?_
   refine sm 2 rfl <| cE rfl (bSl rfl rfl uT35 tZ3 tS3 rfl rfl rfl rfl (fbk rfl) rfl) ?_
   refine cE rfl (ocr (sc_gOuts l [1] (gEach l seen [1, 1] (gPick l 11 (gPick l 12 g).2).2).2 (by simp only [gPick, gEach_st, List.length_cons, List.length_nil]; omega)) ent34 rfl (po2 rfl rfl) rfl (fun k (h : _) => .inr h) rfl rfl) ?_
   refine cV rfl (bPu rfl rfl tZ42 tP42 rfl (fbk rfl) rfl) <| c0 (sBA rfl rfl rfl rfl rfl ((fun h => h)) tS42 (flk rfl) (lb rfl)) <| nL <| Tr.fixNil (k := 104) rfl (fun h => h) <| tRt ?_
   have e : gSimple l seen g = gNode l 4 (1 + ((gPick l 11 (gPick l 12 g).2).1 : Int)) 0 nName seen [1, 1] [1] (gPick l 11 (gPick l 12 g).2).2 := by
     unfold gSimple
     simp only []
     rw [if_neg (by omega)]; rw [if_neg (by omega)]; rw [if_neg (by omega)]; rw [if_neg (by omega)]; rw [if_pos (by omega)]
   rw [e]
   refine rCk (.inl rfl) (fun _ _ ho => lBP ho rfl rfl uT42 rfl tS42 (lb rfl) rfl trivial) rfl (po3 rfl rfl rfl)
  refine tQ <| tQ ?_
  have n6 : ¬ (gPick l 12 g).1 = 6 := by simp at hc55; omega
  refine tG <| sm 2 rfl <| nL ?_
  refine tC rfl (fun hc73 => ?_) fun hc73 => ?_
  ·refine tSk ?_
   refine tC rfl (fun hd73 => ?_) fun hd73 => ?_
   ·refine tQ ?_
    have hk : (gPick l 12 g).1 = 7 ∨ (gPick l 12 g).1 = 8 := by simp at hc73; omega
    refine tG <| sm 1 rfl <| cE rfl (ocr (sc_gPick l 6 (gPick l 12 g).2 (by omega) (by (simp only [gPick]; omega))) ent49 rfl (po2 rfl rfl) rfl (fun k (h : _) => .inr h) rfl rfl) <| cV rfl (oB rfl rfl (i64_add rfl (by omega))) <| sm 4 rfl <| cE rfl (bSl rfl rfl uT35 tZ3 tS3 rfl rfl rfl rfl (fbk rfl) rfl) ?_
    refine cE rfl (ocr (sc_gEach l seen [1, 1] (gPick l 6 (gPick l 12 g).2).2 hs (by simp only [gPick, List.length_cons, List.length_nil]; omega) hsl) ent52 rfl (po3 rfl rfl rfl) rfl (fun k (h : _) => .inr h) rfl rfl) ?_
    refine sm 1 rfl <| cE rfl (bSl rfl rfl uT35 tZ3 tS3 rfl rfl rfl rfl (fbk rfl) rfl) ?_
    refine cE rfl (ocr (sc_gOuts l [2] (gEach l seen [1, 1] (gPick l 6 (gPick l 12 g).2).2).2 (by simp only [gPick, gEach_st, List.length_cons, List.length_nil]; omega)) ent34 rfl (po2 rfl rfl) rfl (fun k (h : _) => .inr h) rfl rfl) ?_
    refine cV rfl (bPu rfl rfl tZ42 tP42 rfl (fbk rfl) rfl) <| c0 (sBA rfl rfl rfl rfl rfl ((fun h => h)) tS42 (flk rfl) (lb rfl)) <| nL <| Tr.fixNil (k := 104) rfl (fun h => h) <| tRt ?_
    have e : gSimple l seen g = gNode l 4 (12 + ((gPick l 6 (gPick l 12 g).2).1 : Int)) 0 nName seen [1, 1] [2] (gPick l 6 (gPick l 12 g).2).2 := by
      unfold gSimple
      simp only []
      rw [if_neg (by omega)]; rw [if_neg (by omega)]; rw [if_neg (by omega)]; rw [if_neg (by omega)]; rw [if_neg (by omega)]; rw [if_pos (by omega)]
    rw [e]
    refine rCk (.inl rfl) (fun _ _ ho => lBP ho rfl rfl uT42 rfl tS42 (lb rfl) rfl trivial) rfl (po3 rfl rfl rfl)
   exact absurd (hc73.symm.trans hd73) (by decide)
  have n7 : ¬ (gPick l 12 g).1 = 7 := by simp at hc73; omega
  refine tG <| sm 2 rfl <| nL ?_
  refine tC rfl (fun hc73 => ?_) fun hc73 => ?_
  ·refine tQ ?_
   have hk : (gPick l 12 g).1 = 7 ∨ (gPick l 12 g).1 = 8 := by simp at hc73; omega
   refine tG <| sm 1 rfl <| cE rfl (ocr (sc_gPick l 6 (gPick l 12 g).2 (by omega) (by (simp only [gPick]; omega))) ent49 rfl (po2 rfl rfl) rfl (fun k (h : _) => .inr h) rfl rfl) <| cV rfl (oB rfl rfl (i64_add rfl (by omega))) <| sm 4 rfl <| cE rfl (bSl rfl rfl uT35 tZ3 tS3 rfl rfl rfl rfl (fbk rfl) rfl) ?_
   refine cE rfl (ocr (sc_gEach l seen [1, 1] (gPick l 6 (gPick l 12 g).2).2 hs (by simp only [gPick, List.length_cons, List.length_nil]; omega) hsl) ent52 rfl (po3 rfl rfl rfl) rfl (fun k (h : _) => .inr h) rfl rfl) ?_
   refine sm 1 rfl <| cE rfl (bSl rfl rfl uT35 tZ3 tS3 rfl rfl rfl rfl (fbk rfl) rfl) ?_
   refine cE rfl (ocr (sc_gOuts l [2] (gEach l seen [1, 1] (gPick l 6 (gPick l 12 g).2).2).2 (by simp only [gPick, gEach_st, List.length_cons, List.length_nil]; omega)) ent34 rfl (po2 rfl rfl) rfl (fun k (h : _) => .inr h) rfl rfl) ?_
   refine cV rfl (bPu rfl rfl tZ42 tP42 rfl (fbk rfl) rfl) <| c0 (sBA rfl rfl rfl rfl rfl ((fun h => h)) tS42 (flk rfl) (lb rfl)) <| nL <| Tr.fixNil (k := 104) rfl (fun h => h) <| tRt ?_
   have e : gSimple l seen g = gNode l 4 (12 + ((gPick l 6 (gPick l 12 g).2).1 : Int)) 0 nName seen [1, 1] [2] (gPick l 6 (gPick l 12 g).2).2 := by
     unfold gSimple
     simp only []
     rw [if_neg (by omega)]; rw [if_neg (by omega)]; rw [if_neg (by omega)]; rw [if_neg (by omega)]; rw [if_neg (by omega)]; rw [if_pos (by omega)]
   rw [e]
   refine rCk (.inl rfl) (fun _ _ ho => lBP ho rfl rfl uT42 rfl tS42 (lb rfl) rfl trivial) rfl (po3 rfl rfl rfl)
  refine tQ ?_
  have n8 : ¬ (gPick l 12 g).1 = 8 := by simp at hc73; omega
  refine tG <| sm 2 rfl <| nL ?_
  refine tC rfl (fun hc89 => ?_) fun hc89 => ?_
  ·have hk : (gPick l 12 g).1 = 9 := by simp at hc89; omega
   refine tQ <| tG <| sm 3 rfl <| cE rfl (bSl rfl rfl uT35 tZ3 tS3 rfl rfl rfl rfl (fbk rfl) rfl) ?_
   refine cE rfl (ocr (sc_gEach l seen [1] (gPick l 12 g).2 hs (by simp only [gPick, List.length_cons, List.length_nil]; omega) hsl) ent52 rfl (po3 rfl rfl rfl) rfl (fun k (h : _) => .inr h) rfl rfl) ?_
   refine sm 2 rfl <| cE rfl (bSl rfl rfl uT35 tZ3 tS3 rfl rfl rfl rfl (fbk rfl) rfl) ?_
   refine cE rfl (ocr (sc_gOuts l [1] (gEach l seen [1] (gPick l 12 g).2).2 (by simp only [gPick, gEach_st, List.length_cons, List.length_nil]; omega)) ent34 rfl (po2 rfl rfl) rfl (fun k (h : _) => .inr h) rfl rfl) ?_
   refine cV rfl (bPu rfl rfl tZ42 tP42 rfl (fbk rfl) rfl) <| c0 (sBA rfl rfl rfl rfl rfl ((fun h => h)) tS42 (flk rfl) (lb rfl)) <| nL <| Tr.fixNil (k := 104) rfl (fun h => h) <| tRt ?_
   have e : gSimple l seen g = gNode l 5 0 0 aName seen [1] [1] (gPick l 12 g).2 := by
     unfold gSimple
     simp only []
     rw [if_neg (by omega)]; rw [if_neg (by omega)]; rw [if_neg (by omega)]; rw [if_neg (by omega)]; rw [if_neg (by omega)]; rw [if_neg (by omega)]; rw [if_pos (by omega)]
   rw [e]
   refine rCk (.inl rfl) (fun _ _ ho => lBP ho rfl rfl uT42 rfl tS42 (lb rfl) rfl trivial) rfl (po3 rfl rfl rfl)
  have n9 : ¬ (gPick l 12 g).1 = 9 := by simp at hc89; omega
  refine tQ <| tG <| sm 2 rfl <| nL ?_
  refine tC rfl (fun hc101 => ?_) fun hc101 => ?_
  ·have hk : (gPick l 12 g).1 = 10 := by simp at hc101; omega
   refine tQ <| tG <| sm 4 rfl <| cE rfl (bSl rfl rfl uT35 tZ3 tS3 rfl rfl rfl rfl (fbk rfl) rfl) ?_
   refine cE rfl (ocr (sc_gEach l seen [1, 1] (gPick l 12 g).2 hs (by simp only [gPick, List.length_cons, List.length_nil]; omega) hsl) ent52 rfl (po3 rfl rfl rfl) rfl (fun k (h : _) => .inr h) rfl rfl) ?_
   refine cV rfl (bPu rfl rfl tZ42 tP42 rfl (fbk rfl) rfl) <| c0 (sBA rfl rfl rfl rfl rfl ((fun h => h)) tS42 (flk rfl) (lb rfl)) <| nL <| Tr.fixNil (k := 104) rfl (fun h => h) <| tRt ?_
   have e : gSimple l seen g = gNode l 6 0 0 aName seen [1, 1] [] (gPick l 12 g).2 := by
     unfold gSimple
     simp only []
     rw [if_neg (by omega)]; rw [if_neg (by omega)]; rw [if_neg (by omega)]; rw [if_neg (by omega)]; rw [if_neg (by omega)]; rw [if_neg (by omega)]; rw [if_neg (by omega)]; rw [if_pos (by omega)]
   rw [e]
   refine rCk (.inl rfl) (fun _ _ ho => lBP ho rfl rfl uT42 rfl tS42 (lb rfl) rfl trivial) rfl (po3 rfl rfl rfl)
  have n10 : ¬ (gPick l 12 g).1 = 10 := by simp at hc101; omega
  refine tSk <| tQ <| tQ <| tG <| sm 1 rfl <| cE rfl (ocr (sc_gPick l 4 (gPick l 12 g).2 (by omega) (by (simp only [gPick]; omega))) ent49 rfl (po2 rfl rfl) rfl (fun k (h : _) => .inr h) rfl rfl) <| nL <| tBk <| tQ <| tG <| sm 2 rfl <| nL ?_
  refine tC rfl (fun hc112 => ?_) fun hc112 => ?_
  ·have hj : (gPick l 4 (gPick l 12 g).2).1 = 0 := by simp at hc112; omega
   refine tQ <| tG <| sm 3 rfl <| cE rfl (bSl rfl rfl uT35 tZ3 tS3 rfl rfl rfl rfl (fbk rfl) rfl) ?_
   refine cE rfl (ocr (sc_gEach l seen [1, 2] (gPick l 4 (gPick l 12 g).2).2 hs (by simp only [gPick, List.length_cons, List.length_nil]; omega) hsl) ent52 rfl (po3 rfl rfl rfl) rfl (fun k (h : _) => .inr h) rfl rfl) ?_
   refine sm 2 rfl <| cE rfl (bSl rfl rfl uT35 tZ3 tS3 rfl rfl rfl rfl (fbk rfl) rfl) ?_
   refine cE rfl (ocr (sc_gOuts l [1] (gEach l seen [1, 2] (gPick l 4 (gPick l 12 g).2).2).2 (by simp only [gPick, gEach_st, List.length_cons, List.length_nil]; omega)) ent34 rfl (po2 rfl rfl) rfl (fun k (h : _) => .inr h) rfl rfl) ?_
   refine cV rfl (bPu rfl rfl tZ42 tP42 rfl (fbk rfl) rfl) <| c0 (sBA rfl rfl rfl rfl rfl ((fun h => h)) tS42 (flk rfl) (lb rfl)) <| nL <| Tr.fixNil (k := 104) rfl (fun h => h) <| tRt ?_
   have e : gSimple l seen g = gNode l 7 0 0 fName seen [1, 2] [1] (gPick l 4 (gPick l 12 g).2).2 := by
     unfold gSimple
     simp only []
     rw [if_neg (by omega)]; rw [if_neg (by omega)]; rw [if_neg (by omega)]; rw [if_neg (by omega)]; rw [if_neg (by omega)]; rw [if_neg (by omega)]; rw [if_neg (by omega)]; rw [if_neg (by omega)]; rw [if_pos (by omega)]
   rw [e]
   refine rCk (.inl rfl) (fun _ _ ho => lBP ho rfl rfl uT42 rfl tS42 (lb rfl) rfl trivial) rfl (po3 rfl rfl rfl)
  have j0 : ¬ (gPick l 4 (gPick l 12 g).2).1 = 0 := by simp at hc112; omega
  refine tQ <| tG <| sm 2 rfl <| nL ?_
  refine tC rfl (fun hc124 => ?_) fun hc124 => ?_
  ·have hj : (gPick l 4 (gPick l 12 g).2).1 = 1 := by simp at hc124; omega
   refine tQ <| tG <| sm 2 rfl <| cE rfl (bSl rfl rfl uT35 tZ3 tS3 rfl rfl rfl rfl (fbk rfl) rfl) ?_
   refine cE rfl (ocr (sc_gOuts l [1] (gPick l 4 (gPick l 12 g).2).2 (by simp only [gPick, gEach_st, List.length_cons, List.length_nil]; omega)) ent34 rfl (po2 rfl rfl) rfl (fun k (h : _) => .inr h) rfl rfl) ?_
   refine cV rfl (bPu rfl rfl tZ42 tP42 rfl (fbk rfl) rfl) <| c0 (sBA rfl rfl rfl rfl rfl ((fun h => h)) tS42 (flk rfl) (lb rfl)) <| nL <| Tr.fixNil (k := 104) rfl (fun h => h) <| tRt ?_
   have e : gSimple l seen g = gNode l 8 0 0 nName seen [] [1] (gPick l 4 (gPick l 12 g).2).2 := by
     unfold gSimple
     simp only []
     rw [if_neg (by omega)]; rw [if_neg (by omega)]; rw [if_neg (by omega)]; rw [if_neg (by omega)]; rw [if_neg (by omega)]; rw [if_neg (by omega)]; rw [if_neg (by omega)]; rw [if_neg (by omega)]; rw [if_neg (by omega)]; rw [if_pos (by omega)]
   rw [e]
   refine rCk (.inl rfl) (fun _ _ ho => lBP ho rfl rfl uT42 rfl tS42 (lb rfl) rfl trivial) rfl (po3 rfl rfl rfl)
  have j1 : ¬ (gPick l 4 (gPick l 12 g).2).1 = 1 := by simp at hc124; omega
  refine tSk <| tQ <| tG <| sm 3 rfl <| cE rfl (bSl rfl rfl uT35 tZ3 tS3 rfl rfl rfl rfl (fbk rfl) rfl) ?_
  refine cE rfl (ocr (sc_gEach l seen [1] (gPick l 4 (gPick l 12 g).2).2 hs (by simp only [gPick, List.length_cons, List.length_nil]; omega) hsl) ent52 rfl (po3 rfl rfl rfl) rfl (fun k (h : _) => .inr h) rfl rfl) ?_
  refine cV rfl (bPu rfl rfl tZ42 tP42 rfl (fbk rfl) rfl) <| c0 (sBA rfl rfl rfl rfl rfl ((fun h => h)) tS42 (flk rfl) (lb rfl)) <| nL <| Tr.fixNil (k := 104) rfl (fun h => h) <| tRt ?_
  have e : gSimple l seen g = gNode l 9 0 0 nName seen [1] [] (gPick l 4 (gPick l 12 g).2).2 := by
    unfold gSimple
    simp only []
    rw [if_neg (by omega)]; rw [if_neg (by omega)]; rw [if_neg (by omega)]; rw [if_neg (by omega)]; rw [if_neg (by omega)]; rw [if_neg (by omega)]; rw [if_neg (by omega)]; rw [if_neg (by omega)]; rw [if_neg (by omega)]; rw [if_neg (by omega)]
  rw [e]
  refine rCk (.inl rfl) (fun _ _ ho => lBP ho rfl rfl uT42 rfl tS42 (lb rfl) rfl trivial) rfl (po3 rfl rfl rfl)
theorem sc_gEnd (l : List UInt8) (seen : List Int) (p : Plc) (g : Gn) (hs : InR g.types seen) (hb : g.pos ≤ 999980) (hsl : seen.length ≤ 1000000) (hp1 : p.Yield.length ≤ 2) (hp2 : p.Next.length ≤ 2) (hp3 : p.Left.length ≤ 2) : SC Tryz.prog 54 [.ptr 2001 0, .sl 2003 (seen.map eInt).length, .pv (plcv p)] (gHs l g seen) (fun _ => False) (.pv (ndv (gEnd l seen p g).1)) (gHs l (gEnd l seen p g).2 seen) := by
  refine SC.ofC Tryz.func54 rfl (lb rfl) rfl fun F ρ w => ?_
  have h6 : (gPick l 6 g).1 < 6 := gPick_lt (by omega)
  have hrem : intBin .rem .i64 ((gPick l 6 g).1 : Int) 2 = some (.int .i64 (((gPick l 6 g).1 % 2 : Nat) : Int)) := i64_rem (n := 2) (by omega)
  refine tQ <| tG <| cE rfl (ok_box rfl rfl) <| cE rfl (aLc (k := 106) rfl tZ42 rfl rfl rfl rfl) <| nL <| tQ <| tG <| sm 1 rfl <| cE rfl (ocr (sc_gPick l 6 g (by omega) (by omega)) ent49 rfl (po2 rfl rfl) rfl (fun k (h : _) => .inr h) rfl rfl) <| sm 1 rfl <| nL <| tQ ?_
  refine tBk <| tQ <| tG <| sm 3 rfl ?_
  refine wS 13 rfl (fun hb13 => ?_) fun hb13 => ?_
  ·refine sm 4 rfl <| nL ?_
   refine tC rfl (fun hc10 => ?_) fun hc10 => ?_
   ·have hk : p.If = true ∧ (gPick l 6 g).1 < 4 := ⟨hb13, by simp at hc10; omega⟩
    refine tQ <| tG <| sm 4 rfl ?_
    refine cE rfl (ocr (sc_gEach l seen p.Yield (gPick l 6 g).2 hs (by simp only [gPick, List.length_cons, List.length_nil]; omega) hsl) ent52 rfl (po3 rfl rfl rfl) rfl (fun k (h : _) => .inr h) rfl rfl) ?_
    refine cV rfl (bPu rfl rfl tZ42 tP42 rfl (fbk rfl) rfl) <| c0 (sBA rfl rfl rfl rfl rfl ((fun h => h)) tS42 (flk rfl) (lb rfl)) <| nL <| Tr.fixNil (k := 106) rfl (fun h => h) <| tRt ?_
    have e : gEnd l seen p g = gNode l 12 0 0 nName seen p.Yield [] (gPick l 6 g).2 := by
      unfold gEnd
      simp only []
      rw [if_pos (hk)]
    rw [e]
    refine rCk (.inl rfl) (fun _ _ ho => lBP ho rfl rfl uT42 rfl tS42 (lb rfl) rfl trivial) rfl (po3 rfl rfl rfl)
   have nk : ¬ (p.If = true ∧ (gPick l 6 g).1 < 4) := by
     (simp at hc10; omega)
   refine tQ <| tG <| sm 3 rfl ?_
   refine wS 26 rfl (fun hb26 => ?_) fun hb26 => ?_
   ·refine sm 1 rfl <| yV rfl rfl (oB rfl rfl hrem) <| sm 3 rfl <| nL ?_
    refine tC rfl (fun hc23 => ?_) fun hc23 => ?_
    ·have hl : p.Loop = true ∧ (gPick l 6 g).1 % 2 = 0 := ⟨hb26, by simp at hc23; omega⟩
     refine tQ <| tG <| sm 4 rfl ?_
     refine cE rfl (ocr (sc_gEach l seen p.Next (gPick l 6 g).2 hs (by simp only [gPick, List.length_cons, List.length_nil]; omega) hsl) ent52 rfl (po3 rfl rfl rfl) rfl (fun k (h : _) => .inr h) rfl rfl) ?_
     refine cV rfl (bPu rfl rfl tZ42 tP42 rfl (fbk rfl) rfl) <| c0 (sBA rfl rfl rfl rfl rfl ((fun h => h)) tS42 (flk rfl) (lb rfl)) <| nL <| Tr.fixNil (k := 106) rfl (fun h => h) <| tRt ?_
     have e : gEnd l seen p g = gNode l 13 0 0 nName seen p.Next [] (gPick l 6 g).2 := by
       unfold gEnd
       simp only []
       rw [if_neg (nk)]; rw [if_pos (hl)]
     rw [e]
     refine rCk (.inl rfl) (fun _ _ ho => lBP ho rfl rfl uT42 rfl tS42 (lb rfl) rfl trivial) rfl (po3 rfl rfl rfl)
    have nl : ¬ (p.Loop = true ∧ (gPick l 6 g).1 % 2 = 0) := by
      (simp at hc23; omega)
    refine tQ <| tG <| sm 3 rfl <| nL ?_
    refine tC rfl (fun hc37 => ?_) fun hc37 => ?_
    ·refine tQ <| tG <| sm 4 rfl ?_
     refine cE rfl (ocr (sc_gEach l seen p.Left (gPick l 6 g).2 hs (by simp only [gPick, List.length_cons, List.length_nil]; omega) hsl) ent52 rfl (po3 rfl rfl rfl) rfl (fun k (h : _) => .inr h) rfl rfl) ?_
     refine cV rfl (bPu rfl rfl tZ42 tP42 rfl (fbk rfl) rfl) <| c0 (sBA rfl rfl rfl rfl rfl ((fun h => h)) tS42 (flk rfl) (lb rfl)) <| nL <| Tr.fixNil (k := 106) rfl (fun h => h) <| tRt ?_
     have e : gEnd l seen p g = gNode l 14 0 0 nName seen p.Left [] (gPick l 6 g).2 := by
       unfold gEnd
       simp only []
       rw [if_neg (nk)]; rw [if_neg (nl)]; rw [if_pos (hc37)]
     rw [e]
     refine rCk (.inl rfl) (fun _ _ ho => lBP ho rfl rfl uT42 rfl tS42 (lb rfl) rfl trivial) rfl (po3 rfl rfl rfl)
    refine tSk <| tQ <| tG <| sm 2 rfl <| cE rfl (bSl rfl rfl uT35 tZ3 tS3 rfl rfl rfl rfl (fbk rfl) rfl) ?_
    refine cE rfl (ocr (sc_gEach l seen [1] (gPick l 6 g).2 hs (by simp only [gPick, List.length_cons, List.length_nil]; omega) hsl) ent52 rfl (po3 rfl rfl rfl) rfl (fun k (h : _) => .inr h) rfl rfl) ?_
    refine cV rfl (bPu rfl rfl tZ42 tP42 rfl (fbk rfl) rfl) <| c0 (sBA rfl rfl rfl rfl rfl ((fun h => h)) tS42 (flk rfl) (lb rfl)) <| nL <| Tr.fixNil (k := 106) rfl (fun h => h) <| tRt ?_
    have e : gEnd l seen p g = gNode l 15 0 0 nName seen [1] [] (gPick l 6 g).2 := by
      unfold gEnd
      simp only []
      rw [if_neg (nk)]; rw [if_neg (nl)]; rw [if_neg (by rw [hc37]; decide)]
    rw [e]
    refine rCk (.inl rfl) (fun _ _ ho => lBP ho rfl rfl uT42 rfl tS42 (lb rfl) rfl trivial) rfl (po3 rfl rfl rfl)
   refine sm 5 rfl <| nL <| Tr.condF rfl ?_
   have nl : ¬ (p.Loop = true ∧ (gPick l 6 g).1 % 2 = 0) := by
     (rw [hb26]; simp; done)
   refine tQ <| tG <| sm 3 rfl <| nL ?_
   refine tC rfl (fun hc37 => ?_) fun hc37 => ?_
   ·refine tQ <| tG <| sm 4 rfl ?_
    refine cE rfl (ocr (sc_gEach l seen p.Left (gPick l 6 g).2 hs (by simp only [gPick, List.length_cons, List.length_nil]; omega) hsl) ent52 rfl (po3 rfl rfl rfl) rfl (fun k (h : _) => .inr h) rfl rfl) ?_
    refine cV rfl (bPu rfl rfl tZ42 tP42 rfl (fbk rfl) rfl) <| c0 (sBA rfl rfl rfl rfl rfl ((fun h => h)) tS42 (flk rfl) (lb rfl)) <| nL <| Tr.fixNil (k := 106) rfl (fun h => h) <| tRt ?_
    have e : gEnd l seen p g = gNode l 14 0 0 nName seen p.Left [] (gPick l 6 g).2 := by
      unfold gEnd
      simp only []
      rw [if_neg (nk)]; rw [if_neg (nl)]; rw [if_pos (hc37)]
    rw [e]
    refine rCk (.inl rfl) (fun _ _ ho => lBP ho rfl rfl uT42 rfl tS42 (lb rfl) rfl trivial) rfl (po3 rfl rfl rfl)
   refine tSk <| tQ <| tG <| sm 2 rfl <| cE rfl (bSl rfl rfl uT35 tZ3 tS3 rfl rfl rfl rfl (fbk rfl) rfl) ?_
   refine cE rfl (ocr (sc_gEach l seen [1] (gPick l 6 g).2 hs (by simp only [gPick, List.length_cons, List.length_nil]; omega) hsl) ent52 rfl (po3 rfl rfl rfl) rfl (fun k (h : _) => .inr h) rfl rfl) ?_
   refine cV rfl (bPu rfl rfl tZ42 tP42 rfl (fbk rfl) rfl) <| c0 (sBA rfl rfl rfl rfl rfl ((fun h => h)) tS42 (flk rfl) (lb rfl)) <| nL <| Tr.fixNil (k := 106) rfl (fun h => h) <| tRt ?_
   have e : gEnd l seen p g = gNode l 15 0 0 nName seen [1] [] (gPick l 6 g).2 := by
     unfold gEnd
     simp only []
     rw [if_neg (nk)]; rw [if_neg (nl)]; rw [if_neg (by rw [hc37]; decide)]
   rw [e]
   refine rCk (.inl rfl) (fun _ _ ho => lBP ho rfl rfl uT42 rfl tS42 (lb rfl) rfl trivial) rfl (po3 rfl rfl rfl)
  refine sm 4 rfl <| nL <| Tr.condF rfl ?_
  have nk : ¬ (p.If = true ∧ (gPick l 6 g).1 < 4) := by
    (rw [hb13]; simp; done)
  refine tQ <| tG <| sm 3 rfl ?_
  refine wS 26 rfl (fun hb26 => ?_) fun hb26 => ?_
  ·refine sm 1 rfl <| yV rfl rfl (oB rfl rfl hrem) <| sm 3 rfl <| nL ?_
   refine tC rfl (fun hc23 => ?_) fun hc23 => ?_
   ·have hl : p.Loop = true ∧ (gPick l 6 g).1 % 2 = 0 := ⟨hb26, by simp at hc23; omega⟩
    refine tQ <| tG <| sm 4 rfl ?_
    refine cE rfl (ocr (sc_gEach l seen p.Next (gPick l 6 g).2 hs (by simp only [gPick, List.length_cons, List.length_nil]; omega) hsl) ent52 rfl (po3 rfl rfl rfl) rfl (fun k (h : _) => .inr h) rfl rfl) ?_
    refine cV rfl (bPu rfl rfl tZ42 tP42 rfl (fbk rfl) rfl) <| c0 (sBA rfl rfl rfl rfl rfl ((fun h => h)) tS42 (flk rfl) (lb rfl)) <| nL <| Tr.fixNil (k := 106) rfl (fun h => h) <| tRt ?_
    have e : gEnd l seen p g = gNode l 13 0 0 nName seen p.Next [] (gPick l 6 g).2 := by
      unfold gEnd
      simp only []
      rw [if_neg (nk)]; rw [if_pos (hl)]
    rw [e]
    refine rCk (.inl rfl) (fun _ _ ho => lBP ho rfl rfl uT42 rfl tS42 (lb rfl) rfl trivial) rfl (po3 rfl rfl rfl)
   have nl : ¬ (p.Loop = true ∧ (gPick l 6 g).1 % 2 = 0) := by
     (simp at hc23; omega)
   refine tQ <| tG <| sm 3 rfl <| nL ?_
   refine tC rfl (fun hc37 => ?_) fun hc37 => ?_
   ·refine tQ <| tG <| sm 4 rfl ?_
    refine cE rfl (ocr (sc_gEach l seen p.Left (gPick l 6 g).2 hs (by simp only [gPick, List.length_cons, List.length_nil]; omega) hsl) ent52 rfl (po3 rfl rfl rfl) rfl (fun k (h : _) => .inr h) rfl rfl) ?_
    refine cV rfl (bPu rfl rfl tZ42 tP42 rfl (fbk rfl) rfl) <| c0 (sBA rfl rfl rfl rfl rfl ((fun h => h)) tS42 (flk rfl) (lb rfl)) <| nL <| Tr.fixNil (k := 106) rfl (fun h => h) <| tRt ?_
    have e : gEnd l seen p g = gNode l 14 0 0 nName seen p.Left [] (gPick l 6 g).2 := by
      unfold gEnd
      simp only []
      rw [if_neg (nk)]; rw [if_neg (nl)]; rw [if_pos (hc37)]
    rw [e]
    refine rCk (.inl rfl) (fun _ _ ho => lBP ho rfl rfl uT42 rfl tS42 (lb rfl) rfl trivial) rfl (po3 rfl rfl rfl)
   refine tSk <| tQ <| tG <| sm 2 rfl <| cE rfl (bSl rfl rfl uT35 tZ3 tS3 rfl rfl rfl rfl (fbk rfl) rfl) ?_
   refine cE rfl (ocr (sc_gEach l seen [1] (gPick l 6 g).2 hs (by simp only [gPick, List.length_cons, List.length_nil]; omega) hsl) ent52 rfl (po3 rfl rfl rfl) rfl (fun k (h : _) => .inr h) rfl rfl) ?_
   refine cV rfl (bPu rfl rfl tZ42 tP42 rfl (fbk rfl) rfl) <| c0 (sBA rfl rfl rfl rfl rfl ((fun h => h)) tS42 (flk rfl) (lb rfl)) <| nL <| Tr.fixNil (k := 106) rfl (fun h => h) <| tRt ?_
   have e : gEnd l seen p g = gNode l 15 0 0 nName seen [1] [] (gPick l 6 g).2 := by
     unfold gEnd
     simp only []
     rw [if_neg (nk)]; rw [if_neg (nl)]; rw [if_neg (by rw [hc37]; decide)]
   rw [e]
   refine rCk (.inl rfl) (fun _ _ ho => lBP ho rfl rfl uT42 rfl tS42 (lb rfl) rfl trivial) rfl (po3 rfl rfl rfl)
  refine sm 5 rfl <| nL <| Tr.condF rfl ?_
  have nl : ¬ (p.Loop = true ∧ (gPick l 6 g).1 % 2 = 0) := by
    (rw [hb26]; simp; done)
  refine tQ <| tG <| sm 3 rfl <| nL ?_
  refine tC rfl (fun hc37 => ?_) fun hc37 => ?_
  ·refine tQ <| tG <| sm 4 rfl ?_
   refine cE rfl (ocr (sc_gEach l seen p.Left (gPick l 6 g).2 hs (by simp only [gPick, List.length_cons, List.length_nil]; omega) hsl) ent52 rfl (po3 rfl rfl rfl) rfl (fun k (h : _) => .inr h) rfl rfl) ?_
   refine cV rfl (bPu rfl rfl tZ42 tP42 rfl (fbk rfl) rfl) <| c0 (sBA rfl rfl rfl rfl rfl ((fun h => h)) tS42 (flk rfl) (lb rfl)) <| nL <| Tr.fixNil (k := 106) rfl (fun h => h) <| tRt ?_
   have e : gEnd l seen p g = gNode l 14 0 0 nName seen p.Left [] (gPick l 6 g).2 := by
     unfold gEnd
     simp only []
     rw [if_neg (nk)]; rw [if_neg (nl)]; rw [if_pos (hc37)]
   rw [e]
   refine rCk (.inl rfl) (fun _ _ ho => lBP ho rfl rfl uT42 rfl tS42 (lb rfl) rfl trivial) rfl (po3 rfl rfl rfl)
  refine tSk <| tQ <| tG <| sm 2 rfl <| cE rfl (bSl rfl rfl uT35 tZ3 tS3 rfl rfl rfl rfl (fbk rfl) rfl) ?_
  refine cE rfl (ocr (sc_gEach l seen [1] (gPick l 6 g).2 hs (by simp only [gPick, List.length_cons, List.length_nil]; omega) hsl) ent52 rfl (po3 rfl rfl rfl) rfl (fun k (h : _) => .inr h) rfl rfl) ?_
  refine cV rfl (bPu rfl rfl tZ42 tP42 rfl (fbk rfl) rfl) <| c0 (sBA rfl rfl rfl rfl rfl ((fun h => h)) tS42 (flk rfl) (lb rfl)) <| nL <| Tr.fixNil (k := 106) rfl (fun h => h) <| tRt ?_
  have e : gEnd l seen p g = gNode l 15 0 0 nName seen [1] [] (gPick l 6 g).2 := by
    unfold gEnd
    simp only []
    rw [if_neg (nk)]; rw [if_neg (nl)]; rw [if_neg (by rw [hc37]; decide)]
  rw [e]
  refine rCk (.inl rfl) (fun _ _ ho => lBP ho rfl rfl uT42 rfl tS42 (lb rfl) rfl trivial) rfl (po3 rfl rfl rfl)
section
structure Bd (a b : Nat) (g g' : Gn) : Prop where
  lf : g'.left ≤ g.left
  ps : g'.pos + 60 * g'.left ≤ g.pos + 60 * g.left + a
  t1 : g.types.length ≤ g'.types.length
  t2 : g'.types.length + 10 * g'.left ≤ g.types.length + 10 * g.left + b
theorem Bd.trans {a b a' b' : Nat} {g g' g'' : Gn} (h : Bd a b g g') (h' : Bd a' b' g' g'') : Bd (a + a') (b + b') g g'' :=
  ⟨by have := h.lf; have := h'.lf; omega, by have := h.ps; have := h'.ps; omega, by have := h.t1; have := h'.t1; omega, by have := h.t2; have := h'.t2; omega⟩
theorem Bd.mono {a b a' b' : Nat} {g g' : Gn} (h : Bd a b g g') (ha : a ≤ a') (hb : b ≤ b') : Bd a' b' g g' :=
  ⟨h.lf, by have := h.ps; omega, h.t1, by have := h.t2; omega⟩
section
variable (l : List UInt8)
theorem bd_pick (n : Nat) (g : Gn) : Bd 1 0 g (gPick l n g).2 := ⟨Nat.le_refl _, by simp only [gPick]; omega, Nat.le_refl _, Nat.le_refl _⟩
theorem bd_each (seen ts : List Int) (g : Gn) : Bd ts.length 0 g (gEach l seen ts g).2 := by
  rw [(gEach_st l seen ts g).1]
  exact ⟨Nat.le_refl _, by simp only []; omega, Nat.le_refl _, Nat.le_refl _⟩
theorem bd_outs (ts : List Int) (g : Gn) : Bd 0 ts.length g (gOuts ts g).2 := by
  rw [(gOuts_st ts g).1]
  exact ⟨Nat.le_refl _, Nat.le_refl _, by simp, by simp only [List.length_append]; omega⟩
theorem bd_types (g : Gn) : Bd 3 0 g (gTypes l g).2 ∧ (gTypes l g).1.length ≤ 2 := by
  have h3 : (gPick l 3 g).1 < 3 := gPick_lt (by omega)
  obtain ⟨h1, h2⟩ := gTypes_st l g
  refine ⟨?_, by omega⟩
  rw [h1]
  exact ⟨Nat.le_refl _, by simp only []; omega, Nat.le_refl _, Nat.le_refl _⟩
theorem bd_node (kind op n : Int) (name : ByteArray) (seen ins outs : List Int) (g : Gn) : Bd ins.length outs.length g (gNode l kind op n name seen ins outs g).2 := by
  have := (bd_each l seen ins g).trans (bd_outs outs (gEach l seen ins g).2)
  simpa [gNode] using this
theorem bd_simple (seen : List Int) (g : Gn) : Bd 4 1 g (gSimple l seen g).2 := by
  unfold gSimple
  have h0 := bd_pick l 12 g
  have P := fun n => bd_pick l n (gPick l 12 g).2
  have N := fun kind op n name ins outs g' => bd_node l kind op n name seen ins outs g'
  simp only
  split
  ·exact ((h0.trans (P 6)).trans (N _ _ _ _ [] [1] _)).mono (by simp) (by simp)
  split
  ·exact ((h0.trans (P 2)).trans (N _ _ _ _ [] [2] _)).mono (by simp) (by simp)
  split
  ·exact ((h0.trans (P 4)).trans (N _ _ _ _ [1] [1] _)).mono (by simp) (by simp)
  split
  ·exact (h0.trans (N _ _ _ _ [2] [2] _)).mono (by simp) (by simp)
  split
  ·exact ((h0.trans (P 11)).trans (N _ _ _ _ [1, 1] [1] _)).mono (by simp) (by simp)
  split
  ·exact ((h0.trans (P 6)).trans (N _ _ _ _ [1, 1] [2] _)).mono (by simp) (by simp)
  split
  ·exact (h0.trans (N _ _ _ _ [1] [1] _)).mono (by simp) (by simp)
  split
  ·exact (h0.trans (N _ _ _ _ [1, 1] [] _)).mono (by simp) (by simp)
  split
  ·exact ((h0.trans (P 4)).trans (N _ _ _ _ [1, 2] [1] _)).mono (by simp) (by simp)
  split
  ·exact ((h0.trans (P 4)).trans (N _ _ _ _ [] [1] _)).mono (by simp) (by simp)
  exact ((h0.trans (P 4)).trans (N _ _ _ _ [1] [] _)).mono (by simp) (by simp)
def Plc.small (p : Plc) : Prop := p.Yield.length ≤ 2 ∧ p.Next.length ≤ 2 ∧ p.Left.length ≤ 2
theorem bd_end (seen : List Int) (p : Plc) (hp : p.small) (g : Gn) : Bd 3 0 g (gEnd l seen p g).2 := by
  obtain ⟨h1, h2, h3⟩ := hp
  unfold gEnd
  have h0 := bd_pick l 6 g
  have N := fun kind op n name ins outs g' => bd_node l kind op n name seen ins outs g'
  simp only
  split
  ·exact (h0.trans (N _ _ _ _ p.Yield [] _)).mono (by omega) (by simp)
  split
  ·exact (h0.trans (N _ _ _ _ p.Next [] _)).mono (by omega) (by simp)
  split
  ·exact (h0.trans (N _ _ _ _ p.Left [] _)).mono (by omega) (by simp)
  exact (h0.trans (N _ _ _ _ [1] [] _)).mono (by simp) (by simp)
def RecBd (rec : GRec) : Prop := ∀ seen p g, p.small → Bd 4 0 g (rec seen p g).2
theorem bd_shut (x : List Int → Nd) (t : List Int) (ht : t.length ≤ 2) (g : Gn) : Bd 0 2 g (gShut x t g).2 := by
  unfold gShut
  split
  ·exact ⟨Nat.le_refl _, Nat.le_refl _, Nat.le_refl _, by show g.types.length + 10 * g.left ≤ g.types.length + 10 * g.left + 2; omega⟩
  exact (bd_outs t g).mono (Nat.le_refl _) ht
theorem bd_if {rec : GRec} (hr : RecBd rec) (all : List Int) (p : Plc) (hp : p.small) (g : Gn) : Bd 12 2 g (gIf l rec all p g).2 := by
  unfold gIf
  simp only
  obtain ⟨h1, h2⟩ := bd_types l g
  have h3 := h1.trans (bd_each l all [2] (gTypes l g).2)
  have hsm : Plc.small ⟨true, p.Loop, (gTypes l g).1, p.Next, p.Left⟩ := ⟨h2, hp.2.1, hp.2.2⟩
  have h4 := h3.trans (hr all ⟨true, p.Loop, (gTypes l g).1, p.Next, p.Left⟩ _ hsm)
  have h5 := h4.trans (hr all ⟨true, p.Loop, (gTypes l g).1, p.Next, p.Left⟩ _ hsm)
  exact (h5.trans (bd_shut _ _ h2 _)).mono (by simp) (by simp)
theorem bd_loop {rec : GRec} (hr : RecBd rec) (all : List Int) (g : Gn) : Bd 12 4 g (gLoop l rec all g).2 := by
  unfold gLoop
  simp only
  obtain ⟨h1, h2⟩ := bd_types l g
  obtain ⟨h3, h4⟩ := bd_types l (gTypes l g).2
  have h5 := (h1.trans h3).trans ((bd_each l all (gTypes l g).1 (gTypes l (gTypes l g).2).2).mono h2 (Nat.le_refl 0))
  have h6 := h5.trans ((bd_outs (gTypes l g).1 (gEach l all (gTypes l g).1 (gTypes l (gTypes l g).2).2).2).mono (Nat.le_refl 0) h2)
  have h7 := h6.trans (hr (all ++ (gOuts (gTypes l g).1 (gEach l all (gTypes l g).1 (gTypes l (gTypes l g).2).2).2).1) ⟨false, true, [], (gTypes l g).1, (gTypes l (gTypes l g).2).1⟩ _ ⟨by simp, h2, h4⟩)
  exact (h7.trans (bd_shut _ _ h4 _)).mono (by omega) (by omega)
theorem bd_any {rec : Option GRec} (hr : ∀ r, rec = some r → RecBd r) (all : List Int) (p : Plc) (hp : p.small) (g : Gn) (hg : 0 < g.left) : Bd 0 0 g (gAny l rec all p g).2 := by
  have h0 : ({ g with left := g.left - 1 } : Gn).left + 1 = g.left := by show g.left - 1 + 1 = g.left; omega
  have key : ∀ g', Bd 17 5 { g with left := g.left - 1 } g' → Bd 0 0 g g' := fun g' h =>
    ⟨by have := h.lf; omega, by have := h.ps; have e : ({ g with left := g.left - 1 } : Gn).pos = g.pos := rfl; omega, h.t1, by have := h.t2; have e : ({ g with left := g.left - 1 } : Gn).types = g.types := rfl; rw [e] at this; omega⟩
  have hs := (bd_simple l all { g with left := g.left - 1 }).trans (bd_pick l 6 _)
  unfold gAny
  simp only
  cases rec with
  | none => exact key _ (hs.mono (by omega) (by omega))
  | some r =>
    simp only
    split
    ·exact key _ ((hs.trans (bd_if l (hr r rfl) all p hp _)).mono (by omega) (by omega))
    split
    ·exact key _ ((hs.trans (bd_loop l (hr r rfl) all _)).mono (by omega) (by omega))
    exact key _ (hs.mono (by omega) (by omega))
theorem bd_nodes {rec : Option GRec} (hr : ∀ r, rec = some r → RecBd r) (p : Plc) (hp : p.small) : ∀ (i : Nat) (out : List Nd) (all : List Int) (g : Gn), Bd 3 0 g (gNodes l rec p i out all g).2
  | 0, out, all, g => bd_end l all p hp g
  | i + 1, out, all, g => by
    unfold gNodes
    split
    ·exact bd_end l all p hp g
    rename_i hl
    have h1 := bd_any l hr all p hp g (by omega)
    simp only
    split
    ·exact h1.mono (by omega) (by omega)
    exact (h1.trans (bd_nodes hr p hp i _ _ _)).mono (by omega) (by omega)
theorem bd_list : ∀ d : Nat, RecBd (gList l d)
  | 0 => fun seen p g hp => ((bd_pick l 6 g).trans (bd_nodes l (rec := none) (fun r h => by cases h) p hp _ _ _ _)).mono (by omega) (by omega)
  | d + 1 => fun seen p g hp => ((bd_pick l 6 g).trans (bd_nodes l (rec := some (gList l d)) (fun r h => by cases h; exact bd_list d) p hp _ _ _ _)).mono (by omega) (by omega)
def gRec : Nat → Option GRec
  | 0 => none
  | d + 1 => some (gList l d)
theorem gRec_bd (d : Nat) : ∀ r, gRec l d = some r → RecBd r := by
  intro r h
  cases d with
  | zero => cases h
  | succ d => cases h; exact bd_list l d
theorem gList_eq (d : Nat) (seen : List Int) (p : Plc) (g : Gn) : gList l d seen p g = gNodes l (gRec l d) p (gPick l 6 g).1 [] seen (gPick l 6 g).2 := by cases d <;> rfl
end
theorem InR.mono {tys tys' seen : List Int} (h : InR tys seen) (hl : tys.length ≤ tys'.length) : InR tys' seen := fun s hs => ⟨(h s hs).1, Nat.lt_of_lt_of_le (h s hs).2 hl⟩
theorem InR.app {tys a b : List Int} (h : InR tys a) (h' : InR tys b) : InR tys (a ++ b) := fun s hs => (List.mem_append.1 hs).elim (h s) (h' s)
theorem InR.outs (ts : List Int) (g : Gn) : InR (gOuts ts g).2.types (gOuts ts g).1 := by
  intro s hs
  have := gOuts_in ts g s hs
  rw [(gOuts_st ts g).1]
  simp only [List.length_append]
  omega
section
variable (l : List UInt8)
theorem node_outs (kind op n : Int) (name : ByteArray) (seen ins outs : List Int) (g : Gn) : InR (gNode l kind op n name seen ins outs g).2.types (gNode l kind op n name seen ins outs g).1.outs ∧ (gNode l kind op n name seen ins outs g).1.outs.length = outs.length :=
  ⟨InR.outs outs _, (gOuts_st outs _).2⟩
theorem simple_outs (seen : List Int) (g : Gn) : InR (gSimple l seen g).2.types (gSimple l seen g).1.outs ∧ (gSimple l seen g).1.outs.length ≤ 1 := by
  have N := fun kind op n name ins outs g' => node_outs l kind op n name seen ins outs g'
  have fin : ∀ {x : Nd × Gn} {k : Nat}, InR x.2.types x.1.outs ∧ x.1.outs.length = k → k ≤ 1 → InR x.2.types x.1.outs ∧ x.1.outs.length ≤ 1 := fun h hk => ⟨h.1, by omega⟩
  unfold gSimple
  simp only
  split
  ·exact fin (N _ _ _ _ _ [1] _) (by simp)
  split
  ·exact fin (N _ _ _ _ _ [2] _) (by simp)
  split
  ·exact fin (N _ _ _ _ _ [1] _) (by simp)
  split
  ·exact fin (N _ _ _ _ _ [2] _) (by simp)
  split
  ·exact fin (N _ _ _ _ _ [1] _) (by simp)
  split
  ·exact fin (N _ _ _ _ _ [2] _) (by simp)
  split
  ·exact fin (N _ _ _ _ _ [1] _) (by simp)
  split
  ·exact fin (N _ _ _ _ _ [] _) (by simp)
  split
  ·exact fin (N _ _ _ _ _ [1] _) (by simp)
  split
  ·exact fin (N _ _ _ _ _ [1] _) (by simp)
  exact fin (N _ _ _ _ _ [] _) (by simp)
theorem shut_outs (x : List Int → Nd) (hx : ∀ o, (x o).outs = o) (t : List Int) (ht : t.length ≤ 2) (g : Gn) : InR (gShut x t g).2.types (gShut x t g).1.outs ∧ (gShut x t g).1.outs.length ≤ 2 := by
  unfold gShut
  split
  ·rw [hx]; exact ⟨fun s hs => by simp at hs, by simp⟩
  rw [hx]; exact ⟨InR.outs t g, by rw [(gOuts_st t g).2]; exact ht⟩
theorem any_outs {rec : Option GRec} (all : List Int) (p : Plc) (g : Gn) : InR (gAny l rec all p g).2.types (gAny l rec all p g).1.outs ∧ (gAny l rec all p g).1.outs.length ≤ 2 := by
  have hs := simple_outs l all { g with left := g.left - 1 }
  unfold gAny
  simp only
  cases rec with
  | none => exact ⟨hs.1, Nat.le_trans hs.2 (by decide)⟩
  | some r =>
    simp only
    split
    ·unfold gIf; exact shut_outs _ (fun _ => rfl) _ (bd_types l _).2 _
    split
    ·unfold gLoop; exact shut_outs _ (fun _ => rfl) _ (bd_types l _).2 _
    exact ⟨hs.1, Nat.le_trans hs.2 (by decide)⟩
end
theorem any_left (l : List UInt8) {rec : Option GRec} (hr : ∀ r, rec = some r → RecBd r) (all : List Int) (p : Plc) (hp : p.small) (g : Gn) (hg : 0 < g.left) : (gAny l rec all p g).2.left + 1 ≤ g.left := by
  have h0 : ({ g with left := g.left - 1 } : Gn).left + 1 = g.left := by show g.left - 1 + 1 = g.left; omega
  have hs := (bd_simple l all { g with left := g.left - 1 }).trans (bd_pick l 6 _)
  have fin : ∀ {a b : Nat} {g' : Gn}, Bd a b { g with left := g.left - 1 } g' → g'.left + 1 ≤ g.left := fun h => by have := h.lf; omega
  unfold gAny
  simp only
  cases rec with
  | none => exact fin hs
  | some r =>
    simp only
    split
    ·exact fin (hs.trans (bd_if l (hr r rfl) all p hp _))
    split
    ·exact fin (hs.trans (bd_loop l (hr r rfl) all _))
    exact fin hs
theorem gNodes_len (l : List UInt8) (rec : Option GRec) (p : Plc) : ∀ (i : Nat) (out : List Nd) (all : List Int) (g : Gn), (gNodes l rec p i out all g).1.length ≤ out.length + i + 1
  | 0, out, all, g => by simp [gNodes]
  | i + 1, out, all, g => by
    unfold gNodes
    split
    ·simp
    simp only
    split
    ·simp
    have := gNodes_len l rec p i (out ++ [(gAny l rec all p g).1]) (all ++ (gAny l rec all p g).1.outs) (gAny l rec all p g).2
    simp only [List.length_append, List.length_cons, List.length_nil] at this
    omega
theorem gList_len (l : List UInt8) (d : Nat) (seen : List Int) (p : Plc) (g : Gn) : (gList l d seen p g).1.length ≤ 6 := by
  rw [gList_eq]
  have h6 : (gPick l 6 g).1 < 6 := gPick_lt (by omega)
  have := gNodes_len l (gRec l d) p (gPick l 6 g).1 [] seen (gPick l 6 g).2
  simp only [List.length_nil] at this
  omega
theorem gFlow_pos (l : List UInt8) (name : ByteArray) (params : List Int) (g : Gn) (hp : params.length ≤ 10) (hg : g.pos ≤ 100) : (gFlow l name params g).2.pos ≤ 2000 := by
  have hS := (gOuts_st params { g with types := [], left := 30 }).1
  have hb := (bd_list l 3 ((gOuts params { g with types := [], left := 30 }).1 ++ [(gFresh 1 (gOuts params { g with types := [], left := 30 }).2).1, (gFresh 2 (gFresh 1 (gOuts params { g with types := [], left := 30 }).2).2).1]) plc0 (gFresh 2 (gFresh 1 (gOuts params { g with types := [], left := 30 }).2).2).2 ⟨by simp [plc0], by simp [plc0], by simp [plc0]⟩).ps
  have h1 : (gFresh 2 (gFresh 1 (gOuts params { g with types := [], left := 30 }).2).2).2.pos = g.pos := by rw [hS]; rfl
  have h2 : (gFresh 2 (gFresh 1 (gOuts params { g with types := [], left := 30 }).2).2).2.left = 30 := by rw [hS]; rfl
  rw [h1, h2] at hb
  show (gList l 3 _ plc0 _).2.pos ≤ 2000
  omega
end
def idxP {α : Type} (p : α → Bool) : List α → Int → Int
  | [], _ => -1
  | x :: r, i => if p x then i else idxP p r (i + 1)
theorem idxP_any {α : Type} (p : α → Bool) : ∀ (l : List α) (i : Int), 0 ≤ i → decide (idxP p l i ≥ 0) = l.any p
  | [], _, _ => rfl
  | x :: r, i, hi => by
    unfold idxP
    cases hx : p x with
    | true => simp [hx, hi]
    | false => simp [hx, idxP_any p r (i + 1) (by omega)]
def eqGo {S : Type} (p : S → Int → Int → Bool × S) : S → List Int → List Int → Bool × S
  | s, x :: a, y :: b => if (p s x y).1 then eqGo p (p s x y).2 a b else (false, (p s x y).2)
  | s, _, _ => (true, s)
def eqf {S : Type} (p : S → Int → Int → Bool × S) (s : S) (a b : List Int) : Bool × S := if (a.length : Int) = b.length then eqGo p s a b else (false, s)
theorem r8Leaves_any : ∀ l : List Nd, r8Leaves l = l.any r8LeavesN
  | [] => rfl
  | x :: r => by simp [r8Leaves, r8Leaves_any r]
theorem r8LeavesK_any : ∀ l : List (List Nd), r8LeavesK l = l.any r8Leaves
  | [] => rfl
  | x :: r => by simp [r8LeavesK, r8LeavesK_any r]
def shYields (l : List Nd) : Bool := match l.getLast? with
  | some x => x.kind == 12
  | none => false
theorem shYields_eq (l : List Nd) : (r8last l != 12) = !shYields l := by
  unfold r8last shYields
  cases l.getLast? with
  | none => rfl
  | some x =>
    simp only [r8Ender]
    by_cases h : x.kind = 12
    ·simp [h]
    have hb : (x.kind == 12) = false := by simpa using h
    by_cases h2 : (decide (x.kind ≥ 12) && decide (x.kind ≤ 15)) = true
    ·simp only [h2, if_true, bne, hb]
    simp [h2, h]
theorem idxP_place (name : ByteArray) : ∀ (l : List Fl) (i : Int), idxP (fun f : Fl => f.name.toList == name.toList) l i = r8Place name l i
  | [], _ => rfl
  | f :: r, i => by
    unfold idxP r8Place eqS
    rw [idxP_place name r]
theorem r8Array_any (name : ByteArray) : ∀ (l : List Ar) (i : Int), 0 ≤ i → decide (r8Array name l i ≥ 0) = l.any (fun a : Ar => a.name.toList == name.toList)
  | [], _, _ => rfl
  | f :: r, i, hi => by
    have ih := r8Array_any name r (i + 1) (by omega)
    rw [List.any_cons, ← ih]
    rw [show r8Array name (f :: r) i = if (f.name.toList == name.toList) = true then i else r8Array name r (i + 1) from rfl]
    by_cases h : (f.name.toList == name.toList) = true
    ·rw [if_pos h, h]; simp [hi]
    rw [if_neg h, (by simpa using h : (f.name.toList == name.toList) = false)]; simp
def isTy (t : Int) : Bool := t == 1 || t == 2
def shOperand (op : Int) : Int × Int :=
  if op == 22 then (2, 2) else if op == 16 || op == 17 then (0, 2) else if decide (op ≥ 12) && decide (op ≤ 15) then (1, 2) else (1, 1)
def wSigns : List ByteArray := [⟨#[]⟩, ⟨#[43]⟩, ⟨#[45]⟩, ⟨#[42]⟩, ⟨#[47]⟩, ⟨#[37]⟩, ⟨#[38]⟩, ⟨#[124]⟩, ⟨#[94]⟩, ⟨#[60, 60]⟩, ⟨#[62, 62]⟩, ⟨#[62, 62, 62]⟩, ⟨#[60]⟩, ⟨#[60, 61]⟩, ⟨#[62]⟩, ⟨#[62, 61]⟩, ⟨#[61, 61]⟩, ⟨#[33, 61]⟩, ⟨#[38, 38]⟩, ⟨#[124, 124]⟩, ⟨#[45]⟩, ⟨#[126]⟩, ⟨#[33]⟩, ⟨#[105, 56]⟩, ⟨#[105, 49, 54]⟩, ⟨#[105, 51, 50]⟩, ⟨#[117, 56]⟩, ⟨#[117, 49, 54]⟩, ⟨#[117, 51, 50]⟩]
def wSign (op : Int) : ByteArray := if op < 0 || op ≥ 29 then ⟨#[]⟩ else wSigns.getD op.toNat ⟨#[]⟩
def levelTab : List Int := [0, 9, 9, 10, 10, 10, 5, 3, 4, 8, 8, 8, 7, 7, 7, 7, 6, 6, 2, 1, 0, 0, 0, 0, 0, 0, 0, 0, 0]
def wLevel (op : Int) : Int := if op < 0 || op ≥ 29 then 0 else levelTab.getD op.toNat 0
theorem below29 {op : Int} (h0 : 0 ≤ op) (h1 : op < 29) : op = 0 ∨ op = 1 ∨ op = 2 ∨ op = 3 ∨ op = 4 ∨ op = 5 ∨ op = 6 ∨ op = 7 ∨ op = 8 ∨ op = 9 ∨ op = 10 ∨ op = 11 ∨ op = 12 ∨ op = 13 ∨ op = 14 ∨ op = 15 ∨ op = 16 ∨ op = 17 ∨ op = 18 ∨ op = 19 ∨ op = 20 ∨ op = 21 ∨ op = 22 ∨ op = 23 ∨ op = 24 ∨ op = 25 ∨ op = 26 ∨ op = 27 ∨ op = 28 := by omega
def ckS (u : Un) (f : Fl) (it : TypeId) (st : List Int) : List (Nat × HO) := [(3, .box (ckBox u f (st.map eInt).length)), (4, .row ⟨it, 1⟩ (st.map eInt))]
def shVal (tys : List Int) (v t : Int) : Bool := decide (0 ≤ v) && decide (v < tys.length) && (t == 0 || tys.getD v.toNat 0 == t)
def shUse (tys : List Int) (st : List Int) (v t : Int) : Bool × List Int := (shVal tys v t && st.getD v.toNat 0 == 1, st)
def shSet1 (tys : List Int) (st : List Int) (v t : Int) : Bool × List Int := if shVal tys v t && st.getD v.toNat 0 == 0 then (true, st.set v.toNat 1) else (false, st)
def shUses (tys st l want : List Int) : Bool := (eqf (shUse tys) st l want).1
def shSets (tys st l want : List Int) : Bool × List Int := eqf (shSet1 tys) st l want
def shHide (st l : List Int) : List Int := l.foldl (fun s v => s.set v.toNat 2) st
theorem shUse_snd (tys : List Int) : ∀ (a b st : List Int), (eqGo (shUse tys) st a b).2 = st
  | [], _, st => by simp [eqGo]
  | _ :: _, [], st => by simp [eqGo]
  | x :: a, y :: b, st => by
    simp only [eqGo]
    split
    ·exact shUse_snd tys a b st
    rfl
theorem shUses_snd (tys st a b : List Int) : (eqf (shUse tys) st a b).2 = st := by
  unfold eqf
  split
  ·exact shUse_snd tys a b st
  rfl
theorem shSet1_length (tys st : List Int) (v t : Int) : (shSet1 tys st v t).2.length = st.length := by
  unfold shSet1; split <;> simp
theorem shSetGo_length (tys : List Int) : ∀ (a b st : List Int), (eqGo (shSet1 tys) st a b).2.length = st.length
  | [], _, st => by simp [eqGo]
  | _ :: _, [], st => by simp [eqGo]
  | x :: a, y :: b, st => by
    simp only [eqGo]
    split
    ·rw [shSetGo_length tys a b, shSet1_length]
    exact shSet1_length ..
theorem shSets_length (tys st a b : List Int) : (shSets tys st a b).2.length = st.length := by
  unfold shSets eqf
  split
  ·exact shSetGo_length ..
  rfl
theorem shHide_length : ∀ (l st : List Int), (shHide st l).length = st.length
  | [], st => rfl
  | v :: r, st => by
    have := shHide_length r (st.set v.toNat 2)
    simpa [shHide] using this
theorem shSetGo_in (tys : List Int) : ∀ (a b st : List Int), a.length = b.length → (eqGo (shSet1 tys) st a b).1 = true → ∀ v ∈ a, 0 ≤ v ∧ v < tys.length
  | [], _, st, _, _, v, hv => by simp at hv
  | _ :: _, [], _, hl, _, _, _ => by simp at hl
  | x :: a, y :: b, st, hl, h, v, hv => by
    simp only [eqGo] at h
    split at h
    ·rename_i h1
     rcases List.mem_cons.1 hv with rfl | hv
     ·unfold shSet1 at h1
      split at h1
      ·rename_i h2
       simp only [shVal, Bool.and_eq_true, decide_eq_true_eq] at h2
       exact ⟨h2.1.1.1, h2.1.1.2⟩
      cases h1
     exact shSetGo_in tys a b _ (by simpa using hl) h v hv
    cases h
theorem shSets_in {tys st a b : List Int} (h : (shSets tys st a b).1 = true) : ∀ v ∈ a, 0 ≤ v ∧ v < tys.length := by
  unfold shSets eqf at h
  split at h
  ·exact shSetGo_in tys a b st (by omega) h
  cases h
def ckSp (u : Un) (f : Fl) (it : TypeId) (q : Nat) (st : List Int) : List (Nat × HO) := (q, .box [.ptr 3 0]) :: ckS u f it st
theorem ckS_set {u : Un} {f : Fl} {it : TypeId} {st : List Int} {i : Nat} {z : Int} : ∀ k, look ((4, some (.row ⟨it, 1⟩ ((st.map eInt).set i [vInt z]))) :: up (ckS u f it st)) k = look (up (ckS u f it (st.set i z))) k := by
  intro k
  simp only [ckS, up, List.map_cons, List.map_nil, look, List.length_map, List.length_set]
  by_cases h4 : 4 = k
  ·subst h4
   simp [List.map_set, eInt, show Nat.beq 3 4 = false from rfl]
  by_cases h3 : 3 = k
  ·subst h3; simp [show Nat.beq 4 3 = false from rfl]
  simp [beq_ne h3, beq_ne h4]
theorem ckS_lend {u : Un} {f : Fl} {it : TypeId} {st st' : List Int} (h : st'.length = st.length) : ∀ k ob, look (up (ckS u f it st')) k = some ob → plainO ob = true ∨ (k = 3 ∧ look (up (ckS u f it st)) k = some ob) := by
  intro k ob hk
  have hm := look_up_mem hk
  simp only [ckS, List.mem_cons, List.not_mem_nil, or_false, Prod.mk.injEq] at hm
  rcases hm with ⟨rfl, rfl⟩ | ⟨rfl, rfl⟩
  ·exact .inr ⟨rfl, by simp [ckS, up, look, h]⟩
  refine .inl ?_
  simp [plainO, eInt, plainP]
theorem set3 {u : Un} {f : Fl} {st : List Int} {i : Nat} {z : Int} {x : Option HO} (h : x = some (.box (ckBox u f (st.map eInt).length))) : x = some (.box (ckBox u f ((st.set i z).map eInt).length)) := by
  rw [h, show ((st.set i z).map eInt).length = (st.map eInt).length by simp]
theorem set4 {it : TypeId} {st : List Int} {i : Nat} {z : Int} {x : Option HO} (h : x = some (.row ⟨it, 1⟩ ((st.map eInt).set i [vInt z]))) : x = some (.row ⟨it, 1⟩ ((st.set i z).map eInt)) := by
  rw [h, List.map_set]; rfl
def andP {S : Type} (b : Bool) (s : S) (r : Bool × S) : Bool × S := if b then r else (false, s)
def andQ {S : Type} (r : Bool × S) (k : S → Bool × S) : Bool × S := if r.1 then k r.2 else (false, r.2)
theorem shUses_len {tys st a b : List Int} (h : shUses tys st a b = true) : a.length = b.length := by
  unfold shUses eqf at h
  split at h
  · omega
  · cases h
theorem shUses_two {tys st l : List Int} {t : Int} (h : shUses tys st l [t, t] = true) : ∃ a b, l = [a, b] ∧ a = (a.toNat : Int) ∧ a.toNat < tys.length ∧ b = (b.toNat : Int) ∧ b.toNat < tys.length := by
  have hl := shUses_len h
  match l, hl with
  | [a, b], _ =>
    unfold shUses eqf at h
    simp only [List.length_cons, List.length_nil, if_true, eqGo] at h
    split at h
    · rename_i h1
      split at h
      · rename_i h2
        simp only [shUse, shVal, Bool.and_eq_true, decide_eq_true_eq] at h1 h2
        exact ⟨a, b, rfl, by omega, by omega, by omega, by omega⟩
      · cases h
    · cases h
def shSum (f : Fl) (st : List Int) (x : Nd) : Bool × List Int :=
  if x.kind == 3 then andP (r1IsOne x.op && shUses f.types st x.args [(shOperand x.op).1]) st (shSets f.types st x.outs [(shOperand x.op).2])
  else andP (decide (wLevel x.op > 0) && decide (x.op ≤ 17) && shUses f.types st x.args [(shOperand x.op).1, (shOperand x.op).1] && f.types.getD (x.args.getD 0 0).toNat 0 == f.types.getD (x.args.getD 1 0).toNat 0) st (shSets f.types st x.outs [(shOperand x.op).2])
def shEnd (f : Fl) (st : List Int) (x : Nd) (w : Wh) : Bool :=
  if x.kind == 12 then (x.outs.length : Int) == 0 && w.If && shUses f.types st x.args w.Yield
  else if x.kind == 13 then (x.outs.length : Int) == 0 && w.Loop && shUses f.types st x.args w.Next
  else if x.kind == 14 then (x.outs.length : Int) == 0 && w.Loop && shUses f.types st x.args w.Left
  else (x.outs.length : Int) == 0 && shUses f.types st x.args [f.ty]
def shCall (u : Un) (f : Fl) (st : List Int) (x : Nd) : Bool × List Int :=
  if r8Place x.name u.flows 0 < 0 then (false, st) else
    match u.flows[(r8Place x.name u.flows 0).toNat]? with
    | some g => andP (shUses f.types st x.args (g.types.take g.params.toNat)) st (shSets f.types st x.outs [g.ty])
    | none => (false, st)
def shSimple (u : Un) (f : Fl) (st : List Int) (x : Nd) : Bool × List Int :=
  if x.kind == 1 then andP (shUses f.types st x.args []) st (shSets f.types st x.outs [1])
  else if x.kind == 2 then andP ((x.n == 0 || x.n == 1) && shUses f.types st x.args []) st (shSets f.types st x.outs [2])
  else if x.kind == 3 || x.kind == 4 then shSum f st x
  else if x.kind == 5 then andP (decide (r8Array x.name u.arrays 0 ≥ 0) && shUses f.types st x.args [1]) st (shSets f.types st x.outs [1])
  else if x.kind == 6 then andP (decide (r8Array x.name u.arrays 0 ≥ 0) && shUses f.types st x.args [1, 1]) st (shSets f.types st x.outs [])
  else if x.kind == 8 then andP (shUses f.types st x.args []) st (shSets f.types st x.outs [1])
  else if x.kind == 9 then andP (shUses f.types st x.args [1]) st (shSets f.types st x.outs [])
  else if x.kind == 7 then shCall u f st x
  else (false, st)
theorem andP_length {b : Bool} {st : List Int} {r : Bool × List Int} (h : r.2.length = st.length) : (andP b st r).2.length = st.length := by
  unfold andP; split
  · exact h
  · rfl
theorem shSum_length (f : Fl) (st : List Int) (x : Nd) : (shSum f st x).2.length = st.length := by
  unfold shSum; split <;> exact andP_length (shSets_length ..)
theorem shCall_length (u : Un) (f : Fl) (st : List Int) (x : Nd) : (shCall u f st x).2.length = st.length := by
  unfold shCall
  split
  · rfl
  · split
    · exact andP_length (shSets_length ..)
    · rfl
theorem shSimple_length (u : Un) (f : Fl) (st : List Int) (x : Nd) : (shSimple u f st x).2.length = st.length := by
  unfold shSimple
  repeat' split
  all_goals first
    | exact andP_length (shSets_length ..)
    | exact shSum_length ..
    | exact shCall_length ..
    | rfl
def shTail (f : Fl) (x : Nd) (st : List Int) : Bool × List Int := andP ((x.outs.length : Int) == 0 || !r8Closed x) st (shSets f.types st x.outs (List.replicate x.outs.length 0))
def shHideAll (st : List Int) (l : List Nd) : List Int := l.foldl (fun s x => shHide s x.outs) st
def shFin (l : List Nd) (s : List Int) : Bool × List Int := (decide ((l.length : Int) > 0), shHideAll s l)
mutual
def shNode (u : Un) (f : Fl) (deep : Int) (w : Wh) (st : List Int) : Nd → Bool × List Int
  | .mk kind op n name args outs params kids =>
    if !r8bare (.mk kind op n name args outs params kids) then (false, st)
    else if kind == 10 then
      match kids with
      | a :: b :: _ =>
        if shUses f.types st args [2] then
          andQ (andQ (shGo u f (deep + 1) ⟨true, w.Loop, r8of f.types outs, w.Next, w.Left⟩ st a) (shFin a)) fun s1 =>
          andQ (andQ (shGo u f (deep + 1) ⟨true, w.Loop, r8of f.types outs, w.Next, w.Left⟩ s1 b) (shFin b)) fun s2 =>
          shTail f (.mk kind op n name args outs params kids) s2
        else (false, st)
      | _ => (false, st)
    else if kind == 11 then
      if shUses f.types st args (r8of f.types params) then
        andQ (shSets f.types st params (List.replicate params.length 0)) fun s1 =>
        match kids with
        | a :: _ =>
          andQ (andQ (shGo u f (deep + 1) ⟨false, true, [], r8of f.types params, r8of f.types outs⟩ s1 a) (shFin a)) fun s2 =>
          shTail f (.mk kind op n name args outs params kids) (shHide s2 params)
        | _ => (false, s1)
      else (false, st)
    else if r8Ender kind then (shEnd f st (.mk kind op n name args outs params kids) w, st)
    else shSimple u f st (.mk kind op n name args outs params kids)
def shGo (u : Un) (f : Fl) (deep : Int) (w : Wh) (st : List Int) : List Nd → Bool × List Int
  | [] => (true, st)
  | x :: r =>
    if deep > 100 then (false, st)
    else andQ (shNode u f deep w st x) fun s1 =>
      if r8Closed x != r.isEmpty then (false, s1)
      else shGo u f deep w s1 r
end
def shList (u : Un) (f : Fl) (deep : Int) (w : Wh) (st : List Int) (l : List Nd) : Bool × List Int := andQ (shGo u f deep w st l) (shFin l)
theorem andQ_length {r : Bool × List Int} {k : List Int → Bool × List Int} {n : Nat} (h1 : r.2.length = n) (h2 : ∀ s, s.length = n → (k s).2.length = n) : (andQ r k).2.length = n := by
  unfold andQ; split
  ·exact h2 _ h1
  exact h1
theorem shHideAll_length : ∀ (l : List Nd) (st : List Int), (shHideAll st l).length = st.length
  | [], _ => rfl
  | x :: r, st => by
    have := shHideAll_length r (shHide st x.outs)
    rw [shHide_length] at this
    simpa [shHideAll] using this
theorem shTail_length {f : Fl} {x : Nd} {st : List Int} {n : Nat} (h : st.length = n) : (shTail f x st).2.length = n := (andP_length (shSets_length ..)).trans h
theorem shFin_length {l : List Nd} {s : List Int} {n : Nat} (h : s.length = n) : (shFin l s).2.length = n := (shHideAll_length l s).trans h
mutual
theorem shNode_length (u : Un) (f : Fl) : ∀ (x : Nd) (deep : Int) (w : Wh) (st : List Int), (shNode u f deep w st x).2.length = st.length
  | .mk kind op n name args outs params kids, deep, w, st => by
    unfold shNode
    split
    ·rfl
    split
    ·match kids with
     | [] => rfl
     | [_] => rfl
     | a :: b :: _ =>
       simp only
       split
       ·exact andQ_length (andQ_length (shGo_length u f a ..) fun s hs => shFin_length hs) fun s hs => andQ_length (andQ_length ((shGo_length u f b ..).trans hs) fun s hs => shFin_length hs) fun s hs => shTail_length hs
       rfl
    split
    ·split
     ·refine andQ_length (shSets_length ..) fun s hs => ?_
      match kids with
      | [] => exact hs
      | a :: _ => exact andQ_length (andQ_length ((shGo_length u f a ..).trans hs) fun s hs => shFin_length hs) fun s hs => shTail_length ((shHide_length ..).trans hs)
     rfl
    split
    ·rfl
    exact shSimple_length ..
theorem shGo_length (u : Un) (f : Fl) : ∀ (l : List Nd) (deep : Int) (w : Wh) (st : List Int), (shGo u f deep w st l).2.length = st.length
  | [], _, _, _ => by simp [shGo]
  | x :: r, deep, w, st => by
    unfold shGo
    split
    ·rfl
    refine andQ_length (shNode_length u f x ..) fun s hs => ?_
    split
    ·exact hs
    exact (shGo_length u f r ..).trans hs
end
theorem shList_length (u : Un) (f : Fl) (deep : Int) (w : Wh) (st : List Int) (l : List Nd) : (shList u f deep w st l).2.length = st.length := andQ_length (shGo_length ..) fun _ h => shFin_length h
theorem shNode_bare (u : Un) (f : Fl) (deep : Int) (w : Wh) (st : List Int) {x : Nd} (h : r8bare x = false) : shNode u f deep w st x = (false, st) := by
  cases x; unfold shNode; simp [h]
theorem shNode_if (u : Un) (f : Fl) (deep : Int) (w : Wh) (st : List Int) {x : Nd} {a b : List Nd} (h : r8bare x = true) (hk : x.kind = 10) (hx : x.kids = [a, b]) :
    shNode u f deep w st x = if shUses f.types st x.args [2] then andQ (shList u f (deep + 1) ⟨true, w.Loop, r8of f.types x.outs, w.Next, w.Left⟩ st a) (fun s1 => andQ (shList u f (deep + 1) ⟨true, w.Loop, r8of f.types x.outs, w.Next, w.Left⟩ s1 b) fun s2 => shTail f x s2) else (false, st) := by
  cases x
  simp only [Nd.kind, Nd.kids] at hk hx
  subst hk hx
  unfold shNode
  simp only [h, Bool.not_true, Bool.false_eq_true, if_false, Nd.args, Nd.outs]
  rfl
theorem shNode_loop (u : Un) (f : Fl) (deep : Int) (w : Wh) (st : List Int) {x : Nd} {a : List Nd} (h : r8bare x = true) (hk : x.kind = 11) (hx : x.kids = [a]) :
    shNode u f deep w st x = if shUses f.types st x.args (r8of f.types x.params) then andQ (shSets f.types st x.params (List.replicate x.params.length 0)) (fun s1 => andQ (shList u f (deep + 1) ⟨false, true, [], r8of f.types x.params, r8of f.types x.outs⟩ s1 a) fun s2 => shTail f x (shHide s2 x.params)) else (false, st) := by
  cases x
  simp only [Nd.kind, Nd.kids] at hk hx
  subst hk hx
  unfold shNode
  simp only [h, Bool.not_true, Bool.false_eq_true, if_false, Nd.args, Nd.outs, Nd.params]
  rfl
theorem shNode_end (u : Un) (f : Fl) (deep : Int) (w : Wh) (st : List Int) {x : Nd} (h : r8bare x = true) (h1 : (x.kind == 10) = false) (h2 : (x.kind == 11) = false) (h3 : r8Ender x.kind = true) : shNode u f deep w st x = (shEnd f st x w, st) := by
  cases x
  simp only [Nd.kind] at h1 h2 h3
  unfold shNode
  simp [h, h1, h2, h3]
theorem shNode_simple (u : Un) (f : Fl) (deep : Int) (w : Wh) (st : List Int) {x : Nd} (h : r8bare x = true) (h1 : (x.kind == 10) = false) (h2 : (x.kind == 11) = false) (h3 : r8Ender x.kind = false) : shNode u f deep w st x = shSimple u f st x := by
  cases x
  simp only [Nd.kind] at h1 h2 h3
  unfold shNode
  simp [h, h1, h2, h3]
theorem andP_true {S : Type} {b : Bool} {s : S} {r : Bool × S} (h : (andP b s r).1 = true) : b = true ∧ r.1 = true := by
  unfold andP at h; split at h
  ·rename_i hb; exact ⟨hb, h⟩
  cases h
theorem andQ_true {S : Type} {r : Bool × S} {k : S → Bool × S} (h : (andQ r k).1 = true) : r.1 = true ∧ (k r.2).1 = true := by
  unfold andQ at h; split at h
  ·rename_i hb; exact ⟨hb, h⟩
  cases h
theorem shTail_outs {f : Fl} {x : Nd} {st : List Int} (h : (shTail f x st).1 = true) : ∀ v ∈ x.outs, 0 ≤ v ∧ v < f.types.length := shSets_in (andP_true h).2
theorem shSimple_outs {u : Un} {f : Fl} {st : List Int} {x : Nd} (h : (shSimple u f st x).1 = true) : ∀ v ∈ x.outs, 0 ≤ v ∧ v < f.types.length := by
  unfold shSimple shSum shCall at h
  repeat' split at h
  all_goals first
    | exact shSets_in (andP_true h).2
    | cases h
theorem shEnd_outs {f : Fl} {st : List Int} {x : Nd} {w : Wh} (h : shEnd f st x w = true) : x.outs = [] := by
  unfold shEnd at h
  have key : ∀ b : Bool, ((x.outs.length : Int) == 0 && b) = true → x.outs = [] := fun b hb => by
    simp only [Bool.and_eq_true, beq_iff_eq] at hb
    exact List.eq_nil_of_length_eq_zero (by omega)
  repeat' split at h
  all_goals first
    | exact key _ h
    | (rw [Bool.and_assoc] at h; exact key _ h)
theorem shNode_outs {u : Un} {f : Fl} {deep : Int} {w : Wh} {st : List Int} {x : Nd} (h : (shNode u f deep w st x).1 = true) : ∀ v ∈ x.outs, 0 ≤ v ∧ v < f.types.length := by
  cases hb : r8bare x with
  | false => rw [shNode_bare _ _ _ _ _ hb] at h; cases h
  | true =>
    by_cases h10 : x.kind = 10
    ·obtain ⟨a, b, hk⟩ := r8bare_if hb h10
     rw [shNode_if _ _ _ _ _ hb h10 hk] at h
     split at h
     ·exact shTail_outs (andQ_true (andQ_true h).2).2
     cases h
    by_cases h11 : x.kind = 11
    ·obtain ⟨a, hk⟩ := r8bare_loop hb h11
     rw [shNode_loop _ _ _ _ _ hb h11 hk] at h
     split at h
     ·exact shTail_outs (andQ_true (andQ_true h).2).2
     cases h
    have e10 : (x.kind == 10) = false := by simpa using h10
    have e11 : (x.kind == 11) = false := by simpa using h11
    cases he : r8Ender x.kind with
    | true => rw [shNode_end _ _ _ _ _ hb e10 e11 he] at h; intro v hv; rw [shEnd_outs h] at hv; simp at hv
    | false => rw [shNode_simple _ _ _ _ _ hb e10 e11 he] at h; exact shSimple_outs h
theorem shGo_outs {u : Un} {f : Fl} {deep : Int} {w : Wh} : ∀ {l : List Nd} {st : List Int}, (shGo u f deep w st l).1 = true → ∀ x ∈ l, ∀ v ∈ x.outs, 0 ≤ v ∧ v < f.types.length
  | [], _, _, x, hx => by simp at hx
  | y :: r, st, h, x, hx => by
    unfold shGo at h
    split at h
    ·cases h
    obtain ⟨h1, h2⟩ := andQ_true h
    split at h2
    ·cases h2
    rcases List.mem_cons.1 hx with rfl | hx
    ·exact shNode_outs h1
    exact shGo_outs h2 x hx
theorem ndW_mem : ∀ {l : List Nd} {x : Nd}, x ∈ l → ndW x ≤ lsW l
  | y :: r, x, h => by
    rcases List.mem_cons.1 h with rfl | h
    ·simp only [lsW]; omega
    have := ndW_mem h; simp only [lsW]; omega
theorem kdW_mem : ∀ {ks : List (List Nd)} {q : List Nd}, q ∈ ks → lsW q ≤ kdW ks
  | y :: r, x, h => by
    rcases List.mem_cons.1 h with rfl | h
    ·simp only [kdW]; omega
    have := kdW_mem h; simp only [kdW]; omega
def seens (k n : Nat) : List Int := List.replicate k 1 ++ List.replicate (n - k) 0
def shFlow (u : Un) (f : Fl) : Bool := !(decide (f.params > 8) || decide ((f.types.length : Int) > 20000) || f.types.any (fun t => !isTy t)) && (shList u f 1 r8where0 (seens f.params.toNat f.types.length) f.body).1
theorem seens_length {k n : Nat} (h : k ≤ n) : (seens k n).length = n := by simp [seens]; omega
theorem seens_set {k n : Nat} (h : k < n) : (seens k n).set k 1 = seens (k + 1) n := by
  unfold seens
  rw [List.set_append_right _ _ (by simp), List.length_replicate, Nat.sub_self]
  have : n - k = (n - (k + 1)) + 1 := by omega
  rw [this, List.replicate_succ, List.set_cons_zero, List.replicate_succ', List.append_assoc]
  rfl
def bump (s : ByteArray) (es : List (Value × PV)) : List (Value × PV) :=
  mput (.string s) (match mfind (.string s) es with | some (.val (.int .i64 n)) => .val (.int .i64 (IntKind.i64.wrap (n + 1))) | _ => .val (.int .i64 1)) es
def shArr (a : Ar) : Bool := isName a.name && !decide (a.size < 1) && !decide (a.size > 1000)
def shFlw (f : Fl) : Bool := isName f.name && isTy f.ty && !decide (f.params < 0) && !decide (f.params > f.types.length)
def countA (es : List (Value × PV)) (l : List Ar) : List (Value × PV) := l.foldl (fun e a => bump a.name e) es
def countF (es : List (Value × PV)) (l : List Fl) : List (Value × PV) := l.foldl (fun e a => bump a.name e) es
def shHead (u : Un) : Bool := u.arrays.all shArr && u.flows.all shFlw && ((countF (countA [] u.arrays) u.flows).length : Int) == u.arrays.length + u.flows.length && r8main u
def shflows (u : Un) : List Fl → Int → Int × Int
  | [], _ => (0, 0)
  | f :: r, i => if shFlow u f then shflows u r (i + 1) else (80, i)
def shCheck (u : Un) : Int × Int := if shHead u then shflows u u.flows 0 else (1, 0)
theorem shHead_params {u : Un} (h : shHead u = true) : ∀ g ∈ u.flows, 0 ≤ g.params ∧ g.params ≤ g.types.length := by
  simp only [shHead, Bool.and_eq_true, List.all_eq_true] at h
  intro g hg
  have := h.1.1.2 g hg
  simp only [shFlw, Bool.and_eq_true, Bool.not_eq_true', decide_eq_false_iff_not] at this
  omega
theorem takeWhile_len {α : Type} {p : α → Bool} : ∀ {l : List α} {k : Nat} {x : α}, (l.take k).all p = true → l[k]? = some x → p x = false → (l.takeWhile p).length = k ∧ l.all p = false
  | [], k, x, _, h, _ => by simp at h
  | a :: r, 0, x, _, h, hx => by
    simp only [List.getElem?_cons_zero, Option.some.injEq] at h
    subst h
    simp [hx]
  | a :: r, k + 1, x, h, hg, hx => by
    simp only [List.take_succ_cons, List.all_cons, Bool.and_eq_true] at h
    obtain ⟨h1, h2⟩ := takeWhile_len h.2 (by simpa using hg) hx
    simp [h.1, h1, h2]
def runOf (s : ByteArray) : ByteArray := if s.toList.all isLD then s else s.extract 0 (s.toList.takeWhile isLD).length
theorem runOf_at {s : ByteArray} {k : Nat} {b : UInt8} (h : (s.toList.take k).all isLD = true) (hb : s.toList[k]? = some b) (hn : isLD b = false) : runOf s = s.extract 0 k := by
  obtain ⟨h1, h2⟩ := takeWhile_len h hb hn
  simp [runOf, h1, h2]
theorem runOf_eq (s : ByteArray) : ((runOf s).toList == s.toList) = s.toList.all isLD := by
  unfold runOf
  cases h : s.toList.all isLD with
  | true => simp
  | false =>
    simp only [Bool.false_eq_true, if_false]
    have hlt : (s.toList.takeWhile isLD).length < s.toList.length := by
      rcases Nat.lt_or_ge (s.toList.takeWhile isLD).length s.toList.length with h1 | h1
      ·exact h1
      have hp := List.takeWhile_prefix (l := s.toList) isLD
      have he := hp.eq_of_length_le h1
      have : s.toList.all isLD = true := by rw [← he]; exact List.all_takeWhile
      rw [h] at this; cases this
    have hne : (s.extract 0 (s.toList.takeWhile isLD).length).toList ≠ s.toList := by
      intro he
      have := congrArg List.length he
      rw [ba_len, ByteArray.size_extract, ba_len] at this
      rw [ba_len] at hlt
      omega
    simpa using hne
theorem decode_low {s : ByteArray} {k : Nat} (h : k < s.toList.length) : ((s.toList[k]).toNat < 128 → Utf8.decode s k = ((s.toList[k]).toNat, 1)) ∧ (128 ≤ (s.toList[k]).toNat → 128 ≤ (Utf8.decode s k).1) := by
  have hk : k < s.size := by rwa [ba_len] at h
  have e0 : s.get! (k + 0) = s.toList[k] := by
    have h2 := ba_get h
    rw [getElem?_pos s k hk] at h2
    rw [← Option.some.inj h2]
    show s.get! k = _
    simp [ByteArray.get!, getElem!_pos, hk]
    rfl
  refine ⟨fun hb => ?_, fun hb => ?_⟩
  ·simp only [Utf8.decode, e0, hb, if_true]
  have hn : ¬ (s.toList[k]).toNat < 128 := by omega
  simp only [Utf8.decode, e0]
  rw [if_neg (by simpa using hn)]
  repeat' split
  all_goals first
    | (simp [Utf8.runeError]; done)
    | (rename_i hc; simp only [ge_iff_le, Bool.and_eq_true, decide_eq_true_eq] at hc; simp only; omega)
def isLDr (r : Int) : Bool := isLetter r || isDigit r
theorem isLDr_low {r : Int} (h : isLDr r = true) : r < 128 := by
  simp only [isLDr, isLetter, isDigit, Bool.or_eq_true, Bool.and_eq_true, decide_eq_true_eq, beq_iff_eq] at h
  omega
theorem decode_ld {s : ByteArray} {k : Nat} (h : k < s.toList.length) : (isLDr (Utf8.decode s k).1 = true → (Utf8.decode s k).2 = 1 ∧ isLD s.toList[k] = true) ∧ (isLDr (Utf8.decode s k).1 = false → isLD s.toList[k] = false) := by
  obtain ⟨h1, h2⟩ := decode_low h
  by_cases hb : (s.toList[k]).toNat < 128
  ·rw [h1 hb]
   exact ⟨fun h => ⟨rfl, h⟩, fun h => h⟩
  have h3 := h2 (by omega)
  refine ⟨fun hl => ?_, fun _ => ?_⟩
  ·have := isLDr_low hl; omega
  cases hd : isLD s.toList[k] with
  | false => rfl
  | true => have := isLDr_low (r := ((s.toList[k]).toNat : Int)) hd; omega
def Cnt (es : List (Value × PV)) : Prop := (∀ e ∈ es, isKeyB .string e.1 = true) ∧ ∀ e ∈ es, ∃ n, e.2 = vInt n
theorem mput_mem {k : Value} {v : PV} : ∀ {es : List (Value × PV)} {e : Value × PV}, e ∈ mput k v es → e = (k, v) ∨ e ∈ es
  | [], e, h => by simp [mput] at h; exact .inl h
  | (a, p) :: r, e, h => by
    simp only [mput] at h
    split at h
    ·rcases List.mem_cons.1 h with rfl | h
     ·exact .inl rfl
     exact .inr (.tail _ h)
    rcases List.mem_cons.1 h with rfl | h
    ·exact .inr (.head _)
    rcases mput_mem h with h | h
    ·exact .inl h
    exact .inr (.tail _ h)
theorem mfind_mem {k : Value} {p : PV} : ∀ {es : List (Value × PV)}, mfind k es = some p → ∃ a, (a, p) ∈ es
  | (a, q) :: r, h => by
    simp only [mfind] at h
    split at h
    ·cases h; exact ⟨a, .head _⟩
    obtain ⟨b, hb⟩ := mfind_mem h; exact ⟨b, .tail _ hb⟩
theorem Cnt.find {es : List (Value × PV)} (h : Cnt es) (k : Value) : ∃ n, (mfind k es).getD (.val (.int .i64 0)) = vInt n := by
  cases hf : mfind k es with
  | none => exact ⟨0, rfl⟩
  | some p => obtain ⟨a, ha⟩ := mfind_mem hf; obtain ⟨n, hn⟩ := h.2 _ ha; exact ⟨n, hn⟩
theorem bump_eq {es : List (Value × PV)} {s : ByteArray} {n : Int} (h : (mfind (.string s) es).getD (.val (.int .i64 0)) = vInt n) : bump s es = mput (.string s) (vInt (IntKind.i64.wrap (n + 1))) es := by
  unfold bump
  cases hf : mfind (.string s) es with
  | none =>
    rw [hf] at h
    simp only [Option.getD_none, vInt, PV.val.injEq, Value.int.injEq, true_and] at h
    subst h
    rfl
  | some p =>
    rw [hf] at h
    simp only [Option.getD_some] at h
    subst h
    rfl
theorem Cnt.bump {es : List (Value × PV)} (h : Cnt es) (s : ByteArray) : Cnt (bump s es) := by
  obtain ⟨n, hn⟩ := h.find (.string s)
  rw [bump_eq hn]
  refine ⟨fun e he => ?_, fun e he => ?_⟩
  ·rcases mput_mem he with rfl | he
   ·rfl
   exact h.1 e he
  rcases mput_mem he with rfl | he
  ·exact ⟨_, rfl⟩
  exact h.2 e he
theorem Cnt.nil : Cnt [] := ⟨fun _ h => by simp at h, fun _ h => by simp at h⟩
structure Rl (n : Nat) (st : List Int) (set : List Bool) (seen : List Int) : Prop where
  l1 : st.length = n
  l2 : set.length = n
  s : ∀ v : Nat, v < n → set.getD v false = !(st.getD v 0 == 0)
  u : ∀ v : Nat, v < n → seen.contains (v : Int) = (st.getD v 0 == 1)
theorem getD_set {α : Type} {l : List α} {i j : Nat} {a d : α} : (l.set i a).getD j d = if i = j ∧ i < l.length then a else l.getD j d := by
  simp only [List.getD_eq_getElem?_getD, List.getElem?_set]
  by_cases h : i = j
  ·subst h
   by_cases h2 : i < l.length
   ·simp [h2]
   simp [h2]
  simp [h]
theorem use_rl {tys st : List Int} {set : List Bool} {seen : List Int} (h : Rl tys.length st set seen) (v w : Int) : r8use tys seen v w = (shUse tys st v w).1 := by
  unfold r8use shUse shVal
  by_cases h0 : 0 ≤ v
  ·by_cases h1 : v < tys.length
   ·have hv : v = (v.toNat : Int) := by omega
    have hu := h.u v.toNat (by omega)
    rw [← hv] at hu
    have e1 : decide (v < 0) = false := by simpa using h0
    have e2 : decide (v ≥ tys.length) = false := by simpa using h1
    have e3 : decide (0 ≤ v) = true := by simpa using h0
    have e4 : decide (v < tys.length) = true := by simpa using h1
    simp only [e1, e2, e3, e4, hu, Bool.false_or, Bool.true_and]
    clear hv e1 e2 e3 e4
    cases hw : (w == 0) <;> cases ht : (tys.getD v.toNat 0 == w) <;> cases hs : (st.getD v.toNat 0 == 1) <;> simp_all [bne]
   have e2 : decide (v ≥ tys.length) = true := by simp; omega
   have e4 : decide (v < tys.length) = false := by simp; omega
   simp [e2, e4]
  have e1 : decide (v < 0) = true := by simp; omega
  have e3 : decide (0 ≤ v) = false := by simp; omega
  simp [e1, e3]
theorem usesGo_rl {tys st : List Int} {set : List Bool} {seen : List Int} (h : Rl tys.length st set seen) : ∀ (a b : List Int), r8typesGo tys seen a b = (eqGo (shUse tys) st a b).1
  | [], _ => by simp [r8typesGo, eqGo]
  | _ :: _, [] => by simp [r8typesGo, eqGo]
  | x :: a, y :: b => by
    simp only [r8typesGo, eqGo, use_rl h x y]
    have h2 : (shUse tys st x y).2 = st := rfl
    cases hx : (shUse tys st x y).1 with
    | true => simp [h2, usesGo_rl h a b]
    | false => simp
theorem uses_rl {tys st : List Int} {set : List Bool} {seen : List Int} (h : Rl tys.length st set seen) (a b : List Int) : r8types tys seen a b = shUses tys st a b := by
  unfold r8types shUses eqf
  by_cases hl : (a.length : Int) = b.length
  ·rw [if_pos hl]
   have : ((a.length : Int) == b.length) = true := by simpa using hl
   rw [this, Bool.true_and, usesGo_rl h]
  rw [if_neg hl]
  have : ((a.length : Int) == b.length) = false := by simpa using hl
  rw [this, Bool.false_and]
theorem set1_rl {tys st : List Int} {set : List Bool} {seen : List Int} (h : Rl tys.length st set seen) (v w : Int) :
    r8bad tys set v w = !(shSet1 tys st v w).1 ∧ ((shSet1 tys st v w).1 = true → Rl tys.length (shSet1 tys st v w).2 (set.set v.toNat true) (seen ++ [v]) ∧ 0 ≤ v ∧ v < tys.length ∧ seen.contains v = false) := by
  unfold r8bad shSet1 shVal
  by_cases h0 : 0 ≤ v
  ·by_cases h1 : v < tys.length
   ·have hv : v = (v.toNat : Int) := by omega
    have hn : v.toNat < tys.length := by omega
    have hs := h.s v.toNat hn
    have hu := h.u v.toNat hn
    rw [← hv] at hu
    have e1 : decide (v < 0) = false := by simpa using h0
    have e2 : decide (v ≥ tys.length) = false := by simpa using h1
    have e3 : decide (0 ≤ v) = true := by simpa using h0
    have e4 : decide (v < tys.length) = true := by simpa using h1
    simp only [e1, e2, e3, e4, hs, Bool.false_or, Bool.true_and]
    refine ⟨by clear hv e1 e2 e3 e4; cases hw : (w == 0) <;> cases ht : (tys.getD v.toNat 0 == w) <;> cases hz : (st.getD v.toNat 0 == 0) <;> simp_all [bne], fun hc => ?_⟩
    split at hc
    ·rename_i hif
     rw [if_pos hif]
     simp only [Bool.and_eq_true] at hif
     have hz : st.getD v.toNat 0 = 0 := by simpa using hif.2
     refine ⟨⟨by simpa using h.l1, by simpa using h.l2, fun j hj => ?_, fun j hj => ?_⟩, h0, h1, by rw [hu, hz]; rfl⟩
     ·rw [getD_set, getD_set]
      by_cases e : v.toNat = j
      ·subst e; simp [h.l1, h.l2, hn]
      simp only [e, false_and, if_false]; exact h.s j hj
     rw [getD_set]
     simp only [List.contains_append, List.contains_cons, List.contains_nil, Bool.or_false]
     by_cases e : v.toNat = j
     ·subst e
      have : ((v.toNat : Int) == v) = true := by simpa using hv.symm
      rw [this, Bool.or_true, if_pos ⟨rfl, by rw [h.l1]; exact hn⟩]; rfl
     have : ((j : Int) == v) = false := by simp; omega
     simp only [e, false_and, if_false, this, Bool.or_false]
     exact h.u j hj
    cases hc
   have e2 : decide (v ≥ tys.length) = true := by simp; omega
   have e4 : decide (v < tys.length) = false := by simp; omega
   simp [e2, e4]
  have e1 : decide (v < 0) = true := by simp; omega
  have e3 : decide (0 ≤ v) = false := by simp; omega
  simp [e1, e3]
theorem setsGo_rl {tys : List Int} : ∀ (a b st : List Int) (set : List Bool) (seen : List Int), a.length = b.length → Rl tys.length st set seen →
    (r8setsGo tys set a b).1 = (eqGo (shSet1 tys) st a b).1 ∧ ((eqGo (shSet1 tys) st a b).1 = true → Rl tys.length (eqGo (shSet1 tys) st a b).2 (r8setsGo tys set a b).2 (seen ++ a) ∧ ∀ v ∈ a, 0 ≤ v ∧ v < tys.length ∧ seen.contains v = false)
  | [], _, st, set, seen, _, h => by simp [r8setsGo, eqGo]; exact h
  | _ :: _, [], _, _, _, hl, _ => by simp at hl
  | x :: a, y :: b, st, set, seen, hl, h => by
    obtain ⟨h1, h2⟩ := set1_rl h x y
    simp only [r8setsGo, eqGo, h1]
    cases hx : (shSet1 tys st x y).1 with
    | false => simp
    | true =>
      obtain ⟨h3, h4, h5, h6⟩ := h2 hx
      obtain ⟨ih1, ih2⟩ := setsGo_rl a b _ _ _ (by simpa using hl) h3
      simp only [Bool.not_true, Bool.false_eq_true, if_false, if_true]
      refine ⟨ih1, fun hc => ?_⟩
      obtain ⟨h7, h8⟩ := ih2 hc
      refine ⟨by simpa using h7, fun v hv => ?_⟩
      rcases List.mem_cons.1 hv with rfl | hv
      ·exact ⟨h4, h5, h6⟩
      obtain ⟨g1, g2, g3⟩ := h8 v hv
      refine ⟨g1, g2, ?_⟩
      rw [List.contains_append, Bool.or_eq_false_iff] at g3
      exact g3.1
theorem sets_rl {tys st : List Int} {set : List Bool} {seen : List Int} (h : Rl tys.length st set seen) (a b : List Int) :
    (r8sets tys set a b).1 = (shSets tys st a b).1 ∧ ((shSets tys st a b).1 = true → Rl tys.length (shSets tys st a b).2 (r8sets tys set a b).2 (seen ++ a) ∧ ∀ v ∈ a, 0 ≤ v ∧ v < tys.length ∧ seen.contains v = false) := by
  unfold r8sets shSets eqf
  by_cases hl : (a.length : Int) = b.length
  ·have e : ((a.length : Int) == b.length) = true := by simpa using hl
   rw [if_pos hl, if_pos e]
   exact setsGo_rl a b st set seen (by omega) h
  have e : ¬ ((a.length : Int) == b.length) = true := by simpa using hl
  rw [if_neg hl, if_neg e]
  simp
theorem hide_rl {n : Nat} : ∀ (l st : List Int) (set : List Bool) (seen rest : List Int), (∀ v ∈ l, 0 ≤ v ∧ v < n ∧ rest.contains v = false) → (∀ v ∈ l, st.getD v.toNat 0 ≠ 0) → st.length = n → set.length = n →
    (∀ v : Nat, v < n → set.getD v false = !(st.getD v 0 == 0)) → (∀ v : Nat, v < n → l.contains (v : Int) = false → rest.contains (v : Int) = (st.getD v 0 == 1)) → Rl n (shHide st l) set rest
  | [], st, set, _, rest, _, _, h1, h2, h3, h4 => ⟨h1, h2, h3, fun v hv => h4 v hv rfl⟩
  | x :: l, st, set, seen, rest, hin, hnz, h1, h2, h3, h4 => by
    obtain ⟨hx0, hx1, hx2⟩ := hin x (.head _)
    have hxn : x.toNat < n := by omega
    show Rl n (shHide (st.set x.toNat 2) l) set rest
    have hg : ∀ j, (st.set x.toNat 2).getD j 0 = if x.toNat = j then 2 else st.getD j 0 := fun j => by
      rw [getD_set]; simp [h1, hxn]
    -- hidden values are no more among the seen
    have key : ∀ v : Nat, v < n → l.contains (v : Int) = false → rest.contains (v : Int) = ((st.set x.toNat 2).getD v 0 == 1) := by
      intro v hv hl
      rw [hg]
      by_cases e : x.toNat = v
      ·have hv2 : (v : Int) = x := by omega
       rw [if_pos e, hv2, hx2]; rfl
      rw [if_neg e]
      refine h4 v hv ?_
      have : ((v : Int) == x) = false := by simp; omega
      rw [List.contains_cons, this, hl]; rfl
    refine hide_rl l (st.set x.toNat 2) set seen rest (fun v hv => hin v (.tail _ hv)) (fun v hv => ?_) (by simpa using h1) h2 (fun v hv => ?_) key
    ·rw [hg]; split
     ·decide
     exact hnz v (.tail _ hv)
    rw [hg, h3 v hv]
    split
    ·rename_i e
     have := hnz x (.head _)
     rw [e] at this
     have hb : (st.getD v 0 == 0) = false := by simpa using this
     rw [hb]; rfl
    rfl
def PR (n : Nat) (seen outs : List Int) (r : Bool × List Int) (q : Bool × List Bool) : Prop :=
  q.1 = r.1 ∧ (r.1 = true → Rl n r.2 q.2 (seen ++ outs) ∧ ∀ v ∈ outs, 0 ≤ v ∧ v < n ∧ seen.contains v = false)
theorem PR.no {n : Nat} {seen outs : List Int} {st : List Int} {set : List Bool} : PR n seen outs (false, st) (false, set) := ⟨rfl, fun h => by cases h⟩
theorem fin_rl {tys st : List Int} {set : List Bool} {seen : List Int} (h : Rl tys.length st set seen) {b b' : Bool} (hb : b = b') (outs want : List Int) : PR tys.length seen outs (andP b st (shSets tys st outs want)) (andS b' set (r8sets tys set outs want)) := by
  subst hb
  cases b with
  | false => exact .no
  | true => exact sets_rl h outs want
theorem nil_rl {tys st : List Int} {set : List Bool} {seen : List Int} (h : Rl tys.length st set seen) {b b' : Bool} (hb : b = b') (outs : List Int) : PR tys.length seen outs (andP b st (shSets tys st outs [])) (b' && (outs.length : Int) == 0, set) := by
  subst hb
  cases b with
  | false => exact .no
  | true =>
    cases outs with
    | nil => exact ⟨rfl, fun _ => ⟨by rw [List.append_nil]; exact h, fun v hv => by simp at hv⟩⟩
    | cons v r =>
      have e : ¬ (((v :: r).length : Int) = (([] : List Int).length : Int)) := by simp; omega
      have e2 : (((v :: r).length : Int) == 0) = false := by simp; omega
      simp only [andP, if_true, shSets, eqf, if_neg e, e2, Bool.and_false]
      exact .no
theorem end_rl {n : Nat} {st : List Int} {set : List Bool} {seen : List Int} (h : Rl n st set seen) {b b' : Bool} (hb : b = b') {outs : List Int} (ho : b = true → outs = []) : PR n seen outs (b, st) (b', set) := by
  subst hb
  refine ⟨rfl, fun hb => ?_⟩
  rw [ho hb]
  exact ⟨by simpa using h, fun v hv => by simp at hv⟩
theorem operand_two {op : Int} (h : r1IsTwo op = true) : shOperand op = r5Operand op := by
  simp only [r1IsTwo, Bool.and_eq_true, decide_eq_true_eq] at h
  have h18 : (op == 18) = false := by simp; omega
  have h19 : (op == 19) = false := by simp; omega
  have h22 : (op == 22) = false := by simp; omega
  simp only [shOperand, r5Operand, h18, h19, h22, Bool.or_false, Bool.false_eq_true, if_false]
theorem operand_one {op : Int} (h : r1IsOne op = true) : shOperand op = r5Operand op := by
  simp only [r1IsOne, Bool.and_eq_true, decide_eq_true_eq] at h
  have h18 : (op == 18) = false := by simp; omega
  have h19 : (op == 19) = false := by simp; omega
  simp only [shOperand, r5Operand, h18, h19, Bool.false_or]
theorem level_two (op : Int) : (decide (wLevel op > 0) && decide (op ≤ 17)) = r1IsTwo op := by
  by_cases h0 : op < 0
  ·have : wLevel op = 0 := by simp [wLevel, h0]
   have h2 : r1IsTwo op = false := by simp [r1IsTwo]; omega
   rw [this, h2]; rfl
  by_cases h1 : op ≥ 29
  ·have : wLevel op = 0 := by simp [wLevel, h1]
   have h2 : r1IsTwo op = false := by simp [r1IsTwo]; omega
   rw [this, h2]; rfl
  rcases below29 (op := op) (by omega) (by omega) with rfl | rfl | rfl | rfl | rfl | rfl | rfl | rfl | rfl | rfl | rfl | rfl | rfl | rfl | rfl | rfl | rfl | rfl | rfl | rfl | rfl | rfl | rfl | rfl | rfl | rfl | rfl | rfl | rfl <;> rfl
theorem simple_rl (u : Un) (f : Fl) {st : List Int} {set : List Bool} {seen : List Int} (h : Rl f.types.length st set seen) (x : Nd) (w : Wh) :
    PR f.types.length seen x.outs (if r8Ender x.kind then (shEnd f st x w, st) else shSimple u f st x) (r8simple u f set x seen w) := by
  have U := fun want => (uses_rl h x.args want).symm
  have hlen : ∀ b, shUses f.types st x.args [] = b → ((x.args.length : Int) == 0) = b := fun b hb => by
    rw [← hb]
    unfold shUses eqf
    cases x.args with
    | nil => rfl
    | cons a r =>
      have e : ¬ (((a :: r).length : Int) = (([] : List Int).length : Int)) := by simp; omega
      have e2 : (((a :: r).length : Int) == 0) = false := by simp; omega
      rw [if_neg e, e2]
  unfold r8simple shSimple shEnd shSum shCall r8call
  by_cases k1 : x.kind = 1
  ·simp only [k1, r8Ender]; exact fin_rl h (U _) _ _
  by_cases k2 : x.kind = 2
  ·simp only [k2, r8Ender]; exact fin_rl h (by rw [U]) _ _
  by_cases k3 : x.kind = 3
  ·simp only [k3, r8Ender]
   cases ho : r1IsOne x.op with
   | false => exact .no
   | true => rw [operand_one ho]; exact fin_rl h (by rw [U]) _ _
  by_cases k4 : x.kind = 4
  ·simp only [k4, r8Ender, level_two]
   cases ho : r1IsTwo x.op with
   | false => exact .no
   | true => rw [operand_two ho]; exact fin_rl h (by rw [U]) _ _
  by_cases k5 : x.kind = 5
  ·simp only [k5, r8Ender]; exact fin_rl h (by rw [U]) _ _
  by_cases k6 : x.kind = 6
  ·simp only [k6, r8Ender]; exact nil_rl h (by rw [U]) _
  by_cases k7 : x.kind = 7
  ·simp only [k7, r8Ender]
   by_cases hp : r8Place x.name u.flows 0 < 0
   ·have e : ¬ (decide (r8Place x.name u.flows 0 ≥ 0)) = true := by simp; omega
    simp only [if_pos hp, if_neg e]
    exact .no
   have e : (decide (r8Place x.name u.flows 0 ≥ 0)) = true := by simp; omega
   simp only [if_neg hp, if_pos e]
   cases u.flows[(r8Place x.name u.flows 0).toNat]? with
   | none => exact .no
   | some g => exact fin_rl h (U _) _ _
  by_cases k8 : x.kind = 8
  ·simp only [k8, r8Ender]; exact fin_rl h (hlen _ rfl).symm _ _
  by_cases k9 : x.kind = 9
  ·simp only [k9, r8Ender]; exact nil_rl h (U _) _
  have out0 : ∀ c : Bool, ((x.outs.length : Int) == 0 && c) = true → x.outs = [] := fun c hc => by
    simp only [Bool.and_eq_true, beq_iff_eq] at hc
    exact List.eq_nil_of_length_eq_zero (by omega)
  by_cases k12 : x.kind = 12
  ·simp only [k12, r8Ender]
   show PR _ _ _ ((x.outs.length : Int) == 0 && w.If && shUses f.types st x.args w.Yield, st) (w.If && r8types f.types seen x.args w.Yield && (x.outs.length : Int) == 0, set)
   exact end_rl h (by rw [← U]; cases (w.If) <;> cases ((x.outs.length : Int) == 0) <;> simp) (fun hb => by rw [Bool.and_assoc] at hb; exact out0 _ hb)
  by_cases k13 : x.kind = 13
  ·simp only [k13, r8Ender]
   show PR _ _ _ ((x.outs.length : Int) == 0 && w.Loop && shUses f.types st x.args w.Next, st) (w.Loop && r8types f.types seen x.args w.Next && (x.outs.length : Int) == 0, set)
   exact end_rl h (by rw [← U]; cases (w.Loop) <;> cases ((x.outs.length : Int) == 0) <;> simp) (fun hb => by rw [Bool.and_assoc] at hb; exact out0 _ hb)
  by_cases k14 : x.kind = 14
  ·simp only [k14, r8Ender]
   show PR _ _ _ ((x.outs.length : Int) == 0 && w.Loop && shUses f.types st x.args w.Left, st) (w.Loop && r8types f.types seen x.args w.Left && (x.outs.length : Int) == 0, set)
   exact end_rl h (by rw [← U]; cases (w.Loop) <;> cases ((x.outs.length : Int) == 0) <;> simp) (fun hb => by rw [Bool.and_assoc] at hb; exact out0 _ hb)
  by_cases k15 : x.kind = 15
  ·simp only [k15, r8Ender]
   show PR _ _ _ ((x.outs.length : Int) == 0 && shUses f.types st x.args [f.ty], st) (r8types f.types seen x.args [f.ty] && (x.outs.length : Int) == 0, set)
   exact end_rl h (by rw [← U]; exact Bool.and_comm _ _) (fun hb => out0 _ hb)
  have e1 : (x.kind == 1) = false := by simpa using k1
  have e2 : (x.kind == 2) = false := by simpa using k2
  have e3 : (x.kind == 3) = false := by simpa using k3
  have e4 : (x.kind == 4) = false := by simpa using k4
  have e5 : (x.kind == 5) = false := by simpa using k5
  have e6 : (x.kind == 6) = false := by simpa using k6
  have e7 : (x.kind == 7) = false := by simpa using k7
  have e8 : (x.kind == 8) = false := by simpa using k8
  have e9 : (x.kind == 9) = false := by simpa using k9
  have e12 : (x.kind == 12) = false := by simpa using k12
  have e13 : (x.kind == 13) = false := by simpa using k13
  have e14 : (x.kind == 14) = false := by simpa using k14
  have e15 : (x.kind == 15) = false := by simpa using k15
  have ee : r8Ender x.kind = false := by simp [r8Ender]; omega
  simp only [e1, e2, e3, e4, e5, e6, e7, e8, e9, e12, e13, e14, e15, ee, Bool.false_eq_true, if_false, Bool.or_false]
  exact .no
theorem hideAll_eq : ∀ (l : List Nd) (st : List Int), shHideAll st l = shHide st (l.flatMap Nd.outs)
  | [], _ => rfl
  | x :: r, st => by
    have := hideAll_eq r (shHide st x.outs)
    simp only [shHideAll, List.foldl_cons, List.flatMap_cons, shHide, List.foldl_append] at this ⊢
    exact this
theorem hidden_rl {n : Nat} {st : List Int} {set : List Bool} {all l : List Int} (h : Rl n st set (all ++ l)) (hl : ∀ v ∈ l, 0 ≤ v ∧ v < n ∧ all.contains v = false) : Rl n (shHide st l) set all := by
  refine hide_rl l st set [] all hl (fun v hv => ?_) h.l1 h.l2 h.s (fun v hv hc => ?_)
  ·obtain ⟨h0, h1, _⟩ := hl v hv
   have hu := h.u v.toNat (by omega)
   have hc : (all ++ l).contains ((v.toNat : Nat) : Int) = true := by
     rw [show ((v.toNat : Nat) : Int) = v by omega]
     simp [hv]
   rw [hc] at hu
   have : st.getD v.toNat 0 = 1 := by simpa using hu.symm
   rw [this]; decide
  have hu := h.u v hv
  rw [List.contains_append, hc, Bool.or_false] at hu
  exact hu
def LR (u : Un) (f : Fl) (l : List Nd) : Prop := ∀ (deep : Int) (w : Wh) (st : List Int) (set : List Bool) (seen : List Int), Rl f.types.length st set seen →
  (r8list u f deep w seen set l).1 = (shList u f deep w st l).1 ∧ ((shList u f deep w st l).1 = true → Rl f.types.length (shList u f deep w st l).2 (r8list u f deep w seen set l).2 seen)
theorem andT_PR {n : Nat} {seen outs : List Int} {r : Bool × List Int} {q : Bool × List Bool} {k : List Int → Bool × List Int} {k' : List Bool → Bool × List Bool} (h : q.1 = r.1) (hk : r.1 = true → PR n seen outs (k r.2) (k' q.2)) : PR n seen outs (andQ r k) (andT q k') := by
  unfold andQ andT
  rw [h]
  cases hr : r.1 with
  | false => exact .no
  | true => exact hk hr
theorem tail_rl {f : Fl} {x : Nd} {st : List Int} {set : List Bool} {seen : List Int} (h : Rl f.types.length st set seen) : PR f.types.length seen x.outs (shTail f x st) (r8end f x set) := fin_rl h rfl _ _
theorem node_rl (u : Un) (f : Fl) (x : Nd) (ih : ∀ q ∈ x.kids, LR u f q) (deep : Int) (w : Wh) {st : List Int} {set : List Bool} {seen : List Int} (h : Rl f.types.length st set seen) :
    PR f.types.length seen x.outs (shNode u f deep w st x) (r8node u f deep w seen set x) := by
  cases hb : r8bare x with
  | false => rw [shNode_bare _ _ _ _ _ hb, r8node_bare _ _ _ _ _ _ hb]; exact .no
  | true =>
    by_cases h10 : x.kind = 10
    ·obtain ⟨a, b, hk⟩ := r8bare_if hb h10
     rw [shNode_if _ _ _ _ _ hb h10 hk, r8node_if _ _ _ _ _ _ hb h10 hk, uses_rl h]
     split
     ·obtain ⟨h1, h2⟩ := ih a (by rw [hk]; simp) (deep + 1) ⟨true, w.Loop, r8of f.types x.outs, w.Next, w.Left⟩ st set seen h
      refine andT_PR h1 fun ht => ?_
      obtain ⟨h3, h4⟩ := ih b (by rw [hk]; simp) (deep + 1) ⟨true, w.Loop, r8of f.types x.outs, w.Next, w.Left⟩ _ _ seen (h2 ht)
      exact andT_PR h3 fun ht2 => tail_rl (h4 ht2)
     exact .no
    by_cases h11 : x.kind = 11
    ·obtain ⟨a, hk⟩ := r8bare_loop hb h11
     rw [shNode_loop _ _ _ _ _ hb h11 hk, r8node_loop _ _ _ _ _ _ hb h11 hk, uses_rl h]
     split
     ·obtain ⟨h1, h2⟩ := sets_rl h x.params (List.replicate x.params.length 0)
      refine andT_PR h1 fun ht => ?_
      obtain ⟨h3, h4⟩ := h2 ht
      obtain ⟨h5, h6⟩ := ih a (by rw [hk]; simp) (deep + 1) ⟨false, true, [], r8of f.types x.params, r8of f.types x.outs⟩ _ _ _ h3
      exact andT_PR h5 fun ht2 => tail_rl (hidden_rl (h6 ht2) h4)
     exact .no
    have e10 : (x.kind == 10) = false := by simpa using h10
    have e11 : (x.kind == 11) = false := by simpa using h11
    rw [r8node_simple _ _ _ _ _ _ hb e10 e11]
    have hs := simple_rl u f h x w
    cases he : r8Ender x.kind with
    | true => rw [shNode_end _ _ _ _ _ hb e10 e11 he]; rw [if_pos he] at hs; exact hs
    | false => rw [shNode_simple _ _ _ _ _ hb e10 e11 he]; rw [if_neg (by simp [he])] at hs; exact hs
theorem go_rl (u : Un) (f : Fl) (deep : Int) (w : Wh) : ∀ (l : List Nd), (∀ x ∈ l, ∀ q ∈ x.kids, LR u f q) → ∀ (st : List Int) (set : List Bool) (all : List Int), Rl f.types.length st set all →
    PR f.types.length all (l.flatMap Nd.outs) (shGo u f deep w st l) (r8go u f deep w all set l)
  | [], _, st, set, all, h => by
    unfold shGo r8go
    exact ⟨rfl, fun _ => ⟨by simpa using h, fun v hv => by simp at hv⟩⟩
  | x :: r, ih, st, set, all, h => by
    unfold shGo r8go
    by_cases hd : deep > 100
    ·rw [if_pos hd, if_pos hd]; exact .no
    rw [if_neg hd, if_neg hd]
    obtain ⟨h1, h2⟩ := node_rl u f x (ih x (.head _)) deep w h
    refine andT_PR h1 fun ht => ?_
    obtain ⟨h3, h4⟩ := h2 ht
    by_cases hc : (r8Closed x != r.isEmpty) = true
    ·rw [if_pos hc, if_pos hc]; exact .no
    rw [if_neg hc, if_neg hc]
    obtain ⟨h5, h6⟩ := go_rl u f deep w r (fun y hy => ih y (.tail _ hy)) _ _ _ h3
    refine ⟨h5, fun ht2 => ?_⟩
    obtain ⟨h7, h8⟩ := h6 ht2
    refine ⟨by simpa using h7, fun v hv => ?_⟩
    rw [List.flatMap_cons, List.mem_append] at hv
    rcases hv with hv | hv
    ·exact h4 v hv
    obtain ⟨g1, g2, g3⟩ := h8 v hv
    rw [List.contains_append, Bool.or_eq_false_iff] at g3
    exact ⟨g1, g2, g3.1⟩
theorem list_rl (u : Un) (f : Fl) : ∀ (N : Nat) (l : List Nd), SizeOf.sizeOf l < N → LR u f l
  | 0, _, h => absurd h (Nat.not_lt_zero _)
  | N + 1, l, hN => by
    intro deep w st set seen h
    have ih : ∀ x ∈ l, ∀ q ∈ x.kids, LR u f q := fun x hx q hq => list_rl u f N q (Nat.lt_of_lt_of_le (kid_lt hx rfl hq) (Nat.le_of_lt_succ hN))
    obtain ⟨h1, h2⟩ := go_rl u f deep w l ih st set seen h
    unfold r8list shList ne andQ
    cases l with
    | nil =>
      simp only [List.isEmpty_nil, if_true]
      unfold shGo
      simp [shFin]
    | cons x r =>
      simp only [List.isEmpty_cons, Bool.false_eq_true, if_false]
      rw [h1]
      cases hg : (shGo u f deep w st (x :: r)).1 with
      | false => simp [hg]
      | true =>
        obtain ⟨h3, h4⟩ := h2 hg
        simp only [if_true, shFin]
        refine ⟨by simp, fun _ => ?_⟩
        rw [hideAll_eq]
        exact hidden_rl h3 h4
theorem shList_eq (u : Un) (f : Fl) (deep : Int) (w : Wh) {st : List Int} {set : List Bool} {seen : List Int} (h : Rl f.types.length st set seen) (l : List Nd) : (shList u f deep w st l).1 = (r8list u f deep w seen set l).1 :=
  ((list_rl u f _ l (Nat.lt_succ_self _)) deep w st set seen h).1.symm
theorem start_rl {k n : Nat} (h : k ≤ n) : Rl n (seens k n) (firsts k n) (iota k) := by
  refine ⟨seens_length h, firsts_length h, fun v hv => ?_, fun v hv => ?_⟩
  ·simp only [firsts, seens, List.getD_eq_getElem?_getD]
   by_cases e : v < k
   ·rw [List.getElem?_append_left (by simpa using e), List.getElem?_append_left (by simpa using e)]
    simp [List.getElem?_replicate, e]
   rw [List.getElem?_append_right (by simpa using e), List.getElem?_append_right (by simpa using e)]
   simp only [List.length_replicate, List.getElem?_replicate]
   rw [if_pos (by omega), if_pos (by omega)]
   rfl
  have hc : (iota k).contains (v : Int) = decide (v < k) := by
    simp only [iota]
    by_cases e : v < k
    ·simp [e]
     exact ⟨v, e, rfl⟩
    simp [e]
    intro x hx; omega
  rw [hc]
  simp only [seens, List.getD_eq_getElem?_getD]
  by_cases e : v < k
  ·rw [List.getElem?_append_left (by simpa using e)]
   simp [List.getElem?_replicate, e]
  rw [List.getElem?_append_right (by simpa using e)]
  simp only [List.length_replicate, List.getElem?_replicate]
  rw [if_pos (by omega)]
  simp [e]
theorem any_isTy : ∀ l : List Int, l.any (fun t => !isTy t) = !l.all (fun t => t == 1 || t == 2)
  | [] => rfl
  | t :: r => by rw [List.any_cons, List.all_cons, any_isTy r, Bool.not_and]; rfl
theorem shFlow_eq (u : Un) (f : Fl) (h0 : 0 ≤ f.params) (h1 : f.params ≤ f.types.length) : shFlow u f = r8Flow u f := by
  unfold shFlow r8Flow
  rw [shList_eq u f 1 r8where0 (start_rl (k := f.params.toNat) (by omega)) f.body]
  have e1 : decide (f.params < 0) = false := by simp; omega
  have e2 : decide (f.params > f.types.length) = false := by simp; omega
  have e3 := any_isTy f.types
  rw [e1, e2, e3]
  cases decide (f.params > 8) <;> cases decide ((f.types.length : Int) > 20000) <;> cases f.types.all (fun t => t == 1 || t == 2) <;> simp
def nmA (l : List Ar) : List (List UInt8) := l.map fun a => a.name.toList
def nmF (l : List Fl) : List (List UInt8) := l.map fun a => a.name.toList
theorem array_split (nm : ByteArray) : ∀ (pre l : List Ar) (i : Int), (nm.toList ∈ nmA pre → i ≤ r8Array nm (pre ++ l) i ∧ r8Array nm (pre ++ l) i < i + pre.length) ∧ (nm.toList ∉ nmA pre → r8Array nm (pre ++ l) i = r8Array nm l (i + pre.length))
  | [], l, i => by simp [nmA]
  | a :: pre, l, i => by
    obtain ⟨h1, h2⟩ := array_split nm pre l (i + 1)
    rw [List.cons_append, show r8Array nm (a :: (pre ++ l)) i = if (a.name.toList == nm.toList) = true then i else r8Array nm (pre ++ l) (i + 1) from rfl]
    by_cases e : a.name.toList = nm.toList
    ·have eb : (a.name.toList == nm.toList) = true := by simpa using e
     rw [if_pos eb]
     refine ⟨fun _ => ⟨Int.le_refl _, by simp; omega⟩, fun h => absurd (by simp [nmA, e]) h⟩
    have eb : ¬ (a.name.toList == nm.toList) = true := by simpa using e
    rw [if_neg eb]
    refine ⟨fun h => ?_, fun h => ?_⟩
    ·have : nm.toList ∈ nmA pre := by
       simp only [nmA, List.map_cons, List.mem_cons] at h
       exact h.resolve_left fun h => e h.symm
     have := h1 this
     simp only [List.length_cons]; omega
    have : nm.toList ∉ nmA pre := fun hm => h (by simp only [nmA, List.map_cons, List.mem_cons]; exact .inr hm)
    rw [h2 this]
    congr 1
    simp only [List.length_cons]; omega
theorem place_split (nm : ByteArray) : ∀ (pre l : List Fl) (i : Int), (nm.toList ∈ nmF pre → i ≤ r8Place nm (pre ++ l) i ∧ r8Place nm (pre ++ l) i < i + pre.length) ∧ (nm.toList ∉ nmF pre → r8Place nm (pre ++ l) i = r8Place nm l (i + pre.length))
  | [], l, i => by simp [nmF]
  | a :: pre, l, i => by
    obtain ⟨h1, h2⟩ := place_split nm pre l (i + 1)
    rw [List.cons_append, show r8Place nm (a :: (pre ++ l)) i = if (a.name.toList == nm.toList) = true then i else r8Place nm (pre ++ l) (i + 1) from rfl]
    by_cases e : a.name.toList = nm.toList
    ·have eb : (a.name.toList == nm.toList) = true := by simpa using e
     rw [if_pos eb]
     refine ⟨fun _ => ⟨Int.le_refl _, by simp; omega⟩, fun h => absurd (by simp [nmF, e]) h⟩
    have eb : ¬ (a.name.toList == nm.toList) = true := by simpa using e
    rw [if_neg eb]
    refine ⟨fun h => ?_, fun h => ?_⟩
    ·have : nm.toList ∈ nmF pre := by
       simp only [nmF, List.map_cons, List.mem_cons] at h
       exact h.resolve_left fun h => e h.symm
     have := h1 this
     simp only [List.length_cons]; omega
    have : nm.toList ∉ nmF pre := fun hm => h (by simp only [nmF, List.map_cons, List.mem_cons]; exact .inr hm)
    rw [h2 this]
    congr 1
    simp only [List.length_cons]; omega
theorem place_mem (nm : ByteArray) (l : List Fl) : r8Place nm l 0 ≥ 0 ↔ nm.toList ∈ nmF l := by
  obtain ⟨h1, h2⟩ := place_split nm l [] 0
  rw [List.append_nil] at h1 h2
  by_cases h : nm.toList ∈ nmF l
  ·exact ⟨fun _ => h, fun h => (h1 h).1⟩
  refine ⟨fun h3 => ?_, fun h4 => absurd h4 h⟩
  rw [h2 h] at h3
  simp [r8Place] at h3
theorem array_at (nm : ByteArray) (pre r : List Ar) (a : Ar) (h : a.name.toList = nm.toList) : r8Array nm (pre ++ a :: r) 0 = pre.length ↔ nm.toList ∉ nmA pre := by
  obtain ⟨h1, h2⟩ := array_split nm pre (a :: r) 0
  by_cases e : nm.toList ∈ nmA pre
  ·have := h1 e
   exact ⟨fun h => by omega, fun h => absurd e h⟩
  refine ⟨fun _ => e, fun _ => ?_⟩
  rw [h2 e]
  have eb : (a.name.toList == nm.toList) = true := by simpa using h
  rw [show r8Array nm (a :: r) (0 + pre.length) = if (a.name.toList == nm.toList) = true then (0 + pre.length : Int) else r8Array nm r (0 + pre.length + 1) from rfl, if_pos eb]
  omega
theorem place_at (nm : ByteArray) (pre r : List Fl) (a : Fl) (h : a.name.toList = nm.toList) : r8Place nm (pre ++ a :: r) 0 = pre.length ↔ nm.toList ∉ nmF pre := by
  obtain ⟨h1, h2⟩ := place_split nm pre (a :: r) 0
  by_cases e : nm.toList ∈ nmF pre
  ·have := h1 e
   exact ⟨fun h => by omega, fun h => absurd e h⟩
  refine ⟨fun _ => e, fun _ => ?_⟩
  rw [h2 e]
  have eb : (a.name.toList == nm.toList) = true := by simpa using h
  rw [show r8Place nm (a :: r) (0 + pre.length) = if (a.name.toList == nm.toList) = true then (0 + pre.length : Int) else r8Place nm r (0 + pre.length + 1) from rfl, if_pos eb]
  omega
theorem gA_iff (u : Un) : ∀ (pre l : List Ar), u.arrays = pre ++ l → (r8gA u l pre.length = true ↔ (∀ a ∈ l, shArr a = true ∧ a.name.toList ∉ nmF u.flows ∧ a.name.toList ∉ nmA pre) ∧ (nmA l).Nodup)
  | pre, [], _ => by simp [r8gA, nmA]
  | pre, a :: r, hu => by
    have ih := gA_iff u (pre ++ [a]) r (by simp [hu])
    have hlen : (((pre ++ [a]).length : Nat) : Int) = (pre.length : Int) + 1 := by simp
    rw [hlen] at ih
    rw [r8gA, Bool.and_eq_true, ih]
    have ha : gArr u a pre.length = true ↔ shArr a = true ∧ a.name.toList ∉ nmA pre ∧ a.name.toList ∉ nmF u.flows := by
      have h1 := array_at a.name pre r a rfl
      have h2 := place_mem a.name u.flows
      rw [← hu] at h1
      unfold gArr shArr
      simp only [Bool.and_eq_true, Bool.not_eq_true', decide_eq_false_iff_not, beq_iff_eq, h1, h2]
      constructor
      ·rintro ⟨⟨⟨⟨a1, a2⟩, a3⟩, a4⟩, a5⟩; exact ⟨⟨⟨a1, a2⟩, a3⟩, a4, a5⟩
      rintro ⟨⟨⟨a1, a2⟩, a3⟩, a4, a5⟩; exact ⟨⟨⟨⟨a1, a2⟩, a3⟩, a4⟩, a5⟩
    rw [ha]
    constructor
    ·rintro ⟨⟨b1, b2, b3⟩, b4, b5⟩
     refine ⟨fun x hx => ?_, ?_⟩
     ·rcases List.mem_cons.1 hx with rfl | hx
      ·exact ⟨b1, b3, b2⟩
      obtain ⟨c1, c2, c3⟩ := b4 x hx
      exact ⟨c1, c2, fun h => c3 (by simp only [nmA, List.map_append, List.mem_append]; exact .inl h)⟩
     refine List.nodup_cons.2 ⟨fun h => ?_, b5⟩
     obtain ⟨x, hx, e⟩ := List.mem_map.1 h
     exact (b4 x hx).2.2 (by simp only [nmA, List.map_append, List.mem_append, List.map_cons, List.map_nil, List.mem_singleton]; exact .inr e)
    rintro ⟨b1, b2⟩
    have b3 := List.nodup_cons.1 b2
    obtain ⟨c1, c2, c3⟩ := b1 a (.head _)
    refine ⟨⟨c1, c3, c2⟩, fun x hx => ?_, b3.2⟩
    obtain ⟨d1, d2, d3⟩ := b1 x (.tail _ hx)
    refine ⟨d1, d2, fun h => ?_⟩
    simp only [nmA, List.map_append, List.mem_append, List.map_cons, List.map_nil, List.mem_singleton] at h
    rcases h with h | h
    ·exact d3 h
    exact b3.1 (List.mem_map.2 ⟨x, hx, h⟩)
theorem gF_iff (u : Un) : ∀ (pre l : List Fl), u.flows = pre ++ l → (r8gF u l pre.length = true ↔ (∀ a ∈ l, shFlw a = true ∧ a.name.toList ∉ nmF pre) ∧ (nmF l).Nodup)
  | pre, [], _ => by simp [r8gF, nmF]
  | pre, a :: r, hu => by
    have ih := gF_iff u (pre ++ [a]) r (by simp [hu])
    have hlen : (((pre ++ [a]).length : Nat) : Int) = (pre.length : Int) + 1 := by simp
    rw [hlen] at ih
    rw [r8gF, Bool.and_eq_true, ih]
    have ha : gFlw u a pre.length = true ↔ shFlw a = true ∧ a.name.toList ∉ nmF pre := by
      have h1 := place_at a.name pre r a rfl
      rw [← hu] at h1
      unfold gFlw shFlw isTy
      simp only [Bool.and_eq_true, Bool.not_eq_true', decide_eq_false_iff_not, beq_iff_eq, h1]
      constructor
      ·rintro ⟨⟨⟨⟨a1, a2⟩, a3⟩, a4⟩, a5⟩; exact ⟨⟨⟨⟨a1, a3⟩, a4⟩, a5⟩, a2⟩
      rintro ⟨⟨⟨⟨a1, a3⟩, a4⟩, a5⟩, a2⟩; exact ⟨⟨⟨⟨a1, a2⟩, a3⟩, a4⟩, a5⟩
    rw [ha]
    constructor
    ·rintro ⟨⟨b1, b2⟩, b4, b5⟩
     refine ⟨fun x hx => ?_, ?_⟩
     ·rcases List.mem_cons.1 hx with rfl | hx
      ·exact ⟨b1, b2⟩
      obtain ⟨c1, c3⟩ := b4 x hx
      exact ⟨c1, fun h => c3 (by simp only [nmF, List.map_append, List.mem_append]; exact .inl h)⟩
     refine List.nodup_cons.2 ⟨fun h => ?_, b5⟩
     obtain ⟨x, hx, e⟩ := List.mem_map.1 h
     exact (b4 x hx).2 (by simp only [nmF, List.map_append, List.mem_append, List.map_cons, List.map_nil, List.mem_singleton]; exact .inr e)
    rintro ⟨b1, b2⟩
    have b3 := List.nodup_cons.1 b2
    obtain ⟨c1, c3⟩ := b1 a (.head _)
    refine ⟨⟨c1, c3⟩, fun x hx => ?_, b3.2⟩
    obtain ⟨d1, d3⟩ := b1 x (.tail _ hx)
    refine ⟨d1, fun h => ?_⟩
    simp only [nmF, List.map_append, List.mem_append, List.map_cons, List.map_nil, List.mem_singleton] at h
    rcases h with h | h
    ·exact d3 h
    exact b3.1 (List.mem_map.2 ⟨x, hx, h⟩)
def keysOf (es : List (Value × PV)) : List (List UInt8) := es.map fun e => match e.1 with
  | .string s => s.toList
  | _ => []
theorem mput_keysOf (s : ByteArray) (v : PV) : ∀ (es : List (Value × PV)), Cnt es → (s.toList ∈ keysOf es → keysOf (mput (.string s) v es) = keysOf es) ∧ (s.toList ∉ keysOf es → keysOf (mput (.string s) v es) = keysOf es ++ [s.toList])
  | [], _ => by simp [keysOf, mput]
  | (a, p) :: r, h => by
    have ha := h.1 (a, p) (.head _)
    have hr : Cnt r := ⟨fun e he => h.1 e (.tail _ he), fun e he => h.2 e (.tail _ he)⟩
    obtain ⟨h1, h2⟩ := mput_keysOf s v r hr
    cases a with
    | string t =>
      simp only [mput]
      by_cases e : s.toList = t.toList
      ·have eb : keyB (.string s) (.string t) = true := by simpa [keyB] using e
       rw [if_pos eb]
       exact ⟨fun _ => by simp [keysOf, e], fun h => absurd (by simp [keysOf, e]) h⟩
      have eb : ¬ keyB (.string s) (.string t) = true := by simpa [keyB] using e
      rw [if_neg eb]
      refine ⟨fun h => ?_, fun h => ?_⟩
      ·have : s.toList ∈ keysOf r := by
         simp only [keysOf, List.map_cons, List.mem_cons] at h
         exact h.resolve_left e
       have h3 := h1 this
       simp only [keysOf, List.map_cons] at h3 ⊢
       rw [h3]
      have : s.toList ∉ keysOf r := fun hm => h (by simp only [keysOf, List.map_cons, List.mem_cons]; exact .inr hm)
      have h3 := h2 this
      simp only [keysOf, List.map_cons, List.cons_append] at h3 ⊢
      rw [h3]
    | _ => simp [isKeyB] at ha
theorem bump_keysOf (s : ByteArray) {es : List (Value × PV)} (h : Cnt es) : (s.toList ∈ keysOf es → keysOf (bump s es) = keysOf es) ∧ (s.toList ∉ keysOf es → keysOf (bump s es) = keysOf es ++ [s.toList]) := by
  obtain ⟨n, hn⟩ := h.find (.string s)
  rw [bump_eq hn]
  exact mput_keysOf s _ es h
def countN (es : List (Value × PV)) (l : List ByteArray) : List (Value × PV) := l.foldl (fun e s => bump s e) es
def nmS (l : List ByteArray) : List (List UInt8) := l.map ByteArray.toList
theorem countN_len : ∀ (l : List ByteArray) (es : List (Value × PV)), Cnt es → (keysOf (countN es l)).length ≤ (keysOf es).length + l.length ∧
    ((keysOf (countN es l)).length = (keysOf es).length + l.length ↔ (∀ s ∈ l, s.toList ∉ keysOf es) ∧ (nmS l).Nodup)
  | [], es, _ => by simp [countN, nmS]
  | s :: r, es, h => by
    obtain ⟨ih1, ih2⟩ := countN_len r (bump s es) (h.bump s)
    obtain ⟨h1, h2⟩ := bump_keysOf s h
    show (keysOf (countN (bump s es) r)).length ≤ _ ∧ ((keysOf (countN (bump s es) r)).length = _ ↔ _)
    by_cases e : s.toList ∈ keysOf es
    ·rw [h1 e] at ih1
     refine ⟨by simp only [List.length_cons]; omega, fun hl => by simp only [List.length_cons] at hl; omega, fun hb => absurd e (hb.1 s (.head _))⟩
    have hk := h2 e
    rw [hk] at ih1 ih2
    simp only [List.length_append, List.length_cons, List.length_nil] at ih1 ih2 ⊢
    refine ⟨by omega, ?_⟩
    rw [show (keysOf es).length + (r.length + 1) = (keysOf es).length + (0 + 1) + r.length by omega, ih2]
    constructor
    ·rintro ⟨b1, b2⟩
     refine ⟨fun x hx => ?_, List.nodup_cons.2 ⟨fun hm => ?_, b2⟩⟩
     ·rcases List.mem_cons.1 hx with rfl | hx
      ·exact e
      exact fun hm => b1 x hx (List.mem_append.2 (.inl hm))
     obtain ⟨x, hx, he⟩ := List.mem_map.1 hm
     exact b1 x hx (by rw [he]; simp)
    rintro ⟨b1, b2⟩
    have b3 := List.nodup_cons.1 b2
    refine ⟨fun x hx hm => ?_, b3.2⟩
    rcases List.mem_append.1 hm with hm | hm
    ·exact b1 x (.tail _ hx) hm
    exact b3.1 (List.mem_map.2 ⟨x, hx, by simpa using hm⟩)
theorem count_iff (u : Un) : ((countF (countA [] u.arrays) u.flows).length : Int) = u.arrays.length + u.flows.length ↔ (nmA u.arrays ++ nmF u.flows).Nodup := by
  have e : countF (countA [] u.arrays) u.flows = countN [] (u.arrays.map Ar.name ++ u.flows.map Fl.name) := by
    simp only [countF, countA, countN, List.foldl_append, List.foldl_map]
  have hn : nmS (u.arrays.map Ar.name ++ u.flows.map Fl.name) = nmA u.arrays ++ nmF u.flows := by
    simp only [nmS, nmA, nmF, List.map_append, List.map_map]
    rfl
  obtain ⟨_, h2⟩ := countN_len (u.arrays.map Ar.name ++ u.flows.map Fl.name) [] .nil
  rw [e]
  simp only [keysOf, List.length_map, List.length_append, List.length_nil, Nat.zero_add] at h2
  rw [← hn]
  constructor
  ·intro h; exact (h2.1 (by omega)).2
  intro h
  have := h2.2 ⟨fun s _ => by simp, h⟩
  omega
theorem shHead_eq (u : Un) : shHead u = r8globals u := by
  have hA := gA_iff u [] u.arrays rfl
  have hF := gF_iff u [] u.flows rfl
  simp only [List.length_nil] at hA hF
  rw [Bool.eq_iff_iff]
  unfold shHead r8globals
  simp only [Bool.and_eq_true, List.all_eq_true, beq_iff_eq, count_iff]
  rw [show ((0 : Nat) : Int) = 0 from rfl] at hA hF
  rw [hA, hF, List.nodup_append]
  constructor
  ·rintro ⟨⟨⟨a1, a2⟩, a3, a4, a5⟩, a6⟩
   exact ⟨⟨⟨fun a ha => ⟨a1 a ha, fun hm => a5 _ (List.mem_map.2 ⟨a, ha, rfl⟩) _ hm rfl, by simp [nmA]⟩, a3⟩, fun f hf => ⟨a2 f hf, by simp [nmF]⟩, a4⟩, a6⟩
  rintro ⟨⟨⟨a1, a3⟩, a2, a4⟩, a6⟩
  refine ⟨⟨⟨fun a ha => (a1 a ha).1, fun f hf => (a2 f hf).1⟩, a3, a4, fun x hx y hy e => ?_⟩, a6⟩
  obtain ⟨a, ha, rfl⟩ := List.mem_map.1 hx
  exact (a1 a ha).2.1 (e ▸ hy)
theorem shflows_eq (u : Un) : ∀ (l : List Fl) (i : Int), (∀ f ∈ l, 0 ≤ f.params ∧ f.params ≤ f.types.length) → shflows u l i = r8flows u l i
  | [], _, _ => rfl
  | f :: r, i, h => by
    obtain ⟨h1, h2⟩ := h f (.head _)
    simp only [shflows, r8flows, shFlow_eq u f h1 h2, shflows_eq u r (i + 1) (fun f hf => h f (.tail _ hf))]
theorem shCheck_eq (u : Un) : shCheck u = r8Check u := by
  unfold shCheck r8Check
  rw [shHead_eq]
  cases h : r8globals u with
  | false => rfl
  | true => simp only [if_true]; exact shflows_eq u _ _ (r8globals_params h)
theorem Nd.enc_len (x : Nd) : x.enc.length = 8 := by rw [Nd.enc_eq, Nd.cells_eta]; rfl
theorem Nd.enc_one (x : Nd) : ∀ y ∈ x.enc, y.one = true := by
  rw [Nd.enc_eq, Nd.cells_eta]
  intro y hy
  simp only [List.mem_cons, List.not_mem_nil, or_false] at hy
  rcases hy with rfl | rfl | rfl | rfl | rfl | rfl | rfl | rfl <;> rfl
theorem hw_node {l : List Nd} : ∀ el ∈ l.map Nd.enc, el.length = 8 := by
  intro el hel
  obtain ⟨x, _, rfl⟩ := List.mem_map.1 hel
  exact x.enc_len
theorem hone_node {l : List Nd} : ∀ el ∈ l.map Nd.enc, ∀ x ∈ el, x.one = true := by
  intro el hel
  obtain ⟨x, _, rfl⟩ := List.mem_map.1 hel
  exact x.enc_one
def tot : List (List Nd) → Nat
  | [] => 0
  | l :: r => l.length + tot r
theorem tot_flatten : ∀ ks : List (List Nd), ks.flatten.length = tot ks
  | [] => rfl
  | l :: r => by simp [tot, tot_flatten r]
def hmless (x : Nd) : Bool := x.kind == 1 || x.kind == 2 || x.kind == 3 || (x.kind == 4 && x.op != 4 && x.op != 5)
def vKey (v : Int) : Value := .int .i64 v
def vsOf (l : List Int) : List (Value × PV) := l.foldl (fun e v => mput (vKey v) (.agg []) e) []
def VSet (es : List (Value × PV)) : Prop := (∀ e ∈ es, isKeyB (.int .i64) e.1 = true) ∧ ∀ e ∈ es, e.2 = .agg []
theorem VSet.nil : VSet [] := ⟨fun _ h => by simp at h, fun _ h => by simp at h⟩
theorem VSet.put {es : List (Value × PV)} (h : VSet es) (v : Int) : VSet (mput (vKey v) (.agg []) es) := by
  refine ⟨fun e he => ?_, fun e he => ?_⟩
  ·rcases mput_mem he with rfl | he
   ·rfl
   exact h.1 e he
  rcases mput_mem he with rfl | he
  ·rfl
  exact h.2 e he
theorem vsOf_snoc (l : List Int) (v : Int) : mput (vKey v) (.agg []) (vsOf l) = vsOf (l ++ [v]) := by simp [vsOf]
theorem VSet.of (l : List Int) : VSet (vsOf l) := by
  have key : ∀ (l : List Int) (es : List (Value × PV)), VSet es → VSet (l.foldl (fun e v => mput (vKey v) (.agg []) e) es) := by
    intro l
    induction l with
    | nil => exact fun _ h => h
    | cons v r ih => exact fun es h => ih _ (h.put v)
  exact key l [] .nil
theorem mfind_put (k k' : Int) (p : PV) : ∀ (es : List (Value × PV)), VSet es → mfind (vKey k) (mput (vKey k') p es) = if k = k' then some p else mfind (vKey k) es
  | [], _ => by
    simp only [mput, mfind]
    by_cases e : k = k'
    ·simp [e, vKey, keyB]
    simp [e, vKey, keyB]
  | (a, q) :: r, h => by
    have ha := h.1 (a, q) (.head _)
    have hr : VSet r := ⟨fun e he => h.1 e (.tail _ he), fun e he => h.2 e (.tail _ he)⟩
    have ih := mfind_put k k' p r hr
    cases a with
    | int kk z =>
      simp only [mput]
      by_cases e1 : k' = z
      ·have b1 : keyB (vKey k') (.int kk z) = true := by simp [vKey, keyB, e1]
       rw [if_pos b1]
       simp only [mfind]
       by_cases e : k = k'
       ·simp [e, vKey, keyB]
       have b2 : ¬ keyB (vKey k) (vKey k') = true := by simp [vKey, keyB, e]
       have b3 : ¬ keyB (vKey k) (.int kk z) = true := by simp [vKey, keyB]; omega
       rw [if_neg b2, if_neg e, if_neg b3]
      have b1 : ¬ keyB (vKey k') (.int kk z) = true := by simp [vKey, keyB, e1]
      rw [if_neg b1]
      simp only [mfind, ih]
      by_cases e : k = z
      ·have b3 : keyB (vKey k) (.int kk z) = true := by simp [vKey, keyB, e]
       rw [if_pos b3, if_neg (by omega), if_pos b3]
      have b3 : ¬ keyB (vKey k) (.int kk z) = true := by simp [vKey, keyB, e]
      rw [if_neg b3, if_neg b3]
    | _ => simp [isKeyB] at ha
theorem vsOf_has (l : List Int) (v : Int) : (mfind (vKey v) (vsOf l)).isSome = l.contains v := by
  have key : ∀ (l : List Int) (es : List (Value × PV)), VSet es → (mfind (vKey v) (l.foldl (fun e v => mput (vKey v) (.agg []) e) es)).isSome = ((mfind (vKey v) es).isSome || l.contains v) := by
    intro l
    induction l with
    | nil => intro es _; simp
    | cons a r ih =>
      intro es h
      rw [List.foldl_cons, ih _ (h.put a), mfind_put _ _ _ _ h, List.contains_cons]
      by_cases e : v = a
      ·simp [e]
      have eb : (v == a) = false := by simpa using e
      rw [if_neg e, eb, Bool.false_or]
  have := key l [] .nil
  simpa [vsOf, mfind] using this
theorem unit_sub {F : Nat → Prop} {ρ : Loc} {σ : Heap'} {w : World} {v : Value} {k : Value} {es : List (Value × PV)} (h : VSet es) (hr : RepI F ρ σ w (.pv ((mfind k es).getD (.val (.agg #[])))) v) : RepI F ρ σ w (.pv (.agg [])) v := by
  cases hf : mfind k es with
  | none =>
    rw [hf] at hr
    obtain rfl := hr.val
    exact .pv _ _ (.agg [] #[] (fun _ => undef) rfl (fun j x hj => by simp at hj) fun j x hj => by simp at hj)
  | some p =>
    obtain ⟨a, ha⟩ := mfind_mem hf
    have := h.2 _ ha
    simp only at this
    subst this
    rw [hf] at hr
    exact hr
def hPart (vs : List Int) : List Nd → List Nd × List Nd
  | [] => ([], [])
  | x :: r =>
    if hmless x then
      if x.args.any (fun v => vs.contains v) then ((hPart (vs ++ [x.outs.headD 0]) r).1, x :: (hPart (vs ++ [x.outs.headD 0]) r).2)
      else (x :: (hPart vs r).1, (hPart vs r).2)
    else ([], x :: r)
theorem hPart_len : ∀ (l : List Nd) (vs : List Int), (hPart vs l).1.length + (hPart vs l).2.length = l.length
  | [], _ => rfl
  | x :: r, vs => by
    unfold hPart
    split
    ·split
     ·have := hPart_len r (vs ++ [x.outs.headD 0]); simp only [List.length_cons]; omega
     have := hPart_len r vs; simp only [List.length_cons]; omega
    simp
theorem enc_snoc (l : List Nd) (x : Nd) : (l ++ [x]).map Nd.enc = l.map Nd.enc ++ [[vInt x.kind, vInt x.op, vInt x.n, vStr x.name, ints x.args, ints x.outs, ints x.params, kids x.kids]] := by
  rw [List.map_append, List.map_cons, List.map_nil, Nd.enc_eq, Nd.cells_eta]
theorem hone_cells (x : Nd) : ∀ el ∈ chunks 8 1 [vInt x.kind, vInt x.op, vInt x.n, vStr x.name, ints x.args, ints x.outs, ints x.params, kids x.kids], ∀ y ∈ el, y.one = true := by
  intro el hel
  have : el = x.enc := by
    rw [Nd.enc_eq, Nd.cells_eta]
    exact List.mem_singleton.1 hel
  subst this
  exact x.enc_one
theorem hone_cells8 (a b c : Int) (s : ByteArray) (l1 l2 l3 : List Int) (ks : List (List Nd)) : ∀ el ∈ chunks 8 1 [vInt a, vInt b, vInt c, vStr s, ints l1, ints l2, ints l3, kids ks], ∀ y ∈ el, y.one = true := hone_cells (.mk a b c s l1 l2 l3 ks)
def qS (l : List UInt8) (all : List Int) (g1 : Gn) (m1 : Nat) : Nd × Gn := gSimple l all { g1 with left := m1 }
def qK (l : List UInt8) (all : List Int) (g1 : Gn) (m1 : Nat) : Nat × Gn := gPick l 6 (qS l all g1 m1).2
def qT (l : List UInt8) (all : List Int) (g1 : Gn) (m1 : Nat) : List Int × Gn := gTypes l (qK l all g1 m1).2
def qC (l : List UInt8) (all : List Int) (g1 : Gn) (m1 : Nat) : List Int × Gn := gEach l all [2] (qT l all g1 m1).2
def qP (l : List UInt8) (all : List Int) (g1 : Gn) (m1 : Nat) (p : Plc) : Plc := ⟨true, p.Loop, (qT l all g1 m1).1, p.Next, p.Left⟩
def qA (l : List UInt8) (m : Nat) (all : List Int) (p : Plc) (g1 : Gn) (m1 : Nat) : List Nd × Gn := gList l m all (qP l all g1 m1 p) (qC l all g1 m1).2
def qB (l : List UInt8) (m : Nat) (all : List Int) (p : Plc) (g1 : Gn) (m1 : Nat) : List Nd × Gn := gList l m all (qP l all g1 m1 p) (qA l m all p g1 m1).2
def qO (l : List UInt8) (all : List Int) (g1 : Gn) (m1 : Nat) : List Int × Gn := gTypes l (qT l all g1 m1).2
def qE (l : List UInt8) (all : List Int) (g1 : Gn) (m1 : Nat) : List Int × Gn := gEach l all (qT l all g1 m1).1 (qO l all g1 m1).2
def qQ (l : List UInt8) (all : List Int) (g1 : Gn) (m1 : Nat) : List Int × Gn := gOuts (qT l all g1 m1).1 (qE l all g1 m1).2
def qL (l : List UInt8) (all : List Int) (g1 : Gn) (m1 : Nat) : Plc := ⟨false, true, [], (qT l all g1 m1).1, (qO l all g1 m1).1⟩
def qD (l : List UInt8) (m : Nat) (all : List Int) (g1 : Gn) (m1 : Nat) : List Nd × Gn := gList l m (all ++ (qQ l all g1 m1).1) (qL l all g1 m1) (qQ l all g1 m1).2
def gHr (k : Nat) (l : List UInt8) (g : Gn) (seen : List Int) : List (Nat × HO) := [(2001, genBox l g), (2002, rowI g.types), (k, rowI seen)]
theorem sc_gEachA (l : List UInt8) (seen ts : List Int) (g : Gn) (hs : InR g.types seen) (hb : g.pos + ts.length ≤ 1000000) (hsl : seen.length ≤ 1000000) : SC Tryz.prog 52 [.ptr 2001 0, .sl 2010 (seen.map eInt).length, .pv (ints ts)] (gHr 2010 l g seen) (fun _ => False) (.pv (ints (gEach l seen ts g).1)) (gHr 2010 l (gEach l seen ts g).2 seen) := SC.sw 2003 2010 (sc_gEach l seen ts g hs hb hsl)
theorem sc_gSimpleA (l : List UInt8) (seen : List Int) (g : Gn) (hs : InR g.types seen) (hb : g.pos ≤ 999980) (hbt : g.types.length ≤ 999990) (hsl : seen.length ≤ 1000000) : SC Tryz.prog 50 [.ptr 2001 0, .sl 2010 (seen.map eInt).length] (gHr 2010 l g seen) (fun _ => False) (.pv (ndv (gSimple l seen g).1)) (gHr 2010 l (gSimple l seen g).2 seen) := SC.sw 2003 2010 (sc_gSimple l seen g hs hb hbt hsl)
theorem sc_gEndA (l : List UInt8) (seen : List Int) (p : Plc) (g : Gn) (hs : InR g.types seen) (hb : g.pos ≤ 999980) (hsl : seen.length ≤ 1000000) (hp : p.small) : SC Tryz.prog 54 [.ptr 2001 0, .sl 2010 (seen.map eInt).length, .pv (plcv p)] (gHr 2010 l g seen) (fun _ => False) (.pv (ndv (gEnd l seen p g).1)) (gHr 2010 l (gEnd l seen p g).2 seen) := SC.sw 2003 2010 (sc_gEnd l seen p g hs hb hsl hp.1 hp.2.1 hp.2.2)
def LSCg (l : List UInt8) (d : Nat) : Prop := ∀ (seen : List Int) (p : Plc) (g : Gn), InR g.types seen → p.small → g.pos + 60 * g.left ≤ 900000 → g.types.length + 10 * g.left ≤ 900000 → seen.length + 10 * g.left ≤ 900000 →
  SC Tryz.prog 36 [.ptr 2001 0, .sl 2003 (seen.map eInt).length, .pv (plcv p), iInt (d : Int)] (gHs l g seen) (fun _ => False) (.pv (nodes (gList l d seen p g).1)) (gHs l (gList l d seen p g).2 seen)
theorem LSCg.at2010 {l : List UInt8} {d : Nat} (h : LSCg l d) (seen : List Int) (p : Plc) (g : Gn) (h1 : InR g.types seen) (h2 : p.small) (h3 : g.pos + 60 * g.left ≤ 900000) (h4 : g.types.length + 10 * g.left ≤ 900000) (h5 : seen.length + 10 * g.left ≤ 900000) :
    SC Tryz.prog 36 [.ptr 2001 0, .sl 2010 (seen.map eInt).length, .pv (plcv p), iInt (d : Int)] (gHr 2010 l g seen) (fun _ => False) (.pv (nodes (gList l d seen p g).1)) (gHr 2010 l (gList l d seen p g).2 seen) := SC.sw 2003 2010 (h seen p g h1 h2 h3 h4 h5)
theorem LSCg.at2019 {l : List UInt8} {d : Nat} (h : LSCg l d) (seen : List Int) (p : Plc) (g : Gn) (h1 : InR g.types seen) (h2 : p.small) (h3 : g.pos + 60 * g.left ≤ 900000) (h4 : g.types.length + 10 * g.left ≤ 900000) (h5 : seen.length + 10 * g.left ≤ 900000) :
    SC Tryz.prog 36 [.ptr 2001 0, .sl 2019 (seen.map eInt).length, .pv (plcv p), iInt (d : Int)] (gHr 2019 l g seen) (fun _ => False) (.pv (nodes (gList l d seen p g).1)) (gHr 2019 l (gList l d seen p g).2 seen) := SC.sw 2003 2019 (h seen p g h1 h2 h3 h4 h5)
theorem sc_gList0 (l : List UInt8) (d : Nat) (hd3 : d ≤ 100) (ih : ∀ m, d = m + 1 → LSCg l m) (seen : List Int) (p : Plc) (g : Gn) (hs : InR g.types seen) (hp : p.small) (hb1 : g.pos + 60 * g.left ≤ 900000) (hb2 : g.types.length + 10 * g.left ≤ 900000) (hb3 : seen.length + 10 * g.left ≤ 900000) : SC Tryz.prog 36 [.ptr 2001 0, .sl 2003 (seen.map eInt).length, .pv (plcv p), iInt (d : Int)] (gHs l g seen) (fun _ => False) (.pv (nodes (gList l d seen p g).1)) (gHs l (gList l d seen p g).2 seen) := by
  refine SC.of Tryz.func36 rfl (lb rfl) fun F ρ w => ?_
  have h6 : (gPick l 6 g).1 < 6 := gPick_lt (by omega)
  have hsl0 : (seen.map eInt).length = seen.length := by simp
  refine tQ <| tG <| cE rfl (ok_box rfl rfl) <| sm 1 rfl <| nL <| tQ <| tG <| sm 1 rfl <| nL <| tQ <| tG <| sm 1 rfl ?_
  refine nL <| tQ <| Tr.grow (t := 10) (k := 2010) ⟨3, 1⟩ rfl rfl rfl rfl rfl <| tG <| sm 2 rfl ?_
  refine cE rfl (ok_append_row rfl rfl rfl rfl rfl rfl rfl (by simp) uT35 tB3 (by decide) hw_int hone_int (by simp [maxLen]; omega) (by simp; omega)) ?_
  refine sm 1 rfl <| nL <| tQ <| tQ <| Tr.grow (t := 9) (k := 109) ⟨42, 8⟩ rfl rfl rfl rfl rfl <| tG <| sm 1 rfl <| cE rfl (ocr (sc_gPick l 6 g (by omega) (by omega)) ent49 rfl (po2 rfl rfl) rfl (fun k (h : _) => .inr h) rfl rfl) <| sm 1 rfl <| nL <| tBk <| Tr.sub (Sub.of (fr' := [(11, iInt (((gPick l 6 g).1 : Nat) : Int)), (10, .sl 2010 (seen.map eInt).length), (9, .sl 109 (([] : List Nd).map Nd.enc).length), (6, .pv (.ept [vBool p.If, vBool p.Loop, ints p.Yield, ints p.Next, ints p.Left] 0)), (0, .ptr 2001 0), (3, iInt (d : Int))]) ⟨rfl, congrArg (fun z => some (IV.sl _ z)) (by simp), rfl, rfl, rfl, rfl, trivial⟩) ?_
  refine Tr.heap (σ' := look [(109, some (.row ⟨42, 8⟩ (([] : List Nd).map Nd.enc))), (2010, some (rowI seen)), (2001, some (genBox l (gPick l 6 g).2)), (2002, some (rowI (gPick l 6 g).2.types)), (2003, some (rowI seen))]) (lkq [109, 2010, 2001, 2002, 2003] rfl rfl ⟨rfl, (congrArg (fun z => some (HO.row _ z)) (by simp)), rfl, rfl, rfl, trivial⟩) ?_
  refine Tr.loop (fun fr σ m => ∃ (n : Nat) (out : List Nd) (all : List Int) (g1 : Gn), (gNodes l (gRec l d) p n out all g1 = gList l d seen p g) ∧ (InR g1.types all) ∧ (g1.pos + 60 * g1.left ≤ 900001) ∧ (g1.types.length + 10 * g1.left ≤ 900000) ∧ (all.length + 10 * g1.left ≤ 900000) ∧ (out.length + n ≤ 5) ∧ fr = [(11, iInt ((n : Nat) : Int)), (10, .sl 2010 (all.map eInt).length), (9, .sl 109 (out.map Nd.enc).length), (6, .pv (.ept [vBool p.If, vBool p.Loop, ints p.Yield, ints p.Next, ints p.Left] 0)), (0, .ptr 2001 0), (3, iInt (d : Int))] ∧ σ = look [(109, some (.row ⟨42, 8⟩ (out.map Nd.enc))), (2010, some (rowI all)), (2001, some (genBox l g1)), (2002, some (rowI g1.types)), (2003, some (rowI seen))] ∧ m = n + 1) (n := (gPick l 6 g).1 + 1) ?_ ?_
  ·exact ⟨(gPick l 6 g).1, ([] : List Nd), seen, (gPick l 6 g).2, (gList_eq l d seen p g).symm, hs, (by simp only [gPick]; omega), hb2, hb3, (by simp; omega), rfl, rfl, rfl⟩
  rintro fr σ m ⟨n, out, all, g1, hI, hIn, hIp, hIt, hIa, hIo, rfl, rfl, rfl⟩
  refine tQ <| tQ <| tG <| sm 3 rfl ?_
  refine wS 27 rfl (fun hb27 => ?_) fun hb27 => ?_
  ·refine sm 1 rfl <| yV rfl rfl (nCk rfl rfl rfl) <| sm 4 rfl <| nL ?_
   refine tC rfl (fun hc33 => ?_) fun hc33 => ?_
   ·refine tSk <| tQ <| tBk <| tQ ?_
    have hn0 : 0 < n := by simpa using hb27
    obtain ⟨n1, rfl⟩ : ∃ n1, n = n1 + 1 := ⟨n - 1, by omega⟩
    have hl0 : 0 < g1.left := by simpa using hc33
    have hleft : ¬ g1.left = 0 := by omega
    obtain ⟨m1, hm1⟩ : ∃ m1, g1.left = m1 + 1 := ⟨g1.left - 1, by omega⟩
    have hXb := bd_any l (gRec_bd l d) all p hp g1 hl0
    have hXo := any_outs l (rec := gRec l d) all p g1
    have hXl : (gAny l (gRec l d) all p g1).2.left + 1 ≤ g1.left := any_left l (gRec_bd l d) all p hp g1 hl0
    refine tG <| sm 2 rfl <| cV rfl (nCk rfl rfl rfl) <| sm 2 rfl <| cV rfl (oB rfl rfl (i64_sub rfl (by omega))) <| cV rfl (nCk rfl rfl rfl) <| sm 1 rfl <| c0 (sBx rfl rfl rfl rfl ((fun h => h)) tS3 (rfl) (lb rfl)) <| nL <| tQ <| Tr.heap (σ' := look [(109, some (.row ⟨42, 8⟩ (out.map Nd.enc))), (2010, some (rowI all)), (2001, some (genBox l { g1 with left := m1 })), (2002, some (rowI { g1 with left := m1 }.types)), (2003, some (rowI seen))]) (lkq [2001, 109, 2010, 2002, 2003] rfl rfl ⟨(by exact congrArg (fun z => some (HO.box [.pv (bts l), iInt (g1.pos : Int), .sl 2002 (g1.types.map eInt).length, iInt z])) (by show (g1.left : Int) - 1 = (m1 : Int); omega)), rfl, rfl, rfl, rfl, trivial⟩) <| tG ?_
    refine sm 2 rfl <| cE rfl (ocr (sc_gSimpleA l all { g1 with left := m1 } hIn (by show g1.pos ≤ 999980; omega) (by show g1.types.length ≤ 999990; omega) (by omega)) ent50 rfl (po3 rfl rfl rfl) rfl (fun k (h : _) => .inr h) rfl rfl) <| cE rfl (aLc (k := 112) rfl tZ42 rfl rfl rfl rfl) <| c0 (sBA rfl rfl rfl rfl rfl ((fun h => h)) tS42 (flk rfl) (lb rfl)) <| nL <| tQ ?_
    have e2 : ({ g1 with left := g1.left - 1 } : Gn) = { g1 with left := m1 } := by rw [hm1]; rfl
    have hSb : Bd 4 1 { g1 with left := m1 } (qS l all g1 m1).2 := bd_simple l all { g1 with left := m1 }
    have hS1 := hSb.ps
    have hS2 := hSb.t1
    have hS3 := hSb.t2
    have hS4 := hSb.lf
    have hKb : Bd 1 0 (qS l all g1 m1).2 (qK l all g1 m1).2 := bd_pick l 6 (qS l all g1 m1).2
    have hK1 := hKb.ps
    have hK2 := hKb.t1
    have hK3 := hKb.t2
    have hK4 := hKb.lf
    dsimp only at hS1 hS2 hS3 hS4
    refine tG <| sm 1 rfl <| cE rfl (ocr (sc_gPick l 6 (qS l all g1 m1).2 (by omega) (by omega)) ent49 rfl (po2 rfl rfl) rfl (fun k (h : _) => .inr h) rfl rfl) <| sm 1 rfl <| nL <| tQ ?_
    refine Tr.cut (fr' := [(12, .ptr 112 0), (11, iInt ((n1 + 1 : Nat) : Int)), (10, .sl 2010 (all.map eInt).length), (9, .sl 109 (out.map Nd.enc).length), (6, .pv (.ept [vBool p.If, vBool p.Loop, ints p.Yield, ints p.Next, ints p.Left] 0)), (0, .ptr 2001 0), (3, iInt (d : Int))]) (σ' := look [(112, some (.box [.pv (vInt (gAny l (gRec l d) all p g1).1.kind), .pv (vInt (gAny l (gRec l d) all p g1).1.op), .pv (vInt (gAny l (gRec l d) all p g1).1.n), .pv (vStr (gAny l (gRec l d) all p g1).1.name), .pv (ints (gAny l (gRec l d) all p g1).1.args), .pv (ints (gAny l (gRec l d) all p g1).1.outs), .pv (ints (gAny l (gRec l d) all p g1).1.params), .pv (kids (gAny l (gRec l d) all p g1).1.kids)])), (109, some (.row ⟨42, 8⟩ (out.map Nd.enc))), (2010, some (rowI all)), (2001, some (genBox l (gAny l (gRec l d) all p g1).2)), (2002, some (rowI (gAny l (gRec l d) all p g1).2.types)), (2003, some (rowI seen))]) ?_ ?_
    ·refine tBk <| tQ <| tG <| sm 3 rfl ?_
     refine wS 52 rfl (fun hb52 => ?_) fun hb52 => ?_
     ·refine sm 4 rfl <| nL ?_
      refine tC rfl (fun hc49 => ?_) fun hc49 => ?_
      ·have hk0 : (gPick l 6 (qS l all g1 m1).2).1 = 0 := by simp at hb52; omega
       obtain ⟨m, rfl⟩ : ∃ m, d = m + 1 := ⟨d - 1, by simp at hc49; omega⟩
       obtain ⟨hTb, hTl⟩ : Bd 3 0 (qK l all g1 m1).2 (qT l all g1 m1).2 ∧ (qT l all g1 m1).1.length ≤ 2 := bd_types l (qK l all g1 m1).2
       have hT1 := hTb.ps
       have hT2 := hTb.t1
       have hT3 := hTb.t2
       have hT4 := hTb.lf
       have hXP : Plc.small (qP l all g1 m1 p) := ⟨hTl, hp.2.1, hp.2.2⟩
       have hCb : Bd 1 0 (qT l all g1 m1).2 (qC l all g1 m1).2 := bd_each l all [2] (qT l all g1 m1).2
       have hC1 := hCb.ps
       have hC2 := hCb.t1
       have hC3 := hCb.t2
       have hC4 := hCb.lf
       have hAb : Bd 4 0 (qC l all g1 m1).2 (qA l m all p g1 m1).2 := bd_list l m all (qP l all g1 m1 p) (qC l all g1 m1).2 hXP
       have hA1 := hAb.ps
       have hA2 := hAb.t1
       have hA3 := hAb.t2
       have hA4 := hAb.lf
       have hBb : Bd 4 0 (qA l m all p g1 m1).2 (qB l m all p g1 m1).2 := bd_list l m all (qP l all g1 m1 p) (qA l m all p g1 m1).2 hXP
       have hB1 := hBb.ps
       have hB2 := hBb.t1
       have hB3 := hBb.t2
       have hB4 := hBb.lf
       refine tQ <| tG <| sm 1 rfl <| cE rfl (ocr (sc_gTypes l (qK l all g1 m1).2 (by omega)) ent51 rfl (po2 rfl rfl) rfl (fun k (h : _) => .inr h) rfl rfl) <| sm 1 rfl <| nL <| tQ <| tG <| sm 7 rfl <| cV rfl (bPu rfl rfl tZ74 tP74 rfl (fbk rfl) rfl) <| cE rfl (aLc (k := 115) rfl tZ74 rfl rfl rfl rfl) <| c0 (sBA rfl rfl rfl rfl rfl ((fun h => h)) tS74 (flk rfl) (lb rfl)) ?_
       refine nL <| tQ <| Tr.freezeBox (t := 15) (k := 115) rfl rfl rfl <| tG <| sm 2 rfl <| cE rfl (bSl rfl rfl uT35 tZ3 tS3 rfl rfl rfl rfl (fbk rfl) rfl) ?_
       refine cE rfl (ocr (sc_gEachA l all [2] (qT l all g1 m1).2 (hIn.mono (by omega)) (by simp only [List.length_cons, List.length_nil]; omega) (by omega)) ent52 rfl (po3 rfl rfl rfl) rfl (fun k (h : _) => .inr h) rfl rfl) ?_
       refine cV rfl (bPu rfl rfl tZ42 tP42 rfl (fbk rfl) rfl) <| c0 (sBA rfl rfl rfl rfl rfl ((fun h => h)) tS42 (flk rfl) (lb rfl)) <| nL <| tQ <| Tr.fixNil (k := 112) rfl (fun h => h) <| tG <| sm 2 rfl <| cV rfl (lEA rfl rfl Tryz.underlying74 rfl tS74 (lb rfl)) <| sm 1 rfl <| cV rfl (oB rfl rfl (i64_sub rfl (by omega))) <| cE rfl (cRr ((ih m rfl).at2010 all (qP l all g1 m1 p) (qC l all g1 m1).2 (hIn.mono (by omega)) hXP (by omega) (by omega) (by omega)) ent36 rfl rfl (sSm rfl (sSm rfl (sSm rfl (sSm (congrArg (fun z => iInt z) (by omega)) Subs.nil)))) (po3 rfl rfl rfl) (by rfl) (fun k (h : _) => .inr h) rfl (by rfl)) <| sm 1 rfl ?_
       refine nL <| tQ <| tG <| sm 3 rfl <| cV rfl (lEA rfl rfl Tryz.underlying74 rfl tS74 (lb rfl)) <| sm 1 rfl <| cV rfl (oB rfl rfl (i64_sub rfl (by omega))) <| cE rfl (cRr ((ih m rfl).at2010 all (qP l all g1 m1 p) (qA l m all p g1 m1).2 (hIn.mono (by omega)) hXP (by omega) (by omega) (by omega)) ent36 rfl rfl (sSm rfl (sSm rfl (sSm rfl (sSm (congrArg (fun z => iInt z) (by omega)) Subs.nil)))) (po3 rfl rfl rfl) (by rfl) (fun k (h : _) => .inr h) rfl (by rfl)) <| cE rfl (bSl rfl rfl uT40 tZ43 tS43 rfl rfl rfl rfl (fbk rfl) rfl) <| sm 1 rfl <| c0 (sBx rfl rfl rfl rfl ((fun h => h)) tS40 (rfl) (lb rfl)) <| nL ?_
       refine tQ <| tG <| cV rfl (lBP rfl rfl rfl uT42 rfl tS42 (lb rfl) rfl trivial) <| cE rfl (ocq (sc_r8Closed (.mk 10 0 0 nName (qC l all g1 m1).1 [] [] [(qA l m all p g1 m1).1, (qB l m all p g1 m1).1] : Nd)) ent53 rfl rfl) <| sm 1 rfl <| nL ?_
       refine tC rfl (fun hc88 => ?_) fun hc88 => ?_
       ·have hX : gAny l (gRec l (m + 1)) all p g1 = ((.mk 10 0 0 nName (qC l all g1 m1).1 (gOuts (qT l all g1 m1).1 (qB l m all p g1 m1).2).1 [] [(qA l m all p g1 m1).1, (qB l m all p g1 m1).1] : Nd), (gOuts (qT l all g1 m1).1 (qB l m all p g1 m1).2).2) := by
          have hcl : r8Closed (.mk 10 0 0 nName (qC l all g1 m1).1 [] [] [(qA l m all p g1 m1).1, (qB l m all p g1 m1).1] : Nd) = false := by simpa using hc88
          unfold gAny
          simp only [gRec, e2]
          exact (if_pos hk0).trans (if_neg (fun h => Bool.noConfusion (hcl.symm.trans h)))
        refine tG <| sm 2 rfl <| cE rfl (ocr (sc_gOuts l (qT l all g1 m1).1 (qB l m all p g1 m1).2 (by omega)) ent34 rfl (po2 rfl rfl) rfl (fun k (h : _) => .inr h) rfl rfl) <| sm 1 rfl <| c0 (sBx rfl rfl rfl rfl ((fun h => h)) tS35 (rfl) (lb rfl)) <| nL ?_
        refine ⟨rfl, Sub.of ⟨rfl, rfl, rfl, rfl, rfl, rfl, rfl, trivial⟩, funext (lkq [112, 109, 2010, 2001, 2002, 2003, 115, 2019] rfl rfl ⟨(by first | rfl | (rw [hX]; rfl)), rfl, rfl, (by first | rfl | (rw [hX]; rfl)), (by first | rfl | (rw [hX]; rfl)), rfl, rfl, rfl, trivial⟩)⟩
       have hX : gAny l (gRec l (m + 1)) all p g1 = ((.mk 10 0 0 nName (qC l all g1 m1).1 [] [] [(qA l m all p g1 m1).1, (qB l m all p g1 m1).1] : Nd), (qB l m all p g1 m1).2) := by
         have hcl : r8Closed (.mk 10 0 0 nName (qC l all g1 m1).1 [] [] [(qA l m all p g1 m1).1, (qB l m all p g1 m1).1] : Nd) = true := by simpa using hc88
         unfold gAny
         simp only [gRec, e2]
         exact (if_pos hk0).trans (if_pos hcl)
       refine tSk ?_
       refine ⟨rfl, Sub.of ⟨rfl, rfl, rfl, rfl, rfl, rfl, rfl, trivial⟩, funext (lkq [112, 109, 2010, 2001, 2002, 2003, 115, 2019] rfl rfl ⟨(by first | rfl | (rw [hX]; rfl)), rfl, rfl, (by first | rfl | (rw [hX]; rfl)), (by first | rfl | (rw [hX]; rfl)), rfl, rfl, rfl, trivial⟩)⟩
      refine tQ <| tG <| sm 3 rfl ?_
      refine wS 96 rfl (fun hb96 => ?_) fun hb96 => ?_
      ·refine sm 4 rfl <| nL ?_
       refine tC rfl (fun hc93 => ?_) fun hc93 => ?_
       ·have hk1 : (gPick l 6 (qS l all g1 m1).2).1 = 1 := by simp at hb96; omega
        obtain ⟨m, rfl⟩ : ∃ m, d = m + 1 := ⟨d - 1, by simp at hc93; omega⟩
        obtain ⟨hTb, hTl⟩ : Bd 3 0 (qK l all g1 m1).2 (qT l all g1 m1).2 ∧ (qT l all g1 m1).1.length ≤ 2 := bd_types l (qK l all g1 m1).2
        have hT1 := hTb.ps
        have hT2 := hTb.t1
        have hT3 := hTb.t2
        have hT4 := hTb.lf
        obtain ⟨hOb, hOl⟩ : Bd 3 0 (qT l all g1 m1).2 (qO l all g1 m1).2 ∧ (qO l all g1 m1).1.length ≤ 2 := bd_types l (qT l all g1 m1).2
        have hO1 := hOb.ps
        have hO2 := hOb.t1
        have hO3 := hOb.t2
        have hO4 := hOb.lf
        have hLP : Plc.small (qL l all g1 m1) := ⟨by simp [qL], hTl, hOl⟩
        have hCb : Bd (qT l all g1 m1).1.length 0 (qO l all g1 m1).2 (qE l all g1 m1).2 := bd_each l all (qT l all g1 m1).1 (qO l all g1 m1).2
        have hC1 := hCb.ps
        have hC2 := hCb.t1
        have hC3 := hCb.t2
        have hC4 := hCb.lf
        have hQb : Bd 0 (qT l all g1 m1).1.length (qE l all g1 m1).2 (qQ l all g1 m1).2 := bd_outs (qT l all g1 m1).1 (qE l all g1 m1).2
        have hQ1 := hQb.ps
        have hQ2 := hQb.t1
        have hQ3 := hQb.t2
        have hQ4 := hQb.lf
        have hQl : (qQ l all g1 m1).1.length = (qT l all g1 m1).1.length := (gOuts_st (qT l all g1 m1).1 (qE l all g1 m1).2).2
        have hInQ : InR (qQ l all g1 m1).2.types (all ++ (qQ l all g1 m1).1) := (hIn.mono (by omega)).app (InR.outs _ _)
        have hBb : Bd 4 0 (qQ l all g1 m1).2 (qD l m all g1 m1).2 := bd_list l m (all ++ (qQ l all g1 m1).1) (qL l all g1 m1) (qQ l all g1 m1).2 hLP
        have hB1 := hBb.ps
        have hB2 := hBb.t1
        have hB3 := hBb.t2
        have hB4 := hBb.lf
        have hQl2 : ((qQ l all g1 m1).1.map eInt).length = (qQ l all g1 m1).1.length := by simp
        have hal : (all.map eInt).length = all.length := by simp
        have hQl3 := (gOuts_st (qT l all g1 m1).1 (qE l all g1 m1).2).2
        refine tQ <| tG <| sm 1 rfl <| cE rfl (ocr (sc_gTypes l (qK l all g1 m1).2 (by omega)) ent51 rfl (po2 rfl rfl) rfl (fun k (h : _) => .inr h) rfl rfl) <| sm 1 rfl <| cE rfl (ocr (sc_gTypes l (qT l all g1 m1).2 (by omega)) ent51 rfl (po2 rfl rfl) rfl (fun k (h : _) => .inr h) rfl rfl) <| sm 2 rfl <| nL <| tQ <| tG <| sm 3 rfl <| cE rfl (ocr (sc_gEachA l all (qT l all g1 m1).1 (qO l all g1 m1).2 (hIn.mono (by omega)) (by omega) (by omega)) ent52 rfl (po3 rfl rfl rfl) rfl (fun k (h : _) => .inr h) rfl rfl) ?_
        refine sm 2 rfl <| cE rfl (ocr (sc_gOuts l (qT l all g1 m1).1 (qE l all g1 m1).2 (by omega)) ent34 rfl (po2 rfl rfl) rfl (fun k (h : _) => .inr h) rfl rfl) <| cV rfl (bPu rfl rfl tZ42 tP42 rfl (fbk rfl) rfl) <| c0 (sBA rfl rfl rfl rfl rfl ((fun h => h)) tS42 (flk rfl) (lb rfl)) <| nL <| tQ <| Tr.fixNil (k := 112) rfl (fun h => h) <| tG <| sm 1 rfl <| nL <| tQ <| Tr.grow (t := 19) (k := 2019) ⟨3, 1⟩ rfl rfl rfl rfl rfl ?_
        refine tG <| sm 2 rfl ?_
        refine cE rfl (ok_append_row rfl rfl rfl rfl rfl rfl rfl (by simp) uT35 tB3 (by decide) hw_int hone_int (by simp [maxLen]; omega) (by simp; omega)) ?_
        refine sm 1 rfl <| nL <| tQ <| tG <| sm 3 rfl ?_
        refine cE rfl (aPp rfl rfl rfl rfl (by (simp; done)) ((fun h => h)) uT35 tB3 (by decide) (hw_int) (hone_int) (by simp [maxLen, chunks]; omega) (by simp [chunks]; omega)) ?_
        refine sm 1 rfl <| nL <| tQ ?_
        refine Tr.heap (σ' := look [(2019, some (rowI (all ++ (qQ l all g1 m1).1))), (112, some (.box [.pv (vInt (.mk 11 0 0 nName (qE l all g1 m1).1 [] (qQ l all g1 m1).1 [] : Nd).kind), .pv (vInt (.mk 11 0 0 nName (qE l all g1 m1).1 [] (qQ l all g1 m1).1 [] : Nd).op), .pv (vInt (.mk 11 0 0 nName (qE l all g1 m1).1 [] (qQ l all g1 m1).1 [] : Nd).n), .pv (vStr (.mk 11 0 0 nName (qE l all g1 m1).1 [] (qQ l all g1 m1).1 [] : Nd).name), .pv (ints (.mk 11 0 0 nName (qE l all g1 m1).1 [] (qQ l all g1 m1).1 [] : Nd).args), .pv (ints (.mk 11 0 0 nName (qE l all g1 m1).1 [] (qQ l all g1 m1).1 [] : Nd).outs), .pv (ints (.mk 11 0 0 nName (qE l all g1 m1).1 [] (qQ l all g1 m1).1 [] : Nd).params), .pv (kids (.mk 11 0 0 nName (qE l all g1 m1).1 [] (qQ l all g1 m1).1 [] : Nd).kids)])), (109, some (.row ⟨42, 8⟩ (out.map Nd.enc))), (2010, some (rowI all)), (2001, some (genBox l (qQ l all g1 m1).2)), (2002, some (rowI (qQ l all g1 m1).2.types)), (2003, some (rowI seen))]) (lkq [2019, 112, 109, 2010, 2001, 2002, 2003] rfl rfl ⟨(congrArg (fun z => some (HO.row _ z)) (by simp [qQ])), rfl, rfl, rfl, rfl, rfl, rfl, trivial⟩) ?_
        refine tG <| sm 4 rfl <| cV rfl (bPu rfl rfl tZ74 tP74 rfl (fbk rfl) rfl) <| sm 1 rfl <| cV rfl (oB rfl rfl (i64_sub rfl (by omega))) ?_
        refine cE rfl (cRr ((ih m rfl).at2019 (all ++ (qQ l all g1 m1).1) (qL l all g1 m1) (qQ l all g1 m1).2 hInQ hLP (by omega) (by omega) (by rw [List.length_append]; omega)) ent36 rfl rfl (sSm rfl (sSm (congrArg (fun n => IV.sl 2019 n) (by simp [qQ])) (Subs.cons (fun _ _ _ _ h => sub_pv (q := plcv (qL l all g1 m1)) (PSub.agg (ps := [vBool false, vBool true, .val (.slice none 0 0), ints (qT l all g1 m1).1, ints (qO l all g1 m1).1]) (And.intro (PSub.refl _) (And.intro (PSub.refl _) (And.intro PSub.nil (And.intro (PSub.refl _) (And.intro (PSub.refl _) trivial)))))) h) (sSm (congrArg (fun z => iInt z) (by omega)) Subs.nil)))) (po3 rfl rfl rfl) (by rfl) (fun k (h : _) => .inr h) rfl (by rfl)) ?_
        refine cE rfl (bSl rfl rfl uT40 tZ43 tS43 rfl rfl rfl rfl (fbk rfl) rfl) <| sm 1 rfl <| c0 (sBx rfl rfl rfl rfl ((fun h => h)) tS40 (rfl) (lb rfl)) <| nL <| tQ <| Tr.drop (k := 2019) <| tG <| cV rfl (lBP rfl rfl rfl uT42 rfl tS42 (lb rfl) rfl trivial) <| cE rfl (ocq (sc_r8Closed (.mk 11 0 0 nName (qE l all g1 m1).1 [] (qQ l all g1 m1).1 [(qD l m all g1 m1).1] : Nd)) ent53 rfl rfl) <| sm 1 rfl <| nL ?_
        refine tC rfl (fun hc131 => ?_) fun hc131 => ?_
        ·have hX : gAny l (gRec l (m + 1)) all p g1 = ((.mk 11 0 0 nName (qE l all g1 m1).1 (gOuts (qO l all g1 m1).1 (qD l m all g1 m1).2).1 (qQ l all g1 m1).1 [(qD l m all g1 m1).1] : Nd), (gOuts (qO l all g1 m1).1 (qD l m all g1 m1).2).2) := by
           have hcl : r8Closed (.mk 11 0 0 nName (qE l all g1 m1).1 [] (qQ l all g1 m1).1 [(qD l m all g1 m1).1] : Nd) = false := by simpa using hc131
           have hk0 : ¬ (gPick l 6 (qS l all g1 m1).2).1 = 0 := by omega
           unfold gAny
           simp only [gRec, e2]
           exact (if_neg hk0).trans ((if_pos hk1).trans (if_neg (fun h => Bool.noConfusion (hcl.symm.trans h))))
         refine tG <| sm 2 rfl <| cE rfl (ocr (sc_gOuts l (qO l all g1 m1).1 (qD l m all g1 m1).2 (by omega)) ent34 rfl (po2 rfl rfl) rfl (fun k (h : _) => .inr h) rfl rfl) <| sm 1 rfl <| c0 (sBx rfl rfl rfl rfl ((fun h => h)) tS35 (rfl) (lb rfl)) <| nL ?_
         refine ⟨rfl, Sub.of ⟨rfl, rfl, rfl, rfl, rfl, rfl, rfl, trivial⟩, funext (lkq [112, 109, 2010, 2001, 2002, 2003, 115, 2019] rfl rfl ⟨(by first | rfl | (rw [hX]; rfl)), rfl, rfl, (by first | rfl | (rw [hX]; rfl)), (by first | rfl | (rw [hX]; rfl)), rfl, rfl, rfl, trivial⟩)⟩
        have hX : gAny l (gRec l (m + 1)) all p g1 = ((.mk 11 0 0 nName (qE l all g1 m1).1 [] (qQ l all g1 m1).1 [(qD l m all g1 m1).1] : Nd), (qD l m all g1 m1).2) := by
          have hcl : r8Closed (.mk 11 0 0 nName (qE l all g1 m1).1 [] (qQ l all g1 m1).1 [(qD l m all g1 m1).1] : Nd) = true := by simpa using hc131
          have hk0 : ¬ (gPick l 6 (qS l all g1 m1).2).1 = 0 := by omega
          unfold gAny
          simp only [gRec, e2]
          exact (if_neg hk0).trans ((if_pos hk1).trans (if_pos hcl))
        refine tSk ?_
        refine ⟨rfl, Sub.of ⟨rfl, rfl, rfl, rfl, rfl, rfl, rfl, trivial⟩, funext (lkq [112, 109, 2010, 2001, 2002, 2003, 115, 2019] rfl rfl ⟨(by first | rfl | (rw [hX]; rfl)), rfl, rfl, (by first | rfl | (rw [hX]; rfl)), (by first | rfl | (rw [hX]; rfl)), rfl, rfl, rfl, trivial⟩)⟩
       have hX : gAny l (gRec l d) all p g1 = ((qS l all g1 m1).1, (qK l all g1 m1).2) := by
         unfold gAny
         simp only [e2]
         cases d with
         | zero => rfl
         | succ m =>
           have hk0 : ¬ (gPick l 6 (qS l all g1 m1).2).1 = 0 := by first | (simp at hb52 <;> omega) | (simp at hc49 <;> omega)
           have hk1 : ¬ (gPick l 6 (qS l all g1 m1).2).1 = 1 := by first | (simp at hb96 <;> omega) | (simp at hc93 <;> omega)
           exact (if_neg hk0).trans (if_neg hk1)
       refine tSk ?_
       refine ⟨rfl, Sub.of ⟨rfl, rfl, rfl, rfl, rfl, rfl, rfl, trivial⟩, funext (lkq [112, 109, 2010, 2001, 2002, 2003, 115, 2019] rfl rfl ⟨(by first | rfl | (rw [hX]; rfl)), rfl, rfl, (by first | rfl | (rw [hX]; rfl)), (by first | rfl | (rw [hX]; rfl)), rfl, rfl, rfl, trivial⟩)⟩
      refine sm 4 rfl <| nL <| Tr.condF rfl ?_
      have hX : gAny l (gRec l d) all p g1 = ((qS l all g1 m1).1, (qK l all g1 m1).2) := by
        unfold gAny
        simp only [e2]
        cases d with
        | zero => rfl
        | succ m =>
          have hk0 : ¬ (gPick l 6 (qS l all g1 m1).2).1 = 0 := by first | (simp at hb52 <;> omega) | (simp at hc49 <;> omega)
          have hk1 : ¬ (gPick l 6 (qS l all g1 m1).2).1 = 1 := by first | (simp at hb96 <;> omega) | (simp at hc93 <;> omega)
          exact (if_neg hk0).trans (if_neg hk1)
      refine tSk ?_
      refine ⟨rfl, Sub.of ⟨rfl, rfl, rfl, rfl, rfl, rfl, rfl, trivial⟩, funext (lkq [112, 109, 2010, 2001, 2002, 2003, 115, 2019] rfl rfl ⟨(by first | rfl | (rw [hX]; rfl)), rfl, rfl, (by first | rfl | (rw [hX]; rfl)), (by first | rfl | (rw [hX]; rfl)), rfl, rfl, rfl, trivial⟩)⟩
     refine sm 4 rfl <| nL <| Tr.condF rfl <| tQ <| tG <| sm 3 rfl ?_
     refine wS 96 rfl (fun hb96 => ?_) fun hb96 => ?_
     ·refine sm 4 rfl <| nL ?_
      refine tC rfl (fun hc93 => ?_) fun hc93 => ?_
      ·have hk1 : (gPick l 6 (qS l all g1 m1).2).1 = 1 := by simp at hb96; omega
       obtain ⟨m, rfl⟩ : ∃ m, d = m + 1 := ⟨d - 1, by simp at hc93; omega⟩
       obtain ⟨hTb, hTl⟩ : Bd 3 0 (qK l all g1 m1).2 (qT l all g1 m1).2 ∧ (qT l all g1 m1).1.length ≤ 2 := bd_types l (qK l all g1 m1).2
       have hT1 := hTb.ps
       have hT2 := hTb.t1
       have hT3 := hTb.t2
       have hT4 := hTb.lf
       obtain ⟨hOb, hOl⟩ : Bd 3 0 (qT l all g1 m1).2 (qO l all g1 m1).2 ∧ (qO l all g1 m1).1.length ≤ 2 := bd_types l (qT l all g1 m1).2
       have hO1 := hOb.ps
       have hO2 := hOb.t1
       have hO3 := hOb.t2
       have hO4 := hOb.lf
       have hLP : Plc.small (qL l all g1 m1) := ⟨by simp [qL], hTl, hOl⟩
       have hCb : Bd (qT l all g1 m1).1.length 0 (qO l all g1 m1).2 (qE l all g1 m1).2 := bd_each l all (qT l all g1 m1).1 (qO l all g1 m1).2
       have hC1 := hCb.ps
       have hC2 := hCb.t1
       have hC3 := hCb.t2
       have hC4 := hCb.lf
       have hQb : Bd 0 (qT l all g1 m1).1.length (qE l all g1 m1).2 (qQ l all g1 m1).2 := bd_outs (qT l all g1 m1).1 (qE l all g1 m1).2
       have hQ1 := hQb.ps
       have hQ2 := hQb.t1
       have hQ3 := hQb.t2
       have hQ4 := hQb.lf
       have hQl : (qQ l all g1 m1).1.length = (qT l all g1 m1).1.length := (gOuts_st (qT l all g1 m1).1 (qE l all g1 m1).2).2
       have hInQ : InR (qQ l all g1 m1).2.types (all ++ (qQ l all g1 m1).1) := (hIn.mono (by omega)).app (InR.outs _ _)
       have hBb : Bd 4 0 (qQ l all g1 m1).2 (qD l m all g1 m1).2 := bd_list l m (all ++ (qQ l all g1 m1).1) (qL l all g1 m1) (qQ l all g1 m1).2 hLP
       have hB1 := hBb.ps
       have hB2 := hBb.t1
       have hB3 := hBb.t2
       have hB4 := hBb.lf
       have hQl2 : ((qQ l all g1 m1).1.map eInt).length = (qQ l all g1 m1).1.length := by simp
       have hal : (all.map eInt).length = all.length := by simp
       have hQl3 := (gOuts_st (qT l all g1 m1).1 (qE l all g1 m1).2).2
       refine tQ <| tG <| sm 1 rfl <| cE rfl (ocr (sc_gTypes l (qK l all g1 m1).2 (by omega)) ent51 rfl (po2 rfl rfl) rfl (fun k (h : _) => .inr h) rfl rfl) <| sm 1 rfl <| cE rfl (ocr (sc_gTypes l (qT l all g1 m1).2 (by omega)) ent51 rfl (po2 rfl rfl) rfl (fun k (h : _) => .inr h) rfl rfl) <| sm 2 rfl <| nL <| tQ <| tG <| sm 3 rfl <| cE rfl (ocr (sc_gEachA l all (qT l all g1 m1).1 (qO l all g1 m1).2 (hIn.mono (by omega)) (by omega) (by omega)) ent52 rfl (po3 rfl rfl rfl) rfl (fun k (h : _) => .inr h) rfl rfl) ?_
       refine sm 2 rfl <| cE rfl (ocr (sc_gOuts l (qT l all g1 m1).1 (qE l all g1 m1).2 (by omega)) ent34 rfl (po2 rfl rfl) rfl (fun k (h : _) => .inr h) rfl rfl) <| cV rfl (bPu rfl rfl tZ42 tP42 rfl (fbk rfl) rfl) <| c0 (sBA rfl rfl rfl rfl rfl ((fun h => h)) tS42 (flk rfl) (lb rfl)) <| nL <| tQ <| Tr.fixNil (k := 112) rfl (fun h => h) <| tG <| sm 1 rfl <| nL <| tQ <| Tr.grow (t := 19) (k := 2019) ⟨3, 1⟩ rfl rfl rfl rfl rfl ?_
       refine tG <| sm 2 rfl ?_
       refine cE rfl (ok_append_row rfl rfl rfl rfl rfl rfl rfl (by simp) uT35 tB3 (by decide) hw_int hone_int (by simp [maxLen]; omega) (by simp; omega)) ?_
       refine sm 1 rfl <| nL <| tQ <| tG <| sm 3 rfl ?_
       refine cE rfl (aPp rfl rfl rfl rfl (by (simp; done)) ((fun h => h)) uT35 tB3 (by decide) (hw_int) (hone_int) (by simp [maxLen, chunks]; omega) (by simp [chunks]; omega)) ?_
       refine sm 1 rfl <| nL <| tQ ?_
       refine Tr.heap (σ' := look [(2019, some (rowI (all ++ (qQ l all g1 m1).1))), (112, some (.box [.pv (vInt (.mk 11 0 0 nName (qE l all g1 m1).1 [] (qQ l all g1 m1).1 [] : Nd).kind), .pv (vInt (.mk 11 0 0 nName (qE l all g1 m1).1 [] (qQ l all g1 m1).1 [] : Nd).op), .pv (vInt (.mk 11 0 0 nName (qE l all g1 m1).1 [] (qQ l all g1 m1).1 [] : Nd).n), .pv (vStr (.mk 11 0 0 nName (qE l all g1 m1).1 [] (qQ l all g1 m1).1 [] : Nd).name), .pv (ints (.mk 11 0 0 nName (qE l all g1 m1).1 [] (qQ l all g1 m1).1 [] : Nd).args), .pv (ints (.mk 11 0 0 nName (qE l all g1 m1).1 [] (qQ l all g1 m1).1 [] : Nd).outs), .pv (ints (.mk 11 0 0 nName (qE l all g1 m1).1 [] (qQ l all g1 m1).1 [] : Nd).params), .pv (kids (.mk 11 0 0 nName (qE l all g1 m1).1 [] (qQ l all g1 m1).1 [] : Nd).kids)])), (109, some (.row ⟨42, 8⟩ (out.map Nd.enc))), (2010, some (rowI all)), (2001, some (genBox l (qQ l all g1 m1).2)), (2002, some (rowI (qQ l all g1 m1).2.types)), (2003, some (rowI seen))]) (lkq [2019, 112, 109, 2010, 2001, 2002, 2003] rfl rfl ⟨(congrArg (fun z => some (HO.row _ z)) (by simp [qQ])), rfl, rfl, rfl, rfl, rfl, rfl, trivial⟩) ?_
       refine tG <| sm 4 rfl <| cV rfl (bPu rfl rfl tZ74 tP74 rfl (fbk rfl) rfl) <| sm 1 rfl <| cV rfl (oB rfl rfl (i64_sub rfl (by omega))) ?_
       refine cE rfl (cRr ((ih m rfl).at2019 (all ++ (qQ l all g1 m1).1) (qL l all g1 m1) (qQ l all g1 m1).2 hInQ hLP (by omega) (by omega) (by rw [List.length_append]; omega)) ent36 rfl rfl (sSm rfl (sSm (congrArg (fun n => IV.sl 2019 n) (by simp [qQ])) (Subs.cons (fun _ _ _ _ h => sub_pv (q := plcv (qL l all g1 m1)) (PSub.agg (ps := [vBool false, vBool true, .val (.slice none 0 0), ints (qT l all g1 m1).1, ints (qO l all g1 m1).1]) (And.intro (PSub.refl _) (And.intro (PSub.refl _) (And.intro PSub.nil (And.intro (PSub.refl _) (And.intro (PSub.refl _) trivial)))))) h) (sSm (congrArg (fun z => iInt z) (by omega)) Subs.nil)))) (po3 rfl rfl rfl) (by rfl) (fun k (h : _) => .inr h) rfl (by rfl)) ?_
       refine cE rfl (bSl rfl rfl uT40 tZ43 tS43 rfl rfl rfl rfl (fbk rfl) rfl) <| sm 1 rfl <| c0 (sBx rfl rfl rfl rfl ((fun h => h)) tS40 (rfl) (lb rfl)) <| nL <| tQ <| Tr.drop (k := 2019) <| tG <| cV rfl (lBP rfl rfl rfl uT42 rfl tS42 (lb rfl) rfl trivial) <| cE rfl (ocq (sc_r8Closed (.mk 11 0 0 nName (qE l all g1 m1).1 [] (qQ l all g1 m1).1 [(qD l m all g1 m1).1] : Nd)) ent53 rfl rfl) <| sm 1 rfl <| nL ?_
       refine tC rfl (fun hc131 => ?_) fun hc131 => ?_
       ·have hX : gAny l (gRec l (m + 1)) all p g1 = ((.mk 11 0 0 nName (qE l all g1 m1).1 (gOuts (qO l all g1 m1).1 (qD l m all g1 m1).2).1 (qQ l all g1 m1).1 [(qD l m all g1 m1).1] : Nd), (gOuts (qO l all g1 m1).1 (qD l m all g1 m1).2).2) := by
          have hcl : r8Closed (.mk 11 0 0 nName (qE l all g1 m1).1 [] (qQ l all g1 m1).1 [(qD l m all g1 m1).1] : Nd) = false := by simpa using hc131
          have hk0 : ¬ (gPick l 6 (qS l all g1 m1).2).1 = 0 := by omega
          unfold gAny
          simp only [gRec, e2]
          exact (if_neg hk0).trans ((if_pos hk1).trans (if_neg (fun h => Bool.noConfusion (hcl.symm.trans h))))
        refine tG <| sm 2 rfl <| cE rfl (ocr (sc_gOuts l (qO l all g1 m1).1 (qD l m all g1 m1).2 (by omega)) ent34 rfl (po2 rfl rfl) rfl (fun k (h : _) => .inr h) rfl rfl) <| sm 1 rfl <| c0 (sBx rfl rfl rfl rfl ((fun h => h)) tS35 (rfl) (lb rfl)) <| nL ?_
        refine ⟨rfl, Sub.of ⟨rfl, rfl, rfl, rfl, rfl, rfl, rfl, trivial⟩, funext (lkq [112, 109, 2010, 2001, 2002, 2003, 115, 2019] rfl rfl ⟨(by first | rfl | (rw [hX]; rfl)), rfl, rfl, (by first | rfl | (rw [hX]; rfl)), (by first | rfl | (rw [hX]; rfl)), rfl, rfl, rfl, trivial⟩)⟩
       have hX : gAny l (gRec l (m + 1)) all p g1 = ((.mk 11 0 0 nName (qE l all g1 m1).1 [] (qQ l all g1 m1).1 [(qD l m all g1 m1).1] : Nd), (qD l m all g1 m1).2) := by
         have hcl : r8Closed (.mk 11 0 0 nName (qE l all g1 m1).1 [] (qQ l all g1 m1).1 [(qD l m all g1 m1).1] : Nd) = true := by simpa using hc131
         have hk0 : ¬ (gPick l 6 (qS l all g1 m1).2).1 = 0 := by omega
         unfold gAny
         simp only [gRec, e2]
         exact (if_neg hk0).trans ((if_pos hk1).trans (if_pos hcl))
       refine tSk ?_
       refine ⟨rfl, Sub.of ⟨rfl, rfl, rfl, rfl, rfl, rfl, rfl, trivial⟩, funext (lkq [112, 109, 2010, 2001, 2002, 2003, 115, 2019] rfl rfl ⟨(by first | rfl | (rw [hX]; rfl)), rfl, rfl, (by first | rfl | (rw [hX]; rfl)), (by first | rfl | (rw [hX]; rfl)), rfl, rfl, rfl, trivial⟩)⟩
      have hX : gAny l (gRec l d) all p g1 = ((qS l all g1 m1).1, (qK l all g1 m1).2) := by
        unfold gAny
        simp only [e2]
        cases d with
        | zero => rfl
        | succ m =>
          have hk0 : ¬ (gPick l 6 (qS l all g1 m1).2).1 = 0 := by first | (simp at hb52 <;> omega) | (simp at hc49 <;> omega)
          have hk1 : ¬ (gPick l 6 (qS l all g1 m1).2).1 = 1 := by first | (simp at hb96 <;> omega) | (simp at hc93 <;> omega)
          exact (if_neg hk0).trans (if_neg hk1)
      refine tSk ?_
      refine ⟨rfl, Sub.of ⟨rfl, rfl, rfl, rfl, rfl, rfl, rfl, trivial⟩, funext (lkq [112, 109, 2010, 2001, 2002, 2003, 115, 2019] rfl rfl ⟨(by first | rfl | (rw [hX]; rfl)), rfl, rfl, (by first | rfl | (rw [hX]; rfl)), (by first | rfl | (rw [hX]; rfl)), rfl, rfl, rfl, trivial⟩)⟩
     refine sm 4 rfl <| nL <| Tr.condF rfl ?_
     have hX : gAny l (gRec l d) all p g1 = ((qS l all g1 m1).1, (qK l all g1 m1).2) := by
       unfold gAny
       simp only [e2]
       cases d with
       | zero => rfl
       | succ m =>
         have hk0 : ¬ (gPick l 6 (qS l all g1 m1).2).1 = 0 := by first | (simp at hb52 <;> omega) | (simp at hc49 <;> omega)
         have hk1 : ¬ (gPick l 6 (qS l all g1 m1).2).1 = 1 := by first | (simp at hb96 <;> omega) | (simp at hc93 <;> omega)
         exact (if_neg hk0).trans (if_neg hk1)
     refine tSk ?_
     refine ⟨rfl, Sub.of ⟨rfl, rfl, rfl, rfl, rfl, rfl, rfl, trivial⟩, funext (lkq [112, 109, 2010, 2001, 2002, 2003, 115, 2019] rfl rfl ⟨(by first | rfl | (rw [hX]; rfl)), rfl, rfl, (by first | rfl | (rw [hX]; rfl)), (by first | rfl | (rw [hX]; rfl)), rfl, rfl, rfl, trivial⟩)⟩
    refine tQ ?_
    have hol : (out.map Nd.enc).length = out.length := by simp
    have hal : (all.map eInt).length = all.length := by simp
    have hxo : ((gAny l (gRec l d) all p g1).1.outs.map eInt).length = (gAny l (gRec l d) all p g1).1.outs.length := by simp
    have hxo2 := hXo.2
    refine tG <| sm 1 rfl <| cV rfl (lBP rfl rfl rfl uT42 rfl tS42 (lb rfl) rfl trivial) <| cE rfl (bSl rfl rfl uT43 tZ42 tS42 rfl rfl rfl rfl (fbk rfl) rfl) ?_
    refine cE rfl (aPp rfl rfl rfl rfl (by rfl) ((fun h => h)) uT43 tB42 (by decide) (by (simp [chunks]; done)) (hone_cells _) (by simp [maxLen, chunks]; omega) (by simp [chunks]; omega)) ?_
    refine sm 1 rfl <| nL <| tQ <| tQ <| tG <| cV rfl (lBP rfl rfl rfl uT42 rfl tS42 (lb rfl) rfl trivial) <| cE rfl (ocq (sc_r8Closed (gAny l (gRec l d) all p g1).1) ent53 rfl rfl) <| nL ?_
    refine tC rfl (fun hc141 => ?_) fun hc141 => ?_
    ·refine tQ ?_
     have hres : gList l d seen p g = (out ++ [(gAny l (gRec l d) all p g1).1], (gAny l (gRec l d) all p g1).2) := by rw [← hI, gNodes, if_neg hleft, if_pos hc141]
     refine tG <| sm 2 rfl <| nL ?_
     refine Tr.freeze (t := 8) (k := 109) rfl rfl (by simp [chunks]) ?_
     refine tRt ?_
     rw [hres]
     refine rOk rfl (congrArg (fun z => IV.pv (.seq z)) (by simp [chunks, Nd.enc_eq, Nd.cells_eta])) (po3 rfl rfl rfl)
    refine tSk <| tG <| sm 3 rfl ?_
    refine cE rfl (aPp rfl rfl rfl rfl (by rfl) ((fun h => h)) uT35 tB3 (by decide) (hw_int) (hone_int) (by simp [maxLen, chunks]; omega) (by simp [chunks]; omega)) ?_
    refine sm 1 rfl <| nL <| Tr.drop (k := 112) <| tG <| sm 1 rfl <| cV rfl (oB rfl rfl (i64_sub rfl (by omega))) <| sm 1 rfl <| nL ?_
    refine ⟨_, _, ?_, Sub.of (fr' := [(11, iInt ((n1 : Nat) : Int)), (10, .sl 2010 ((all ++ (gAny l (gRec l d) all p g1).1.outs).map eInt).length), (9, .sl 109 ((out ++ [(gAny l (gRec l d) all p g1).1]).map Nd.enc).length), (6, .pv (.ept [vBool p.If, vBool p.Loop, ints p.Yield, ints p.Next, ints p.Left] 0)), (0, .ptr 2001 0), (3, iInt (d : Int))]) ⟨congrArg (fun z => some (iInt z)) (by omega), congrArg (fun z => some (IV.sl _ z)) (by simp), congrArg (fun z => some (IV.sl _ z)) (by simp [chunks]), rfl, rfl, rfl, trivial⟩, n1, (out ++ [(gAny l (gRec l d) all p g1).1]), (all ++ (gAny l (gRec l d) all p g1).1.outs), (gAny l (gRec l d) all p g1).2, ?_, ?_, ?_, ?_, ?_, ?_, rfl, (funext (lkq [112, 109, 2010, 2001, 2002, 2003] rfl rfl ⟨rfl, (by first | rfl | exact congrArg (fun z => some (HO.row _ z)) (by simp [chunks, Nd.enc_eq, Nd.cells_eta]) | exact congrArg (fun z => some (HO.row _ z)) (by simp)), (by first | rfl | exact congrArg (fun z => some (HO.row _ z)) (by simp [chunks, Nd.enc_eq, Nd.cells_eta]) | exact congrArg (fun z => some (HO.row _ z)) (by simp)), rfl, rfl, rfl, trivial⟩)), rfl⟩
    ·omega
    ·rw [← hI, gNodes, if_neg hleft, if_neg (by rw [hc141]; decide)]
    ·exact (hIn.mono hXb.t1).app hXo.1
    ·have := hXb.ps; omega
    ·have := hXb.t2; omega
    ·have := hXo.2; rw [List.length_append]; have := hXl; omega
    simp; omega
   refine tEx <| tQ ?_
   have hres : gList l d seen p g = (out ++ [(gEnd l all p g1).1], (gEnd l all p g1).2) := by
     rw [← hI]
     (have h0 : g1.left = 0 := by simpa using hc33
      cases n with
      | zero => rw [gNodes]
      | succ n => rw [gNodes, if_pos h0])
   have hol : (out.map Nd.enc).length = out.length := by simp
   refine tG <| sm 3 rfl <| cV rfl (lEA rfl rfl Tryz.underlying74 rfl tS74 (lb rfl)) <| cE rfl (ocr (sc_gEndA l all p g1 hIn (by omega) (by omega) hp) ent54 rfl (po3 rfl rfl rfl) rfl (fun k (h : _) => .inr h) rfl rfl) <| cE rfl (bSl rfl rfl uT43 tZ42 tS42 rfl rfl rfl rfl (fbk rfl) rfl) ?_
   refine cE rfl (aPp rfl rfl rfl rfl (by rfl) ((fun h => h)) uT43 tB42 (by decide) (by (simp [chunks]; done)) (hone_cells _) (by simp [maxLen, chunks]; omega) (by simp [chunks]; omega)) ?_
   refine sm 1 rfl <| nL ?_
   refine Tr.freeze (t := 8) (k := 109) rfl rfl (by simp [chunks]) ?_
   refine tRt ?_
   rw [hres]
   refine rOk rfl (congrArg (fun z => IV.pv (.seq z)) (by simp [chunks, Nd.enc_eq, Nd.cells_eta])) (po3 rfl rfl rfl)
  refine sm 6 rfl <| nL <| Tr.condF rfl <| tEx <| tQ ?_
  have hres : gList l d seen p g = (out ++ [(gEnd l all p g1).1], (gEnd l all p g1).2) := by
    rw [← hI]
    (have h0 : n = 0 := by simpa using hb27
     rw [h0, gNodes]
     done)
  have hol : (out.map Nd.enc).length = out.length := by simp
  refine tG <| sm 3 rfl <| cV rfl (lEA rfl rfl Tryz.underlying74 rfl tS74 (lb rfl)) <| cE rfl (ocr (sc_gEndA l all p g1 hIn (by omega) (by omega) hp) ent54 rfl (po3 rfl rfl rfl) rfl (fun k (h : _) => .inr h) rfl rfl) <| cE rfl (bSl rfl rfl uT43 tZ42 tS42 rfl rfl rfl rfl (fbk rfl) rfl) ?_
  refine cE rfl (aPp rfl rfl rfl rfl (by rfl) ((fun h => h)) uT43 tB42 (by decide) (by (simp [chunks]; done)) (hone_cells _) (by simp [maxLen, chunks]; omega) (by simp [chunks]; omega)) ?_
  refine sm 1 rfl <| nL ?_
  refine Tr.freeze (t := 8) (k := 109) rfl rfl (by simp [chunks]) ?_
  refine tRt ?_
  rw [hres]
  refine rOk rfl (congrArg (fun z => IV.pv (.seq z)) (by simp [chunks, Nd.enc_eq, Nd.cells_eta])) (po3 rfl rfl rfl)
def hOut (kind op n : Int) (name : ByteArray) (args outs params : List Int) (ks : List (List Nd)) : List Nd :=
  if kind == 11 then
    match ks with
    | b :: r => (hPart params b).1 ++ [.mk kind op n name args outs params ((hPart params b).2 :: r)]
    | [] => [.mk kind op n name args outs params []]
  else [.mk kind op n name args outs params ks]
mutual
def hNode : Nd → List Nd
  | .mk kind op n name args outs params ks => hOut kind op n name args outs params (hKids ks)
def hList : List Nd → List Nd
  | [] => []
  | x :: r => hNode x ++ hList r
def hKids : List (List Nd) → List (List Nd)
  | [] => []
  | l :: r => hList l :: hKids r
end
theorem hNode_eq (x : Nd) : hNode x = hOut x.kind x.op x.n x.name x.args x.outs x.params (hKids x.kids) := by cases x; simp [hNode, Nd.kind, Nd.op, Nd.n, Nd.name, Nd.args, Nd.outs, Nd.params, Nd.kids]
theorem hKids_map : ∀ ks, hKids ks = ks.map hList
  | [] => by simp [hKids]
  | l :: r => by simp [hKids, hKids_map r]
mutual
def hOkN : Nd → Bool
  | .mk kind op n name args outs params ks => (!hmless (.mk kind op n name args outs params ks) || !outs.isEmpty) && (kind != 11 || !ks.isEmpty) && hOkK ks
def hOkL : List Nd → Bool
  | [] => true
  | x :: r => hOkN x && hOkL r
def hOkK : List (List Nd) → Bool
  | [] => true
  | l :: r => hOkL l && hOkK r
end
theorem hOkN_eq (x : Nd) : hOkN x = ((!hmless x || !x.outs.isEmpty) && (x.kind != 11 || !x.kids.isEmpty) && hOkK x.kids) := by cases x; simp [hOkN, Nd.kind, Nd.outs, Nd.kids]
theorem hOkL_mem : ∀ {l : List Nd} {x : Nd}, hOkL l = true → x ∈ l → hOkN x = true
  | y :: r, x, h, hx => by
    simp only [hOkL, Bool.and_eq_true] at h
    rcases List.mem_cons.1 hx with rfl | hx
    · exact h.1
    · exact hOkL_mem h.2 hx
theorem hOkK_mem : ∀ {l : List (List Nd)} {x : List Nd}, hOkK l = true → x ∈ l → hOkL x = true
  | y :: r, x, h, hx => by
    simp only [hOkK, Bool.and_eq_true] at h
    rcases List.mem_cons.1 hx with rfl | hx
    · exact h.1
    · exact hOkK_mem h.2 hx
def Outs (l : List Nd) : Prop := ∀ x ∈ l, hmless x = true → x.outs ≠ []
theorem hPart_mem : ∀ (l : List Nd) (vs : List Int) (x : Nd), (x ∈ (hPart vs l).1 ∨ x ∈ (hPart vs l).2) ↔ x ∈ l
  | [], _, x => by simp [hPart]
  | y :: r, vs, x => by
    unfold hPart
    split
    · split
      · have := hPart_mem r (vs ++ [y.outs.headD 0]) x
        simp only [List.mem_cons]
        constructor
        · rintro (h | h | h)
          · exact .inr (this.1 (.inl h))
          · exact .inl h
          · exact .inr (this.1 (.inr h))
        · rintro (h | h)
          · exact .inr (.inl h)
          · rcases this.2 h with h | h
            · exact .inl h
            · exact .inr (.inr h)
      · have := hPart_mem r vs x
        simp only [List.mem_cons]
        constructor
        · rintro ((h | h) | h)
          · exact .inl h
          · exact .inr (this.1 (.inl h))
          · exact .inr (this.1 (.inr h))
        · rintro (h | h)
          · exact .inl (.inl h)
          · rcases this.2 h with h | h
            · exact .inl (.inr h)
            · exact .inr h
    · simp
mutual
theorem hNode_outs : ∀ (x : Nd), hOkN x = true → Outs (hNode x)
  | .mk kind op n name args outs params ks, h => by
    simp only [hOkN, Bool.and_eq_true, Bool.or_eq_true, Bool.not_eq_true'] at h
    have hown : ∀ ks', Outs [.mk kind op n name args outs params ks'] := by
      intro ks' y hy hm
      obtain rfl := List.mem_singleton.1 hy
      have hm2 : hmless (.mk kind op n name args outs params ks) = true := hm
      rcases h.1.1 with h1 | h1
      · rw [h1] at hm2; cases hm2
      · intro e
        have e2 : outs = [] := e
        rw [e2] at h1; cases h1
    unfold hNode hOut
    split
    · match ks, h with
      | [], _ => simp only [hKids]; exact hown _
      | l :: r, h =>
        simp only [hKids]
        have hl : hOkL l = true := by have := h.2; simp only [hOkK, Bool.and_eq_true] at this; exact this.1
        have ih := hList_outs l hl
        intro y hy
        rcases List.mem_append.1 hy with hy | hy
        · exact ih y ((hPart_mem (hList l) params y).1 (.inl hy))
        · exact hown _ y hy
    · exact hown _
theorem hList_outs : ∀ (l : List Nd), hOkL l = true → Outs (hList l)
  | [], _ => by simp [hList, Outs]
  | x :: r, h => by
    simp only [hOkL, Bool.and_eq_true] at h
    intro y hy
    simp only [hList] at hy
    rcases List.mem_append.1 hy with hy | hy
    · exact hNode_outs x h.1 y hy
    · exact hList_outs r h.2 y hy
end
mutual
theorem hNode_len : ∀ (x : Nd), (hNode x).length ≤ ndW x
  | .mk kind op n name args outs params ks => by
    unfold hNode hOut
    split
    · match ks with
      | [] => simp [hKids, ndW]; omega
      | l :: r =>
        have h1 := hList_len l
        have h2 := hPart_len (hList l) params
        simp only [hKids, ndW, kdW, List.length_append, List.length_cons, List.length_nil]
        omega
    · simp [ndW]; omega
theorem hList_len : ∀ (l : List Nd), (hList l).length ≤ lsW l
  | [] => by simp [hList]
  | x :: r => by
    have h1 := hNode_len x
    have h2 := hList_len r
    simp only [hList, lsW, List.length_append]
    omega
end
theorem kd_len : ∀ ks : List (List Nd), ks.length ≤ kdW ks
  | [] => by simp
  | l :: r => by have := kd_len r; simp only [kdW, List.length_cons]; omega
def hFlow (f : Fl) : Fl := ⟨f.name, f.ty, f.params, f.types, hList f.body⟩
def hUnit (u : Un) : Un := ⟨u.arrays, u.flows.map hFlow⟩
def hoistOf (u : Un) : Un × Int := if (shCheck u).1 == 0 then (hUnit u, 0) else (⟨[], []⟩, 1)
theorem hone_flow5 (a : ByteArray) (b c : Int) (l : List Int) (ns : List Nd) : ∀ el ∈ chunks 5 1 [vStr a, vInt b, vInt c, ints l, nodes ns], ∀ y ∈ el, y.one = true := by
  intro el hel y hy
  rw [List.mem_singleton.1 hel] at hy
  simp only [List.take, List.mem_cons, List.not_mem_nil, or_false] at hy
  rcases hy with rfl | rfl | rfl | rfl | rfl <;> rfl
theorem enc_snocF (l : List Fl) (x : Fl) : (l ++ [hFlow x]).map Fl.enc = l.map Fl.enc ++ [[vStr x.name, vInt x.ty, vInt x.params, ints x.types, nodes (hList x.body)]] := by
  rw [List.map_append]; rfl
theorem empty_unit {F : Nat → Prop} {ρ : Loc} {σ : Heap'} {w : World} {v : Value} (h : RepI F ρ σ w (.pv (.agg [.val (.slice none 0 0), .val (.slice none 0 0)])) v) : RepI F ρ σ w (.pv (Un.enc ⟨[], []⟩)) v :=
  sub_pv (PSub.agg (ps := [.val (.slice none 0 0), .val (.slice none 0 0)]) (qs := [.seq [], .seq []]) (And.intro PSub.nil (And.intro PSub.nil trivial))) h
theorem sc_gList (l : List UInt8) : ∀ d, d ≤ 100 → LSCg l d
  | 0, h => fun seen p g h1 h2 h3 h4 h5 => sc_gList0 l 0 h (fun m e => by omega) seen p g h1 h2 h3 h4 h5
  | d + 1, h => fun seen p g h1 h2 h3 h4 h5 => sc_gList0 l (d + 1) h (fun m e => by obtain rfl : d = m := by omega
                                                                                    exact sc_gList l d (by omega)) seen p g h1 h2 h3 h4 h5
theorem sc_gList3 (l : List UInt8) (seen : List Int) (p : Plc) (g : Gn) (h1 : InR g.types seen) (h2 : p.small) (h3 : g.pos + 60 * g.left ≤ 900000) (h4 : g.types.length + 10 * g.left ≤ 900000) (h5 : seen.length + 10 * g.left ≤ 900000) :
    SC Tryz.prog 36 [.ptr 2001 0, .sl 2005 (seen.map eInt).length, .pv (plcv p), iInt 3] (gHr 2005 l g seen) (fun _ => False) (.pv (nodes (gList l 3 seen p g).1)) (gHr 2005 l (gList l 3 seen p g).2 seen) := SC.sw 2003 2005 (sc_gList l 3 (by omega) seen p g h1 h2 h3 h4 h5)
def genF (l : List UInt8) (g : Gn) (ty : PV) : HO := .box [.pv (bts l), iInt (g.pos : Int), .pv ty, iInt (g.left : Int)]
theorem plc0_sub : PSub (.agg [vBool false, vBool false, .val (.slice none 0 0), .val (.slice none 0 0), .val (.slice none 0 0)]) (plcv plc0) := nilP_agg [vBool false, vBool false, .val (.slice none 0 0), .val (.slice none 0 0), .val (.slice none 0 0)]
theorem sc_gFlow (l : List UInt8) (name : ByteArray) (params : List Int) (hpl : params.length ≤ 10) (g : Gn) (hb : g.pos ≤ 500000) (ty : PV) : SC Tryz.prog 21 [.ptr 2001 0, iStr name, .pv (ints params)] [(2001, genF l g ty)] (fun _ => False) (.pv (.agg (gFlow l name params g).1.enc)) [(2001, genF l (gFlow l name params g).2 (ints (gFlow l name params g).2.types))] := by
  refine SC.ofC Tryz.func21 rfl (lb rfl) rfl fun F ρ w => ?_
  refine Tr.lenOf (t := 2) rfl (fun hl => ?_)
  simp only [List.length_map] at hl
  have hS := (gOuts_st params { g with types := [], left := 30 }).1
  have hSl := (gOuts_st params { g with types := [], left := 30 }).2
  have hSin := InR.outs params { g with types := [], left := 30 }
  have hst : (gOuts params { g with types := [], left := 30 }).2.types.length = params.length := by rw [hS]; simp
  have hsp : (gOuts params { g with types := [], left := 30 }).2.pos = g.pos ∧ (gOuts params { g with types := [], left := 30 }).2.left = 30 := by rw [hS]; exact ⟨rfl, rfl⟩
  have hbt : (gFresh 2 (gFresh 1 (gOuts params { g with types := [], left := 30 }).2).2).2.types.length = params.length + 2 := by simp [gFresh, hst]
  have hbp : (gFresh 2 (gFresh 1 (gOuts params { g with types := [], left := 30 }).2).2).2.pos = g.pos ∧ (gFresh 2 (gFresh 1 (gOuts params { g with types := [], left := 30 }).2).2).2.left = 30 := hsp
  have hin : InR (gFresh 2 (gFresh 1 (gOuts params { g with types := [], left := 30 }).2).2).2.types ((gOuts params { g with types := [], left := 30 }).1 ++ [(gFresh 1 (gOuts params { g with types := [], left := 30 }).2).1, (gFresh 2 (gFresh 1 (gOuts params { g with types := [], left := 30 }).2).2).1]) := by
    refine (hSin.mono (by omega)).app fun s hs => ?_
    simp only [List.mem_cons, List.not_mem_nil, or_false] at hs
    rcases hs with rfl | rfl
    ·rw [hbt]; simp only [gFresh, hst]; omega
    rw [hbt]; simp only [gFresh, List.length_append, List.length_cons, List.length_nil, hst]; omega
  have hsl2 : ((gOuts params { g with types := [], left := 30 }).1.map eInt).length = (gOuts params { g with types := [], left := 30 }).1.length := by simp
  refine tQ <| tG <| cE rfl (aLc (k := 106) rfl tZ51 rfl rfl rfl rfl) <| nL <| tQ <| tG <| sm 2 rfl <| cV rfl (nCk rfl rfl rfl) <| sm 1 rfl <| c0 (sBx rfl rfl rfl rfl ((fun h => h)) tS35 (rfl) (lb rfl)) <| cV rfl (nCk rfl rfl rfl) <| sm 1 rfl ?_
  refine c0 (sBx rfl rfl rfl rfl ((fun h => h)) tS3 (rfl) (lb rfl)) <| nL <| tQ <| Tr.growCell (k := 2002) (k2 := 2001) (j := 2) ⟨3, 1⟩ rfl rfl rfl rfl rfl rfl <| Tr.heap (σ' := look [(106, some (.box [.pv (vStr ⟨#[]⟩), iInt 0, iInt 0, .pv (.val (.slice none 0 0)), .pv (.val (.slice none 0 0))])), (2001, some (genBox l { g with types := [], left := 30 })), (2002, some (rowI []))]) (lkq [106, 2001, 2002] rfl rfl ⟨rfl, rfl, rfl, trivial⟩) <| tG <| sm 2 rfl <| cE rfl (ok_calln (k0 := 2005) (sc_gOutsN l params { g with types := [], left := 30 } (by show 0 + params.length ≤ 1000000; omega)) ent34 rfl rfl (sRf _ _) (po2 rfl rfl) rfl rfl rfl rfl rfl (fun k (h : _) => .inr h) rfl (by rfl)) <| sm 1 rfl <| nL <| tQ <| tG ?_
  refine sm 1 rfl <| cE rfl (ocr (sc_gFresh l 1 (gOuts params { g with types := [], left := 30 }).2 (by omega)) ent35 rfl (po2 rfl rfl) rfl (fun k (h : _) => .inr h) rfl rfl) <| sm 1 rfl ?_
  refine cE rfl (ocr (sc_gFresh l 2 (gFresh 1 (gOuts params { g with types := [], left := 30 }).2).2 (by simp only [gFresh, List.length_append, List.length_cons, List.length_nil]; omega)) ent35 rfl (po2 rfl rfl) rfl (fun k (h : _) => .inr h) rfl rfl) ?_
  refine sm 2 rfl <| nL <| tQ <| tG <| sm 1 rfl <| cE rfl (bSl rfl rfl uT35 tZ3 tS3 rfl rfl rfl rfl (fbk rfl) rfl) <| cV rfl (bPu rfl rfl tZ42 tP42 rfl (fbk rfl) rfl) <| WL.sub (Sub.cons2 (fun _ _ _ _ h => sub_pv (nilP_agg _) h) Sub.rfl') <| sm 1 rfl <| cE rfl (bSl rfl rfl uT35 tZ3 tS3 rfl rfl rfl rfl (fbk rfl) rfl) <| cV rfl (bPu rfl rfl tZ42 tP42 rfl (fbk rfl) rfl) <| WL.sub (Sub.cons2 (fun _ _ _ _ h => sub_pv (nilP_agg _) h) Sub.rfl') ?_
  refine cE rfl (ok_buildSliceOwn (k := 110) rfl rfl uT43 tZ42 tS42 rfl rfl rfl rfl (fbk rfl) rfl rfl rfl rfl rfl) <| sm 1 rfl <| nL <| tQ <| tG <| sm 3 rfl <| cE rfl (bSl rfl rfl uT35 tZ3 tS3 rfl rfl rfl rfl (fbk rfl) rfl) ?_
  refine cE rfl (aPp rfl rfl rfl rfl (by rfl) (by simp) uT35 tB3 (by decide) (by simp [chunks]) (hone_int (l := [(gFresh 1 (gOuts params { g with types := [], left := 30 }).2).1, (gFresh 2 (gFresh 1 (gOuts params { g with types := [], left := 30 }).2).2).1])) (by simp [maxLen, chunks]; omega) (by simp [chunks]; omega)) ?_
  refine sm 1 rfl <| nL <| tQ ?_
  refine Tr.heap (σ' := look [(106, some (.box [.pv (vStr ⟨#[]⟩), iInt 0, iInt 0, .pv (.val (.slice none 0 0)), .pv (.val (.slice none 0 0))])), (110, some (.row ⟨42, 8⟩ ((gBegin (gFresh 1 (gOuts params { g with types := [], left := 30 }).2).1 (gFresh 2 (gFresh 1 (gOuts params { g with types := [], left := 30 }).2).2).1).map Nd.enc))), (2005, some (rowI ((gOuts params { g with types := [], left := 30 }).1 ++ [(gFresh 1 (gOuts params { g with types := [], left := 30 }).2).1, (gFresh 2 (gFresh 1 (gOuts params { g with types := [], left := 30 }).2).2).1]))), (2001, some (genBox l (gFresh 2 (gFresh 1 (gOuts params { g with types := [], left := 30 }).2).2).2)), (2002, some (rowI (gFresh 2 (gFresh 1 (gOuts params { g with types := [], left := 30 }).2).2).2.types))]) (lkq [106, 110, 2005, 2001, 2002] rfl rfl ⟨rfl, rfl, (congrArg (fun z => some (HO.row _ z)) (by simp [chunks, eInt])), rfl, rfl, trivial⟩) ?_
  refine tG <| sm 3 rfl <| cV rfl (bPu rfl rfl tZ74 tP74 rfl (fbk rfl) rfl) ?_
  have hli := bd_list l 3 ((gOuts params { g with types := [], left := 30 }).1 ++ [(gFresh 1 (gOuts params { g with types := [], left := 30 }).2).1, (gFresh 2 (gFresh 1 (gOuts params { g with types := [], left := 30 }).2).2).1]) plc0 (gFresh 2 (gFresh 1 (gOuts params { g with types := [], left := 30 }).2).2).2 ⟨by simp [plc0], by simp [plc0], by simp [plc0]⟩
  have hrl := gList_len l 3 ((gOuts params { g with types := [], left := 30 }).1 ++ [(gFresh 1 (gOuts params { g with types := [], left := 30 }).2).1, (gFresh 2 (gFresh 1 (gOuts params { g with types := [], left := 30 }).2).2).1]) plc0 (gFresh 2 (gFresh 1 (gOuts params { g with types := [], left := 30 }).2).2).2
  refine cE rfl (cRr (sc_gList3 l ((gOuts params { g with types := [], left := 30 }).1 ++ [(gFresh 1 (gOuts params { g with types := [], left := 30 }).2).1, (gFresh 2 (gFresh 1 (gOuts params { g with types := [], left := 30 }).2).2).1]) plc0 (gFresh 2 (gFresh 1 (gOuts params { g with types := [], left := 30 }).2).2).2 hin ⟨by simp [plc0], by simp [plc0], by simp [plc0]⟩ (by omega) (by omega) (by simp; omega)) ent36 rfl rfl (sSm rfl (sSm (congrArg (fun n => IV.sl 2005 n) (by simp [chunks_length])) (Subs.cons (fun _ _ _ _ h => sub_pv plc0_sub h) (sSm rfl Subs.nil)))) (po3 rfl rfl rfl) (by rfl) (fun k (h : _) => .inr h) rfl (by rfl)) ?_
  refine cE rfl (aPp rfl rfl rfl rfl (by rfl) ((fun h => h)) uT43 tB42 (by decide) (hw_node) (hone_node) (by simp [maxLen, chunks]; omega) (by simp [chunks]; omega)) ?_
  refine sm 1 rfl <| nL <| tQ ?_
  refine Tr.freeze (t := 10) (k := 110) rfl rfl (by simp [chunks, gBegin]; omega) ?_
  refine Tr.freezeCell (k := 2002) (k2 := 2001) (j := 2) (n := ((gList l 3 ((gOuts params { g with types := [], left := 30 }).1 ++ [(gFresh 1 (gOuts params { g with types := [], left := 30 }).2).1, (gFresh 2 (gFresh 1 (gOuts params { g with types := [], left := 30 }).2).2).1]) plc0 (gFresh 2 (gFresh 1 (gOuts params { g with types := [], left := 30 }).2).2).2).2.types.map eInt).length) rfl rfl rfl rfl (by decide) <| tG <| sm 2 rfl <| cV rfl (oSm uT35 rfl) <| sm 1 rfl <| cV rfl (nCk rfl rfl rfl) <| sm 3 rfl <| cV rfl (bPu rfl rfl tZ51 tP51 rfl (fbk rfl) rfl) <| c0 (sBA rfl rfl rfl rfl rfl ((fun h => h)) tS51 (flk rfl) (lb rfl)) <| nL <| tRt <| rCk (.inl rfl) (fun _ _ ho => lBP ho rfl rfl Tryz.underlying51 rfl tS51 (lb rfl) rfl trivial) ?_ (po1 rfl)
  rfl
theorem sc_made (l : List UInt8) : SC Tryz.prog 10 [.pv (bts l)] [] (fun _ => False) (.pv (made l).enc) [] := by
  refine SC.ofC Tryz.func10 rfl (lb rfl) rfl fun F ρ w => ?_
  have hb1 : (gFlow l mainName [] ⟨0, [], 0⟩).2.pos ≤ 2000 := gFlow_pos l mainName [] ⟨0, [], 0⟩ (by simp) (by simp)
  refine tQ <| tG <| cE rfl (aLc (k := 102) rfl tZ25 rfl rfl rfl rfl) <| nL <| tQ <| tG <| sm 1 rfl <| cV rfl (bPu rfl rfl tZ57 tP57 rfl (fbk rfl) rfl) <| cE rfl (ok_boxOwnP (k := 2001) rfl rfl rfl rfl rfl rfl) <| sm 1 rfl <| nL <| tQ ?_
  refine tG <| cV rfl (bPu rfl rfl tZ49 tP49 rfl (fbk rfl) rfl) <| cE rfl (bSl rfl rfl Tryz.underlying22 tZ49 tS49 rfl rfl rfl rfl (fbk rfl) rfl) <| cV rfl (bPu rfl rfl tZ25 tP25 rfl (fbk rfl) rfl) <| cE rfl (aLc (k := 104) rfl tZ25 rfl rfl rfl rfl) <| c0 (sBA rfl rfl rfl rfl rfl ((fun h => h)) tS25 (flk rfl) (lb rfl)) <| nL <| tQ <| Tr.growCell (k := 1040) (k2 := 104) (j := 1) ⟨51, 5⟩ rfl rfl rfl rfl rfl rfl <| tDr mixed (fun k => k ∈ ([] : List Nat)) <| wR 6 [0, 2] (by kernel_rfl) (fun _ _ _ h => h) <| smR 2 rfl ?_
  refine nR <| WA.all (rs := [1, 3]) (by kernel_rfl) (by simp) ?_
  refine fmc ⟨?_, fmc ⟨?_, by simp⟩⟩
  ·refine wI rfl rfl nf nw (fun _ _ => OkV.ok (R1 := fun _ => True) ((ok_load_box rfl rfl rfl uT23 rfl rfl trivial))) <| wO 3 (by kernel_rfl) <| wI rfl rfl nf (nAp rfl) (fun _ _ => cRr (sc_gFlow l mainName [] (by simp) ⟨0, [], 0⟩ (by simp) (.val (.slice none 0 0))) ent21 rfl rfl (sSm rfl (sSm rfl (Subs.cons (fun _ _ _ _ h => sub_pv PSub.nil h) Subs.nil))) (po1 rfl) (by rfl) (fun k (h : _) => absurd h List.not_mem_nil) rfl (by rfl)) <| wO 4 (by kernel_rfl) <| wI rfl rfl nf nw (fun _ _ => bSl rfl rfl uT23 tZ51 tS51 rfl rfl rfl rfl (fbk rfl) rfl) <| wO 5 (by kernel_rfl) ?_
   refine wI rfl rfl nf (nOl rfl) (fun _ _ => aPp rfl rfl rfl rfl (by rfl) (by simp) uT23 tB51 (by decide) (fun el hel => by rw [List.mem_singleton.1 hel]; rfl) (hone_flow5 _ _ _ _ _) (by simp [maxLen, chunks]) (by simp [chunks])) ?_
   refine wR 1 [6] (by kernel_rfl) (fun _ _ _ h => h) <| smR 1 rfl <| nR <| wO 7 (by kernel_rfl) <| wI rfl rfl nf (nOl rfl) (fun _ _ => sBx rfl rfl rfl rfl (by simp) tS23 (⟨_, _, rfl, rfl⟩) (lb rfl)) <| wDn (by kernel_rfl) <| tQ <| tDr mixed (fun k => k ∈ ([] : List Nat)) <| wR 7 [0, 2] (by kernel_rfl) (fun _ _ _ h => h) <| smR 2 rfl <| nR <| WA.all (rs := [1, 3]) (by kernel_rfl) (by simp) ?_
   refine fmc ⟨?_, fmc ⟨?_, by simp⟩⟩
   ·refine wI rfl rfl nf nw (fun _ _ => OkV.ok (R1 := fun _ => True) ((ok_load_box rfl rfl rfl uT23 rfl rfl trivial))) <| wO 3 (by kernel_rfl) <| wI rfl rfl nf nw (fun _ _ => bSl rfl rfl uT35 tZ3 tS3 rfl rfl rfl rfl (fbk rfl) rfl) <| wO 4 (by kernel_rfl) <| wI rfl rfl nf (nAp rfl) (fun _ _ => ocr (sc_gFlow l fName [1, 2] (by simp) (gFlow l mainName [] ⟨0, [], 0⟩).2 (by omega) (ints (gFlow l mainName [] ⟨0, [], 0⟩).2.types)) ent21 rfl (po1 rfl) rfl nl rfl rfl) <| wO 5 (by kernel_rfl) <| wI rfl rfl nf nw (fun _ _ => bSl rfl rfl uT23 tZ51 tS51 rfl rfl rfl rfl (fbk rfl) rfl) <| wO 6 (by kernel_rfl) ?_
    refine wI rfl rfl nf (nOl rfl) (fun _ _ => aPp rfl rfl rfl rfl (by rfl) (by simp) uT23 tB51 (by decide) (fun el hel => by rw [List.mem_singleton.1 hel]; rfl) (hone_flow5 _ _ _ _ _) (by simp [maxLen, chunks]) (by simp [chunks])) ?_
    refine wR 1 [7] (by kernel_rfl) (fun _ _ _ h => h) <| smR 1 rfl <| nR <| wO 8 (by kernel_rfl) <| wI rfl rfl nf (nOl rfl) (fun _ _ => sBx rfl rfl rfl rfl (by simp) tS23 (⟨_, _, rfl, rfl⟩) (lb rfl)) <| wDn (by kernel_rfl) <| tQ <| Tr.freezeCell (k := 1040) (k2 := 104) (j := 1) (n := 2) rfl rfl rfl rfl (by decide) <| tG <| cV rfl (lBP rfl rfl rfl uT25 rfl tS25 (lb rfl) rfl trivial) <| c0 (sBA rfl rfl rfl rfl rfl ((fun h => h)) tS25 (flk rfl) (lb rfl)) <| nL ?_
    refine tRt <| rCk (.inl rfl) (fun _ _ ho => lBP ho rfl rfl uT25 rfl tS25 (lb rfl) rfl trivial) rfl nPo
   refine wI rfl rfl nf nw (fun _ _ => bSl rfl rfl uT35 tZ3 tS3 rfl rfl rfl rfl (fbk rfl) rfl) <| WA.all (rs := [1, 4]) (by kernel_rfl) (by simp) ?_
   refine fmc ⟨?_, fmc ⟨?_, by simp⟩⟩
   ·refine wI rfl rfl nf nw (fun _ _ => OkV.ok (R1 := fun _ => True) ((ok_load_box rfl rfl rfl uT23 rfl rfl trivial))) <| wO 4 (by kernel_rfl) <| wI rfl rfl nf (nAp rfl) (fun _ _ => ocr (sc_gFlow l fName [1, 2] (by simp) (gFlow l mainName [] ⟨0, [], 0⟩).2 (by omega) (ints (gFlow l mainName [] ⟨0, [], 0⟩).2.types)) ent21 rfl (po1 rfl) rfl nl rfl rfl) <| wO 5 (by kernel_rfl) <| wI rfl rfl nf nw (fun _ _ => bSl rfl rfl uT23 tZ51 tS51 rfl rfl rfl rfl (fbk rfl) rfl) <| wO 6 (by kernel_rfl) ?_
    refine wI rfl rfl nf (nOl rfl) (fun _ _ => aPp rfl rfl rfl rfl (by rfl) (by simp) uT23 tB51 (by decide) (fun el hel => by rw [List.mem_singleton.1 hel]; rfl) (hone_flow5 _ _ _ _ _) (by simp [maxLen, chunks]) (by simp [chunks])) ?_
    refine wR 1 [7] (by kernel_rfl) (fun _ _ _ h => h) <| smR 1 rfl <| nR <| wO 8 (by kernel_rfl) <| wI rfl rfl nf (nOl rfl) (fun _ _ => sBx rfl rfl rfl rfl (by simp) tS23 (⟨_, _, rfl, rfl⟩) (lb rfl)) <| wDn (by kernel_rfl) <| tQ <| Tr.freezeCell (k := 1040) (k2 := 104) (j := 1) (n := 2) rfl rfl rfl rfl (by decide) <| tG <| cV rfl (lBP rfl rfl rfl uT25 rfl tS25 (lb rfl) rfl trivial) <| c0 (sBA rfl rfl rfl rfl rfl ((fun h => h)) tS25 (flk rfl) (lb rfl)) <| nL ?_
    refine tRt <| rCk (.inl rfl) (fun _ _ ho => lBP ho rfl rfl uT25 rfl tS25 (lb rfl) rfl trivial) rfl nPo
   refine wI rfl rfl nf (nAp rfl) (fun _ _ => ocr (sc_gFlow l fName [1, 2] (by simp) (gFlow l mainName [] ⟨0, [], 0⟩).2 (by omega) (ints (gFlow l mainName [] ⟨0, [], 0⟩).2.types)) ent21 rfl (po1 rfl) rfl nl rfl rfl) <| WA.all (rs := [1, 5]) (by kernel_rfl) (by simp) ?_
   refine fmc ⟨?_, fmc ⟨?_, by simp⟩⟩
   ·refine wI rfl rfl nf nw (fun _ _ => OkV.ok (R1 := fun _ => True) ((ok_load_box rfl rfl rfl uT23 rfl rfl trivial))) <| wO 5 (by kernel_rfl) <| wI rfl rfl nf nw (fun _ _ => bSl rfl rfl uT23 tZ51 tS51 rfl rfl rfl rfl (fbk rfl) rfl) <| wO 6 (by kernel_rfl) ?_
    refine wI rfl rfl nf (nOl rfl) (fun _ _ => aPp rfl rfl rfl rfl (by rfl) (by simp) uT23 tB51 (by decide) (fun el hel => by rw [List.mem_singleton.1 hel]; rfl) (hone_flow5 _ _ _ _ _) (by simp [maxLen, chunks]) (by simp [chunks])) ?_
    refine wR 1 [7] (by kernel_rfl) (fun _ _ _ h => h) <| smR 1 rfl <| nR <| wO 8 (by kernel_rfl) <| wI rfl rfl nf (nOl rfl) (fun _ _ => sBx rfl rfl rfl rfl (by simp) tS23 (⟨_, _, rfl, rfl⟩) (lb rfl)) <| wDn (by kernel_rfl) <| tQ <| Tr.freezeCell (k := 1040) (k2 := 104) (j := 1) (n := 2) rfl rfl rfl rfl (by decide) <| tG <| cV rfl (lBP rfl rfl rfl uT25 rfl tS25 (lb rfl) rfl trivial) <| c0 (sBA rfl rfl rfl rfl rfl ((fun h => h)) tS25 (flk rfl) (lb rfl)) <| nL ?_
    refine tRt <| rCk (.inl rfl) (fun _ _ ho => lBP ho rfl rfl uT25 rfl tS25 (lb rfl) rfl trivial) rfl nPo
   refine wI rfl rfl nf nw (fun _ _ => bSl rfl rfl uT23 tZ51 tS51 rfl rfl rfl rfl (fbk rfl) rfl) <| wO 1 (by kernel_rfl) <| wI rfl rfl nf nw (fun _ _ => OkV.ok (R1 := fun _ => True) ((ok_load_box rfl rfl rfl uT23 rfl rfl trivial))) <| wO 6 (by kernel_rfl) ?_
   refine wI rfl rfl nf (nOl rfl) (fun _ _ => aPp rfl rfl rfl rfl (by rfl) (by simp) uT23 tB51 (by decide) (fun el hel => by rw [List.mem_singleton.1 hel]; rfl) (hone_flow5 _ _ _ _ _) (by simp [maxLen, chunks]) (by simp [chunks])) ?_
   refine wR 1 [7] (by kernel_rfl) (fun _ _ _ h => h) <| smR 1 rfl <| nR <| wO 8 (by kernel_rfl) <| wI rfl rfl nf (nOl rfl) (fun _ _ => sBx rfl rfl rfl rfl (by simp) tS23 (⟨_, _, rfl, rfl⟩) (lb rfl)) <| wDn (by kernel_rfl) <| tQ <| Tr.freezeCell (k := 1040) (k2 := 104) (j := 1) (n := 2) rfl rfl rfl rfl (by decide) <| tG <| cV rfl (lBP rfl rfl rfl uT25 rfl tS25 (lb rfl) rfl trivial) <| c0 (sBA rfl rfl rfl rfl rfl ((fun h => h)) tS25 (flk rfl) (lb rfl)) <| nL ?_
   refine tRt <| rCk (.inl rfl) (fun _ _ ho => lBP ho rfl rfl uT25 rfl tS25 (lb rfl) rfl trivial) rfl nPo
  refine wI rfl rfl nf (nAp rfl) (fun _ _ => cRr (sc_gFlow l mainName [] (by simp) ⟨0, [], 0⟩ (by simp) (.val (.slice none 0 0))) ent21 rfl rfl (sSm rfl (sSm rfl (Subs.cons (fun _ _ _ _ h => sub_pv PSub.nil h) Subs.nil))) (po1 rfl) (by rfl) (fun k (h : _) => absurd h List.not_mem_nil) rfl (by rfl)) <| WA.all (rs := [1, 4]) (by kernel_rfl) (by simp) ?_
  refine fmc ⟨?_, fmc ⟨?_, by simp⟩⟩
  ·refine wI rfl rfl nf nw (fun _ _ => OkV.ok (R1 := fun _ => True) ((ok_load_box rfl rfl rfl uT23 rfl rfl trivial))) <| wO 4 (by kernel_rfl) <| wI rfl rfl nf nw (fun _ _ => bSl rfl rfl uT23 tZ51 tS51 rfl rfl rfl rfl (fbk rfl) rfl) <| wO 5 (by kernel_rfl) ?_
   refine wI rfl rfl nf (nOl rfl) (fun _ _ => aPp rfl rfl rfl rfl (by rfl) (by simp) uT23 tB51 (by decide) (fun el hel => by rw [List.mem_singleton.1 hel]; rfl) (hone_flow5 _ _ _ _ _) (by simp [maxLen, chunks]) (by simp [chunks])) ?_
   refine wR 1 [6] (by kernel_rfl) (fun _ _ _ h => h) <| smR 1 rfl <| nR <| wO 7 (by kernel_rfl) <| wI rfl rfl nf (nOl rfl) (fun _ _ => sBx rfl rfl rfl rfl (by simp) tS23 (⟨_, _, rfl, rfl⟩) (lb rfl)) <| wDn (by kernel_rfl) <| tQ <| tDr mixed (fun k => k ∈ ([] : List Nat)) <| wR 7 [0, 2] (by kernel_rfl) (fun _ _ _ h => h) <| smR 2 rfl <| nR <| WA.all (rs := [1, 3]) (by kernel_rfl) (by simp) ?_
   refine fmc ⟨?_, fmc ⟨?_, by simp⟩⟩
   ·refine wI rfl rfl nf nw (fun _ _ => OkV.ok (R1 := fun _ => True) ((ok_load_box rfl rfl rfl uT23 rfl rfl trivial))) <| wO 3 (by kernel_rfl) <| wI rfl rfl nf nw (fun _ _ => bSl rfl rfl uT35 tZ3 tS3 rfl rfl rfl rfl (fbk rfl) rfl) <| wO 4 (by kernel_rfl) <| wI rfl rfl nf (nAp rfl) (fun _ _ => ocr (sc_gFlow l fName [1, 2] (by simp) (gFlow l mainName [] ⟨0, [], 0⟩).2 (by omega) (ints (gFlow l mainName [] ⟨0, [], 0⟩).2.types)) ent21 rfl (po1 rfl) rfl nl rfl rfl) <| wO 5 (by kernel_rfl) <| wI rfl rfl nf nw (fun _ _ => bSl rfl rfl uT23 tZ51 tS51 rfl rfl rfl rfl (fbk rfl) rfl) <| wO 6 (by kernel_rfl) ?_
    refine wI rfl rfl nf (nOl rfl) (fun _ _ => aPp rfl rfl rfl rfl (by rfl) (by simp) uT23 tB51 (by decide) (fun el hel => by rw [List.mem_singleton.1 hel]; rfl) (hone_flow5 _ _ _ _ _) (by simp [maxLen, chunks]) (by simp [chunks])) ?_
    refine wR 1 [7] (by kernel_rfl) (fun _ _ _ h => h) <| smR 1 rfl <| nR <| wO 8 (by kernel_rfl) <| wI rfl rfl nf (nOl rfl) (fun _ _ => sBx rfl rfl rfl rfl (by simp) tS23 (⟨_, _, rfl, rfl⟩) (lb rfl)) <| wDn (by kernel_rfl) <| tQ <| Tr.freezeCell (k := 1040) (k2 := 104) (j := 1) (n := 2) rfl rfl rfl rfl (by decide) <| tG <| cV rfl (lBP rfl rfl rfl uT25 rfl tS25 (lb rfl) rfl trivial) <| c0 (sBA rfl rfl rfl rfl rfl ((fun h => h)) tS25 (flk rfl) (lb rfl)) <| nL ?_
    refine tRt <| rCk (.inl rfl) (fun _ _ ho => lBP ho rfl rfl uT25 rfl tS25 (lb rfl) rfl trivial) rfl nPo
   refine wI rfl rfl nf nw (fun _ _ => bSl rfl rfl uT35 tZ3 tS3 rfl rfl rfl rfl (fbk rfl) rfl) <| WA.all (rs := [1, 4]) (by kernel_rfl) (by simp) ?_
   refine fmc ⟨?_, fmc ⟨?_, by simp⟩⟩
   ·refine wI rfl rfl nf nw (fun _ _ => OkV.ok (R1 := fun _ => True) ((ok_load_box rfl rfl rfl uT23 rfl rfl trivial))) <| wO 4 (by kernel_rfl) <| wI rfl rfl nf (nAp rfl) (fun _ _ => ocr (sc_gFlow l fName [1, 2] (by simp) (gFlow l mainName [] ⟨0, [], 0⟩).2 (by omega) (ints (gFlow l mainName [] ⟨0, [], 0⟩).2.types)) ent21 rfl (po1 rfl) rfl nl rfl rfl) <| wO 5 (by kernel_rfl) <| wI rfl rfl nf nw (fun _ _ => bSl rfl rfl uT23 tZ51 tS51 rfl rfl rfl rfl (fbk rfl) rfl) <| wO 6 (by kernel_rfl) ?_
    refine wI rfl rfl nf (nOl rfl) (fun _ _ => aPp rfl rfl rfl rfl (by rfl) (by simp) uT23 tB51 (by decide) (fun el hel => by rw [List.mem_singleton.1 hel]; rfl) (hone_flow5 _ _ _ _ _) (by simp [maxLen, chunks]) (by simp [chunks])) ?_
    refine wR 1 [7] (by kernel_rfl) (fun _ _ _ h => h) <| smR 1 rfl <| nR <| wO 8 (by kernel_rfl) <| wI rfl rfl nf (nOl rfl) (fun _ _ => sBx rfl rfl rfl rfl (by simp) tS23 (⟨_, _, rfl, rfl⟩) (lb rfl)) <| wDn (by kernel_rfl) <| tQ <| Tr.freezeCell (k := 1040) (k2 := 104) (j := 1) (n := 2) rfl rfl rfl rfl (by decide) <| tG <| cV rfl (lBP rfl rfl rfl uT25 rfl tS25 (lb rfl) rfl trivial) <| c0 (sBA rfl rfl rfl rfl rfl ((fun h => h)) tS25 (flk rfl) (lb rfl)) <| nL ?_
    refine tRt <| rCk (.inl rfl) (fun _ _ ho => lBP ho rfl rfl uT25 rfl tS25 (lb rfl) rfl trivial) rfl nPo
   refine wI rfl rfl nf (nAp rfl) (fun _ _ => ocr (sc_gFlow l fName [1, 2] (by simp) (gFlow l mainName [] ⟨0, [], 0⟩).2 (by omega) (ints (gFlow l mainName [] ⟨0, [], 0⟩).2.types)) ent21 rfl (po1 rfl) rfl nl rfl rfl) <| WA.all (rs := [1, 5]) (by kernel_rfl) (by simp) ?_
   refine fmc ⟨?_, fmc ⟨?_, by simp⟩⟩
   ·refine wI rfl rfl nf nw (fun _ _ => OkV.ok (R1 := fun _ => True) ((ok_load_box rfl rfl rfl uT23 rfl rfl trivial))) <| wO 5 (by kernel_rfl) <| wI rfl rfl nf nw (fun _ _ => bSl rfl rfl uT23 tZ51 tS51 rfl rfl rfl rfl (fbk rfl) rfl) <| wO 6 (by kernel_rfl) ?_
    refine wI rfl rfl nf (nOl rfl) (fun _ _ => aPp rfl rfl rfl rfl (by rfl) (by simp) uT23 tB51 (by decide) (fun el hel => by rw [List.mem_singleton.1 hel]; rfl) (hone_flow5 _ _ _ _ _) (by simp [maxLen, chunks]) (by simp [chunks])) ?_
    refine wR 1 [7] (by kernel_rfl) (fun _ _ _ h => h) <| smR 1 rfl <| nR <| wO 8 (by kernel_rfl) <| wI rfl rfl nf (nOl rfl) (fun _ _ => sBx rfl rfl rfl rfl (by simp) tS23 (⟨_, _, rfl, rfl⟩) (lb rfl)) <| wDn (by kernel_rfl) <| tQ <| Tr.freezeCell (k := 1040) (k2 := 104) (j := 1) (n := 2) rfl rfl rfl rfl (by decide) <| tG <| cV rfl (lBP rfl rfl rfl uT25 rfl tS25 (lb rfl) rfl trivial) <| c0 (sBA rfl rfl rfl rfl rfl ((fun h => h)) tS25 (flk rfl) (lb rfl)) <| nL ?_
    refine tRt <| rCk (.inl rfl) (fun _ _ ho => lBP ho rfl rfl uT25 rfl tS25 (lb rfl) rfl trivial) rfl nPo
   refine wI rfl rfl nf nw (fun _ _ => bSl rfl rfl uT23 tZ51 tS51 rfl rfl rfl rfl (fbk rfl) rfl) <| wO 1 (by kernel_rfl) <| wI rfl rfl nf nw (fun _ _ => OkV.ok (R1 := fun _ => True) ((ok_load_box rfl rfl rfl uT23 rfl rfl trivial))) <| wO 6 (by kernel_rfl) ?_
   refine wI rfl rfl nf (nOl rfl) (fun _ _ => aPp rfl rfl rfl rfl (by rfl) (by simp) uT23 tB51 (by decide) (fun el hel => by rw [List.mem_singleton.1 hel]; rfl) (hone_flow5 _ _ _ _ _) (by simp [maxLen, chunks]) (by simp [chunks])) ?_
   refine wR 1 [7] (by kernel_rfl) (fun _ _ _ h => h) <| smR 1 rfl <| nR <| wO 8 (by kernel_rfl) <| wI rfl rfl nf (nOl rfl) (fun _ _ => sBx rfl rfl rfl rfl (by simp) tS23 (⟨_, _, rfl, rfl⟩) (lb rfl)) <| wDn (by kernel_rfl) <| tQ <| Tr.freezeCell (k := 1040) (k2 := 104) (j := 1) (n := 2) rfl rfl rfl rfl (by decide) <| tG <| cV rfl (lBP rfl rfl rfl uT25 rfl tS25 (lb rfl) rfl trivial) <| c0 (sBA rfl rfl rfl rfl rfl ((fun h => h)) tS25 (flk rfl) (lb rfl)) <| nL ?_
   refine tRt <| rCk (.inl rfl) (fun _ _ ho => lBP ho rfl rfl uT25 rfl tS25 (lb rfl) rfl trivial) rfl nPo
  refine wI rfl rfl nf nw (fun _ _ => bSl rfl rfl uT23 tZ51 tS51 rfl rfl rfl rfl (fbk rfl) rfl) <| wO 1 (by kernel_rfl) <| wI rfl rfl nf nw (fun _ _ => OkV.ok (R1 := fun _ => True) ((ok_load_box rfl rfl rfl uT23 rfl rfl trivial))) <| wO 5 (by kernel_rfl) ?_
  refine wI rfl rfl nf (nOl rfl) (fun _ _ => aPp rfl rfl rfl rfl (by rfl) (by simp) uT23 tB51 (by decide) (fun el hel => by rw [List.mem_singleton.1 hel]; rfl) (hone_flow5 _ _ _ _ _) (by simp [maxLen, chunks]) (by simp [chunks])) ?_
  refine wR 1 [6] (by kernel_rfl) (fun _ _ _ h => h) <| smR 1 rfl <| nR <| wO 7 (by kernel_rfl) <| wI rfl rfl nf (nOl rfl) (fun _ _ => sBx rfl rfl rfl rfl (by simp) tS23 (⟨_, _, rfl, rfl⟩) (lb rfl)) <| wDn (by kernel_rfl) <| tQ <| tDr mixed (fun k => k ∈ ([] : List Nat)) <| wR 7 [0, 2] (by kernel_rfl) (fun _ _ _ h => h) <| smR 2 rfl <| nR <| WA.all (rs := [1, 3]) (by kernel_rfl) (by simp) ?_
  refine fmc ⟨?_, fmc ⟨?_, by simp⟩⟩
  ·refine wI rfl rfl nf nw (fun _ _ => OkV.ok (R1 := fun _ => True) ((ok_load_box rfl rfl rfl uT23 rfl rfl trivial))) <| wO 3 (by kernel_rfl) <| wI rfl rfl nf nw (fun _ _ => bSl rfl rfl uT35 tZ3 tS3 rfl rfl rfl rfl (fbk rfl) rfl) <| wO 4 (by kernel_rfl) <| wI rfl rfl nf (nAp rfl) (fun _ _ => ocr (sc_gFlow l fName [1, 2] (by simp) (gFlow l mainName [] ⟨0, [], 0⟩).2 (by omega) (ints (gFlow l mainName [] ⟨0, [], 0⟩).2.types)) ent21 rfl (po1 rfl) rfl nl rfl rfl) <| wO 5 (by kernel_rfl) <| wI rfl rfl nf nw (fun _ _ => bSl rfl rfl uT23 tZ51 tS51 rfl rfl rfl rfl (fbk rfl) rfl) <| wO 6 (by kernel_rfl) ?_
   refine wI rfl rfl nf (nOl rfl) (fun _ _ => aPp rfl rfl rfl rfl (by rfl) (by simp) uT23 tB51 (by decide) (fun el hel => by rw [List.mem_singleton.1 hel]; rfl) (hone_flow5 _ _ _ _ _) (by simp [maxLen, chunks]) (by simp [chunks])) ?_
   refine wR 1 [7] (by kernel_rfl) (fun _ _ _ h => h) <| smR 1 rfl <| nR <| wO 8 (by kernel_rfl) <| wI rfl rfl nf (nOl rfl) (fun _ _ => sBx rfl rfl rfl rfl (by simp) tS23 (⟨_, _, rfl, rfl⟩) (lb rfl)) <| wDn (by kernel_rfl) <| tQ <| Tr.freezeCell (k := 1040) (k2 := 104) (j := 1) (n := 2) rfl rfl rfl rfl (by decide) <| tG <| cV rfl (lBP rfl rfl rfl uT25 rfl tS25 (lb rfl) rfl trivial) <| c0 (sBA rfl rfl rfl rfl rfl ((fun h => h)) tS25 (flk rfl) (lb rfl)) <| nL ?_
   refine tRt <| rCk (.inl rfl) (fun _ _ ho => lBP ho rfl rfl uT25 rfl tS25 (lb rfl) rfl trivial) rfl nPo
  refine wI rfl rfl nf nw (fun _ _ => bSl rfl rfl uT35 tZ3 tS3 rfl rfl rfl rfl (fbk rfl) rfl) <| WA.all (rs := [1, 4]) (by kernel_rfl) (by simp) ?_
  refine fmc ⟨?_, fmc ⟨?_, by simp⟩⟩
  ·refine wI rfl rfl nf nw (fun _ _ => OkV.ok (R1 := fun _ => True) ((ok_load_box rfl rfl rfl uT23 rfl rfl trivial))) <| wO 4 (by kernel_rfl) <| wI rfl rfl nf (nAp rfl) (fun _ _ => ocr (sc_gFlow l fName [1, 2] (by simp) (gFlow l mainName [] ⟨0, [], 0⟩).2 (by omega) (ints (gFlow l mainName [] ⟨0, [], 0⟩).2.types)) ent21 rfl (po1 rfl) rfl nl rfl rfl) <| wO 5 (by kernel_rfl) <| wI rfl rfl nf nw (fun _ _ => bSl rfl rfl uT23 tZ51 tS51 rfl rfl rfl rfl (fbk rfl) rfl) <| wO 6 (by kernel_rfl) ?_
   refine wI rfl rfl nf (nOl rfl) (fun _ _ => aPp rfl rfl rfl rfl (by rfl) (by simp) uT23 tB51 (by decide) (fun el hel => by rw [List.mem_singleton.1 hel]; rfl) (hone_flow5 _ _ _ _ _) (by simp [maxLen, chunks]) (by simp [chunks])) ?_
   refine wR 1 [7] (by kernel_rfl) (fun _ _ _ h => h) <| smR 1 rfl <| nR <| wO 8 (by kernel_rfl) <| wI rfl rfl nf (nOl rfl) (fun _ _ => sBx rfl rfl rfl rfl (by simp) tS23 (⟨_, _, rfl, rfl⟩) (lb rfl)) <| wDn (by kernel_rfl) <| tQ <| Tr.freezeCell (k := 1040) (k2 := 104) (j := 1) (n := 2) rfl rfl rfl rfl (by decide) <| tG <| cV rfl (lBP rfl rfl rfl uT25 rfl tS25 (lb rfl) rfl trivial) <| c0 (sBA rfl rfl rfl rfl rfl ((fun h => h)) tS25 (flk rfl) (lb rfl)) <| nL ?_
   refine tRt <| rCk (.inl rfl) (fun _ _ ho => lBP ho rfl rfl uT25 rfl tS25 (lb rfl) rfl trivial) rfl nPo
  refine wI rfl rfl nf (nAp rfl) (fun _ _ => ocr (sc_gFlow l fName [1, 2] (by simp) (gFlow l mainName [] ⟨0, [], 0⟩).2 (by omega) (ints (gFlow l mainName [] ⟨0, [], 0⟩).2.types)) ent21 rfl (po1 rfl) rfl nl rfl rfl) <| WA.all (rs := [1, 5]) (by kernel_rfl) (by simp) ?_
  refine fmc ⟨?_, fmc ⟨?_, by simp⟩⟩
  ·refine wI rfl rfl nf nw (fun _ _ => OkV.ok (R1 := fun _ => True) ((ok_load_box rfl rfl rfl uT23 rfl rfl trivial))) <| wO 5 (by kernel_rfl) <| wI rfl rfl nf nw (fun _ _ => bSl rfl rfl uT23 tZ51 tS51 rfl rfl rfl rfl (fbk rfl) rfl) <| wO 6 (by kernel_rfl) ?_
   refine wI rfl rfl nf (nOl rfl) (fun _ _ => aPp rfl rfl rfl rfl (by rfl) (by simp) uT23 tB51 (by decide) (fun el hel => by rw [List.mem_singleton.1 hel]; rfl) (hone_flow5 _ _ _ _ _) (by simp [maxLen, chunks]) (by simp [chunks])) ?_
   refine wR 1 [7] (by kernel_rfl) (fun _ _ _ h => h) <| smR 1 rfl <| nR <| wO 8 (by kernel_rfl) <| wI rfl rfl nf (nOl rfl) (fun _ _ => sBx rfl rfl rfl rfl (by simp) tS23 (⟨_, _, rfl, rfl⟩) (lb rfl)) <| wDn (by kernel_rfl) <| tQ <| Tr.freezeCell (k := 1040) (k2 := 104) (j := 1) (n := 2) rfl rfl rfl rfl (by decide) <| tG <| cV rfl (lBP rfl rfl rfl uT25 rfl tS25 (lb rfl) rfl trivial) <| c0 (sBA rfl rfl rfl rfl rfl ((fun h => h)) tS25 (flk rfl) (lb rfl)) <| nL ?_
   refine tRt <| rCk (.inl rfl) (fun _ _ ho => lBP ho rfl rfl uT25 rfl tS25 (lb rfl) rfl trivial) rfl nPo
  refine wI rfl rfl nf nw (fun _ _ => bSl rfl rfl uT23 tZ51 tS51 rfl rfl rfl rfl (fbk rfl) rfl) <| wO 1 (by kernel_rfl) <| wI rfl rfl nf nw (fun _ _ => OkV.ok (R1 := fun _ => True) ((ok_load_box rfl rfl rfl uT23 rfl rfl trivial))) <| wO 6 (by kernel_rfl) ?_
  refine wI rfl rfl nf (nOl rfl) (fun _ _ => aPp rfl rfl rfl rfl (by rfl) (by simp) uT23 tB51 (by decide) (fun el hel => by rw [List.mem_singleton.1 hel]; rfl) (hone_flow5 _ _ _ _ _) (by simp [maxLen, chunks]) (by simp [chunks])) ?_
  refine wR 1 [7] (by kernel_rfl) (fun _ _ _ h => h) <| smR 1 rfl <| nR <| wO 8 (by kernel_rfl) <| wI rfl rfl nf (nOl rfl) (fun _ _ => sBx rfl rfl rfl rfl (by simp) tS23 (⟨_, _, rfl, rfl⟩) (lb rfl)) <| wDn (by kernel_rfl) <| tQ <| Tr.freezeCell (k := 1040) (k2 := 104) (j := 1) (n := 2) rfl rfl rfl rfl (by decide) <| tG <| cV rfl (lBP rfl rfl rfl uT25 rfl tS25 (lb rfl) rfl trivial) <| c0 (sBA rfl rfl rfl rfl rfl ((fun h => h)) tS25 (flk rfl) (lb rfl)) <| nL ?_
  refine tRt <| rCk (.inl rfl) (fun _ _ ho => lBP ho rfl rfl uT25 rfl tS25 (lb rfl) rfl trivial) rfl nPo
theorem sc_r8sets (u : Un) (f : Fl) (set : List Bool) (l want : List Int) (hs : set.length = f.types.length) : SC Tryz.prog 93 [.ptr 3 0, .pv (ints l), .pv (ints want)] (ckHp u f 4 set) (fun k => k = 3) (iBool (r8sets f.types set l want).1) (ckHp u f 4 (r8sets f.types set l want).2) := by
  refine SC.of Tryz.func93 rfl (lb rfl) fun F ρ w => ?_
  refine Tr.lenOf (t := 1) rfl (fun hl => ?_)
  simp only [List.length_map] at hl
  refine Tr.lenOf (t := 2) rfl (fun hl3 => ?_)
  simp only [List.length_map] at hl3
  refine tQ <| tG <| sm 1 rfl <| nL <| tQ <| tQ <| tG <| sm 1 rfl <| cV rfl (oSm uT35 rfl) <| sm 1 rfl <| cV rfl (oSm uT35 rfl) <| sm 1 rfl ?_
  refine nL ?_
  refine tC rfl (fun hc12 => ?_) fun hc12 => ?_
  ·refine tQ <| tG <| sm 1 rfl <| nL <| tRt <| rOk rfl ?_ ?_
   ·have : ((l.length : Int) == want.length) = false := by simpa using hc12
    simp [r8sets, this]
   have : ((l.length : Int) == want.length) = false := by simpa using hc12
   simp only [r8sets, this]
   exact fun _ _ h => h
  have hlen : l.length = want.length := by simp at hc12; omega
  refine tSk <| tQ <| tQ <| tG <| sm 1 rfl <| nL <| tBk <| Tr.sub (Sub.of (fr' := [(7, iInt 0), (0, .ptr 3 0), (1, .pv (ints l)), (2, .pv (ints want))]) ⟨rfl, rfl, rfl, rfl, trivial⟩) ?_
  refine Tr.loop (fun fr σ m => ∃ (k : Nat) (st : List Bool), (k ≤ l.length) ∧ (r8setsGo f.types set l want = r8setsGo f.types st (l.drop k) (want.drop k)) ∧ (st.length = f.types.length) ∧ fr = [(7, iInt k), (0, .ptr 3 0), (1, .pv (ints l)), (2, .pv (ints want))] ∧ σ = look (up (ckHp u f 4 st)) ∧ m = l.length - k) (n := l.length - 0) ?_ ?_
  ·exact ⟨0, set, Nat.zero_le _, rfl, hs, rfl, rfl, rfl⟩
  rintro fr σ m ⟨k, st, hI0, hI1, hI2, rfl, rfl, rfl⟩
  refine tQ <| tQ <| tG <| sm 2 rfl <| cV rfl (oSm uT35 rfl) <| sm 1 rfl <| nL ?_
  refine tC rfl (fun hc16 => ?_) fun hc16 => ?_
  ·have hlt : k < l.length := by simpa using hc16
   have hd := List.drop_eq_getElem_cons hlt
   have hm := List.getElem_mem hlt
   have hi := map_get (f := eInt) (List.getElem?_eq_getElem hlt)
   generalize l[k] = x at hd hm hi
   have hltw : k < want.length := by omega
   have hdw := List.drop_eq_getElem_cons hltw
   have hw := map_get (f := eInt) (List.getElem?_eq_getElem hltw)
   generalize want[k] = y at hdw hw
   refine tSk <| tQ <| tBk <| tQ <| tQ <| Tr.still mixed (by kernel_rfl) rfl <| smS 2 rfl <| sV rfl (iSq rfl rfl rfl uT35 hi tS3 rfl (by rfl)) <| smS 3 rfl ?_
   refine WS.split (t := 24) rfl (fun hb24 => ?_) (fun hb24 => ?_)
   ·refine smS 31 rfl <| WS.noU rfl rfl rfl rfl rfl rfl <| WS.noU rfl rfl rfl rfl rfl rfl <| WS.noU rfl rfl rfl rfl rfl rfl <| WS.noU rfl rfl rfl rfl rfl rfl <| WS.noU rfl rfl rfl rfl rfl rfl <| WS.noU rfl rfl rfl rfl rfl rfl <| WS.noU rfl rfl rfl rfl rfl rfl <| WS.noU rfl rfl rfl rfl rfl rfl <| WS.noU rfl rfl rfl rfl rfl rfl <| WS.noU rfl rfl rfl rfl rfl rfl <| WS.noU rfl rfl rfl rfl rfl rfl ?_
    refine WS.noU rfl rfl rfl rfl rfl rfl <| WS.noU rfl rfl rfl rfl rfl rfl <| WS.noU rfl rfl rfl rfl rfl rfl <| WS.noU rfl rfl rfl rfl rfl rfl <| WS.noU rfl rfl rfl rfl rfl rfl <| smS 2 rfl <| WS.nil <| Tr.condT rfl <| tQ <| tG <| sm 1 rfl <| nL ?_
    refine tRt ?_
    have hu : r8bad f.types st x y = true := by (try clear hvx); simp_all [r8bad]
    have hsum : r8sets f.types set l want = (false, st) := by simp [r8sets, hlen, hI1, hd, hdw, r8setsGo, hu]
    rw [hsum]
    exact rOk rfl rfl (fun _ _ h => h)
   refine smS 2 rfl <| syV rfl rfl (iSq rfl rfl rfl uT35 hi tS3 rfl (by rfl)) <| smS 2 rfl <| syV rfl rfl (nCk rfl rfl rfl) <| smS 3 rfl <| syV rfl rfl (oSm uT35 rfl) <| smS 3 rfl ?_
   refine WS.split (t := 37) rfl (fun hb37 => ?_) (fun hb37 => ?_)
   ·refine smS 18 rfl <| WS.noU rfl rfl rfl rfl rfl rfl <| WS.noU rfl rfl rfl rfl rfl rfl <| WS.noU rfl rfl rfl rfl rfl rfl <| WS.noU rfl rfl rfl rfl rfl rfl <| WS.noU rfl rfl rfl rfl rfl rfl <| WS.noU rfl rfl rfl rfl rfl rfl <| WS.noU rfl rfl rfl rfl rfl rfl <| WS.noU rfl rfl rfl rfl rfl rfl <| WS.noU rfl rfl rfl rfl rfl rfl <| WS.noU rfl rfl rfl rfl rfl rfl <| WS.noU rfl rfl rfl rfl rfl rfl ?_
    refine WS.noU rfl rfl rfl rfl rfl rfl <| WS.noU rfl rfl rfl rfl rfl rfl <| WS.noU rfl rfl rfl rfl rfl rfl <| WS.noU rfl rfl rfl rfl rfl rfl <| WS.noU rfl rfl rfl rfl rfl rfl <| smS 2 rfl <| WS.nil <| Tr.condT rfl <| tQ <| tG <| sm 1 rfl <| nL ?_
    refine tRt ?_
    have hu : r8bad f.types st x y = true := by (try clear hvx); simp_all [r8bad]
    have hsum : r8sets f.types set l want = (false, st) := by simp [r8sets, hlen, hI1, hd, hdw, r8setsGo, hu]
    rw [hsum]
    exact rOk rfl rfl (fun _ _ h => h)
   have hv0 : x.toNat < f.types.length := by simp at hb24 hb37; omega
   have hvx : x = ((x.toNat : Nat) : Int) := by simp at hb24; omega
   have hty : (f.types.map eInt)[x.toNat]? = some [vInt (f.types.getD x.toNat 0)] := by rw [List.getElem?_map]; simp [eInt, List.getD, hv0]
   have hst : (st.map eBool)[x.toNat]? = some [vBool (st.getD x.toNat false)] := by rw [List.getElem?_map]; simp [eBool, List.getD, hI2, hv0]
   have hstl : x.toNat < (st.map eBool).length := by simpa [hI2] using hv0
   refine smS 1 rfl <| syV rfl rfl (nCk rfl rfl rfl) <| smS 4 rfl <| syV rfl rfl (iSq rfl rfl rfl uT35 hi tS3 rfl (by rfl)) <| smS 1 rfl <| syV rfl rfl (iRw rfl rfl rfl rfl rfl Tryz.underlying83 tS4 (by assumption) (by omega)) <| syV rfl rfl (lRw rfl rfl rfl rfl (Nat.add_zero _).symm (by assumption) rfl Tryz.underlying4 rfl trivial) <| smS 2 rfl ?_
   refine WS.split (t := 49) rfl (fun hb49 => ?_) (fun hb49 => ?_)
   ·refine smS 6 rfl <| WS.noU rfl rfl rfl rfl rfl rfl <| WS.noU rfl rfl rfl rfl rfl rfl <| WS.noU rfl rfl rfl rfl rfl rfl <| WS.noU rfl rfl rfl rfl rfl rfl <| WS.noU rfl rfl rfl rfl rfl rfl <| WS.noU rfl rfl rfl rfl rfl rfl <| WS.noU rfl rfl rfl rfl rfl rfl <| WS.noU rfl rfl rfl rfl rfl rfl <| WS.noU rfl rfl rfl rfl rfl rfl <| WS.noU rfl rfl rfl rfl rfl rfl <| WS.noU rfl rfl rfl rfl rfl rfl ?_
    refine WS.noU rfl rfl rfl rfl rfl rfl <| WS.noU rfl rfl rfl rfl rfl rfl <| WS.noU rfl rfl rfl rfl rfl rfl <| WS.noU rfl rfl rfl rfl rfl rfl <| WS.noU rfl rfl rfl rfl rfl rfl <| smS 2 rfl <| WS.nil <| Tr.condT rfl <| tQ <| tG <| sm 1 rfl <| nL ?_
    refine tRt ?_
    have hu : r8bad f.types st x y = true := by (try clear hvx); simp_all [r8bad]
    have hsum : r8sets f.types set l want = (false, st) := by simp [r8sets, hlen, hI1, hd, hdw, r8setsGo, hu]
    rw [hsum]
    exact rOk rfl rfl (fun _ _ h => h)
   refine smS 2 rfl <| syV rfl rfl (iSq rfl rfl rfl uT35 hw tS3 rfl (by rfl)) <| smS 3 rfl ?_
   refine WS.split (t := 55) rfl (fun hb55 => ?_) (fun hb55 => ?_)
   ·refine smS 1 rfl <| syV rfl rfl (nCk rfl rfl rfl) <| smS 5 rfl <| syV rfl rfl (iSq rfl rfl rfl uT35 hi tS3 rfl (by rfl)) <| smS 1 rfl <| syV rfl rfl (iSq rfl rfl rfl uT35 hty tS3 rfl (by omega)) <| smS 3 rfl <| syV rfl rfl (iSq rfl rfl rfl uT35 hw tS3 rfl (by rfl)) <| smS 4 rfl <| WS.nil ?_
    refine tC rfl (fun hc73 => ?_) fun hc73 => ?_
    ·refine tQ <| tG <| sm 1 rfl <| nL <| tRt ?_
     have hu : r8bad f.types st x y = true := by (try clear hvx); simp_all [r8bad]
     have hsum : r8sets f.types set l want = (false, st) := by simp [r8sets, hlen, hI1, hd, hdw, r8setsGo, hu]
     rw [hsum]
     exact rOk rfl rfl (fun _ _ h => h)
    refine tSk <| tDr mixed (fun k => k ∈ ([3] : List Nat)) <| wR 1 [0, 1, 2, 3, 4, 5, 6, 7, 8] (by kernel_rfl) (fun _ _ _ h => h) <| smR 1 rfl <| rV rfl rfl (nCk rfl rfl rfl) <| smR 1 rfl <| rV rfl rfl (oLb Tryz.underlying83 rfl rfl rfl (by decide)) <| smR 2 rfl <| rV rfl rfl (iSq rfl rfl rfl uT35 hi tS3 rfl (by rfl)) <| smR 1 rfl <| rV rfl rfl (iRw rfl rfl rfl rfl rfl Tryz.underlying83 tS4 (by assumption) (by omega)) <| nR ?_
    refine wO 9 (by kernel_rfl) <| wI rfl rfl (fun k (h : _) => by (simp at h ⊢; omega)) (nOl rfl) (fun _ _ => ok_store_row rfl rfl rfl rfl rfl (Nat.add_zero _).symm (by assumption) (by simp) tS4 rfl (by simp)) <| wDn (by kernel_rfl) <| tG <| sm 1 rfl <| cV rfl (oB rfl rfl (i64_add rfl (by omega))) <| sm 1 rfl <| nL ?_
    refine ⟨_, _, ?_, Sub.of (fr' := [(7, iInt (k + 1)), (0, .ptr 3 0), (1, .pv (ints l)), (2, .pv (ints want))]) ⟨rfl, rfl, rfl, rfl, trivial⟩, (k + 1), (st.set x.toNat true), ?_, ?_, ?_, rfl, (funext ckHp_set), rfl⟩
    ·omega
    ·omega
    ·rw [hI1, hd, hdw]
     have hu : r8bad f.types st x y = false := by (try clear hvx); simp_all [r8bad]
     simp [r8setsGo, hu]
    simpa using hI2
   refine smS 18 rfl <| WS.nil <| Tr.condF rfl <| tSk <| tDr mixed (fun k => k ∈ ([3] : List Nat)) <| wR 1 [0, 1, 2, 3, 4, 5, 6, 7, 8] (by kernel_rfl) (fun _ _ _ h => h) <| smR 1 rfl <| rV rfl rfl (nCk rfl rfl rfl) <| smR 1 rfl <| rV rfl rfl (oLb Tryz.underlying83 rfl rfl rfl (by decide)) <| smR 2 rfl <| rV rfl rfl (iSq rfl rfl rfl uT35 hi tS3 rfl (by rfl)) ?_
   refine smR 1 rfl <| rV rfl rfl (iRw rfl rfl rfl rfl rfl Tryz.underlying83 tS4 (by assumption) (by omega)) <| nR <| wO 9 (by kernel_rfl) <| wI rfl rfl (fun k (h : _) => by (simp at h ⊢; omega)) (nOl rfl) (fun _ _ => ok_store_row rfl rfl rfl rfl rfl (Nat.add_zero _).symm (by assumption) (by simp) tS4 rfl (by simp)) <| wDn (by kernel_rfl) <| tG <| sm 1 rfl <| cV rfl (oB rfl rfl (i64_add rfl (by omega))) <| sm 1 rfl <| nL ?_
   refine ⟨_, _, ?_, Sub.of (fr' := [(7, iInt (k + 1)), (0, .ptr 3 0), (1, .pv (ints l)), (2, .pv (ints want))]) ⟨rfl, rfl, rfl, rfl, trivial⟩, (k + 1), (st.set x.toNat true), ?_, ?_, ?_, rfl, (funext ckHp_set), rfl⟩
   ·omega
   ·omega
   ·rw [hI1, hd, hdw]
    have hu : r8bad f.types st x y = false := by (try clear hvx); simp_all [r8bad]
    simp [r8setsGo, hu]
   simpa using hI2
  refine tEx <| tQ <| tG <| sm 1 rfl <| nL <| tRt ?_
  have hge : l.length ≤ k := by simpa using hc16
  have hsum : r8sets f.types set l want = (true, st) := by simp [r8sets, hlen, hI1, List.drop_eq_nil_of_le hge, r8setsGo]
  rw [hsum]
  exact rOk rfl rfl (fun _ _ h => h)
end Go.Proofs.YtfaeemilgahcpaaGreat
