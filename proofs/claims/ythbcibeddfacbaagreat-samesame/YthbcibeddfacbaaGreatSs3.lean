/- PART 3 of 6 of a proof: see the last part. -/
import Derived.Test.YthbcibeddfacbaaGreatSs2
set_option maxRecDepth 8000
set_option maxHeartbeats 2000000
set_option linter.unusedSimpArgs false
set_option linter.unusedVariables false
set_option linter.unusedSectionVars false
namespace Go.Proofs.YthbcibeddfacbaaGreat
open Go
theorem y2e (l : List UInt8) (seen : List Int) (g : Gn) (hs : InR g.types seen) (hb : g.pos <= 999980) (hbt : g.types.length <= 999990) (hsl : seen.length <= 1000000) : SC Tryz.prog 51 [.ptr 2001 0, .sl 2003 (seen.map eInt).length] (gHs l g seen) (fun _ => False) (.pv (ndv (z0w l seen g).1)) (gHs l (z0w l seen g).2 seen) := by
  refine SC.ofC Tryz.func51 rfl (lb rfl) rfl fun F ρ w => ?_
  have h12 : (z01 l 12 g).1 < 12 := z26 oM0
  have hN : (gNums.map eInt)[(z01 l 6 (z01 l 12 g).2).1]? = some [vInt (gNums.getD (z01 l 6 (z01 l 12 g).2).1 0)] := y40 (z26 oM0)
  have hO : (zt2.map eInt)[(z01 l 4 (z01 l 12 g).2).1]? = some [vInt (zt2.getD (z01 l 4 (z01 l 12 g).2).1 0)] := y40 (z26 oM0)
  have hp11 : (z01 l 11 (z01 l 12 g).2).1 < 11 := z26 oM0
  have hp6 : (z01 l 6 (z01 l 12 g).2).1 < 6 := z26 oM0
  refine tQ <| tG <| cE rfl (aLc (k := 104) rfl tZ43 rfl rfl rfl rfl) <| nL <| tQ <| tG <| sm 1 rfl <| nL <| tQ <| tQ <| tG <| sm 1 rfl ?_
  refine cE rfl (ocr (z2q l 12 g oM0 oM0) z39 rfl (po2 rfl rfl) rfl (fun k (h : _) => .inr h) rfl rfl) <| nL <| tBk <| tQ <| tG <| sm 2 rfl <| nL ?_
  refine tC rfl (fun hc8 => ?_) fun hc8 => ?_
  ·have hk : (z01 l 12 g).1 = 0 := by simp at hc8; omega
   have e : z0w l seen g = z1v l 1 0 (gNums.getD (z01 l 6 (z01 l 12 g).2).1 0) z0n seen [] [1] (z01 l 6 (z01 l 12 g).2).2 := by
     unfold z0w
     simp only []
     rw [if_pos oM0]
   rw [e]
   have hP6 := z2q l 6 (z01 l 12 g).2 oM0 (by (simp only [z01]; omega))
   have hO6 := z2k l [1] (z01 l 6 (z01 l 12 g).2).2 (by simp only [z01, z1n, List.length_cons, List.length_nil]; omega)
   refine tQ <| tDr z1a (fun k => k ∈ ([] : List Nat)) <| wR 8 [1, 5, 6] kR0 h30 <| smR 3 rfl <| nR <| WA.all (rs := [0, 2, 7]) kR0 sI0 ?_
   refine fmc ⟨?_, fmc ⟨?_, fmc ⟨?_, by simp⟩⟩⟩
   ·refine wI rfl rfl nf nw (fun _ _ => bSl rfl rfl uT35 tZ3 tS3 rfl rfl rfl rfl (fbk rfl) rfl) <| WA.all (rs := [2, 7]) kR0 sI0 ?_
    refine fmc ⟨?_, fmc ⟨?_, by simp⟩⟩
    ·refine wI rfl rfl nf (nAp rfl) (fun _ _ => ocr (hP6) z39 rfl (po2 rfl rfl) rfl nl rfl rfl) <| wR 4 [3, 4] kR0 h30 <| rV rfl rfl (iSq rfl rfl rfl uT35 hN tS3 rfl rfl) <| smR 1 rfl <| nR <| wO 7 kR0 <| wI rfl rfl nf nw (fun _ _ => bSl rfl rfl uT35 tZ3 tS3 rfl rfl rfl rfl (fbk rfl) rfl) <| wO 8 kR0 <| wI rfl rfl nf (nAp rfl) (fun _ _ => ocr (hO6) z1e rfl (po2 rfl rfl) rfl nl rfl rfl) <| wR 1 [9] kR0 h30 <| rV rfl rfl (bPu rfl rfl tZ43 tP43 rfl (fbk rfl) rfl) <| nR ?_
     refine wO 10 kR0 <| wI rfl rfl nf (nOl rfl) (fun _ _ => sBA rfl rfl rfl rfl rfl sI0 tS43 (flk rfl) (lb rfl)) <| wDn kR0 <| Tr.fixNil (k := 104) rfl (fun h => h) <| tRt <| rCk (.inl rfl) (fun _ _ ho => lBP ho rfl rfl uT43 rfl tS43 (lb rfl) rfl trivial) rfl (po3 rfl rfl rfl)
    refine wI rfl rfl nf nw (fun _ _ => bSl rfl rfl uT35 tZ3 tS3 rfl rfl rfl rfl (fbk rfl) rfl) <| wO 2 kR0 <| wI rfl rfl nf (nAp rfl) (fun _ _ => ocr (hP6) z39 rfl (po2 rfl rfl) rfl nl rfl rfl) <| wR 3 [3, 4] kR0 h30 <| rV rfl rfl (iSq rfl rfl rfl uT35 hN tS3 rfl rfl) <| smR 1 rfl <| nR <| wO 8 kR0 <| wI rfl rfl nf (nAp rfl) (fun _ _ => ocr (hO6) z1e rfl (po2 rfl rfl) rfl nl rfl rfl) <| wR 1 [9] kR0 h30 <| rV rfl rfl (bPu rfl rfl tZ43 tP43 rfl (fbk rfl) rfl) <| nR ?_
    refine wO 10 kR0 <| wI rfl rfl nf (nOl rfl) (fun _ _ => sBA rfl rfl rfl rfl rfl sI0 tS43 (flk rfl) (lb rfl)) <| wDn kR0 <| Tr.fixNil (k := 104) rfl (fun h => h) <| tRt <| rCk (.inl rfl) (fun _ _ ho => lBP ho rfl rfl uT43 rfl tS43 (lb rfl) rfl trivial) rfl (po3 rfl rfl rfl)
   ·refine wI rfl rfl nf (nAp rfl) (fun _ _ => ocr (hP6) z39 rfl (po2 rfl rfl) rfl nl rfl rfl) <| WA.all (rs := [0, 7]) kR0 sI0 ?_
    refine fmc ⟨?_, fmc ⟨?_, by simp⟩⟩
    ·refine wI rfl rfl nf nw (fun _ _ => bSl rfl rfl uT35 tZ3 tS3 rfl rfl rfl rfl (fbk rfl) rfl) <| wR 4 [3, 4] kR0 h30 <| rV rfl rfl (iSq rfl rfl rfl uT35 hN tS3 rfl rfl) <| smR 1 rfl <| nR <| wO 7 kR0 <| wI rfl rfl nf nw (fun _ _ => bSl rfl rfl uT35 tZ3 tS3 rfl rfl rfl rfl (fbk rfl) rfl) <| wO 8 kR0 <| wI rfl rfl nf (nAp rfl) (fun _ _ => ocr (hO6) z1e rfl (po2 rfl rfl) rfl nl rfl rfl) <| wR 1 [9] kR0 h30 <| rV rfl rfl (bPu rfl rfl tZ43 tP43 rfl (fbk rfl) rfl) <| nR ?_
     refine wO 10 kR0 <| wI rfl rfl nf (nOl rfl) (fun _ _ => sBA rfl rfl rfl rfl rfl sI0 tS43 (flk rfl) (lb rfl)) <| wDn kR0 <| Tr.fixNil (k := 104) rfl (fun h => h) <| tRt <| rCk (.inl rfl) (fun _ _ ho => lBP ho rfl rfl uT43 rfl tS43 (lb rfl) rfl trivial) rfl (po3 rfl rfl rfl)
    refine wI rfl rfl nf nw (fun _ _ => bSl rfl rfl uT35 tZ3 tS3 rfl rfl rfl rfl (fbk rfl) rfl) <| WA.all (rs := [0, 8]) kR0 sI0 ?_
    refine fmc ⟨?_, fmc ⟨?_, by simp⟩⟩
    ·refine wI rfl rfl nf nw (fun _ _ => bSl rfl rfl uT35 tZ3 tS3 rfl rfl rfl rfl (fbk rfl) rfl) <| wR 3 [3, 4] kR0 h30 <| rV rfl rfl (iSq rfl rfl rfl uT35 hN tS3 rfl rfl) <| smR 1 rfl <| nR <| wO 8 kR0 <| wI rfl rfl nf (nAp rfl) (fun _ _ => ocr (hO6) z1e rfl (po2 rfl rfl) rfl nl rfl rfl) <| wR 1 [9] kR0 h30 <| rV rfl rfl (bPu rfl rfl tZ43 tP43 rfl (fbk rfl) rfl) <| nR <| wO 10 kR0 <| wI rfl rfl nf (nOl rfl) (fun _ _ => sBA rfl rfl rfl rfl rfl sI0 tS43 (flk rfl) (lb rfl)) ?_
     refine wDn kR0 <| Tr.fixNil (k := 104) rfl (fun h => h) <| tRt <| rCk (.inl rfl) (fun _ _ ho => lBP ho rfl rfl uT43 rfl tS43 (lb rfl) rfl trivial) rfl (po3 rfl rfl rfl)
    refine wI rfl rfl nf (nAp rfl) (fun _ _ => ocr (hO6) z1e rfl (po2 rfl rfl) rfl nl rfl rfl) <| wO 0 kR0 <| wI rfl rfl nf nw (fun _ _ => bSl rfl rfl uT35 tZ3 tS3 rfl rfl rfl rfl (fbk rfl) rfl) <| wR 1 [3, 4, 9] kR0 h30 <| rV rfl rfl (iSq rfl rfl rfl uT35 hN tS3 rfl rfl) <| smR 1 rfl <| rV rfl rfl (bPu rfl rfl tZ43 tP43 rfl (fbk rfl) rfl) <| nR <| wO 10 kR0 <| wI rfl rfl nf (nOl rfl) (fun _ _ => sBA rfl rfl rfl rfl rfl sI0 tS43 (flk rfl) (lb rfl)) <| wDn kR0 <| Tr.fixNil (k := 104) rfl (fun h => h) ?_
    refine tRt <| rCk (.inl rfl) (fun _ _ ho => lBP ho rfl rfl uT43 rfl tS43 (lb rfl) rfl trivial) rfl (po3 rfl rfl rfl)
   refine wI rfl rfl nf nw (fun _ _ => bSl rfl rfl uT35 tZ3 tS3 rfl rfl rfl rfl (fbk rfl) rfl) <| WA.all (rs := [0, 2]) kR0 sI0 ?_
   refine fmc ⟨?_, fmc ⟨?_, by simp⟩⟩
   ·refine wI rfl rfl nf nw (fun _ _ => bSl rfl rfl uT35 tZ3 tS3 rfl rfl rfl rfl (fbk rfl) rfl) <| wO 2 kR0 <| wI rfl rfl nf (nAp rfl) (fun _ _ => ocr (hP6) z39 rfl (po2 rfl rfl) rfl nl rfl rfl) <| wR 3 [3, 4] kR0 h30 <| rV rfl rfl (iSq rfl rfl rfl uT35 hN tS3 rfl rfl) <| smR 1 rfl <| nR <| wO 8 kR0 <| wI rfl rfl nf (nAp rfl) (fun _ _ => ocr (hO6) z1e rfl (po2 rfl rfl) rfl nl rfl rfl) <| wR 1 [9] kR0 h30 <| rV rfl rfl (bPu rfl rfl tZ43 tP43 rfl (fbk rfl) rfl) <| nR ?_
    refine wO 10 kR0 <| wI rfl rfl nf (nOl rfl) (fun _ _ => sBA rfl rfl rfl rfl rfl sI0 tS43 (flk rfl) (lb rfl)) <| wDn kR0 <| Tr.fixNil (k := 104) rfl (fun h => h) <| tRt <| rCk (.inl rfl) (fun _ _ ho => lBP ho rfl rfl uT43 rfl tS43 (lb rfl) rfl trivial) rfl (po3 rfl rfl rfl)
   refine wI rfl rfl nf (nAp rfl) (fun _ _ => ocr (hP6) z39 rfl (po2 rfl rfl) rfl nl rfl rfl) <| WA.all (rs := [0, 8]) kR0 sI0 ?_
   refine fmc ⟨?_, fmc ⟨?_, by simp⟩⟩
   ·refine wI rfl rfl nf nw (fun _ _ => bSl rfl rfl uT35 tZ3 tS3 rfl rfl rfl rfl (fbk rfl) rfl) <| wR 3 [3, 4] kR0 h30 <| rV rfl rfl (iSq rfl rfl rfl uT35 hN tS3 rfl rfl) <| smR 1 rfl <| nR <| wO 8 kR0 <| wI rfl rfl nf (nAp rfl) (fun _ _ => ocr (hO6) z1e rfl (po2 rfl rfl) rfl nl rfl rfl) <| wR 1 [9] kR0 h30 <| rV rfl rfl (bPu rfl rfl tZ43 tP43 rfl (fbk rfl) rfl) <| nR <| wO 10 kR0 <| wI rfl rfl nf (nOl rfl) (fun _ _ => sBA rfl rfl rfl rfl rfl sI0 tS43 (flk rfl) (lb rfl)) ?_
    refine wDn kR0 <| Tr.fixNil (k := 104) rfl (fun h => h) <| tRt <| rCk (.inl rfl) (fun _ _ ho => lBP ho rfl rfl uT43 rfl tS43 (lb rfl) rfl trivial) rfl (po3 rfl rfl rfl)
   refine wI rfl rfl nf (nAp rfl) (fun _ _ => ocr (hO6) z1e rfl (po2 rfl rfl) rfl nl rfl rfl) <| wO 0 kR0 <| wI rfl rfl nf nw (fun _ _ => bSl rfl rfl uT35 tZ3 tS3 rfl rfl rfl rfl (fbk rfl) rfl) <| wR 1 [3, 4, 9] kR0 h30 <| rV rfl rfl (iSq rfl rfl rfl uT35 hN tS3 rfl rfl) <| smR 1 rfl <| rV rfl rfl (bPu rfl rfl tZ43 tP43 rfl (fbk rfl) rfl) <| nR <| wO 10 kR0 <| wI rfl rfl nf (nOl rfl) (fun _ _ => sBA rfl rfl rfl rfl rfl sI0 tS43 (flk rfl) (lb rfl)) <| wDn kR0 <| Tr.fixNil (k := 104) rfl (fun h => h) ?_
   refine tRt <| rCk (.inl rfl) (fun _ _ ho => lBP ho rfl rfl uT43 rfl tS43 (lb rfl) rfl trivial) rfl (po3 rfl rfl rfl)
  have n0 : ¬ (z01 l 12 g).1 = 0 := by simp at hc8; omega
  refine tQ <| tG <| sm 2 rfl <| nL ?_
  refine tC rfl (fun hc20 => ?_) fun hc20 => ?_
  ·have hk : (z01 l 12 g).1 = 1 := by simp at hc20; omega
   refine tQ <| tG <| sm 1 rfl <| cE rfl (ocr (z2q l 2 (z01 l 12 g).2 oM0 (by (simp only [z01]; omega))) z39 rfl (po2 rfl rfl) rfl (fun k (h : _) => .inr h) rfl rfl) <| sm 1 rfl <| cE rfl (bSl rfl rfl uT35 tZ3 tS3 rfl rfl rfl rfl (fbk rfl) rfl) ?_
   refine cE rfl (ocr (z2k l [2] (z01 l 2 (z01 l 12 g).2).2 (by simp only [z01, z1n, List.length_cons, List.length_nil]; omega)) z1e rfl (po2 rfl rfl) rfl (fun k (h : _) => .inr h) rfl rfl) ?_
   refine cV rfl (bPu rfl rfl tZ43 tP43 rfl (fbk rfl) rfl) <| c0 (sBA rfl rfl rfl rfl rfl ((fun h => h)) tS43 (flk rfl) (lb rfl)) <| nL <| Tr.fixNil (k := 104) rfl (fun h => h) <| tRt ?_
   have e : z0w l seen g = z1v l 2 0 (z01 l 2 (z01 l 12 g).2).1 z0n seen [] [2] (z01 l 2 (z01 l 12 g).2).2 := by
     unfold z0w
     simp only []
     rw [if_neg oM0]; rw [if_pos oM0]
   rw [e]
   refine rCk (.inl rfl) (fun _ _ ho => lBP ho rfl rfl uT43 rfl tS43 (lb rfl) rfl trivial) rfl (po3 rfl rfl rfl)
  have n1 : ¬ (z01 l 12 g).1 = 1 := by simp at hc20; omega
  refine tQ <| tG <| sm 2 rfl <| nL ?_
  refine tC rfl (fun hc28 => ?_) fun hc28 => ?_
  ·have hk : (z01 l 12 g).1 = 2 := by simp at hc28; omega
   have e : z0w l seen g = z1v l 3 (zt2.getD (z01 l 4 (z01 l 12 g).2).1 0) 0 z0n seen [1] [1] (z01 l 4 (z01 l 12 g).2).2 := by
     unfold z0w
     simp only []
     rw [if_neg oM0]; rw [if_neg oM0]; rw [if_pos oM0]
   rw [e]
   have hP4 := z2q l 4 (z01 l 12 g).2 oM0 (by (simp only [z01]; omega))
   have hE4 := z1r l seen [1] (z01 l 4 (z01 l 12 g).2).2 hs (by simp only [z01, List.length_cons, List.length_nil]; omega) hsl
   have hO4 := z2k l [1] (z1p l seen [1] (z01 l 4 (z01 l 12 g).2).2).2 (by simp only [z01, z1n, List.length_cons, List.length_nil]; omega)
   refine tQ <| tDr z1a (fun k => k ∈ ([] : List Nat)) <| wR 10 [1, 5, 6, 7, 10, 11] kR0 h30 <| smR 6 rfl <| nR <| WA.all (rs := [0, 2, 8, 12]) kR0 sI0 ?_
   refine fmc ⟨?_, fmc ⟨?_, fmc ⟨?_, fmc ⟨?_, by simp⟩⟩⟩⟩
   ·refine wI rfl rfl nf nw (fun _ _ => bSl rfl rfl uT35 tZ3 tS3 rfl rfl rfl rfl (fbk rfl) rfl) <| WA.all (rs := [2, 8, 12]) kR0 sI0 ?_
    refine fmc ⟨?_, fmc ⟨?_, fmc ⟨?_, by simp⟩⟩⟩
    ·refine wI rfl rfl nf (nAp rfl) (fun _ _ => ocr (hP4) z39 rfl (po2 rfl rfl) rfl nl rfl rfl) <| wR 6 [3, 4] kR0 h30 <| rV rfl rfl (iSq rfl rfl rfl uT35 hO tS3 rfl rfl) <| smR 1 rfl <| nR <| WA.all (rs := [8, 12]) kR0 sI0 ?_
     refine fmc ⟨?_, fmc ⟨?_, by simp⟩⟩
     ·refine wI rfl rfl nf nw (fun _ _ => bSl rfl rfl uT35 tZ3 tS3 rfl rfl rfl rfl (fbk rfl) rfl) <| WA.all (rs := [9, 12]) kR0 sI0 ?_
      refine fmc ⟨?_, fmc ⟨?_, by simp⟩⟩
      ·refine wI rfl rfl nf (nAp rfl) (fun _ _ => ocr (hE4) z1m rfl (po3 rfl rfl rfl) rfl nl rfl rfl) <| wO 12 kR0 <| wI rfl rfl nf nw (fun _ _ => bSl rfl rfl uT35 tZ3 tS3 rfl rfl rfl rfl (fbk rfl) rfl) <| wO 13 kR0 <| wI rfl rfl nf (nAp rfl) (fun _ _ => ocr (hO4) z1e rfl (po2 rfl rfl) rfl nl rfl rfl) <| wR 1 [14] kR0 h30 <| rV rfl rfl (bPu rfl rfl tZ43 tP43 rfl (fbk rfl) rfl) <| nR <| wO 15 kR0 <| wI rfl rfl nf (nOl rfl) (fun _ _ => sBA rfl rfl rfl rfl rfl sI0 tS43 (flk rfl) (lb rfl)) <| wDn kR0 <| Tr.fixNil (k := 104) rfl (fun h => h) ?_
       refine tRt <| rCk (.inl rfl) (fun _ _ ho => lBP ho rfl rfl uT43 rfl tS43 (lb rfl) rfl trivial) rfl (po3 rfl rfl rfl)
      refine wI rfl rfl nf nw (fun _ _ => bSl rfl rfl uT35 tZ3 tS3 rfl rfl rfl rfl (fbk rfl) rfl) <| wO 9 kR0 <| wI rfl rfl nf (nAp rfl) (fun _ _ => ocr (hE4) z1m rfl (po3 rfl rfl rfl) rfl nl rfl rfl) <| wO 13 kR0 <| wI rfl rfl nf (nAp rfl) (fun _ _ => ocr (hO4) z1e rfl (po2 rfl rfl) rfl nl rfl rfl) <| wR 1 [14] kR0 h30 <| rV rfl rfl (bPu rfl rfl tZ43 tP43 rfl (fbk rfl) rfl) <| nR <| wO 15 kR0 <| wI rfl rfl nf (nOl rfl) (fun _ _ => sBA rfl rfl rfl rfl rfl sI0 tS43 (flk rfl) (lb rfl)) <| wDn kR0 <| Tr.fixNil (k := 104) rfl (fun h => h) ?_
      refine tRt <| rCk (.inl rfl) (fun _ _ ho => lBP ho rfl rfl uT43 rfl tS43 (lb rfl) rfl trivial) rfl (po3 rfl rfl rfl)
     refine wI rfl rfl nf nw (fun _ _ => bSl rfl rfl uT35 tZ3 tS3 rfl rfl rfl rfl (fbk rfl) rfl) <| wO 8 kR0 <| wI rfl rfl nf nw (fun _ _ => bSl rfl rfl uT35 tZ3 tS3 rfl rfl rfl rfl (fbk rfl) rfl) <| wO 9 kR0 <| wI rfl rfl nf (nAp rfl) (fun _ _ => ocr (hE4) z1m rfl (po3 rfl rfl rfl) rfl nl rfl rfl) <| wO 13 kR0 <| wI rfl rfl nf (nAp rfl) (fun _ _ => ocr (hO4) z1e rfl (po2 rfl rfl) rfl nl rfl rfl) <| wR 1 [14] kR0 h30 <| rV rfl rfl (bPu rfl rfl tZ43 tP43 rfl (fbk rfl) rfl) <| nR <| wO 15 kR0 <| wI rfl rfl nf (nOl rfl) (fun _ _ => sBA rfl rfl rfl rfl rfl sI0 tS43 (flk rfl) (lb rfl)) ?_
     refine wDn kR0 <| Tr.fixNil (k := 104) rfl (fun h => h) <| tRt <| rCk (.inl rfl) (fun _ _ ho => lBP ho rfl rfl uT43 rfl tS43 (lb rfl) rfl trivial) rfl (po3 rfl rfl rfl)
    ·refine wI rfl rfl nf nw (fun _ _ => bSl rfl rfl uT35 tZ3 tS3 rfl rfl rfl rfl (fbk rfl) rfl) <| WA.all (rs := [2, 12]) kR0 sI0 ?_
     refine fmc ⟨?_, fmc ⟨?_, by simp⟩⟩
     ·refine wI rfl rfl nf (nAp rfl) (fun _ _ => ocr (hP4) z39 rfl (po2 rfl rfl) rfl nl rfl rfl) <| wR 5 [3, 4] kR0 h30 <| rV rfl rfl (iSq rfl rfl rfl uT35 hO tS3 rfl rfl) <| smR 1 rfl <| nR <| WA.all (rs := [9, 12]) kR0 sI0 ?_
      refine fmc ⟨?_, fmc ⟨?_, by simp⟩⟩
      ·refine wI rfl rfl nf (nAp rfl) (fun _ _ => ocr (hE4) z1m rfl (po3 rfl rfl rfl) rfl nl rfl rfl) <| wO 12 kR0 <| wI rfl rfl nf nw (fun _ _ => bSl rfl rfl uT35 tZ3 tS3 rfl rfl rfl rfl (fbk rfl) rfl) <| wO 13 kR0 <| wI rfl rfl nf (nAp rfl) (fun _ _ => ocr (hO4) z1e rfl (po2 rfl rfl) rfl nl rfl rfl) <| wR 1 [14] kR0 h30 <| rV rfl rfl (bPu rfl rfl tZ43 tP43 rfl (fbk rfl) rfl) <| nR <| wO 15 kR0 <| wI rfl rfl nf (nOl rfl) (fun _ _ => sBA rfl rfl rfl rfl rfl sI0 tS43 (flk rfl) (lb rfl)) <| wDn kR0 <| Tr.fixNil (k := 104) rfl (fun h => h) ?_
       refine tRt <| rCk (.inl rfl) (fun _ _ ho => lBP ho rfl rfl uT43 rfl tS43 (lb rfl) rfl trivial) rfl (po3 rfl rfl rfl)
      refine wI rfl rfl nf nw (fun _ _ => bSl rfl rfl uT35 tZ3 tS3 rfl rfl rfl rfl (fbk rfl) rfl) <| wO 9 kR0 <| wI rfl rfl nf (nAp rfl) (fun _ _ => ocr (hE4) z1m rfl (po3 rfl rfl rfl) rfl nl rfl rfl) <| wO 13 kR0 <| wI rfl rfl nf (nAp rfl) (fun _ _ => ocr (hO4) z1e rfl (po2 rfl rfl) rfl nl rfl rfl) <| wR 1 [14] kR0 h30 <| rV rfl rfl (bPu rfl rfl tZ43 tP43 rfl (fbk rfl) rfl) <| nR <| wO 15 kR0 <| wI rfl rfl nf (nOl rfl) (fun _ _ => sBA rfl rfl rfl rfl rfl sI0 tS43 (flk rfl) (lb rfl)) <| wDn kR0 <| Tr.fixNil (k := 104) rfl (fun h => h) ?_
      refine tRt <| rCk (.inl rfl) (fun _ _ ho => lBP ho rfl rfl uT43 rfl tS43 (lb rfl) rfl trivial) rfl (po3 rfl rfl rfl)
     refine wI rfl rfl nf nw (fun _ _ => bSl rfl rfl uT35 tZ3 tS3 rfl rfl rfl rfl (fbk rfl) rfl) <| wO 2 kR0 <| wI rfl rfl nf (nAp rfl) (fun _ _ => ocr (hP4) z39 rfl (po2 rfl rfl) rfl nl rfl rfl) <| wR 4 [3, 4] kR0 h30 <| rV rfl rfl (iSq rfl rfl rfl uT35 hO tS3 rfl rfl) <| smR 1 rfl <| nR <| wO 9 kR0 <| wI rfl rfl nf (nAp rfl) (fun _ _ => ocr (hE4) z1m rfl (po3 rfl rfl rfl) rfl nl rfl rfl) <| wO 13 kR0 <| wI rfl rfl nf (nAp rfl) (fun _ _ => ocr (hO4) z1e rfl (po2 rfl rfl) rfl nl rfl rfl) <| wR 1 [14] kR0 h30 ?_
     refine rV rfl rfl (bPu rfl rfl tZ43 tP43 rfl (fbk rfl) rfl) <| nR <| wO 15 kR0 <| wI rfl rfl nf (nOl rfl) (fun _ _ => sBA rfl rfl rfl rfl rfl sI0 tS43 (flk rfl) (lb rfl)) <| wDn kR0 <| Tr.fixNil (k := 104) rfl (fun h => h) <| tRt <| rCk (.inl rfl) (fun _ _ ho => lBP ho rfl rfl uT43 rfl tS43 (lb rfl) rfl trivial) rfl (po3 rfl rfl rfl)
    refine wI rfl rfl nf nw (fun _ _ => bSl rfl rfl uT35 tZ3 tS3 rfl rfl rfl rfl (fbk rfl) rfl) <| WA.all (rs := [2, 8]) kR0 sI0 ?_
    refine fmc ⟨?_, fmc ⟨?_, by simp⟩⟩
    ·refine wI rfl rfl nf (nAp rfl) (fun _ _ => ocr (hP4) z39 rfl (po2 rfl rfl) rfl nl rfl rfl) <| wR 5 [3, 4] kR0 h30 <| rV rfl rfl (iSq rfl rfl rfl uT35 hO tS3 rfl rfl) <| smR 1 rfl <| nR <| wO 8 kR0 <| wI rfl rfl nf nw (fun _ _ => bSl rfl rfl uT35 tZ3 tS3 rfl rfl rfl rfl (fbk rfl) rfl) <| wO 9 kR0 <| wI rfl rfl nf (nAp rfl) (fun _ _ => ocr (hE4) z1m rfl (po3 rfl rfl rfl) rfl nl rfl rfl) <| wO 13 kR0 <| wI rfl rfl nf (nAp rfl) (fun _ _ => ocr (hO4) z1e rfl (po2 rfl rfl) rfl nl rfl rfl) <| wR 1 [14] kR0 h30 ?_
     refine rV rfl rfl (bPu rfl rfl tZ43 tP43 rfl (fbk rfl) rfl) <| nR <| wO 15 kR0 <| wI rfl rfl nf (nOl rfl) (fun _ _ => sBA rfl rfl rfl rfl rfl sI0 tS43 (flk rfl) (lb rfl)) <| wDn kR0 <| Tr.fixNil (k := 104) rfl (fun h => h) <| tRt <| rCk (.inl rfl) (fun _ _ ho => lBP ho rfl rfl uT43 rfl tS43 (lb rfl) rfl trivial) rfl (po3 rfl rfl rfl)
    refine wI rfl rfl nf nw (fun _ _ => bSl rfl rfl uT35 tZ3 tS3 rfl rfl rfl rfl (fbk rfl) rfl) <| wO 2 kR0 <| wI rfl rfl nf (nAp rfl) (fun _ _ => ocr (hP4) z39 rfl (po2 rfl rfl) rfl nl rfl rfl) <| wR 4 [3, 4] kR0 h30 <| rV rfl rfl (iSq rfl rfl rfl uT35 hO tS3 rfl rfl) <| smR 1 rfl <| nR <| wO 9 kR0 <| wI rfl rfl nf (nAp rfl) (fun _ _ => ocr (hE4) z1m rfl (po3 rfl rfl rfl) rfl nl rfl rfl) <| wO 13 kR0 <| wI rfl rfl nf (nAp rfl) (fun _ _ => ocr (hO4) z1e rfl (po2 rfl rfl) rfl nl rfl rfl) <| wR 1 [14] kR0 h30 ?_
    refine rV rfl rfl (bPu rfl rfl tZ43 tP43 rfl (fbk rfl) rfl) <| nR <| wO 15 kR0 <| wI rfl rfl nf (nOl rfl) (fun _ _ => sBA rfl rfl rfl rfl rfl sI0 tS43 (flk rfl) (lb rfl)) <| wDn kR0 <| Tr.fixNil (k := 104) rfl (fun h => h) <| tRt <| rCk (.inl rfl) (fun _ _ ho => lBP ho rfl rfl uT43 rfl tS43 (lb rfl) rfl trivial) rfl (po3 rfl rfl rfl)
   ·refine wI rfl rfl nf (nAp rfl) (fun _ _ => ocr (hP4) z39 rfl (po2 rfl rfl) rfl nl rfl rfl) <| WA.all (rs := [0, 8, 12]) kR0 sI0 ?_
    refine fmc ⟨?_, fmc ⟨?_, fmc ⟨?_, by simp⟩⟩⟩
    ·refine wI rfl rfl nf nw (fun _ _ => bSl rfl rfl uT35 tZ3 tS3 rfl rfl rfl rfl (fbk rfl) rfl) <| wR 6 [3, 4] kR0 h30 <| rV rfl rfl (iSq rfl rfl rfl uT35 hO tS3 rfl rfl) <| smR 1 rfl <| nR <| WA.all (rs := [8, 12]) kR0 sI0 ?_
     refine fmc ⟨?_, fmc ⟨?_, by simp⟩⟩
     ·refine wI rfl rfl nf nw (fun _ _ => bSl rfl rfl uT35 tZ3 tS3 rfl rfl rfl rfl (fbk rfl) rfl) <| WA.all (rs := [9, 12]) kR0 sI0 ?_
      refine fmc ⟨?_, fmc ⟨?_, by simp⟩⟩
      ·refine wI rfl rfl nf (nAp rfl) (fun _ _ => ocr (hE4) z1m rfl (po3 rfl rfl rfl) rfl nl rfl rfl) <| wO 12 kR0 <| wI rfl rfl nf nw (fun _ _ => bSl rfl rfl uT35 tZ3 tS3 rfl rfl rfl rfl (fbk rfl) rfl) <| wO 13 kR0 <| wI rfl rfl nf (nAp rfl) (fun _ _ => ocr (hO4) z1e rfl (po2 rfl rfl) rfl nl rfl rfl) <| wR 1 [14] kR0 h30 <| rV rfl rfl (bPu rfl rfl tZ43 tP43 rfl (fbk rfl) rfl) <| nR <| wO 15 kR0 <| wI rfl rfl nf (nOl rfl) (fun _ _ => sBA rfl rfl rfl rfl rfl sI0 tS43 (flk rfl) (lb rfl)) <| wDn kR0 <| Tr.fixNil (k := 104) rfl (fun h => h) ?_
       refine tRt <| rCk (.inl rfl) (fun _ _ ho => lBP ho rfl rfl uT43 rfl tS43 (lb rfl) rfl trivial) rfl (po3 rfl rfl rfl)
      refine wI rfl rfl nf nw (fun _ _ => bSl rfl rfl uT35 tZ3 tS3 rfl rfl rfl rfl (fbk rfl) rfl) <| wO 9 kR0 <| wI rfl rfl nf (nAp rfl) (fun _ _ => ocr (hE4) z1m rfl (po3 rfl rfl rfl) rfl nl rfl rfl) <| wO 13 kR0 <| wI rfl rfl nf (nAp rfl) (fun _ _ => ocr (hO4) z1e rfl (po2 rfl rfl) rfl nl rfl rfl) <| wR 1 [14] kR0 h30 <| rV rfl rfl (bPu rfl rfl tZ43 tP43 rfl (fbk rfl) rfl) <| nR <| wO 15 kR0 <| wI rfl rfl nf (nOl rfl) (fun _ _ => sBA rfl rfl rfl rfl rfl sI0 tS43 (flk rfl) (lb rfl)) <| wDn kR0 <| Tr.fixNil (k := 104) rfl (fun h => h) ?_
      refine tRt <| rCk (.inl rfl) (fun _ _ ho => lBP ho rfl rfl uT43 rfl tS43 (lb rfl) rfl trivial) rfl (po3 rfl rfl rfl)
     refine wI rfl rfl nf nw (fun _ _ => bSl rfl rfl uT35 tZ3 tS3 rfl rfl rfl rfl (fbk rfl) rfl) <| wO 8 kR0 <| wI rfl rfl nf nw (fun _ _ => bSl rfl rfl uT35 tZ3 tS3 rfl rfl rfl rfl (fbk rfl) rfl) <| wO 9 kR0 <| wI rfl rfl nf (nAp rfl) (fun _ _ => ocr (hE4) z1m rfl (po3 rfl rfl rfl) rfl nl rfl rfl) <| wO 13 kR0 <| wI rfl rfl nf (nAp rfl) (fun _ _ => ocr (hO4) z1e rfl (po2 rfl rfl) rfl nl rfl rfl) <| wR 1 [14] kR0 h30 <| rV rfl rfl (bPu rfl rfl tZ43 tP43 rfl (fbk rfl) rfl) <| nR <| wO 15 kR0 <| wI rfl rfl nf (nOl rfl) (fun _ _ => sBA rfl rfl rfl rfl rfl sI0 tS43 (flk rfl) (lb rfl)) ?_
     refine wDn kR0 <| Tr.fixNil (k := 104) rfl (fun h => h) <| tRt <| rCk (.inl rfl) (fun _ _ ho => lBP ho rfl rfl uT43 rfl tS43 (lb rfl) rfl trivial) rfl (po3 rfl rfl rfl)
    ·refine wI rfl rfl nf nw (fun _ _ => bSl rfl rfl uT35 tZ3 tS3 rfl rfl rfl rfl (fbk rfl) rfl) <| WA.all (rs := [0, 9, 12]) kR0 sI0 ?_
     refine fmc ⟨?_, fmc ⟨?_, fmc ⟨?_, by simp⟩⟩⟩
     ·refine wI rfl rfl nf nw (fun _ _ => bSl rfl rfl uT35 tZ3 tS3 rfl rfl rfl rfl (fbk rfl) rfl) <| wR 5 [3, 4] kR0 h30 <| rV rfl rfl (iSq rfl rfl rfl uT35 hO tS3 rfl rfl) <| smR 1 rfl <| nR <| WA.all (rs := [9, 12]) kR0 sI0 ?_
      refine fmc ⟨?_, fmc ⟨?_, by simp⟩⟩
      ·refine wI rfl rfl nf (nAp rfl) (fun _ _ => ocr (hE4) z1m rfl (po3 rfl rfl rfl) rfl nl rfl rfl) <| wO 12 kR0 <| wI rfl rfl nf nw (fun _ _ => bSl rfl rfl uT35 tZ3 tS3 rfl rfl rfl rfl (fbk rfl) rfl) <| wO 13 kR0 <| wI rfl rfl nf (nAp rfl) (fun _ _ => ocr (hO4) z1e rfl (po2 rfl rfl) rfl nl rfl rfl) <| wR 1 [14] kR0 h30 <| rV rfl rfl (bPu rfl rfl tZ43 tP43 rfl (fbk rfl) rfl) <| nR <| wO 15 kR0 <| wI rfl rfl nf (nOl rfl) (fun _ _ => sBA rfl rfl rfl rfl rfl sI0 tS43 (flk rfl) (lb rfl)) <| wDn kR0 <| Tr.fixNil (k := 104) rfl (fun h => h) ?_
       refine tRt <| rCk (.inl rfl) (fun _ _ ho => lBP ho rfl rfl uT43 rfl tS43 (lb rfl) rfl trivial) rfl (po3 rfl rfl rfl)
      refine wI rfl rfl nf nw (fun _ _ => bSl rfl rfl uT35 tZ3 tS3 rfl rfl rfl rfl (fbk rfl) rfl) <| wO 9 kR0 <| wI rfl rfl nf (nAp rfl) (fun _ _ => ocr (hE4) z1m rfl (po3 rfl rfl rfl) rfl nl rfl rfl) <| wO 13 kR0 <| wI rfl rfl nf (nAp rfl) (fun _ _ => ocr (hO4) z1e rfl (po2 rfl rfl) rfl nl rfl rfl) <| wR 1 [14] kR0 h30 <| rV rfl rfl (bPu rfl rfl tZ43 tP43 rfl (fbk rfl) rfl) <| nR <| wO 15 kR0 <| wI rfl rfl nf (nOl rfl) (fun _ _ => sBA rfl rfl rfl rfl rfl sI0 tS43 (flk rfl) (lb rfl)) <| wDn kR0 <| Tr.fixNil (k := 104) rfl (fun h => h) ?_
      refine tRt <| rCk (.inl rfl) (fun _ _ ho => lBP ho rfl rfl uT43 rfl tS43 (lb rfl) rfl trivial) rfl (po3 rfl rfl rfl)
     ·refine wI rfl rfl nf (nAp rfl) (fun _ _ => ocr (hE4) z1m rfl (po3 rfl rfl rfl) rfl nl rfl rfl) <| WA.all (rs := [0, 12]) kR0 sI0 ?_
      refine fmc ⟨?_, fmc ⟨?_, by simp⟩⟩
      ·refine wI rfl rfl nf nw (fun _ _ => bSl rfl rfl uT35 tZ3 tS3 rfl rfl rfl rfl (fbk rfl) rfl) <| wR 4 [3, 4] kR0 h30 <| rV rfl rfl (iSq rfl rfl rfl uT35 hO tS3 rfl rfl) <| smR 1 rfl <| nR <| wO 12 kR0 <| wI rfl rfl nf nw (fun _ _ => bSl rfl rfl uT35 tZ3 tS3 rfl rfl rfl rfl (fbk rfl) rfl) <| wO 13 kR0 <| wI rfl rfl nf (nAp rfl) (fun _ _ => ocr (hO4) z1e rfl (po2 rfl rfl) rfl nl rfl rfl) <| wR 1 [14] kR0 h30 <| rV rfl rfl (bPu rfl rfl tZ43 tP43 rfl (fbk rfl) rfl) <| nR ?_
       refine wO 15 kR0 <| wI rfl rfl nf (nOl rfl) (fun _ _ => sBA rfl rfl rfl rfl rfl sI0 tS43 (flk rfl) (lb rfl)) <| wDn kR0 <| Tr.fixNil (k := 104) rfl (fun h => h) <| tRt <| rCk (.inl rfl) (fun _ _ ho => lBP ho rfl rfl uT43 rfl tS43 (lb rfl) rfl trivial) rfl (po3 rfl rfl rfl)
      refine wI rfl rfl nf nw (fun _ _ => bSl rfl rfl uT35 tZ3 tS3 rfl rfl rfl rfl (fbk rfl) rfl) <| WA.all (rs := [0, 13]) kR0 sI0 ?_
      refine fmc ⟨?_, fmc ⟨?_, by simp⟩⟩
      ·refine wI rfl rfl nf nw (fun _ _ => bSl rfl rfl uT35 tZ3 tS3 rfl rfl rfl rfl (fbk rfl) rfl) <| wR 3 [3, 4] kR0 h30 <| rV rfl rfl (iSq rfl rfl rfl uT35 hO tS3 rfl rfl) <| smR 1 rfl <| nR <| wO 13 kR0 <| wI rfl rfl nf (nAp rfl) (fun _ _ => ocr (hO4) z1e rfl (po2 rfl rfl) rfl nl rfl rfl) <| wR 1 [14] kR0 h30 <| rV rfl rfl (bPu rfl rfl tZ43 tP43 rfl (fbk rfl) rfl) <| nR <| wO 15 kR0 <| wI rfl rfl nf (nOl rfl) (fun _ _ => sBA rfl rfl rfl rfl rfl sI0 tS43 (flk rfl) (lb rfl)) ?_
       refine wDn kR0 <| Tr.fixNil (k := 104) rfl (fun h => h) <| tRt <| rCk (.inl rfl) (fun _ _ ho => lBP ho rfl rfl uT43 rfl tS43 (lb rfl) rfl trivial) rfl (po3 rfl rfl rfl)
      refine wI rfl rfl nf (nAp rfl) (fun _ _ => ocr (hO4) z1e rfl (po2 rfl rfl) rfl nl rfl rfl) <| wO 0 kR0 <| wI rfl rfl nf nw (fun _ _ => bSl rfl rfl uT35 tZ3 tS3 rfl rfl rfl rfl (fbk rfl) rfl) <| wR 1 [3, 4, 14] kR0 h30 <| rV rfl rfl (iSq rfl rfl rfl uT35 hO tS3 rfl rfl) <| smR 1 rfl <| rV rfl rfl (bPu rfl rfl tZ43 tP43 rfl (fbk rfl) rfl) <| nR <| wO 15 kR0 <| wI rfl rfl nf (nOl rfl) (fun _ _ => sBA rfl rfl rfl rfl rfl sI0 tS43 (flk rfl) (lb rfl)) <| wDn kR0 <| Tr.fixNil (k := 104) rfl (fun h => h) ?_
      refine tRt <| rCk (.inl rfl) (fun _ _ ho => lBP ho rfl rfl uT43 rfl tS43 (lb rfl) rfl trivial) rfl (po3 rfl rfl rfl)
     refine wI rfl rfl nf nw (fun _ _ => bSl rfl rfl uT35 tZ3 tS3 rfl rfl rfl rfl (fbk rfl) rfl) <| WA.all (rs := [0, 9]) kR0 sI0 ?_
     refine fmc ⟨?_, fmc ⟨?_, by simp⟩⟩
     ·refine wI rfl rfl nf nw (fun _ _ => bSl rfl rfl uT35 tZ3 tS3 rfl rfl rfl rfl (fbk rfl) rfl) <| wR 4 [3, 4] kR0 h30 <| rV rfl rfl (iSq rfl rfl rfl uT35 hO tS3 rfl rfl) <| smR 1 rfl <| nR <| wO 9 kR0 <| wI rfl rfl nf (nAp rfl) (fun _ _ => ocr (hE4) z1m rfl (po3 rfl rfl rfl) rfl nl rfl rfl) <| wO 13 kR0 <| wI rfl rfl nf (nAp rfl) (fun _ _ => ocr (hO4) z1e rfl (po2 rfl rfl) rfl nl rfl rfl) <| wR 1 [14] kR0 h30 <| rV rfl rfl (bPu rfl rfl tZ43 tP43 rfl (fbk rfl) rfl) <| nR ?_
      refine wO 15 kR0 <| wI rfl rfl nf (nOl rfl) (fun _ _ => sBA rfl rfl rfl rfl rfl sI0 tS43 (flk rfl) (lb rfl)) <| wDn kR0 <| Tr.fixNil (k := 104) rfl (fun h => h) <| tRt <| rCk (.inl rfl) (fun _ _ ho => lBP ho rfl rfl uT43 rfl tS43 (lb rfl) rfl trivial) rfl (po3 rfl rfl rfl)
     refine wI rfl rfl nf (nAp rfl) (fun _ _ => ocr (hE4) z1m rfl (po3 rfl rfl rfl) rfl nl rfl rfl) <| WA.all (rs := [0, 13]) kR0 sI0 ?_
     refine fmc ⟨?_, fmc ⟨?_, by simp⟩⟩
     ·refine wI rfl rfl nf nw (fun _ _ => bSl rfl rfl uT35 tZ3 tS3 rfl rfl rfl rfl (fbk rfl) rfl) <| wR 3 [3, 4] kR0 h30 <| rV rfl rfl (iSq rfl rfl rfl uT35 hO tS3 rfl rfl) <| smR 1 rfl <| nR <| wO 13 kR0 <| wI rfl rfl nf (nAp rfl) (fun _ _ => ocr (hO4) z1e rfl (po2 rfl rfl) rfl nl rfl rfl) <| wR 1 [14] kR0 h30 <| rV rfl rfl (bPu rfl rfl tZ43 tP43 rfl (fbk rfl) rfl) <| nR <| wO 15 kR0 <| wI rfl rfl nf (nOl rfl) (fun _ _ => sBA rfl rfl rfl rfl rfl sI0 tS43 (flk rfl) (lb rfl)) ?_
      refine wDn kR0 <| Tr.fixNil (k := 104) rfl (fun h => h) <| tRt <| rCk (.inl rfl) (fun _ _ ho => lBP ho rfl rfl uT43 rfl tS43 (lb rfl) rfl trivial) rfl (po3 rfl rfl rfl)
     refine wI rfl rfl nf (nAp rfl) (fun _ _ => ocr (hO4) z1e rfl (po2 rfl rfl) rfl nl rfl rfl) <| wO 0 kR0 <| wI rfl rfl nf nw (fun _ _ => bSl rfl rfl uT35 tZ3 tS3 rfl rfl rfl rfl (fbk rfl) rfl) <| wR 1 [3, 4, 14] kR0 h30 <| rV rfl rfl (iSq rfl rfl rfl uT35 hO tS3 rfl rfl) <| smR 1 rfl <| rV rfl rfl (bPu rfl rfl tZ43 tP43 rfl (fbk rfl) rfl) <| nR <| wO 15 kR0 <| wI rfl rfl nf (nOl rfl) (fun _ _ => sBA rfl rfl rfl rfl rfl sI0 tS43 (flk rfl) (lb rfl)) <| wDn kR0 <| Tr.fixNil (k := 104) rfl (fun h => h) ?_
     refine tRt <| rCk (.inl rfl) (fun _ _ ho => lBP ho rfl rfl uT43 rfl tS43 (lb rfl) rfl trivial) rfl (po3 rfl rfl rfl)
    refine wI rfl rfl nf nw (fun _ _ => bSl rfl rfl uT35 tZ3 tS3 rfl rfl rfl rfl (fbk rfl) rfl) <| WA.all (rs := [0, 8]) kR0 sI0 ?_
    refine fmc ⟨?_, fmc ⟨?_, by simp⟩⟩
    ·refine wI rfl rfl nf nw (fun _ _ => bSl rfl rfl uT35 tZ3 tS3 rfl rfl rfl rfl (fbk rfl) rfl) <| wR 5 [3, 4] kR0 h30 <| rV rfl rfl (iSq rfl rfl rfl uT35 hO tS3 rfl rfl) <| smR 1 rfl <| nR <| wO 8 kR0 <| wI rfl rfl nf nw (fun _ _ => bSl rfl rfl uT35 tZ3 tS3 rfl rfl rfl rfl (fbk rfl) rfl) <| wO 9 kR0 <| wI rfl rfl nf (nAp rfl) (fun _ _ => ocr (hE4) z1m rfl (po3 rfl rfl rfl) rfl nl rfl rfl) <| wO 13 kR0 <| wI rfl rfl nf (nAp rfl) (fun _ _ => ocr (hO4) z1e rfl (po2 rfl rfl) rfl nl rfl rfl) <| wR 1 [14] kR0 h30 ?_
     refine rV rfl rfl (bPu rfl rfl tZ43 tP43 rfl (fbk rfl) rfl) <| nR <| wO 15 kR0 <| wI rfl rfl nf (nOl rfl) (fun _ _ => sBA rfl rfl rfl rfl rfl sI0 tS43 (flk rfl) (lb rfl)) <| wDn kR0 <| Tr.fixNil (k := 104) rfl (fun h => h) <| tRt <| rCk (.inl rfl) (fun _ _ ho => lBP ho rfl rfl uT43 rfl tS43 (lb rfl) rfl trivial) rfl (po3 rfl rfl rfl)
    refine wI rfl rfl nf nw (fun _ _ => bSl rfl rfl uT35 tZ3 tS3 rfl rfl rfl rfl (fbk rfl) rfl) <| WA.all (rs := [0, 9]) kR0 sI0 ?_
    refine fmc ⟨?_, fmc ⟨?_, by simp⟩⟩
    ·refine wI rfl rfl nf nw (fun _ _ => bSl rfl rfl uT35 tZ3 tS3 rfl rfl rfl rfl (fbk rfl) rfl) <| wR 4 [3, 4] kR0 h30 <| rV rfl rfl (iSq rfl rfl rfl uT35 hO tS3 rfl rfl) <| smR 1 rfl <| nR <| wO 9 kR0 <| wI rfl rfl nf (nAp rfl) (fun _ _ => ocr (hE4) z1m rfl (po3 rfl rfl rfl) rfl nl rfl rfl) <| wO 13 kR0 <| wI rfl rfl nf (nAp rfl) (fun _ _ => ocr (hO4) z1e rfl (po2 rfl rfl) rfl nl rfl rfl) <| wR 1 [14] kR0 h30 <| rV rfl rfl (bPu rfl rfl tZ43 tP43 rfl (fbk rfl) rfl) <| nR ?_
     refine wO 15 kR0 <| wI rfl rfl nf (nOl rfl) (fun _ _ => sBA rfl rfl rfl rfl rfl sI0 tS43 (flk rfl) (lb rfl)) <| wDn kR0 <| Tr.fixNil (k := 104) rfl (fun h => h) <| tRt <| rCk (.inl rfl) (fun _ _ ho => lBP ho rfl rfl uT43 rfl tS43 (lb rfl) rfl trivial) rfl (po3 rfl rfl rfl)
    refine wI rfl rfl nf (nAp rfl) (fun _ _ => ocr (hE4) z1m rfl (po3 rfl rfl rfl) rfl nl rfl rfl) <| WA.all (rs := [0, 13]) kR0 sI0 ?_
    refine fmc ⟨?_, fmc ⟨?_, by simp⟩⟩
    ·refine wI rfl rfl nf nw (fun _ _ => bSl rfl rfl uT35 tZ3 tS3 rfl rfl rfl rfl (fbk rfl) rfl) <| wR 3 [3, 4] kR0 h30 <| rV rfl rfl (iSq rfl rfl rfl uT35 hO tS3 rfl rfl) <| smR 1 rfl <| nR <| wO 13 kR0 <| wI rfl rfl nf (nAp rfl) (fun _ _ => ocr (hO4) z1e rfl (po2 rfl rfl) rfl nl rfl rfl) <| wR 1 [14] kR0 h30 <| rV rfl rfl (bPu rfl rfl tZ43 tP43 rfl (fbk rfl) rfl) <| nR <| wO 15 kR0 <| wI rfl rfl nf (nOl rfl) (fun _ _ => sBA rfl rfl rfl rfl rfl sI0 tS43 (flk rfl) (lb rfl)) ?_
     refine wDn kR0 <| Tr.fixNil (k := 104) rfl (fun h => h) <| tRt <| rCk (.inl rfl) (fun _ _ ho => lBP ho rfl rfl uT43 rfl tS43 (lb rfl) rfl trivial) rfl (po3 rfl rfl rfl)
    refine wI rfl rfl nf (nAp rfl) (fun _ _ => ocr (hO4) z1e rfl (po2 rfl rfl) rfl nl rfl rfl) <| wO 0 kR0 <| wI rfl rfl nf nw (fun _ _ => bSl rfl rfl uT35 tZ3 tS3 rfl rfl rfl rfl (fbk rfl) rfl) <| wR 1 [3, 4, 14] kR0 h30 <| rV rfl rfl (iSq rfl rfl rfl uT35 hO tS3 rfl rfl) <| smR 1 rfl <| rV rfl rfl (bPu rfl rfl tZ43 tP43 rfl (fbk rfl) rfl) <| nR <| wO 15 kR0 <| wI rfl rfl nf (nOl rfl) (fun _ _ => sBA rfl rfl rfl rfl rfl sI0 tS43 (flk rfl) (lb rfl)) <| wDn kR0 <| Tr.fixNil (k := 104) rfl (fun h => h) ?_
    refine tRt <| rCk (.inl rfl) (fun _ _ ho => lBP ho rfl rfl uT43 rfl tS43 (lb rfl) rfl trivial) rfl (po3 rfl rfl rfl)
   ·refine wI rfl rfl nf nw (fun _ _ => bSl rfl rfl uT35 tZ3 tS3 rfl rfl rfl rfl (fbk rfl) rfl) <| WA.all (rs := [0, 2, 12]) kR0 sI0 ?_
    refine fmc ⟨?_, fmc ⟨?_, fmc ⟨?_, by simp⟩⟩⟩
    ·refine wI rfl rfl nf nw (fun _ _ => bSl rfl rfl uT35 tZ3 tS3 rfl rfl rfl rfl (fbk rfl) rfl) <| WA.all (rs := [2, 12]) kR0 sI0 ?_
     refine fmc ⟨?_, fmc ⟨?_, by simp⟩⟩
     ·refine wI rfl rfl nf (nAp rfl) (fun _ _ => ocr (hP4) z39 rfl (po2 rfl rfl) rfl nl rfl rfl) <| wR 5 [3, 4] kR0 h30 <| rV rfl rfl (iSq rfl rfl rfl uT35 hO tS3 rfl rfl) <| smR 1 rfl <| nR <| WA.all (rs := [9, 12]) kR0 sI0 ?_
      refine fmc ⟨?_, fmc ⟨?_, by simp⟩⟩
      ·refine wI rfl rfl nf (nAp rfl) (fun _ _ => ocr (hE4) z1m rfl (po3 rfl rfl rfl) rfl nl rfl rfl) <| wO 12 kR0 <| wI rfl rfl nf nw (fun _ _ => bSl rfl rfl uT35 tZ3 tS3 rfl rfl rfl rfl (fbk rfl) rfl) <| wO 13 kR0 <| wI rfl rfl nf (nAp rfl) (fun _ _ => ocr (hO4) z1e rfl (po2 rfl rfl) rfl nl rfl rfl) <| wR 1 [14] kR0 h30 <| rV rfl rfl (bPu rfl rfl tZ43 tP43 rfl (fbk rfl) rfl) <| nR <| wO 15 kR0 <| wI rfl rfl nf (nOl rfl) (fun _ _ => sBA rfl rfl rfl rfl rfl sI0 tS43 (flk rfl) (lb rfl)) <| wDn kR0 <| Tr.fixNil (k := 104) rfl (fun h => h) ?_
       refine tRt <| rCk (.inl rfl) (fun _ _ ho => lBP ho rfl rfl uT43 rfl tS43 (lb rfl) rfl trivial) rfl (po3 rfl rfl rfl)
      refine wI rfl rfl nf nw (fun _ _ => bSl rfl rfl uT35 tZ3 tS3 rfl rfl rfl rfl (fbk rfl) rfl) <| wO 9 kR0 <| wI rfl rfl nf (nAp rfl) (fun _ _ => ocr (hE4) z1m rfl (po3 rfl rfl rfl) rfl nl rfl rfl) <| wO 13 kR0 <| wI rfl rfl nf (nAp rfl) (fun _ _ => ocr (hO4) z1e rfl (po2 rfl rfl) rfl nl rfl rfl) <| wR 1 [14] kR0 h30 <| rV rfl rfl (bPu rfl rfl tZ43 tP43 rfl (fbk rfl) rfl) <| nR <| wO 15 kR0 <| wI rfl rfl nf (nOl rfl) (fun _ _ => sBA rfl rfl rfl rfl rfl sI0 tS43 (flk rfl) (lb rfl)) <| wDn kR0 <| Tr.fixNil (k := 104) rfl (fun h => h) ?_
      refine tRt <| rCk (.inl rfl) (fun _ _ ho => lBP ho rfl rfl uT43 rfl tS43 (lb rfl) rfl trivial) rfl (po3 rfl rfl rfl)
     refine wI rfl rfl nf nw (fun _ _ => bSl rfl rfl uT35 tZ3 tS3 rfl rfl rfl rfl (fbk rfl) rfl) <| wO 2 kR0 <| wI rfl rfl nf (nAp rfl) (fun _ _ => ocr (hP4) z39 rfl (po2 rfl rfl) rfl nl rfl rfl) <| wR 4 [3, 4] kR0 h30 <| rV rfl rfl (iSq rfl rfl rfl uT35 hO tS3 rfl rfl) <| smR 1 rfl <| nR <| wO 9 kR0 <| wI rfl rfl nf (nAp rfl) (fun _ _ => ocr (hE4) z1m rfl (po3 rfl rfl rfl) rfl nl rfl rfl) <| wO 13 kR0 <| wI rfl rfl nf (nAp rfl) (fun _ _ => ocr (hO4) z1e rfl (po2 rfl rfl) rfl nl rfl rfl) <| wR 1 [14] kR0 h30 ?_
     refine rV rfl rfl (bPu rfl rfl tZ43 tP43 rfl (fbk rfl) rfl) <| nR <| wO 15 kR0 <| wI rfl rfl nf (nOl rfl) (fun _ _ => sBA rfl rfl rfl rfl rfl sI0 tS43 (flk rfl) (lb rfl)) <| wDn kR0 <| Tr.fixNil (k := 104) rfl (fun h => h) <| tRt <| rCk (.inl rfl) (fun _ _ ho => lBP ho rfl rfl uT43 rfl tS43 (lb rfl) rfl trivial) rfl (po3 rfl rfl rfl)
    ·refine wI rfl rfl nf (nAp rfl) (fun _ _ => ocr (hP4) z39 rfl (po2 rfl rfl) rfl nl rfl rfl) <| WA.all (rs := [0, 9, 12]) kR0 sI0 ?_
     refine fmc ⟨?_, fmc ⟨?_, fmc ⟨?_, by simp⟩⟩⟩
     ·refine wI rfl rfl nf nw (fun _ _ => bSl rfl rfl uT35 tZ3 tS3 rfl rfl rfl rfl (fbk rfl) rfl) <| wR 5 [3, 4] kR0 h30 <| rV rfl rfl (iSq rfl rfl rfl uT35 hO tS3 rfl rfl) <| smR 1 rfl <| nR <| WA.all (rs := [9, 12]) kR0 sI0 ?_
      refine fmc ⟨?_, fmc ⟨?_, by simp⟩⟩
      ·refine wI rfl rfl nf (nAp rfl) (fun _ _ => ocr (hE4) z1m rfl (po3 rfl rfl rfl) rfl nl rfl rfl) <| wO 12 kR0 <| wI rfl rfl nf nw (fun _ _ => bSl rfl rfl uT35 tZ3 tS3 rfl rfl rfl rfl (fbk rfl) rfl) <| wO 13 kR0 <| wI rfl rfl nf (nAp rfl) (fun _ _ => ocr (hO4) z1e rfl (po2 rfl rfl) rfl nl rfl rfl) <| wR 1 [14] kR0 h30 <| rV rfl rfl (bPu rfl rfl tZ43 tP43 rfl (fbk rfl) rfl) <| nR <| wO 15 kR0 <| wI rfl rfl nf (nOl rfl) (fun _ _ => sBA rfl rfl rfl rfl rfl sI0 tS43 (flk rfl) (lb rfl)) <| wDn kR0 <| Tr.fixNil (k := 104) rfl (fun h => h) ?_
       refine tRt <| rCk (.inl rfl) (fun _ _ ho => lBP ho rfl rfl uT43 rfl tS43 (lb rfl) rfl trivial) rfl (po3 rfl rfl rfl)
      refine wI rfl rfl nf nw (fun _ _ => bSl rfl rfl uT35 tZ3 tS3 rfl rfl rfl rfl (fbk rfl) rfl) <| wO 9 kR0 <| wI rfl rfl nf (nAp rfl) (fun _ _ => ocr (hE4) z1m rfl (po3 rfl rfl rfl) rfl nl rfl rfl) <| wO 13 kR0 <| wI rfl rfl nf (nAp rfl) (fun _ _ => ocr (hO4) z1e rfl (po2 rfl rfl) rfl nl rfl rfl) <| wR 1 [14] kR0 h30 <| rV rfl rfl (bPu rfl rfl tZ43 tP43 rfl (fbk rfl) rfl) <| nR <| wO 15 kR0 <| wI rfl rfl nf (nOl rfl) (fun _ _ => sBA rfl rfl rfl rfl rfl sI0 tS43 (flk rfl) (lb rfl)) <| wDn kR0 <| Tr.fixNil (k := 104) rfl (fun h => h) ?_
      refine tRt <| rCk (.inl rfl) (fun _ _ ho => lBP ho rfl rfl uT43 rfl tS43 (lb rfl) rfl trivial) rfl (po3 rfl rfl rfl)
     ·refine wI rfl rfl nf (nAp rfl) (fun _ _ => ocr (hE4) z1m rfl (po3 rfl rfl rfl) rfl nl rfl rfl) <| WA.all (rs := [0, 12]) kR0 sI0 ?_
      refine fmc ⟨?_, fmc ⟨?_, by simp⟩⟩
      ·refine wI rfl rfl nf nw (fun _ _ => bSl rfl rfl uT35 tZ3 tS3 rfl rfl rfl rfl (fbk rfl) rfl) <| wR 4 [3, 4] kR0 h30 <| rV rfl rfl (iSq rfl rfl rfl uT35 hO tS3 rfl rfl) <| smR 1 rfl <| nR <| wO 12 kR0 <| wI rfl rfl nf nw (fun _ _ => bSl rfl rfl uT35 tZ3 tS3 rfl rfl rfl rfl (fbk rfl) rfl) <| wO 13 kR0 <| wI rfl rfl nf (nAp rfl) (fun _ _ => ocr (hO4) z1e rfl (po2 rfl rfl) rfl nl rfl rfl) <| wR 1 [14] kR0 h30 <| rV rfl rfl (bPu rfl rfl tZ43 tP43 rfl (fbk rfl) rfl) <| nR ?_
       refine wO 15 kR0 <| wI rfl rfl nf (nOl rfl) (fun _ _ => sBA rfl rfl rfl rfl rfl sI0 tS43 (flk rfl) (lb rfl)) <| wDn kR0 <| Tr.fixNil (k := 104) rfl (fun h => h) <| tRt <| rCk (.inl rfl) (fun _ _ ho => lBP ho rfl rfl uT43 rfl tS43 (lb rfl) rfl trivial) rfl (po3 rfl rfl rfl)
      refine wI rfl rfl nf nw (fun _ _ => bSl rfl rfl uT35 tZ3 tS3 rfl rfl rfl rfl (fbk rfl) rfl) <| WA.all (rs := [0, 13]) kR0 sI0 ?_
      refine fmc ⟨?_, fmc ⟨?_, by simp⟩⟩
      ·refine wI rfl rfl nf nw (fun _ _ => bSl rfl rfl uT35 tZ3 tS3 rfl rfl rfl rfl (fbk rfl) rfl) <| wR 3 [3, 4] kR0 h30 <| rV rfl rfl (iSq rfl rfl rfl uT35 hO tS3 rfl rfl) <| smR 1 rfl <| nR <| wO 13 kR0 <| wI rfl rfl nf (nAp rfl) (fun _ _ => ocr (hO4) z1e rfl (po2 rfl rfl) rfl nl rfl rfl) <| wR 1 [14] kR0 h30 <| rV rfl rfl (bPu rfl rfl tZ43 tP43 rfl (fbk rfl) rfl) <| nR <| wO 15 kR0 <| wI rfl rfl nf (nOl rfl) (fun _ _ => sBA rfl rfl rfl rfl rfl sI0 tS43 (flk rfl) (lb rfl)) ?_
       refine wDn kR0 <| Tr.fixNil (k := 104) rfl (fun h => h) <| tRt <| rCk (.inl rfl) (fun _ _ ho => lBP ho rfl rfl uT43 rfl tS43 (lb rfl) rfl trivial) rfl (po3 rfl rfl rfl)
      refine wI rfl rfl nf (nAp rfl) (fun _ _ => ocr (hO4) z1e rfl (po2 rfl rfl) rfl nl rfl rfl) <| wO 0 kR0 <| wI rfl rfl nf nw (fun _ _ => bSl rfl rfl uT35 tZ3 tS3 rfl rfl rfl rfl (fbk rfl) rfl) <| wR 1 [3, 4, 14] kR0 h30 <| rV rfl rfl (iSq rfl rfl rfl uT35 hO tS3 rfl rfl) <| smR 1 rfl <| rV rfl rfl (bPu rfl rfl tZ43 tP43 rfl (fbk rfl) rfl) <| nR <| wO 15 kR0 <| wI rfl rfl nf (nOl rfl) (fun _ _ => sBA rfl rfl rfl rfl rfl sI0 tS43 (flk rfl) (lb rfl)) <| wDn kR0 <| Tr.fixNil (k := 104) rfl (fun h => h) ?_
      refine tRt <| rCk (.inl rfl) (fun _ _ ho => lBP ho rfl rfl uT43 rfl tS43 (lb rfl) rfl trivial) rfl (po3 rfl rfl rfl)
     refine wI rfl rfl nf nw (fun _ _ => bSl rfl rfl uT35 tZ3 tS3 rfl rfl rfl rfl (fbk rfl) rfl) <| WA.all (rs := [0, 9]) kR0 sI0 ?_
     refine fmc ⟨?_, fmc ⟨?_, by simp⟩⟩
     ·refine wI rfl rfl nf nw (fun _ _ => bSl rfl rfl uT35 tZ3 tS3 rfl rfl rfl rfl (fbk rfl) rfl) <| wR 4 [3, 4] kR0 h30 <| rV rfl rfl (iSq rfl rfl rfl uT35 hO tS3 rfl rfl) <| smR 1 rfl <| nR <| wO 9 kR0 <| wI rfl rfl nf (nAp rfl) (fun _ _ => ocr (hE4) z1m rfl (po3 rfl rfl rfl) rfl nl rfl rfl) <| wO 13 kR0 <| wI rfl rfl nf (nAp rfl) (fun _ _ => ocr (hO4) z1e rfl (po2 rfl rfl) rfl nl rfl rfl) <| wR 1 [14] kR0 h30 <| rV rfl rfl (bPu rfl rfl tZ43 tP43 rfl (fbk rfl) rfl) <| nR ?_
      refine wO 15 kR0 <| wI rfl rfl nf (nOl rfl) (fun _ _ => sBA rfl rfl rfl rfl rfl sI0 tS43 (flk rfl) (lb rfl)) <| wDn kR0 <| Tr.fixNil (k := 104) rfl (fun h => h) <| tRt <| rCk (.inl rfl) (fun _ _ ho => lBP ho rfl rfl uT43 rfl tS43 (lb rfl) rfl trivial) rfl (po3 rfl rfl rfl)
     refine wI rfl rfl nf (nAp rfl) (fun _ _ => ocr (hE4) z1m rfl (po3 rfl rfl rfl) rfl nl rfl rfl) <| WA.all (rs := [0, 13]) kR0 sI0 ?_
     refine fmc ⟨?_, fmc ⟨?_, by simp⟩⟩
     ·refine wI rfl rfl nf nw (fun _ _ => bSl rfl rfl uT35 tZ3 tS3 rfl rfl rfl rfl (fbk rfl) rfl) <| wR 3 [3, 4] kR0 h30 <| rV rfl rfl (iSq rfl rfl rfl uT35 hO tS3 rfl rfl) <| smR 1 rfl <| nR <| wO 13 kR0 <| wI rfl rfl nf (nAp rfl) (fun _ _ => ocr (hO4) z1e rfl (po2 rfl rfl) rfl nl rfl rfl) <| wR 1 [14] kR0 h30 <| rV rfl rfl (bPu rfl rfl tZ43 tP43 rfl (fbk rfl) rfl) <| nR <| wO 15 kR0 <| wI rfl rfl nf (nOl rfl) (fun _ _ => sBA rfl rfl rfl rfl rfl sI0 tS43 (flk rfl) (lb rfl)) ?_
      refine wDn kR0 <| Tr.fixNil (k := 104) rfl (fun h => h) <| tRt <| rCk (.inl rfl) (fun _ _ ho => lBP ho rfl rfl uT43 rfl tS43 (lb rfl) rfl trivial) rfl (po3 rfl rfl rfl)
     refine wI rfl rfl nf (nAp rfl) (fun _ _ => ocr (hO4) z1e rfl (po2 rfl rfl) rfl nl rfl rfl) <| wO 0 kR0 <| wI rfl rfl nf nw (fun _ _ => bSl rfl rfl uT35 tZ3 tS3 rfl rfl rfl rfl (fbk rfl) rfl) <| wR 1 [3, 4, 14] kR0 h30 <| rV rfl rfl (iSq rfl rfl rfl uT35 hO tS3 rfl rfl) <| smR 1 rfl <| rV rfl rfl (bPu rfl rfl tZ43 tP43 rfl (fbk rfl) rfl) <| nR <| wO 15 kR0 <| wI rfl rfl nf (nOl rfl) (fun _ _ => sBA rfl rfl rfl rfl rfl sI0 tS43 (flk rfl) (lb rfl)) <| wDn kR0 <| Tr.fixNil (k := 104) rfl (fun h => h) ?_
     refine tRt <| rCk (.inl rfl) (fun _ _ ho => lBP ho rfl rfl uT43 rfl tS43 (lb rfl) rfl trivial) rfl (po3 rfl rfl rfl)
    refine wI rfl rfl nf nw (fun _ _ => bSl rfl rfl uT35 tZ3 tS3 rfl rfl rfl rfl (fbk rfl) rfl) <| WA.all (rs := [0, 2]) kR0 sI0 ?_
    refine fmc ⟨?_, fmc ⟨?_, by simp⟩⟩
    ·refine wI rfl rfl nf nw (fun _ _ => bSl rfl rfl uT35 tZ3 tS3 rfl rfl rfl rfl (fbk rfl) rfl) <| wO 2 kR0 <| wI rfl rfl nf (nAp rfl) (fun _ _ => ocr (hP4) z39 rfl (po2 rfl rfl) rfl nl rfl rfl) <| wR 4 [3, 4] kR0 h30 <| rV rfl rfl (iSq rfl rfl rfl uT35 hO tS3 rfl rfl) <| smR 1 rfl <| nR <| wO 9 kR0 <| wI rfl rfl nf (nAp rfl) (fun _ _ => ocr (hE4) z1m rfl (po3 rfl rfl rfl) rfl nl rfl rfl) <| wO 13 kR0 <| wI rfl rfl nf (nAp rfl) (fun _ _ => ocr (hO4) z1e rfl (po2 rfl rfl) rfl nl rfl rfl) <| wR 1 [14] kR0 h30 ?_
     refine rV rfl rfl (bPu rfl rfl tZ43 tP43 rfl (fbk rfl) rfl) <| nR <| wO 15 kR0 <| wI rfl rfl nf (nOl rfl) (fun _ _ => sBA rfl rfl rfl rfl rfl sI0 tS43 (flk rfl) (lb rfl)) <| wDn kR0 <| Tr.fixNil (k := 104) rfl (fun h => h) <| tRt <| rCk (.inl rfl) (fun _ _ ho => lBP ho rfl rfl uT43 rfl tS43 (lb rfl) rfl trivial) rfl (po3 rfl rfl rfl)
    refine wI rfl rfl nf (nAp rfl) (fun _ _ => ocr (hP4) z39 rfl (po2 rfl rfl) rfl nl rfl rfl) <| WA.all (rs := [0, 9]) kR0 sI0 ?_
    refine fmc ⟨?_, fmc ⟨?_, by simp⟩⟩
    ·refine wI rfl rfl nf nw (fun _ _ => bSl rfl rfl uT35 tZ3 tS3 rfl rfl rfl rfl (fbk rfl) rfl) <| wR 4 [3, 4] kR0 h30 <| rV rfl rfl (iSq rfl rfl rfl uT35 hO tS3 rfl rfl) <| smR 1 rfl <| nR <| wO 9 kR0 <| wI rfl rfl nf (nAp rfl) (fun _ _ => ocr (hE4) z1m rfl (po3 rfl rfl rfl) rfl nl rfl rfl) <| wO 13 kR0 <| wI rfl rfl nf (nAp rfl) (fun _ _ => ocr (hO4) z1e rfl (po2 rfl rfl) rfl nl rfl rfl) <| wR 1 [14] kR0 h30 <| rV rfl rfl (bPu rfl rfl tZ43 tP43 rfl (fbk rfl) rfl) <| nR ?_
     refine wO 15 kR0 <| wI rfl rfl nf (nOl rfl) (fun _ _ => sBA rfl rfl rfl rfl rfl sI0 tS43 (flk rfl) (lb rfl)) <| wDn kR0 <| Tr.fixNil (k := 104) rfl (fun h => h) <| tRt <| rCk (.inl rfl) (fun _ _ ho => lBP ho rfl rfl uT43 rfl tS43 (lb rfl) rfl trivial) rfl (po3 rfl rfl rfl)
    refine wI rfl rfl nf (nAp rfl) (fun _ _ => ocr (hE4) z1m rfl (po3 rfl rfl rfl) rfl nl rfl rfl) <| WA.all (rs := [0, 13]) kR0 sI0 ?_
    refine fmc ⟨?_, fmc ⟨?_, by simp⟩⟩
    ·refine wI rfl rfl nf nw (fun _ _ => bSl rfl rfl uT35 tZ3 tS3 rfl rfl rfl rfl (fbk rfl) rfl) <| wR 3 [3, 4] kR0 h30 <| rV rfl rfl (iSq rfl rfl rfl uT35 hO tS3 rfl rfl) <| smR 1 rfl <| nR <| wO 13 kR0 <| wI rfl rfl nf (nAp rfl) (fun _ _ => ocr (hO4) z1e rfl (po2 rfl rfl) rfl nl rfl rfl) <| wR 1 [14] kR0 h30 <| rV rfl rfl (bPu rfl rfl tZ43 tP43 rfl (fbk rfl) rfl) <| nR <| wO 15 kR0 <| wI rfl rfl nf (nOl rfl) (fun _ _ => sBA rfl rfl rfl rfl rfl sI0 tS43 (flk rfl) (lb rfl)) ?_
     refine wDn kR0 <| Tr.fixNil (k := 104) rfl (fun h => h) <| tRt <| rCk (.inl rfl) (fun _ _ ho => lBP ho rfl rfl uT43 rfl tS43 (lb rfl) rfl trivial) rfl (po3 rfl rfl rfl)
    refine wI rfl rfl nf (nAp rfl) (fun _ _ => ocr (hO4) z1e rfl (po2 rfl rfl) rfl nl rfl rfl) <| wO 0 kR0 <| wI rfl rfl nf nw (fun _ _ => bSl rfl rfl uT35 tZ3 tS3 rfl rfl rfl rfl (fbk rfl) rfl) <| wR 1 [3, 4, 14] kR0 h30 <| rV rfl rfl (iSq rfl rfl rfl uT35 hO tS3 rfl rfl) <| smR 1 rfl <| rV rfl rfl (bPu rfl rfl tZ43 tP43 rfl (fbk rfl) rfl) <| nR <| wO 15 kR0 <| wI rfl rfl nf (nOl rfl) (fun _ _ => sBA rfl rfl rfl rfl rfl sI0 tS43 (flk rfl) (lb rfl)) <| wDn kR0 <| Tr.fixNil (k := 104) rfl (fun h => h) ?_
    refine tRt <| rCk (.inl rfl) (fun _ _ ho => lBP ho rfl rfl uT43 rfl tS43 (lb rfl) rfl trivial) rfl (po3 rfl rfl rfl)
   refine wI rfl rfl nf nw (fun _ _ => bSl rfl rfl uT35 tZ3 tS3 rfl rfl rfl rfl (fbk rfl) rfl) <| WA.all (rs := [0, 2, 8]) kR0 sI0 ?_
   refine fmc ⟨?_, fmc ⟨?_, fmc ⟨?_, by simp⟩⟩⟩
   ·refine wI rfl rfl nf nw (fun _ _ => bSl rfl rfl uT35 tZ3 tS3 rfl rfl rfl rfl (fbk rfl) rfl) <| WA.all (rs := [2, 8]) kR0 sI0 ?_
    refine fmc ⟨?_, fmc ⟨?_, by simp⟩⟩
    ·refine wI rfl rfl nf (nAp rfl) (fun _ _ => ocr (hP4) z39 rfl (po2 rfl rfl) rfl nl rfl rfl) <| wR 5 [3, 4] kR0 h30 <| rV rfl rfl (iSq rfl rfl rfl uT35 hO tS3 rfl rfl) <| smR 1 rfl <| nR <| wO 8 kR0 <| wI rfl rfl nf nw (fun _ _ => bSl rfl rfl uT35 tZ3 tS3 rfl rfl rfl rfl (fbk rfl) rfl) <| wO 9 kR0 <| wI rfl rfl nf (nAp rfl) (fun _ _ => ocr (hE4) z1m rfl (po3 rfl rfl rfl) rfl nl rfl rfl) <| wO 13 kR0 <| wI rfl rfl nf (nAp rfl) (fun _ _ => ocr (hO4) z1e rfl (po2 rfl rfl) rfl nl rfl rfl) <| wR 1 [14] kR0 h30 ?_
     refine rV rfl rfl (bPu rfl rfl tZ43 tP43 rfl (fbk rfl) rfl) <| nR <| wO 15 kR0 <| wI rfl rfl nf (nOl rfl) (fun _ _ => sBA rfl rfl rfl rfl rfl sI0 tS43 (flk rfl) (lb rfl)) <| wDn kR0 <| Tr.fixNil (k := 104) rfl (fun h => h) <| tRt <| rCk (.inl rfl) (fun _ _ ho => lBP ho rfl rfl uT43 rfl tS43 (lb rfl) rfl trivial) rfl (po3 rfl rfl rfl)
    refine wI rfl rfl nf nw (fun _ _ => bSl rfl rfl uT35 tZ3 tS3 rfl rfl rfl rfl (fbk rfl) rfl) <| wO 2 kR0 <| wI rfl rfl nf (nAp rfl) (fun _ _ => ocr (hP4) z39 rfl (po2 rfl rfl) rfl nl rfl rfl) <| wR 4 [3, 4] kR0 h30 <| rV rfl rfl (iSq rfl rfl rfl uT35 hO tS3 rfl rfl) <| smR 1 rfl <| nR <| wO 9 kR0 <| wI rfl rfl nf (nAp rfl) (fun _ _ => ocr (hE4) z1m rfl (po3 rfl rfl rfl) rfl nl rfl rfl) <| wO 13 kR0 <| wI rfl rfl nf (nAp rfl) (fun _ _ => ocr (hO4) z1e rfl (po2 rfl rfl) rfl nl rfl rfl) <| wR 1 [14] kR0 h30 ?_
    refine rV rfl rfl (bPu rfl rfl tZ43 tP43 rfl (fbk rfl) rfl) <| nR <| wO 15 kR0 <| wI rfl rfl nf (nOl rfl) (fun _ _ => sBA rfl rfl rfl rfl rfl sI0 tS43 (flk rfl) (lb rfl)) <| wDn kR0 <| Tr.fixNil (k := 104) rfl (fun h => h) <| tRt <| rCk (.inl rfl) (fun _ _ ho => lBP ho rfl rfl uT43 rfl tS43 (lb rfl) rfl trivial) rfl (po3 rfl rfl rfl)
   ·refine wI rfl rfl nf (nAp rfl) (fun _ _ => ocr (hP4) z39 rfl (po2 rfl rfl) rfl nl rfl rfl) <| WA.all (rs := [0, 8]) kR0 sI0 ?_
    refine fmc ⟨?_, fmc ⟨?_, by simp⟩⟩
    ·refine wI rfl rfl nf nw (fun _ _ => bSl rfl rfl uT35 tZ3 tS3 rfl rfl rfl rfl (fbk rfl) rfl) <| wR 5 [3, 4] kR0 h30 <| rV rfl rfl (iSq rfl rfl rfl uT35 hO tS3 rfl rfl) <| smR 1 rfl <| nR <| wO 8 kR0 <| wI rfl rfl nf nw (fun _ _ => bSl rfl rfl uT35 tZ3 tS3 rfl rfl rfl rfl (fbk rfl) rfl) <| wO 9 kR0 <| wI rfl rfl nf (nAp rfl) (fun _ _ => ocr (hE4) z1m rfl (po3 rfl rfl rfl) rfl nl rfl rfl) <| wO 13 kR0 <| wI rfl rfl nf (nAp rfl) (fun _ _ => ocr (hO4) z1e rfl (po2 rfl rfl) rfl nl rfl rfl) <| wR 1 [14] kR0 h30 ?_
     refine rV rfl rfl (bPu rfl rfl tZ43 tP43 rfl (fbk rfl) rfl) <| nR <| wO 15 kR0 <| wI rfl rfl nf (nOl rfl) (fun _ _ => sBA rfl rfl rfl rfl rfl sI0 tS43 (flk rfl) (lb rfl)) <| wDn kR0 <| Tr.fixNil (k := 104) rfl (fun h => h) <| tRt <| rCk (.inl rfl) (fun _ _ ho => lBP ho rfl rfl uT43 rfl tS43 (lb rfl) rfl trivial) rfl (po3 rfl rfl rfl)
    refine wI rfl rfl nf nw (fun _ _ => bSl rfl rfl uT35 tZ3 tS3 rfl rfl rfl rfl (fbk rfl) rfl) <| WA.all (rs := [0, 9]) kR0 sI0 ?_
    refine fmc ⟨?_, fmc ⟨?_, by simp⟩⟩
    ·refine wI rfl rfl nf nw (fun _ _ => bSl rfl rfl uT35 tZ3 tS3 rfl rfl rfl rfl (fbk rfl) rfl) <| wR 4 [3, 4] kR0 h30 <| rV rfl rfl (iSq rfl rfl rfl uT35 hO tS3 rfl rfl) <| smR 1 rfl <| nR <| wO 9 kR0 <| wI rfl rfl nf (nAp rfl) (fun _ _ => ocr (hE4) z1m rfl (po3 rfl rfl rfl) rfl nl rfl rfl) <| wO 13 kR0 <| wI rfl rfl nf (nAp rfl) (fun _ _ => ocr (hO4) z1e rfl (po2 rfl rfl) rfl nl rfl rfl) <| wR 1 [14] kR0 h30 <| rV rfl rfl (bPu rfl rfl tZ43 tP43 rfl (fbk rfl) rfl) <| nR ?_
     refine wO 15 kR0 <| wI rfl rfl nf (nOl rfl) (fun _ _ => sBA rfl rfl rfl rfl rfl sI0 tS43 (flk rfl) (lb rfl)) <| wDn kR0 <| Tr.fixNil (k := 104) rfl (fun h => h) <| tRt <| rCk (.inl rfl) (fun _ _ ho => lBP ho rfl rfl uT43 rfl tS43 (lb rfl) rfl trivial) rfl (po3 rfl rfl rfl)
    refine wI rfl rfl nf (nAp rfl) (fun _ _ => ocr (hE4) z1m rfl (po3 rfl rfl rfl) rfl nl rfl rfl) <| WA.all (rs := [0, 13]) kR0 sI0 ?_
    refine fmc ⟨?_, fmc ⟨?_, by simp⟩⟩
    ·refine wI rfl rfl nf nw (fun _ _ => bSl rfl rfl uT35 tZ3 tS3 rfl rfl rfl rfl (fbk rfl) rfl) <| wR 3 [3, 4] kR0 h30 <| rV rfl rfl (iSq rfl rfl rfl uT35 hO tS3 rfl rfl) <| smR 1 rfl <| nR <| wO 13 kR0 <| wI rfl rfl nf (nAp rfl) (fun _ _ => ocr (hO4) z1e rfl (po2 rfl rfl) rfl nl rfl rfl) <| wR 1 [14] kR0 h30 <| rV rfl rfl (bPu rfl rfl tZ43 tP43 rfl (fbk rfl) rfl) <| nR <| wO 15 kR0 <| wI rfl rfl nf (nOl rfl) (fun _ _ => sBA rfl rfl rfl rfl rfl sI0 tS43 (flk rfl) (lb rfl)) ?_
     refine wDn kR0 <| Tr.fixNil (k := 104) rfl (fun h => h) <| tRt <| rCk (.inl rfl) (fun _ _ ho => lBP ho rfl rfl uT43 rfl tS43 (lb rfl) rfl trivial) rfl (po3 rfl rfl rfl)
    refine wI rfl rfl nf (nAp rfl) (fun _ _ => ocr (hO4) z1e rfl (po2 rfl rfl) rfl nl rfl rfl) <| wO 0 kR0 <| wI rfl rfl nf nw (fun _ _ => bSl rfl rfl uT35 tZ3 tS3 rfl rfl rfl rfl (fbk rfl) rfl) <| wR 1 [3, 4, 14] kR0 h30 <| rV rfl rfl (iSq rfl rfl rfl uT35 hO tS3 rfl rfl) <| smR 1 rfl <| rV rfl rfl (bPu rfl rfl tZ43 tP43 rfl (fbk rfl) rfl) <| nR <| wO 15 kR0 <| wI rfl rfl nf (nOl rfl) (fun _ _ => sBA rfl rfl rfl rfl rfl sI0 tS43 (flk rfl) (lb rfl)) <| wDn kR0 <| Tr.fixNil (k := 104) rfl (fun h => h) ?_
    refine tRt <| rCk (.inl rfl) (fun _ _ ho => lBP ho rfl rfl uT43 rfl tS43 (lb rfl) rfl trivial) rfl (po3 rfl rfl rfl)
   refine wI rfl rfl nf nw (fun _ _ => bSl rfl rfl uT35 tZ3 tS3 rfl rfl rfl rfl (fbk rfl) rfl) <| WA.all (rs := [0, 2]) kR0 sI0 ?_
   refine fmc ⟨?_, fmc ⟨?_, by simp⟩⟩
   ·refine wI rfl rfl nf nw (fun _ _ => bSl rfl rfl uT35 tZ3 tS3 rfl rfl rfl rfl (fbk rfl) rfl) <| wO 2 kR0 <| wI rfl rfl nf (nAp rfl) (fun _ _ => ocr (hP4) z39 rfl (po2 rfl rfl) rfl nl rfl rfl) <| wR 4 [3, 4] kR0 h30 <| rV rfl rfl (iSq rfl rfl rfl uT35 hO tS3 rfl rfl) <| smR 1 rfl <| nR <| wO 9 kR0 <| wI rfl rfl nf (nAp rfl) (fun _ _ => ocr (hE4) z1m rfl (po3 rfl rfl rfl) rfl nl rfl rfl) <| wO 13 kR0 <| wI rfl rfl nf (nAp rfl) (fun _ _ => ocr (hO4) z1e rfl (po2 rfl rfl) rfl nl rfl rfl) <| wR 1 [14] kR0 h30 ?_
    refine rV rfl rfl (bPu rfl rfl tZ43 tP43 rfl (fbk rfl) rfl) <| nR <| wO 15 kR0 <| wI rfl rfl nf (nOl rfl) (fun _ _ => sBA rfl rfl rfl rfl rfl sI0 tS43 (flk rfl) (lb rfl)) <| wDn kR0 <| Tr.fixNil (k := 104) rfl (fun h => h) <| tRt <| rCk (.inl rfl) (fun _ _ ho => lBP ho rfl rfl uT43 rfl tS43 (lb rfl) rfl trivial) rfl (po3 rfl rfl rfl)
   refine wI rfl rfl nf (nAp rfl) (fun _ _ => ocr (hP4) z39 rfl (po2 rfl rfl) rfl nl rfl rfl) <| WA.all (rs := [0, 9]) kR0 sI0 ?_
   refine fmc ⟨?_, fmc ⟨?_, by simp⟩⟩
   ·refine wI rfl rfl nf nw (fun _ _ => bSl rfl rfl uT35 tZ3 tS3 rfl rfl rfl rfl (fbk rfl) rfl) <| wR 4 [3, 4] kR0 h30 <| rV rfl rfl (iSq rfl rfl rfl uT35 hO tS3 rfl rfl) <| smR 1 rfl <| nR <| wO 9 kR0 <| wI rfl rfl nf (nAp rfl) (fun _ _ => ocr (hE4) z1m rfl (po3 rfl rfl rfl) rfl nl rfl rfl) <| wO 13 kR0 <| wI rfl rfl nf (nAp rfl) (fun _ _ => ocr (hO4) z1e rfl (po2 rfl rfl) rfl nl rfl rfl) <| wR 1 [14] kR0 h30 <| rV rfl rfl (bPu rfl rfl tZ43 tP43 rfl (fbk rfl) rfl) <| nR ?_
    refine wO 15 kR0 <| wI rfl rfl nf (nOl rfl) (fun _ _ => sBA rfl rfl rfl rfl rfl sI0 tS43 (flk rfl) (lb rfl)) <| wDn kR0 <| Tr.fixNil (k := 104) rfl (fun h => h) <| tRt <| rCk (.inl rfl) (fun _ _ ho => lBP ho rfl rfl uT43 rfl tS43 (lb rfl) rfl trivial) rfl (po3 rfl rfl rfl)
   refine wI rfl rfl nf (nAp rfl) (fun _ _ => ocr (hE4) z1m rfl (po3 rfl rfl rfl) rfl nl rfl rfl) <| WA.all (rs := [0, 13]) kR0 sI0 ?_
   refine fmc ⟨?_, fmc ⟨?_, by simp⟩⟩
   ·refine wI rfl rfl nf nw (fun _ _ => bSl rfl rfl uT35 tZ3 tS3 rfl rfl rfl rfl (fbk rfl) rfl) <| wR 3 [3, 4] kR0 h30 <| rV rfl rfl (iSq rfl rfl rfl uT35 hO tS3 rfl rfl) <| smR 1 rfl <| nR <| wO 13 kR0 <| wI rfl rfl nf (nAp rfl) (fun _ _ => ocr (hO4) z1e rfl (po2 rfl rfl) rfl nl rfl rfl) <| wR 1 [14] kR0 h30 <| rV rfl rfl (bPu rfl rfl tZ43 tP43 rfl (fbk rfl) rfl) <| nR <| wO 15 kR0 <| wI rfl rfl nf (nOl rfl) (fun _ _ => sBA rfl rfl rfl rfl rfl sI0 tS43 (flk rfl) (lb rfl)) ?_
    refine wDn kR0 <| Tr.fixNil (k := 104) rfl (fun h => h) <| tRt <| rCk (.inl rfl) (fun _ _ ho => lBP ho rfl rfl uT43 rfl tS43 (lb rfl) rfl trivial) rfl (po3 rfl rfl rfl)
   refine wI rfl rfl nf (nAp rfl) (fun _ _ => ocr (hO4) z1e rfl (po2 rfl rfl) rfl nl rfl rfl) <| wO 0 kR0 <| wI rfl rfl nf nw (fun _ _ => bSl rfl rfl uT35 tZ3 tS3 rfl rfl rfl rfl (fbk rfl) rfl) <| wR 1 [3, 4, 14] kR0 h30 <| rV rfl rfl (iSq rfl rfl rfl uT35 hO tS3 rfl rfl) <| smR 1 rfl <| rV rfl rfl (bPu rfl rfl tZ43 tP43 rfl (fbk rfl) rfl) <| nR <| wO 15 kR0 <| wI rfl rfl nf (nOl rfl) (fun _ _ => sBA rfl rfl rfl rfl rfl sI0 tS43 (flk rfl) (lb rfl)) <| wDn kR0 <| Tr.fixNil (k := 104) rfl (fun h => h) ?_
   refine tRt <| rCk (.inl rfl) (fun _ _ ho => lBP ho rfl rfl uT43 rfl tS43 (lb rfl) rfl trivial) rfl (po3 rfl rfl rfl)
  have n2 : ¬ (z01 l 12 g).1 = 2 := by simp at hc28; omega
  refine tQ <| tG <| sm 2 rfl <| nL ?_
  refine tC rfl (fun hc45 => ?_) fun hc45 => ?_
  ·have hk : (z01 l 12 g).1 = 3 := by simp at hc45; omega
   refine tQ <| tG <| sm 2 rfl <| cE rfl (bSl rfl rfl uT35 tZ3 tS3 rfl rfl rfl rfl (fbk rfl) rfl) ?_
   refine cE rfl (ocr (z1r l seen [2] (z01 l 12 g).2 hs (by simp only [z01, List.length_cons, List.length_nil]; omega) hsl) z1m rfl (po3 rfl rfl rfl) rfl (fun k (h : _) => .inr h) rfl rfl) ?_
   refine sm 1 rfl <| cE rfl (bSl rfl rfl uT35 tZ3 tS3 rfl rfl rfl rfl (fbk rfl) rfl) ?_
   refine cE rfl (ocr (z2k l [2] (z1p l seen [2] (z01 l 12 g).2).2 (by simp only [z01, z1n, List.length_cons, List.length_nil]; omega)) z1e rfl (po2 rfl rfl) rfl (fun k (h : _) => .inr h) rfl rfl) ?_
   refine cV rfl (bPu rfl rfl tZ43 tP43 rfl (fbk rfl) rfl) <| c0 (sBA rfl rfl rfl rfl rfl ((fun h => h)) tS43 (flk rfl) (lb rfl)) <| nL <| Tr.fixNil (k := 104) rfl (fun h => h) <| tRt ?_
   have e : z0w l seen g = z1v l 3 22 0 z0n seen [2] [2] (z01 l 12 g).2 := by
     unfold z0w
     simp only []
     rw [if_neg oM0]; rw [if_neg oM0]; rw [if_neg oM0]; rw [if_pos oM0]
   rw [e]
   refine rCk (.inl rfl) (fun _ _ ho => lBP ho rfl rfl uT43 rfl tS43 (lb rfl) rfl trivial) rfl (po3 rfl rfl rfl)
  have n3 : ¬ (z01 l 12 g).1 = 3 := by simp at hc45; omega
  refine tQ <| tQ <| tG <| sm 2 rfl <| nL ?_
  refine tC rfl (fun hc55 => ?_) fun hc55 => ?_
  ·refine tSk ?_
   refine tC rfl (fun hd55 => ?_) fun hd55 => ?_
   ·refine tQ ?_
    have hk : (z01 l 12 g).1 = 4 ∨ (z01 l 12 g).1 = 5 ∨ (z01 l 12 g).1 = 6 := by simp at hc55; omega
    refine tG <| sm 1 rfl <| cE rfl (ocr (z2q l 11 (z01 l 12 g).2 oM0 (by (simp only [z01]; omega))) z39 rfl (po2 rfl rfl) rfl (fun k (h : _) => .inr h) rfl rfl) <| cV rfl (oB rfl rfl (z0b rfl oM0)) <| sm 4 rfl <| cE rfl (bSl rfl rfl uT35 tZ3 tS3 rfl rfl rfl rfl (fbk rfl) rfl) ?_
    refine cE rfl (ocr (z1r l seen [1, 1] (z01 l 11 (z01 l 12 g).2).2 hs (by simp only [z01, List.length_cons, List.length_nil]; omega) hsl) z1m rfl (po3 rfl rfl rfl) rfl (fun k (h : _) => .inr h) rfl rfl) ?_
    refine sm 2 rfl <| cE rfl (bSl rfl rfl uT35 tZ3 tS3 rfl rfl rfl rfl (fbk rfl) rfl) ?_
    refine cE rfl (ocr (z2k l [1] (z1p l seen [1, 1] (z01 l 11 (z01 l 12 g).2).2).2 (by simp only [z01, z1n, List.length_cons, List.length_nil]; omega)) z1e rfl (po2 rfl rfl) rfl (fun k (h : _) => .inr h) rfl rfl) ?_
    refine cV rfl (bPu rfl rfl tZ43 tP43 rfl (fbk rfl) rfl) <| c0 (sBA rfl rfl rfl rfl rfl ((fun h => h)) tS43 (flk rfl) (lb rfl)) <| nL <| Tr.fixNil (k := 104) rfl (fun h => h) <| tRt ?_
    have e : z0w l seen g = z1v l 4 (1 + ((z01 l 11 (z01 l 12 g).2).1 : Int)) 0 z0n seen [1, 1] [1] (z01 l 11 (z01 l 12 g).2).2 := by
      unfold z0w
      simp only []
      rw [if_neg oM0]; rw [if_neg oM0]; rw [if_neg oM0]; rw [if_neg oM0]; rw [if_pos oM0]
    rw [e]
    refine rCk (.inl rfl) (fun _ _ ho => lBP ho rfl rfl uT43 rfl tS43 (lb rfl) rfl trivial) rfl (po3 rfl rfl rfl)
   exact absurd (hc55.symm.trans hd55) dC0
  refine tQ ?_
  have n4 : ¬ (z01 l 12 g).1 = 4 := by simp at hc55; omega
  refine tG <| sm 2 rfl <| nL ?_
  refine tC rfl (fun hc55 => ?_) fun hc55 => ?_
  ·refine tSk ?_
   refine tC rfl (fun hd55 => ?_) fun hd55 => ?_
   ·refine tQ ?_
    have hk : (z01 l 12 g).1 = 4 ∨ (z01 l 12 g).1 = 5 ∨ (z01 l 12 g).1 = 6 := by simp at hc55; omega
    refine tG <| sm 1 rfl <| cE rfl (ocr (z2q l 11 (z01 l 12 g).2 oM0 (by (simp only [z01]; omega))) z39 rfl (po2 rfl rfl) rfl (fun k (h : _) => .inr h) rfl rfl) <| cV rfl (oB rfl rfl (z0b rfl oM0)) <| sm 4 rfl <| cE rfl (bSl rfl rfl uT35 tZ3 tS3 rfl rfl rfl rfl (fbk rfl) rfl) ?_
    refine cE rfl (ocr (z1r l seen [1, 1] (z01 l 11 (z01 l 12 g).2).2 hs (by simp only [z01, List.length_cons, List.length_nil]; omega) hsl) z1m rfl (po3 rfl rfl rfl) rfl (fun k (h : _) => .inr h) rfl rfl) ?_
    refine sm 2 rfl <| cE rfl (bSl rfl rfl uT35 tZ3 tS3 rfl rfl rfl rfl (fbk rfl) rfl) ?_
    refine cE rfl (ocr (z2k l [1] (z1p l seen [1, 1] (z01 l 11 (z01 l 12 g).2).2).2 (by simp only [z01, z1n, List.length_cons, List.length_nil]; omega)) z1e rfl (po2 rfl rfl) rfl (fun k (h : _) => .inr h) rfl rfl) ?_
    refine cV rfl (bPu rfl rfl tZ43 tP43 rfl (fbk rfl) rfl) <| c0 (sBA rfl rfl rfl rfl rfl ((fun h => h)) tS43 (flk rfl) (lb rfl)) <| nL <| Tr.fixNil (k := 104) rfl (fun h => h) <| tRt ?_
    have e : z0w l seen g = z1v l 4 (1 + ((z01 l 11 (z01 l 12 g).2).1 : Int)) 0 z0n seen [1, 1] [1] (z01 l 11 (z01 l 12 g).2).2 := by
      unfold z0w
      simp only []
      rw [if_neg oM0]; rw [if_neg oM0]; rw [if_neg oM0]; rw [if_neg oM0]; rw [if_pos oM0]
    rw [e]
    refine rCk (.inl rfl) (fun _ _ ho => lBP ho rfl rfl uT43 rfl tS43 (lb rfl) rfl trivial) rfl (po3 rfl rfl rfl)
   exact absurd (hc55.symm.trans hd55) dC0
  have n5 : ¬ (z01 l 12 g).1 = 5 := by simp at hc55; omega
  refine tG <| sm 2 rfl <| nL ?_
  refine tC rfl (fun hc55 => ?_) fun hc55 => ?_
  ·refine tQ ?_
   have hk : (z01 l 12 g).1 = 4 ∨ (z01 l 12 g).1 = 5 ∨ (z01 l 12 g).1 = 6 := by simp at hc55; omega
   refine tG <| sm 1 rfl <| cE rfl (ocr (z2q l 11 (z01 l 12 g).2 oM0 (by (simp only [z01]; omega))) z39 rfl (po2 rfl rfl) rfl (fun k (h : _) => .inr h) rfl rfl) <| cV rfl (oB rfl rfl (z0b rfl oM0)) <| sm 4 rfl <| cE rfl (bSl rfl rfl uT35 tZ3 tS3 rfl rfl rfl rfl (fbk rfl) rfl) ?_
   refine cE rfl (ocr (z1r l seen [1, 1] (z01 l 11 (z01 l 12 g).2).2 hs (by simp only [z01, List.length_cons, List.length_nil]; omega) hsl) z1m rfl (po3 rfl rfl rfl) rfl (fun k (h : _) => .inr h) rfl rfl) ?_
   refine sm 2 rfl <| cE rfl (bSl rfl rfl uT35 tZ3 tS3 rfl rfl rfl rfl (fbk rfl) rfl) ?_
   refine cE rfl (ocr (z2k l [1] (z1p l seen [1, 1] (z01 l 11 (z01 l 12 g).2).2).2 (by simp only [z01, z1n, List.length_cons, List.length_nil]; omega)) z1e rfl (po2 rfl rfl) rfl (fun k (h : _) => .inr h) rfl rfl) ?_
   refine cV rfl (bPu rfl rfl tZ43 tP43 rfl (fbk rfl) rfl) <| c0 (sBA rfl rfl rfl rfl rfl ((fun h => h)) tS43 (flk rfl) (lb rfl)) <| nL <| Tr.fixNil (k := 104) rfl (fun h => h) <| tRt ?_
   have e : z0w l seen g = z1v l 4 (1 + ((z01 l 11 (z01 l 12 g).2).1 : Int)) 0 z0n seen [1, 1] [1] (z01 l 11 (z01 l 12 g).2).2 := by
     unfold z0w
     simp only []
     rw [if_neg oM0]; rw [if_neg oM0]; rw [if_neg oM0]; rw [if_neg oM0]; rw [if_pos oM0]
   rw [e]
   refine rCk (.inl rfl) (fun _ _ ho => lBP ho rfl rfl uT43 rfl tS43 (lb rfl) rfl trivial) rfl (po3 rfl rfl rfl)
  refine tQ <| tQ ?_
  have n6 : ¬ (z01 l 12 g).1 = 6 := by simp at hc55; omega
  refine tG <| sm 2 rfl <| nL ?_
  refine tC rfl (fun hc73 => ?_) fun hc73 => ?_
  ·refine tSk ?_
   refine tC rfl (fun hd73 => ?_) fun hd73 => ?_
   ·refine tQ ?_
    have hk : (z01 l 12 g).1 = 7 ∨ (z01 l 12 g).1 = 8 := by simp at hc73; omega
    refine tG <| sm 1 rfl <| cE rfl (ocr (z2q l 6 (z01 l 12 g).2 oM0 (by (simp only [z01]; omega))) z39 rfl (po2 rfl rfl) rfl (fun k (h : _) => .inr h) rfl rfl) <| cV rfl (oB rfl rfl (z0b rfl oM0)) <| sm 4 rfl <| cE rfl (bSl rfl rfl uT35 tZ3 tS3 rfl rfl rfl rfl (fbk rfl) rfl) ?_
    refine cE rfl (ocr (z1r l seen [1, 1] (z01 l 6 (z01 l 12 g).2).2 hs (by simp only [z01, List.length_cons, List.length_nil]; omega) hsl) z1m rfl (po3 rfl rfl rfl) rfl (fun k (h : _) => .inr h) rfl rfl) ?_
    refine sm 1 rfl <| cE rfl (bSl rfl rfl uT35 tZ3 tS3 rfl rfl rfl rfl (fbk rfl) rfl) ?_
    refine cE rfl (ocr (z2k l [2] (z1p l seen [1, 1] (z01 l 6 (z01 l 12 g).2).2).2 (by simp only [z01, z1n, List.length_cons, List.length_nil]; omega)) z1e rfl (po2 rfl rfl) rfl (fun k (h : _) => .inr h) rfl rfl) ?_
    refine cV rfl (bPu rfl rfl tZ43 tP43 rfl (fbk rfl) rfl) <| c0 (sBA rfl rfl rfl rfl rfl ((fun h => h)) tS43 (flk rfl) (lb rfl)) <| nL <| Tr.fixNil (k := 104) rfl (fun h => h) <| tRt ?_
    have e : z0w l seen g = z1v l 4 (12 + ((z01 l 6 (z01 l 12 g).2).1 : Int)) 0 z0n seen [1, 1] [2] (z01 l 6 (z01 l 12 g).2).2 := by
      unfold z0w
      simp only []
      rw [if_neg oM0]; rw [if_neg oM0]; rw [if_neg oM0]; rw [if_neg oM0]; rw [if_neg oM0]; rw [if_pos oM0]
    rw [e]
    refine rCk (.inl rfl) (fun _ _ ho => lBP ho rfl rfl uT43 rfl tS43 (lb rfl) rfl trivial) rfl (po3 rfl rfl rfl)
   exact absurd (hc73.symm.trans hd73) dC0
  have n7 : ¬ (z01 l 12 g).1 = 7 := by simp at hc73; omega
  refine tG <| sm 2 rfl <| nL ?_
  refine tC rfl (fun hc73 => ?_) fun hc73 => ?_
  ·refine tQ ?_
   have hk : (z01 l 12 g).1 = 7 ∨ (z01 l 12 g).1 = 8 := by simp at hc73; omega
   refine tG <| sm 1 rfl <| cE rfl (ocr (z2q l 6 (z01 l 12 g).2 oM0 (by (simp only [z01]; omega))) z39 rfl (po2 rfl rfl) rfl (fun k (h : _) => .inr h) rfl rfl) <| cV rfl (oB rfl rfl (z0b rfl oM0)) <| sm 4 rfl <| cE rfl (bSl rfl rfl uT35 tZ3 tS3 rfl rfl rfl rfl (fbk rfl) rfl) ?_
   refine cE rfl (ocr (z1r l seen [1, 1] (z01 l 6 (z01 l 12 g).2).2 hs (by simp only [z01, List.length_cons, List.length_nil]; omega) hsl) z1m rfl (po3 rfl rfl rfl) rfl (fun k (h : _) => .inr h) rfl rfl) ?_
   refine sm 1 rfl <| cE rfl (bSl rfl rfl uT35 tZ3 tS3 rfl rfl rfl rfl (fbk rfl) rfl) ?_
   refine cE rfl (ocr (z2k l [2] (z1p l seen [1, 1] (z01 l 6 (z01 l 12 g).2).2).2 (by simp only [z01, z1n, List.length_cons, List.length_nil]; omega)) z1e rfl (po2 rfl rfl) rfl (fun k (h : _) => .inr h) rfl rfl) ?_
   refine cV rfl (bPu rfl rfl tZ43 tP43 rfl (fbk rfl) rfl) <| c0 (sBA rfl rfl rfl rfl rfl ((fun h => h)) tS43 (flk rfl) (lb rfl)) <| nL <| Tr.fixNil (k := 104) rfl (fun h => h) <| tRt ?_
   have e : z0w l seen g = z1v l 4 (12 + ((z01 l 6 (z01 l 12 g).2).1 : Int)) 0 z0n seen [1, 1] [2] (z01 l 6 (z01 l 12 g).2).2 := by
     unfold z0w
     simp only []
     rw [if_neg oM0]; rw [if_neg oM0]; rw [if_neg oM0]; rw [if_neg oM0]; rw [if_neg oM0]; rw [if_pos oM0]
   rw [e]
   refine rCk (.inl rfl) (fun _ _ ho => lBP ho rfl rfl uT43 rfl tS43 (lb rfl) rfl trivial) rfl (po3 rfl rfl rfl)
  refine tQ ?_
  have n8 : ¬ (z01 l 12 g).1 = 8 := by simp at hc73; omega
  refine tG <| sm 2 rfl <| nL ?_
  refine tC rfl (fun hc89 => ?_) fun hc89 => ?_
  ·have hk : (z01 l 12 g).1 = 9 := by simp at hc89; omega
   refine tQ <| tG <| sm 3 rfl <| cE rfl (bSl rfl rfl uT35 tZ3 tS3 rfl rfl rfl rfl (fbk rfl) rfl) ?_
   refine cE rfl (ocr (z1r l seen [1] (z01 l 12 g).2 hs (by simp only [z01, List.length_cons, List.length_nil]; omega) hsl) z1m rfl (po3 rfl rfl rfl) rfl (fun k (h : _) => .inr h) rfl rfl) ?_
   refine sm 2 rfl <| cE rfl (bSl rfl rfl uT35 tZ3 tS3 rfl rfl rfl rfl (fbk rfl) rfl) ?_
   refine cE rfl (ocr (z2k l [1] (z1p l seen [1] (z01 l 12 g).2).2 (by simp only [z01, z1n, List.length_cons, List.length_nil]; omega)) z1e rfl (po2 rfl rfl) rfl (fun k (h : _) => .inr h) rfl rfl) ?_
   refine cV rfl (bPu rfl rfl tZ43 tP43 rfl (fbk rfl) rfl) <| c0 (sBA rfl rfl rfl rfl rfl ((fun h => h)) tS43 (flk rfl) (lb rfl)) <| nL <| Tr.fixNil (k := 104) rfl (fun h => h) <| tRt ?_
   have e : z0w l seen g = z1v l 5 0 0 z63 seen [1] [1] (z01 l 12 g).2 := by
     unfold z0w
     simp only []
     rw [if_neg oM0]; rw [if_neg oM0]; rw [if_neg oM0]; rw [if_neg oM0]; rw [if_neg oM0]; rw [if_neg oM0]; rw [if_pos oM0]
   rw [e]
   refine rCk (.inl rfl) (fun _ _ ho => lBP ho rfl rfl uT43 rfl tS43 (lb rfl) rfl trivial) rfl (po3 rfl rfl rfl)
  have n9 : ¬ (z01 l 12 g).1 = 9 := by simp at hc89; omega
  refine tQ <| tG <| sm 2 rfl <| nL ?_
  refine tC rfl (fun hc101 => ?_) fun hc101 => ?_
  ·have hk : (z01 l 12 g).1 = 10 := by simp at hc101; omega
   refine tQ <| tG <| sm 4 rfl <| cE rfl (bSl rfl rfl uT35 tZ3 tS3 rfl rfl rfl rfl (fbk rfl) rfl) ?_
   refine cE rfl (ocr (z1r l seen [1, 1] (z01 l 12 g).2 hs (by simp only [z01, List.length_cons, List.length_nil]; omega) hsl) z1m rfl (po3 rfl rfl rfl) rfl (fun k (h : _) => .inr h) rfl rfl) ?_
   refine cV rfl (bPu rfl rfl tZ43 tP43 rfl (fbk rfl) rfl) <| c0 (sBA rfl rfl rfl rfl rfl ((fun h => h)) tS43 (flk rfl) (lb rfl)) <| nL <| Tr.fixNil (k := 104) rfl (fun h => h) <| tRt ?_
   have e : z0w l seen g = z1v l 6 0 0 z63 seen [1, 1] [] (z01 l 12 g).2 := by
     unfold z0w
     simp only []
     rw [if_neg oM0]; rw [if_neg oM0]; rw [if_neg oM0]; rw [if_neg oM0]; rw [if_neg oM0]; rw [if_neg oM0]; rw [if_neg oM0]; rw [if_pos oM0]
   rw [e]
   refine rCk (.inl rfl) (fun _ _ ho => lBP ho rfl rfl uT43 rfl tS43 (lb rfl) rfl trivial) rfl (po3 rfl rfl rfl)
  have n10 : ¬ (z01 l 12 g).1 = 10 := by simp at hc101; omega
  refine tSk <| tQ <| tQ <| tG <| sm 1 rfl <| cE rfl (ocr (z2q l 4 (z01 l 12 g).2 oM0 (by (simp only [z01]; omega))) z39 rfl (po2 rfl rfl) rfl (fun k (h : _) => .inr h) rfl rfl) <| nL <| tBk <| tQ <| tG <| sm 2 rfl <| nL ?_
  refine tC rfl (fun hc112 => ?_) fun hc112 => ?_
  ·have hj : (z01 l 4 (z01 l 12 g).2).1 = 0 := by simp at hc112; omega
   refine tQ <| tG <| sm 3 rfl <| cE rfl (bSl rfl rfl uT35 tZ3 tS3 rfl rfl rfl rfl (fbk rfl) rfl) ?_
   refine cE rfl (ocr (z1r l seen [1, 2] (z01 l 4 (z01 l 12 g).2).2 hs (by simp only [z01, List.length_cons, List.length_nil]; omega) hsl) z1m rfl (po3 rfl rfl rfl) rfl (fun k (h : _) => .inr h) rfl rfl) ?_
   refine sm 2 rfl <| cE rfl (bSl rfl rfl uT35 tZ3 tS3 rfl rfl rfl rfl (fbk rfl) rfl) ?_
   refine cE rfl (ocr (z2k l [1] (z1p l seen [1, 2] (z01 l 4 (z01 l 12 g).2).2).2 (by simp only [z01, z1n, List.length_cons, List.length_nil]; omega)) z1e rfl (po2 rfl rfl) rfl (fun k (h : _) => .inr h) rfl rfl) ?_
   refine cV rfl (bPu rfl rfl tZ43 tP43 rfl (fbk rfl) rfl) <| c0 (sBA rfl rfl rfl rfl rfl ((fun h => h)) tS43 (flk rfl) (lb rfl)) <| nL <| Tr.fixNil (k := 104) rfl (fun h => h) <| tRt ?_
   have e : z0w l seen g = z1v l 7 0 0 z2t seen [1, 2] [1] (z01 l 4 (z01 l 12 g).2).2 := by
     unfold z0w
     simp only []
     rw [if_neg oM0]; rw [if_neg oM0]; rw [if_neg oM0]; rw [if_neg oM0]; rw [if_neg oM0]; rw [if_neg oM0]; rw [if_neg oM0]; rw [if_neg oM0]; rw [if_pos oM0]
   rw [e]
   refine rCk (.inl rfl) (fun _ _ ho => lBP ho rfl rfl uT43 rfl tS43 (lb rfl) rfl trivial) rfl (po3 rfl rfl rfl)
  have j0 : ¬ (z01 l 4 (z01 l 12 g).2).1 = 0 := by simp at hc112; omega
  refine tQ <| tG <| sm 2 rfl <| nL ?_
  refine tC rfl (fun hc124 => ?_) fun hc124 => ?_
  ·have hj : (z01 l 4 (z01 l 12 g).2).1 = 1 := by simp at hc124; omega
   refine tQ <| tG <| sm 2 rfl <| cE rfl (bSl rfl rfl uT35 tZ3 tS3 rfl rfl rfl rfl (fbk rfl) rfl) ?_
   refine cE rfl (ocr (z2k l [1] (z01 l 4 (z01 l 12 g).2).2 (by simp only [z01, z1n, List.length_cons, List.length_nil]; omega)) z1e rfl (po2 rfl rfl) rfl (fun k (h : _) => .inr h) rfl rfl) ?_
   refine cV rfl (bPu rfl rfl tZ43 tP43 rfl (fbk rfl) rfl) <| c0 (sBA rfl rfl rfl rfl rfl ((fun h => h)) tS43 (flk rfl) (lb rfl)) <| nL <| Tr.fixNil (k := 104) rfl (fun h => h) <| tRt ?_
   have e : z0w l seen g = z1v l 8 0 0 z0n seen [] [1] (z01 l 4 (z01 l 12 g).2).2 := by
     unfold z0w
     simp only []
     rw [if_neg oM0]; rw [if_neg oM0]; rw [if_neg oM0]; rw [if_neg oM0]; rw [if_neg oM0]; rw [if_neg oM0]; rw [if_neg oM0]; rw [if_neg oM0]; rw [if_neg oM0]; rw [if_pos oM0]
   rw [e]
   refine rCk (.inl rfl) (fun _ _ ho => lBP ho rfl rfl uT43 rfl tS43 (lb rfl) rfl trivial) rfl (po3 rfl rfl rfl)
  have j1 : ¬ (z01 l 4 (z01 l 12 g).2).1 = 1 := by simp at hc124; omega
  refine tSk <| tQ <| tG <| sm 3 rfl <| cE rfl (bSl rfl rfl uT35 tZ3 tS3 rfl rfl rfl rfl (fbk rfl) rfl) ?_
  refine cE rfl (ocr (z1r l seen [1] (z01 l 4 (z01 l 12 g).2).2 hs (by simp only [z01, List.length_cons, List.length_nil]; omega) hsl) z1m rfl (po3 rfl rfl rfl) rfl (fun k (h : _) => .inr h) rfl rfl) ?_
  refine cV rfl (bPu rfl rfl tZ43 tP43 rfl (fbk rfl) rfl) <| c0 (sBA rfl rfl rfl rfl rfl ((fun h => h)) tS43 (flk rfl) (lb rfl)) <| nL <| Tr.fixNil (k := 104) rfl (fun h => h) <| tRt ?_
  have e : z0w l seen g = z1v l 9 0 0 z0n seen [1] [] (z01 l 4 (z01 l 12 g).2).2 := by
    unfold z0w
    simp only []
    rw [if_neg oM0]; rw [if_neg oM0]; rw [if_neg oM0]; rw [if_neg oM0]; rw [if_neg oM0]; rw [if_neg oM0]; rw [if_neg oM0]; rw [if_neg oM0]; rw [if_neg oM0]; rw [if_neg oM0]
  rw [e]
  refine rCk (.inl rfl) (fun _ _ ho => lBP ho rfl rfl uT43 rfl tS43 (lb rfl) rfl trivial) rfl (po3 rfl rfl rfl)
theorem sc_gEnd (l : List UInt8) (seen : List Int) (p : Plc) (g : Gn) (hs : InR g.types seen) (hb : g.pos <= 999980) (hsl : seen.length <= 1000000) (hp1 : p.Yield.length <= 2) (hp2 : p.Next.length <= 2) (hp3 : p.Left.length <= 2) : SC Tryz.prog 55 [.ptr 2001 0, .sl 2003 (seen.map eInt).length, .pv (plcv p)] (gHs l g seen) (fun _ => False) (.pv (ndv (gEnd l seen p g).1)) (gHs l (gEnd l seen p g).2 seen) := by
  refine SC.ofC Tryz.func55 rfl (lb rfl) rfl fun F ρ w => ?_
  have h6 : (z01 l 6 g).1 < 6 := z26 oM0
  have hrem : z3p .rem .i64 ((z01 l 6 g).1 : Int) 2 = some (.int .i64 (((z01 l 6 g).1 % 2 : Nat) : Int)) := y45 (n := 2) oM0
  refine tQ <| tG <| cE rfl (z1d rfl rfl) <| cE rfl (aLc (k := 106) rfl tZ43 rfl rfl rfl rfl) <| nL <| tQ <| tG <| sm 1 rfl <| cE rfl (ocr (z2q l 6 g oM0 oM0) z39 rfl (po2 rfl rfl) rfl (fun k (h : _) => .inr h) rfl rfl) <| sm 1 rfl <| nL <| tQ ?_
  refine tBk <| tQ <| tG <| sm 3 rfl ?_
  refine wS 13 rfl (fun hb13 => ?_) fun hb13 => ?_
  ·refine sm 4 rfl <| nL ?_
   refine tC rfl (fun hc10 => ?_) fun hc10 => ?_
   ·have hk : p.If = true /\ (z01 l 6 g).1 < 4 := ⟨hb13, by simp at hc10; omega⟩
    refine tQ <| tG <| sm 4 rfl ?_
    refine cE rfl (ocr (z1r l seen p.Yield (z01 l 6 g).2 hs (by simp only [z01, List.length_cons, List.length_nil]; omega) hsl) z1m rfl (po3 rfl rfl rfl) rfl (fun k (h : _) => .inr h) rfl rfl) ?_
    refine cV rfl (bPu rfl rfl tZ43 tP43 rfl (fbk rfl) rfl) <| c0 (sBA rfl rfl rfl rfl rfl ((fun h => h)) tS43 (flk rfl) (lb rfl)) <| nL <| Tr.fixNil (k := 106) rfl (fun h => h) <| tRt ?_
    have e : gEnd l seen p g = z1v l 12 0 0 z0n seen p.Yield [] (z01 l 6 g).2 := by
      unfold gEnd
      simp only []
      rw [if_pos (hk)]
    rw [e]
    refine rCk (.inl rfl) (fun _ _ ho => lBP ho rfl rfl uT43 rfl tS43 (lb rfl) rfl trivial) rfl (po3 rfl rfl rfl)
   have nk : ¬ (p.If = true /\ (z01 l 6 g).1 < 4) := by
     (simp at hc10; omega)
   refine tQ <| tG <| sm 3 rfl ?_
   refine wS 26 rfl (fun hb26 => ?_) fun hb26 => ?_
   ·refine sm 1 rfl <| yV rfl rfl (oB rfl rfl hrem) <| sm 3 rfl <| nL ?_
    refine tC rfl (fun hc23 => ?_) fun hc23 => ?_
    ·have hl : p.Loop = true /\ (z01 l 6 g).1 % 2 = 0 := ⟨hb26, by simp at hc23; omega⟩
     refine tQ <| tG <| sm 4 rfl ?_
     refine cE rfl (ocr (z1r l seen p.Next (z01 l 6 g).2 hs (by simp only [z01, List.length_cons, List.length_nil]; omega) hsl) z1m rfl (po3 rfl rfl rfl) rfl (fun k (h : _) => .inr h) rfl rfl) ?_
     refine cV rfl (bPu rfl rfl tZ43 tP43 rfl (fbk rfl) rfl) <| c0 (sBA rfl rfl rfl rfl rfl ((fun h => h)) tS43 (flk rfl) (lb rfl)) <| nL <| Tr.fixNil (k := 106) rfl (fun h => h) <| tRt ?_
     have e : gEnd l seen p g = z1v l 13 0 0 z0n seen p.Next [] (z01 l 6 g).2 := by
       unfold gEnd
       simp only []
       rw [if_neg (nk)]; rw [if_pos (hl)]
     rw [e]
     refine rCk (.inl rfl) (fun _ _ ho => lBP ho rfl rfl uT43 rfl tS43 (lb rfl) rfl trivial) rfl (po3 rfl rfl rfl)
    have nl : ¬ (p.Loop = true /\ (z01 l 6 g).1 % 2 = 0) := by
      (simp at hc23; omega)
    refine tQ <| tG <| sm 3 rfl <| nL ?_
    refine tC rfl (fun hc37 => ?_) fun hc37 => ?_
    ·refine tQ <| tG <| sm 4 rfl ?_
     refine cE rfl (ocr (z1r l seen p.Left (z01 l 6 g).2 hs (by simp only [z01, List.length_cons, List.length_nil]; omega) hsl) z1m rfl (po3 rfl rfl rfl) rfl (fun k (h : _) => .inr h) rfl rfl) ?_
     refine cV rfl (bPu rfl rfl tZ43 tP43 rfl (fbk rfl) rfl) <| c0 (sBA rfl rfl rfl rfl rfl ((fun h => h)) tS43 (flk rfl) (lb rfl)) <| nL <| Tr.fixNil (k := 106) rfl (fun h => h) <| tRt ?_
     have e : gEnd l seen p g = z1v l 14 0 0 z0n seen p.Left [] (z01 l 6 g).2 := by
       unfold gEnd
       simp only []
       rw [if_neg (nk)]; rw [if_neg (nl)]; rw [if_pos (hc37)]
     rw [e]
     refine rCk (.inl rfl) (fun _ _ ho => lBP ho rfl rfl uT43 rfl tS43 (lb rfl) rfl trivial) rfl (po3 rfl rfl rfl)
    refine tSk <| tQ <| tG <| sm 2 rfl <| cE rfl (bSl rfl rfl uT35 tZ3 tS3 rfl rfl rfl rfl (fbk rfl) rfl) ?_
    refine cE rfl (ocr (z1r l seen [1] (z01 l 6 g).2 hs (by simp only [z01, List.length_cons, List.length_nil]; omega) hsl) z1m rfl (po3 rfl rfl rfl) rfl (fun k (h : _) => .inr h) rfl rfl) ?_
    refine cV rfl (bPu rfl rfl tZ43 tP43 rfl (fbk rfl) rfl) <| c0 (sBA rfl rfl rfl rfl rfl ((fun h => h)) tS43 (flk rfl) (lb rfl)) <| nL <| Tr.fixNil (k := 106) rfl (fun h => h) <| tRt ?_
    have e : gEnd l seen p g = z1v l 15 0 0 z0n seen [1] [] (z01 l 6 g).2 := by
      unfold gEnd
      simp only []
      rw [if_neg (nk)]; rw [if_neg (nl)]; rw [if_neg (by rw [hc37]; decide)]
    rw [e]
    refine rCk (.inl rfl) (fun _ _ ho => lBP ho rfl rfl uT43 rfl tS43 (lb rfl) rfl trivial) rfl (po3 rfl rfl rfl)
   refine sm 5 rfl <| nL <| Tr.condF rfl ?_
   have nl : ¬ (p.Loop = true /\ (z01 l 6 g).1 % 2 = 0) := by
     (rw [hb26]; simp; done)
   refine tQ <| tG <| sm 3 rfl <| nL ?_
   refine tC rfl (fun hc37 => ?_) fun hc37 => ?_
   ·refine tQ <| tG <| sm 4 rfl ?_
    refine cE rfl (ocr (z1r l seen p.Left (z01 l 6 g).2 hs (by simp only [z01, List.length_cons, List.length_nil]; omega) hsl) z1m rfl (po3 rfl rfl rfl) rfl (fun k (h : _) => .inr h) rfl rfl) ?_
    refine cV rfl (bPu rfl rfl tZ43 tP43 rfl (fbk rfl) rfl) <| c0 (sBA rfl rfl rfl rfl rfl ((fun h => h)) tS43 (flk rfl) (lb rfl)) <| nL <| Tr.fixNil (k := 106) rfl (fun h => h) <| tRt ?_
    have e : gEnd l seen p g = z1v l 14 0 0 z0n seen p.Left [] (z01 l 6 g).2 := by
      unfold gEnd
      simp only []
      rw [if_neg (nk)]; rw [if_neg (nl)]; rw [if_pos (hc37)]
    rw [e]
    refine rCk (.inl rfl) (fun _ _ ho => lBP ho rfl rfl uT43 rfl tS43 (lb rfl) rfl trivial) rfl (po3 rfl rfl rfl)
   refine tSk <| tQ <| tG <| sm 2 rfl <| cE rfl (bSl rfl rfl uT35 tZ3 tS3 rfl rfl rfl rfl (fbk rfl) rfl) ?_
   refine cE rfl (ocr (z1r l seen [1] (z01 l 6 g).2 hs (by simp only [z01, List.length_cons, List.length_nil]; omega) hsl) z1m rfl (po3 rfl rfl rfl) rfl (fun k (h : _) => .inr h) rfl rfl) ?_
   refine cV rfl (bPu rfl rfl tZ43 tP43 rfl (fbk rfl) rfl) <| c0 (sBA rfl rfl rfl rfl rfl ((fun h => h)) tS43 (flk rfl) (lb rfl)) <| nL <| Tr.fixNil (k := 106) rfl (fun h => h) <| tRt ?_
   have e : gEnd l seen p g = z1v l 15 0 0 z0n seen [1] [] (z01 l 6 g).2 := by
     unfold gEnd
     simp only []
     rw [if_neg (nk)]; rw [if_neg (nl)]; rw [if_neg (by rw [hc37]; decide)]
   rw [e]
   refine rCk (.inl rfl) (fun _ _ ho => lBP ho rfl rfl uT43 rfl tS43 (lb rfl) rfl trivial) rfl (po3 rfl rfl rfl)
  refine sm 4 rfl <| nL <| Tr.condF rfl ?_
  have nk : ¬ (p.If = true /\ (z01 l 6 g).1 < 4) := by
    (rw [hb13]; simp; done)
  refine tQ <| tG <| sm 3 rfl ?_
  refine wS 26 rfl (fun hb26 => ?_) fun hb26 => ?_
  ·refine sm 1 rfl <| yV rfl rfl (oB rfl rfl hrem) <| sm 3 rfl <| nL ?_
   refine tC rfl (fun hc23 => ?_) fun hc23 => ?_
   ·have hl : p.Loop = true /\ (z01 l 6 g).1 % 2 = 0 := ⟨hb26, by simp at hc23; omega⟩
    refine tQ <| tG <| sm 4 rfl ?_
    refine cE rfl (ocr (z1r l seen p.Next (z01 l 6 g).2 hs (by simp only [z01, List.length_cons, List.length_nil]; omega) hsl) z1m rfl (po3 rfl rfl rfl) rfl (fun k (h : _) => .inr h) rfl rfl) ?_
    refine cV rfl (bPu rfl rfl tZ43 tP43 rfl (fbk rfl) rfl) <| c0 (sBA rfl rfl rfl rfl rfl ((fun h => h)) tS43 (flk rfl) (lb rfl)) <| nL <| Tr.fixNil (k := 106) rfl (fun h => h) <| tRt ?_
    have e : gEnd l seen p g = z1v l 13 0 0 z0n seen p.Next [] (z01 l 6 g).2 := by
      unfold gEnd
      simp only []
      rw [if_neg (nk)]; rw [if_pos (hl)]
    rw [e]
    refine rCk (.inl rfl) (fun _ _ ho => lBP ho rfl rfl uT43 rfl tS43 (lb rfl) rfl trivial) rfl (po3 rfl rfl rfl)
   have nl : ¬ (p.Loop = true /\ (z01 l 6 g).1 % 2 = 0) := by
     (simp at hc23; omega)
   refine tQ <| tG <| sm 3 rfl <| nL ?_
   refine tC rfl (fun hc37 => ?_) fun hc37 => ?_
   ·refine tQ <| tG <| sm 4 rfl ?_
    refine cE rfl (ocr (z1r l seen p.Left (z01 l 6 g).2 hs (by simp only [z01, List.length_cons, List.length_nil]; omega) hsl) z1m rfl (po3 rfl rfl rfl) rfl (fun k (h : _) => .inr h) rfl rfl) ?_
    refine cV rfl (bPu rfl rfl tZ43 tP43 rfl (fbk rfl) rfl) <| c0 (sBA rfl rfl rfl rfl rfl ((fun h => h)) tS43 (flk rfl) (lb rfl)) <| nL <| Tr.fixNil (k := 106) rfl (fun h => h) <| tRt ?_
    have e : gEnd l seen p g = z1v l 14 0 0 z0n seen p.Left [] (z01 l 6 g).2 := by
      unfold gEnd
      simp only []
      rw [if_neg (nk)]; rw [if_neg (nl)]; rw [if_pos (hc37)]
    rw [e]
    refine rCk (.inl rfl) (fun _ _ ho => lBP ho rfl rfl uT43 rfl tS43 (lb rfl) rfl trivial) rfl (po3 rfl rfl rfl)
   refine tSk <| tQ <| tG <| sm 2 rfl <| cE rfl (bSl rfl rfl uT35 tZ3 tS3 rfl rfl rfl rfl (fbk rfl) rfl) ?_
   refine cE rfl (ocr (z1r l seen [1] (z01 l 6 g).2 hs (by simp only [z01, List.length_cons, List.length_nil]; omega) hsl) z1m rfl (po3 rfl rfl rfl) rfl (fun k (h : _) => .inr h) rfl rfl) ?_
   refine cV rfl (bPu rfl rfl tZ43 tP43 rfl (fbk rfl) rfl) <| c0 (sBA rfl rfl rfl rfl rfl ((fun h => h)) tS43 (flk rfl) (lb rfl)) <| nL <| Tr.fixNil (k := 106) rfl (fun h => h) <| tRt ?_
   have e : gEnd l seen p g = z1v l 15 0 0 z0n seen [1] [] (z01 l 6 g).2 := by
     unfold gEnd
     simp only []
     rw [if_neg (nk)]; rw [if_neg (nl)]; rw [if_neg (by rw [hc37]; decide)]
   rw [e]
   refine rCk (.inl rfl) (fun _ _ ho => lBP ho rfl rfl uT43 rfl tS43 (lb rfl) rfl trivial) rfl (po3 rfl rfl rfl)
  refine sm 5 rfl <| nL <| Tr.condF rfl ?_
  have nl : ¬ (p.Loop = true /\ (z01 l 6 g).1 % 2 = 0) := by
    (rw [hb26]; simp; done)
  refine tQ <| tG <| sm 3 rfl <| nL ?_
  refine tC rfl (fun hc37 => ?_) fun hc37 => ?_
  ·refine tQ <| tG <| sm 4 rfl ?_
   refine cE rfl (ocr (z1r l seen p.Left (z01 l 6 g).2 hs (by simp only [z01, List.length_cons, List.length_nil]; omega) hsl) z1m rfl (po3 rfl rfl rfl) rfl (fun k (h : _) => .inr h) rfl rfl) ?_
   refine cV rfl (bPu rfl rfl tZ43 tP43 rfl (fbk rfl) rfl) <| c0 (sBA rfl rfl rfl rfl rfl ((fun h => h)) tS43 (flk rfl) (lb rfl)) <| nL <| Tr.fixNil (k := 106) rfl (fun h => h) <| tRt ?_
   have e : gEnd l seen p g = z1v l 14 0 0 z0n seen p.Left [] (z01 l 6 g).2 := by
     unfold gEnd
     simp only []
     rw [if_neg (nk)]; rw [if_neg (nl)]; rw [if_pos (hc37)]
   rw [e]
   refine rCk (.inl rfl) (fun _ _ ho => lBP ho rfl rfl uT43 rfl tS43 (lb rfl) rfl trivial) rfl (po3 rfl rfl rfl)
  refine tSk <| tQ <| tG <| sm 2 rfl <| cE rfl (bSl rfl rfl uT35 tZ3 tS3 rfl rfl rfl rfl (fbk rfl) rfl) ?_
  refine cE rfl (ocr (z1r l seen [1] (z01 l 6 g).2 hs (by simp only [z01, List.length_cons, List.length_nil]; omega) hsl) z1m rfl (po3 rfl rfl rfl) rfl (fun k (h : _) => .inr h) rfl rfl) ?_
  refine cV rfl (bPu rfl rfl tZ43 tP43 rfl (fbk rfl) rfl) <| c0 (sBA rfl rfl rfl rfl rfl ((fun h => h)) tS43 (flk rfl) (lb rfl)) <| nL <| Tr.fixNil (k := 106) rfl (fun h => h) <| tRt ?_
  have e : gEnd l seen p g = z1v l 15 0 0 z0n seen [1] [] (z01 l 6 g).2 := by
    unfold gEnd
    simp only []
    rw [if_neg (nk)]; rw [if_neg (nl)]; rw [if_neg (by rw [hc37]; decide)]
  rw [e]
  refine rCk (.inl rfl) (fun _ _ ho => lBP ho rfl rfl uT43 rfl tS43 (lb rfl) rfl trivial) rfl (po3 rfl rfl rfl)
section
structure Bd (a b : Nat) (g g' : Gn) : Prop where
  lf : g'.left <= g.left
  ps : g'.pos + 60 * g'.left <= g.pos + 60 * g.left + a
  t1 : g.types.length <= g'.types.length
  t2 : g'.types.length + 10 * g'.left <= g.types.length + 10 * g.left + b
theorem Bd.trans {a b a' b' : Nat} {g g' g'' : Gn} (h : Bd a b g g') (h' : Bd a' b' g' g'') : Bd (a + a') (b + b') g g'' :=
  ⟨by have := h.lf; have := h'.lf; omega, by have := h.ps; have := h'.ps; omega, by have := h.t1; have := h'.t1; omega, by have := h.t2; have := h'.t2; omega⟩
theorem Bd.mono {a b a' b' : Nat} {g g' : Gn} (h : Bd a b g g') (ha : a <= a') (hb : b <= b') : Bd a' b' g g' :=
  ⟨h.lf, by have := h.ps; omega, h.t1, by have := h.t2; omega⟩
section
variable (l : List UInt8)
theorem z7d (n : Nat) (g : Gn) : Bd 1 0 g (z01 l n g).2 := ⟨Nat.le_refl _, by simp only [z01]; omega, Nat.le_refl _, Nat.le_refl _⟩
theorem z9p (seen ts : List Int) (g : Gn) : Bd ts.length 0 g (z1p l seen ts g).2 := by
  rw [(z1n l seen ts g).1]
  exact ⟨Nat.le_refl _, by simp only []; omega, Nat.le_refl _, Nat.le_refl _⟩
theorem ze4 (ts : List Int) (g : Gn) : Bd 0 ts.length g (z0q ts g).2 := by
  rw [(z25 ts g).1]
  exact ⟨Nat.le_refl _, Nat.le_refl _, by simp, by simp only [List.length_append]; omega⟩
theorem z3j (g : Gn) : Bd 3 0 g (z0x l g).2 /\ (z0x l g).1.length <= 2 := by
  have h3 : (z01 l 3 g).1 < 3 := z26 oM0
  obtain ⟨h1, h2⟩ := z48 l g
  refine ⟨?_, by omega⟩
  rw [h1]
  exact ⟨Nat.le_refl _, by simp only []; omega, Nat.le_refl _, Nat.le_refl _⟩
theorem y3b (kind op n : Int) (name : ByteArray) (seen ins outs : List Int) (g : Gn) : Bd ins.length outs.length g (z1v l kind op n name seen ins outs g).2 := by
  have := (z9p l seen ins g).trans (ze4 outs (z1p l seen ins g).2)
  simpa [z1v] using this
theorem ze5 (seen : List Int) (g : Gn) : Bd 4 1 g (z0w l seen g).2 := by
  unfold z0w
  have h0 := z7d l 12 g
  have P := fun n => z7d l n (z01 l 12 g).2
  have N := fun kind op n name ins outs g' => y3b l kind op n name seen ins outs g'
  simp only
  split
  ·exact ((h0.trans (P 6)).trans (N _ _ _ _ [] [1] _)).mono sI0 sI0
  split
  ·exact ((h0.trans (P 2)).trans (N _ _ _ _ [] [2] _)).mono sI0 sI0
  split
  ·exact ((h0.trans (P 4)).trans (N _ _ _ _ [1] [1] _)).mono sI0 sI0
  split
  ·exact (h0.trans (N _ _ _ _ [2] [2] _)).mono sI0 sI0
  split
  ·exact ((h0.trans (P 11)).trans (N _ _ _ _ [1, 1] [1] _)).mono sI0 sI0
  split
  ·exact ((h0.trans (P 6)).trans (N _ _ _ _ [1, 1] [2] _)).mono sI0 sI0
  split
  ·exact (h0.trans (N _ _ _ _ [1] [1] _)).mono sI0 sI0
  split
  ·exact (h0.trans (N _ _ _ _ [1, 1] [] _)).mono sI0 sI0
  split
  ·exact ((h0.trans (P 4)).trans (N _ _ _ _ [1, 2] [1] _)).mono sI0 sI0
  split
  ·exact ((h0.trans (P 4)).trans (N _ _ _ _ [] [1] _)).mono sI0 sI0
  exact ((h0.trans (P 4)).trans (N _ _ _ _ [1] [] _)).mono sI0 sI0
def Plc.small (p : Plc) : Prop := p.Yield.length <= 2 /\ p.Next.length <= 2 /\ p.Left.length <= 2
theorem bd_end (seen : List Int) (p : Plc) (hp : p.small) (g : Gn) : Bd 3 0 g (gEnd l seen p g).2 := by
  obtain ⟨h1, h2, h3⟩ := hp
  unfold gEnd
  have h0 := z7d l 6 g
  have N := fun kind op n name ins outs g' => y3b l kind op n name seen ins outs g'
  simp only
  split
  ·exact (h0.trans (N _ _ _ _ p.Yield [] _)).mono oM0 sI0
  split
  ·exact (h0.trans (N _ _ _ _ p.Next [] _)).mono oM0 sI0
  split
  ·exact (h0.trans (N _ _ _ _ p.Left [] _)).mono oM0 sI0
  exact (h0.trans (N _ _ _ _ [1] [] _)).mono sI0 sI0
def zy3 (rec : GRec) : Prop := ∀ seen p g, p.small -> Bd 4 0 g (rec seen p g).2
theorem y3c (x : List Int -> Nd) (t : List Int) (ht : t.length <= 2) (g : Gn) : Bd 0 2 g (z6o x t g).2 := by
  unfold z6o
  split
  ·exact ⟨Nat.le_refl _, Nat.le_refl _, Nat.le_refl _, by show g.types.length + 10 * g.left <= g.types.length + 10 * g.left + 2; omega⟩
  exact (ze4 t g).mono (Nat.le_refl _) ht
theorem bd_if {rec : GRec} (hr : zy3 rec) (all : List Int) (p : Plc) (hp : p.small) (g : Gn) : Bd 12 2 g (gIf l rec all p g).2 := by
  unfold gIf
  simp only
  obtain ⟨h1, h2⟩ := z3j l g
  have h3 := h1.trans (z9p l all [2] (z0x l g).2)
  have hsm : Plc.small ⟨true, p.Loop, (z0x l g).1, p.Next, p.Left⟩ := ⟨h2, hp.2.1, hp.2.2⟩
  have h4 := h3.trans (hr all ⟨true, p.Loop, (z0x l g).1, p.Next, p.Left⟩ _ hsm)
  have h5 := h4.trans (hr all ⟨true, p.Loop, (z0x l g).1, p.Next, p.Left⟩ _ hsm)
  exact (h5.trans (y3c _ _ h2 _)).mono sI0 sI0
theorem y3a {rec : GRec} (hr : zy3 rec) (all : List Int) (g : Gn) : Bd 12 4 g (z8b l rec all g).2 := by
  unfold z8b
  simp only
  obtain ⟨h1, h2⟩ := z3j l g
  obtain ⟨h3, h4⟩ := z3j l (z0x l g).2
  have h5 := (h1.trans h3).trans ((z9p l all (z0x l g).1 (z0x l (z0x l g).2).2).mono h2 (Nat.le_refl 0))
  have h6 := h5.trans ((ze4 (z0x l g).1 (z1p l all (z0x l g).1 (z0x l (z0x l g).2).2).2).mono (Nat.le_refl 0) h2)
  have h7 := h6.trans (hr (all ++ (z0q (z0x l g).1 (z1p l all (z0x l g).1 (z0x l (z0x l g).2).2).2).1) ⟨false, true, [], (z0x l g).1, (z0x l (z0x l g).2).1⟩ _ ⟨by simp, h2, h4⟩)
  exact (h7.trans (y3c _ _ h4 _)).mono oM0 oM0
theorem bd_any {rec : Option GRec} (hr : ∀ r, rec = some r -> zy3 r) (all : List Int) (p : Plc) (hp : p.small) (g : Gn) (hg : 0 < g.left) : Bd 0 0 g (gAny l rec all p g).2 := by
  have h0 : ({ g with left := g.left - 1 } : Gn).left + 1 = g.left := by show g.left - 1 + 1 = g.left; omega
  have key : ∀ g', Bd 17 5 { g with left := g.left - 1 } g' -> Bd 0 0 g g' := fun g' h =>
    ⟨by have := h.lf; omega, by have := h.ps; have e : ({ g with left := g.left - 1 } : Gn).pos = g.pos := rfl; omega, h.t1, by have := h.t2; have e : ({ g with left := g.left - 1 } : Gn).types = g.types := rfl; rw [e] at this; omega⟩
  have hs := (ze5 l all { g with left := g.left - 1 }).trans (z7d l 6 _)
  unfold gAny
  simp only
  cases rec with
  | none => exact key _ (hs.mono oM0 oM0)
  | some r =>
    simp only
    split
    ·exact key _ ((hs.trans (bd_if l (hr r rfl) all p hp _)).mono oM0 oM0)
    split
    ·exact key _ ((hs.trans (y3a l (hr r rfl) all _)).mono oM0 oM0)
    exact key _ (hs.mono oM0 oM0)
theorem zo0 {rec : Option GRec} (hr : ∀ r, rec = some r -> zy3 r) (p : Plc) (hp : p.small) : ∀ (i : Nat) (out : List Nd) (all : List Int) (g : Gn), Bd 3 0 g (z3a l rec p i out all g).2
  | 0, out, all, g => bd_end l all p hp g
  | i + 1, out, all, g => by
    unfold z3a
    split
    ·exact bd_end l all p hp g
    rename_i hl
    have h1 := bd_any l hr all p hp g oM0
    simp only
    split
    ·exact h1.mono oM0 oM0
    exact (h1.trans (zo0 hr p hp i _ _ _)).mono oM0 oM0
theorem z6l : ∀ d : Nat, zy3 (z2y l d)
  | 0 => fun seen p g hp => ((z7d l 6 g).trans (zo0 l (rec := none) (fun r h => by cases h) p hp _ _ _ _)).mono oM0 oM0
  | d + 1 => fun seen p g hp => ((z7d l 6 g).trans (zo0 l (rec := some (z2y l d)) (fun r h => by cases h; exact z6l d) p hp _ _ _ _)).mono oM0 oM0
def gRec : Nat -> Option GRec
  | 0 => none
  | d + 1 => some (z2y l d)
theorem y3x (d : Nat) : ∀ r, gRec l d = some r -> zy3 r := by
  intro r h
  cases d with
  | zero => cases h
  | succ d => cases h; exact z6l l d
theorem z6m (d : Nat) (seen : List Int) (p : Plc) (g : Gn) : z2y l d seen p g = z3a l (gRec l d) p (z01 l 6 g).1 [] seen (z01 l 6 g).2 := by cases d <;> rfl
end
theorem InR.mono {tys tys' seen : List Int} (h : InR tys seen) (hl : tys.length <= tys'.length) : InR tys' seen := fun s hs => ⟨(h s hs).1, Nat.lt_of_lt_of_le (h s hs).2 hl⟩
theorem InR.app {tys a b : List Int} (h : InR tys a) (h' : InR tys b) : InR tys (a ++ b) := fun s hs => (List.mem_append.1 hs).elim (h s) (h' s)
theorem InR.outs (ts : List Int) (g : Gn) : InR (z0q ts g).2.types (z0q ts g).1 := by
  intro s hs
  have := y0z ts g s hs
  rw [(z25 ts g).1]
  simp only [List.length_append]
  omega
section
variable (l : List UInt8)
theorem y4k (kind op n : Int) (name : ByteArray) (seen ins outs : List Int) (g : Gn) : InR (z1v l kind op n name seen ins outs g).2.types (z1v l kind op n name seen ins outs g).1.outs /\ (z1v l kind op n name seen ins outs g).1.outs.length = outs.length :=
  ⟨InR.outs outs _, (z25 outs _).2⟩
theorem y0i (seen : List Int) (g : Gn) : InR (z0w l seen g).2.types (z0w l seen g).1.outs /\ (z0w l seen g).1.outs.length <= 1 := by
  have N := fun kind op n name ins outs g' => y4k l kind op n name seen ins outs g'
  have fin : ∀ {x : Nd × Gn} {k : Nat}, InR x.2.types x.1.outs /\ x.1.outs.length = k -> k <= 1 -> InR x.2.types x.1.outs /\ x.1.outs.length <= 1 := fun h hk => ⟨h.1, by omega⟩
  unfold z0w
  simp only
  split
  ·exact fin (N _ _ _ _ _ [1] _) sI0
  split
  ·exact fin (N _ _ _ _ _ [2] _) sI0
  split
  ·exact fin (N _ _ _ _ _ [1] _) sI0
  split
  ·exact fin (N _ _ _ _ _ [2] _) sI0
  split
  ·exact fin (N _ _ _ _ _ [1] _) sI0
  split
  ·exact fin (N _ _ _ _ _ [2] _) sI0
  split
  ·exact fin (N _ _ _ _ _ [1] _) sI0
  split
  ·exact fin (N _ _ _ _ _ [] _) sI0
  split
  ·exact fin (N _ _ _ _ _ [1] _) sI0
  split
  ·exact fin (N _ _ _ _ _ [1] _) sI0
  exact fin (N _ _ _ _ _ [] _) sI0
theorem zx4 (x : List Int -> Nd) (hx : ∀ o, (x o).outs = o) (t : List Int) (ht : t.length <= 2) (g : Gn) : InR (z6o x t g).2.types (z6o x t g).1.outs /\ (z6o x t g).1.outs.length <= 2 := by
  unfold z6o
  split
  ·rw [hx]; exact ⟨fun s hs => by simp at hs, by simp⟩
  rw [hx]; exact ⟨InR.outs t g, by rw [(z25 t g).2]; exact ht⟩
theorem y0t {rec : Option GRec} (all : List Int) (p : Plc) (g : Gn) : InR (gAny l rec all p g).2.types (gAny l rec all p g).1.outs /\ (gAny l rec all p g).1.outs.length <= 2 := by
  have hs := y0i l all { g with left := g.left - 1 }
  unfold gAny
  simp only
  cases rec with
  | none => exact ⟨hs.1, Nat.le_trans hs.2 dC0⟩
  | some r =>
    simp only
    split
    ·unfold gIf; exact zx4 _ (fun _ => rfl) _ (z3j l _).2 _
    split
    ·unfold z8b; exact zx4 _ (fun _ => rfl) _ (z3j l _).2 _
    exact ⟨hs.1, Nat.le_trans hs.2 dC0⟩
end
theorem any_left (l : List UInt8) {rec : Option GRec} (hr : ∀ r, rec = some r -> zy3 r) (all : List Int) (p : Plc) (hp : p.small) (g : Gn) (hg : 0 < g.left) : (gAny l rec all p g).2.left + 1 <= g.left := by
  have h0 : ({ g with left := g.left - 1 } : Gn).left + 1 = g.left := by show g.left - 1 + 1 = g.left; omega
  have hs := (ze5 l all { g with left := g.left - 1 }).trans (z7d l 6 _)
  have fin : ∀ {a b : Nat} {g' : Gn}, Bd a b { g with left := g.left - 1 } g' -> g'.left + 1 <= g.left := fun h => by have := h.lf; omega
  unfold gAny
  simp only
  cases rec with
  | none => exact fin hs
  | some r =>
    simp only
    split
    ·exact fin (hs.trans (bd_if l (hr r rfl) all p hp _))
    split
    ·exact fin (hs.trans (y3a l (hr r rfl) all _))
    exact fin hs
theorem zm0 (l : List UInt8) (rec : Option GRec) (p : Plc) : ∀ (i : Nat) (out : List Nd) (all : List Int) (g : Gn), (z3a l rec p i out all g).1.length <= out.length + i + 1
  | 0, out, all, g => by simp [z3a]
  | i + 1, out, all, g => by
    unfold z3a
    split
    ·simp
    simp only
    split
    ·simp
    have := zm0 l rec p i (out ++ [(gAny l rec all p g).1]) (all ++ (gAny l rec all p g).1.outs) (gAny l rec all p g).2
    simp only [List.length_append, List.length_cons, List.length_nil] at this
    omega
theorem zf5 (l : List UInt8) (d : Nat) (seen : List Int) (p : Plc) (g : Gn) : (z2y l d seen p g).1.length <= 6 := by
  rw [z6m]
  have h6 : (z01 l 6 g).1 < 6 := z26 oM0
  have := zm0 l (gRec l d) p (z01 l 6 g).1 [] seen (z01 l 6 g).2
  simp only [List.length_nil] at this
  omega
theorem y3w (l : List UInt8) (name : ByteArray) (params : List Int) (g : Gn) (hp : params.length <= 10) (hg : g.pos <= 100) : (z22 l name params g).2.pos <= 2000 := by
  have hS := (z25 params { g with types := [], left := 30 }).1
  have hb := (z6l l 3 ((z0q params { g with types := [], left := 30 }).1 ++ [(z0c 1 (z0q params { g with types := [], left := 30 }).2).1, (z0c 2 (z0c 1 (z0q params { g with types := [], left := 30 }).2).2).1]) plc0 (z0c 2 (z0c 1 (z0q params { g with types := [], left := 30 }).2).2).2 ⟨by simp [plc0], by simp [plc0], by simp [plc0]⟩).ps
  have h1 : (z0c 2 (z0c 1 (z0q params { g with types := [], left := 30 }).2).2).2.pos = g.pos := by rw [hS]; rfl
  have h2 : (z0c 2 (z0c 1 (z0q params { g with types := [], left := 30 }).2).2).2.left = 30 := by rw [hS]; rfl
  rw [h1, h2] at hb
  show (z2y l 3 _ plc0 _).2.pos <= 2000
  omega
end
def idxP {α : Type} (p : α -> Bool) : List α -> Int -> Int
  | [], _ => -1
  | x :: r, i => if p x then i else idxP p r (i + 1)
theorem z90 {α : Type} (p : α -> Bool) : ∀ (l : List α) (i : Int), 0 <= i -> decide (idxP p l i ≥ 0) = l.any p
  | [], _, _ => rfl
  | x :: r, i, hi => by
    unfold idxP
    cases hx : p x with
    | true => simp [hx, hi]
    | false => simp [hx, z90 p r (i + 1) oM0]
def eqGo {S : Type} (p : S -> Int -> Int -> Bool × S) : S -> List Int -> List Int -> Bool × S
  | s, x :: a, y :: b => if (p s x y).1 then eqGo p (p s x y).2 a b else (false, (p s x y).2)
  | s, _, _ => (true, s)
def eqf {S : Type} (p : S -> Int -> Int -> Bool × S) (s : S) (a b : List Int) : Bool × S := if (a.length : Int) = b.length then eqGo p s a b else (false, s)
theorem zc0 : ∀ l : List Nd, z0y l = l.any z2s
  | [] => rfl
  | x :: r => by simp [z0y, zc0 r]
theorem z53 : ∀ l : List (List Nd), z2d l = l.any z0y
  | [] => rfl
  | x :: r => by simp [z2d, z53 r]
def zd9 (l : List Nd) : Bool := match l.getLast? with
  | some x => x.kind == 12
  | none => false
theorem z3h (l : List Nd) : (z4b l != 12) = !zd9 l := by
  unfold z4b zd9
  cases l.getLast? with
  | none => rfl
  | some x =>
    simp only [z1b]
    by_cases h : x.kind = 12
    ·simp [h]
    have hb : (x.kind == 12) = false := by simpa using h
    by_cases h2 : (decide (x.kind ≥ 12) && decide (x.kind <= 15)) = true
    ·simp only [h2, if_true, bne, hb]
    simp [h2, h]
theorem zm3 (name : ByteArray) : ∀ (l : List Fl) (i : Int), idxP (fun f : Fl => f.name.toList == name.toList) l i = z0a name l i
  | [], _ => rfl
  | f :: r, i => by
    unfold idxP z0a eqS
    rw [zm3 name r]
theorem zh2 (name : ByteArray) : ∀ (l : List Ar) (i : Int), 0 <= i -> decide (z1j name l i ≥ 0) = l.any (fun a : Ar => a.name.toList == name.toList)
  | [], _, _ => rfl
  | f :: r, i, hi => by
    have ih := zh2 name r (i + 1) oM0
    rw [List.any_cons, <- ih]
    rw [show z1j name (f :: r) i = if (f.name.toList == name.toList) = true then i else z1j name r (i + 1) from rfl]
    by_cases h : (f.name.toList == name.toList) = true
    ·rw [if_pos h, h]; simp [hi]
    rw [if_neg h, (by simpa using h : (f.name.toList == name.toList) = false)]; simp
def isTy (t : Int) : Bool := t == 1 || t == 2
def z0d (op : Int) : Int × Int :=
  if op == 22 then (2, 2) else if op == 16 || op == 17 then (0, 2) else if decide (op ≥ 12) && decide (op <= 15) then (1, 2) else (1, 1)
def wSigns : List ByteArray := [⟨#[]⟩, ⟨#[43]⟩, ⟨#[45]⟩, ⟨#[42]⟩, ⟨#[47]⟩, ⟨#[37]⟩, ⟨#[38]⟩, ⟨#[124]⟩, ⟨#[94]⟩, ⟨#[60, 60]⟩, ⟨#[62, 62]⟩, ⟨#[62, 62, 62]⟩, ⟨#[60]⟩, ⟨#[60, 61]⟩, ⟨#[62]⟩, ⟨#[62, 61]⟩, ⟨#[61, 61]⟩, ⟨#[33, 61]⟩, ⟨#[38, 38]⟩, ⟨#[124, 124]⟩, ⟨#[45]⟩, ⟨#[126]⟩, ⟨#[33]⟩, ⟨#[105, 56]⟩, ⟨#[105, 49, 54]⟩, ⟨#[105, 51, 50]⟩, ⟨#[117, 56]⟩, ⟨#[117, 49, 54]⟩, ⟨#[117, 51, 50]⟩]
def wSign (op : Int) : ByteArray := if op < 0 || op ≥ 29 then ⟨#[]⟩ else wSigns.getD op.toNat ⟨#[]⟩
def levelTab : List Int := [0, 9, 9, 10, 10, 10, 5, 3, 4, 8, 8, 8, 7, 7, 7, 7, 6, 6, 2, 1, 0, 0, 0, 0, 0, 0, 0, 0, 0]
def z8i (op : Int) : Int := if op < 0 || op ≥ 29 then 0 else levelTab.getD op.toNat 0
theorem y3d {op : Int} (h0 : 0 <= op) (h1 : op < 29) : op = 0 ∨ op = 1 ∨ op = 2 ∨ op = 3 ∨ op = 4 ∨ op = 5 ∨ op = 6 ∨ op = 7 ∨ op = 8 ∨ op = 9 ∨ op = 10 ∨ op = 11 ∨ op = 12 ∨ op = 13 ∨ op = 14 ∨ op = 15 ∨ op = 16 ∨ op = 17 ∨ op = 18 ∨ op = 19 ∨ op = 20 ∨ op = 21 ∨ op = 22 ∨ op = 23 ∨ op = 24 ∨ op = 25 ∨ op = 26 ∨ op = 27 ∨ op = 28 := by omega
def ckS (u : Un) (f : Fl) (it : TypeId) (st : List Int) : List (Nat × HO) := [(3, .box (ckBox u f (st.map eInt).length)), (4, .row ⟨it, 1⟩ (st.map eInt))]
def z46 (tys : List Int) (v t : Int) : Bool := decide (0 <= v) && decide (v < tys.length) && (t == 0 || tys.getD v.toNat 0 == t)
def za8 (tys : List Int) (st : List Int) (v t : Int) : Bool × List Int := (z46 tys v t && st.getD v.toNat 0 == 1, st)
def z3g (tys : List Int) (st : List Int) (v t : Int) : Bool × List Int := if z46 tys v t && st.getD v.toNat 0 == 0 then (true, st.set v.toNat 1) else (false, st)
def z19 (tys st l want : List Int) : Bool := (eqf (za8 tys) st l want).1
def z0v (tys st l want : List Int) : Bool × List Int := eqf (z3g tys) st l want
def z2e (st l : List Int) : List Int := l.foldl (fun s v => s.set v.toNat 2) st
theorem zx3 (tys : List Int) : ∀ (a b st : List Int), (eqGo (za8 tys) st a b).2 = st
  | [], _, st => by simp [eqGo]
  | _ :: _, [], st => by simp [eqGo]
  | x :: a, y :: b, st => by
    simp only [eqGo]
    split
    ·exact zx3 tys a b st
    rfl
theorem y2u (tys st a b : List Int) : (eqf (za8 tys) st a b).2 = st := by
  unfold eqf
  split
  ·exact zx3 tys a b st
  rfl
theorem z6y (tys st : List Int) (v t : Int) : (z3g tys st v t).2.length = st.length := by
  unfold z3g; split <;> simp
theorem z8h (tys : List Int) : ∀ (a b st : List Int), (eqGo (z3g tys) st a b).2.length = st.length
  | [], _, st => by simp [eqGo]
  | _ :: _, [], st => by simp [eqGo]
  | x :: a, y :: b, st => by
    simp only [eqGo]
    split
    ·rw [z8h tys a b, z6y]
    exact z6y ..
theorem z32 (tys st a b : List Int) : (z0v tys st a b).2.length = st.length := by
  unfold z0v eqf
  split
  ·exact z8h ..
  rfl
theorem z4h : ∀ (l st : List Int), (z2e st l).length = st.length
  | [], st => rfl
  | v :: r, st => by
    have := z4h r (st.set v.toNat 2)
    simpa [z2e] using this
theorem zn5 (tys : List Int) : ∀ (a b st : List Int), a.length = b.length -> (eqGo (z3g tys) st a b).1 = true -> ∀ v ∈ a, 0 <= v /\ v < tys.length
  | [], _, st, _, _, v, hv => by simp at hv
  | _ :: _, [], _, hl, _, _, _ => by simp at hl
  | x :: a, y :: b, st, hl, h, v, hv => by
    simp only [eqGo] at h
    split at h
    ·rename_i h1
     rcases List.mem_cons.1 hv with rfl | hv
     ·unfold z3g at h1
      split at h1
      ·rename_i h2
       simp only [z46, Bool.and_eq_true, decide_eq_true_eq] at h2
       exact ⟨h2.1.1.1, h2.1.1.2⟩
      cases h1
     exact zn5 tys a b _ (by simpa using hl) h v hv
    cases h
theorem zj4 {tys st a b : List Int} (h : (z0v tys st a b).1 = true) : ∀ v ∈ a, 0 <= v /\ v < tys.length := by
  unfold z0v eqf at h
  split at h
  ·exact zn5 tys a b st oM0 h
  cases h
def ckSp (u : Un) (f : Fl) (it : TypeId) (q : Nat) (st : List Int) : List (Nat × HO) := (q, .box [.ptr 3 0]) :: ckS u f it st
theorem y3h {u : Un} {f : Fl} {it : TypeId} {st : List Int} {i : Nat} {z : Int} : ∀ k, look ((4, some (.row ⟨it, 1⟩ ((st.map eInt).set i [vInt z]))) :: up (ckS u f it st)) k = look (up (ckS u f it (st.set i z))) k := by
  intro k
  simp only [ckS, up, List.map_cons, List.map_nil, look, List.length_map, List.length_set]
  by_cases h4 : 4 = k
  ·subst h4
   simp [List.map_set, eInt, show Nat.beq 3 4 = false from rfl]
  by_cases h3 : 3 = k
  ·subst h3; simp [show Nat.beq 4 3 = false from rfl]
  simp [z00 h3, z00 h4]
theorem ckS_lend {u : Un} {f : Fl} {it : TypeId} {st st' : List Int} (h : st'.length = st.length) : ∀ k ob, look (up (ckS u f it st')) k = some ob -> zg8 ob = true ∨ (k = 3 /\ look (up (ckS u f it st)) k = some ob) := by
  intro k ob hk
  have hm := z3y hk
  simp only [ckS, List.mem_cons, List.not_mem_nil, or_false, Prod.mk.injEq] at hm
  rcases hm with ⟨rfl, rfl⟩ | ⟨rfl, rfl⟩
  ·exact .inr ⟨rfl, by simp [ckS, up, look, h]⟩
  refine .inl ?_
  simp [zg8, eInt, y17]
theorem set3 {u : Un} {f : Fl} {st : List Int} {i : Nat} {z : Int} {x : Option HO} (h : x = some (.box (ckBox u f (st.map eInt).length))) : x = some (.box (ckBox u f ((st.set i z).map eInt).length)) := by
  rw [h, show ((st.set i z).map eInt).length = (st.map eInt).length by simp]
theorem set4 {it : TypeId} {st : List Int} {i : Nat} {z : Int} {x : Option HO} (h : x = some (.row ⟨it, 1⟩ ((st.map eInt).set i [vInt z]))) : x = some (.row ⟨it, 1⟩ ((st.set i z).map eInt)) := by
  rw [h, List.map_set]; rfl
def andP {S : Type} (b : Bool) (s : S) (r : Bool × S) : Bool × S := if b then r else (false, s)
def andQ {S : Type} (r : Bool × S) (k : S -> Bool × S) : Bool × S := if r.1 then k r.2 else (false, r.2)
theorem y2t {tys st a b : List Int} (h : z19 tys st a b = true) : a.length = b.length := by
  unfold z19 eqf at h
  split at h
  · omega
  · cases h
theorem y2v {tys st l : List Int} {t : Int} (h : z19 tys st l [t, t] = true) : ∃ a b, l = [a, b] /\ a = (a.toNat : Int) /\ a.toNat < tys.length /\ b = (b.toNat : Int) /\ b.toNat < tys.length := by
  have hl := y2t h
  match l, hl with
  | [a, b], _ =>
    unfold z19 eqf at h
    simp only [List.length_cons, List.length_nil, if_true, eqGo] at h
    split at h
    · rename_i h1
      split at h
      · rename_i h2
        simp only [za8, z46, Bool.and_eq_true, decide_eq_true_eq] at h1 h2
        exact ⟨a, b, rfl, by omega, by omega, by omega, by omega⟩
      · cases h
    · cases h
def z38 (f : Fl) (st : List Int) (x : Nd) : Bool × List Int :=
  if x.kind == 3 then andP (z2h x.op && z19 f.types st x.args [(z0d x.op).1]) st (z0v f.types st x.outs [(z0d x.op).2])
  else andP (decide (z8i x.op > 0) && decide (x.op <= 17) && z19 f.types st x.args [(z0d x.op).1, (z0d x.op).1] && f.types.getD (x.args.getD 0 0).toNat 0 == f.types.getD (x.args.getD 1 0).toNat 0) st (z0v f.types st x.outs [(z0d x.op).2])
def z7b (f : Fl) (st : List Int) (x : Nd) (w : Wh) : Bool :=
  if x.kind == 12 then (x.outs.length : Int) == 0 && w.If && z19 f.types st x.args w.Yield
  else if x.kind == 13 then (x.outs.length : Int) == 0 && w.Loop && z19 f.types st x.args w.Next
  else if x.kind == 14 then (x.outs.length : Int) == 0 && w.Loop && z19 f.types st x.args w.Left
  else (x.outs.length : Int) == 0 && z19 f.types st x.args [f.ty]
def z4w (u : Un) (f : Fl) (st : List Int) (x : Nd) : Bool × List Int :=
  if z0a x.name u.flows 0 < 0 then (false, st) else
    match u.flows[(z0a x.name u.flows 0).toNat]? with
    | some g => andP (z19 f.types st x.args (g.types.take g.params.toNat)) st (z0v f.types st x.outs [g.ty])
    | none => (false, st)
def z04 (u : Un) (f : Fl) (st : List Int) (x : Nd) : Bool × List Int :=
  if x.kind == 1 then andP (z19 f.types st x.args []) st (z0v f.types st x.outs [1])
  else if x.kind == 2 then andP ((x.n == 0 || x.n == 1) && z19 f.types st x.args []) st (z0v f.types st x.outs [2])
  else if x.kind == 3 || x.kind == 4 then z38 f st x
  else if x.kind == 5 then andP (decide (z1j x.name u.arrays 0 ≥ 0) && z19 f.types st x.args [1]) st (z0v f.types st x.outs [1])
  else if x.kind == 6 then andP (decide (z1j x.name u.arrays 0 ≥ 0) && z19 f.types st x.args [1, 1]) st (z0v f.types st x.outs [])
  else if x.kind == 8 then andP (z19 f.types st x.args []) st (z0v f.types st x.outs [1])
  else if x.kind == 9 then andP (z19 f.types st x.args [1]) st (z0v f.types st x.outs [])
  else if x.kind == 7 then z4w u f st x
  else (false, st)
theorem z6k {b : Bool} {st : List Int} {r : Bool × List Int} (h : r.2.length = st.length) : (andP b st r).2.length = st.length := by
  unfold andP; split
  · exact h
  · rfl
theorem zx2 (f : Fl) (st : List Int) (x : Nd) : (z38 f st x).2.length = st.length := by
  unfold z38; split <;> exact z6k (z32 ..)
theorem zq4 (u : Un) (f : Fl) (st : List Int) (x : Nd) : (z4w u f st x).2.length = st.length := by
  unfold z4w
  split
  · rfl
  · split
    · exact z6k (z32 ..)
    · rfl
theorem zj5 (u : Un) (f : Fl) (st : List Int) (x : Nd) : (z04 u f st x).2.length = st.length := by
  unfold z04
  repeat' split
  all_goals first
    | exact z6k (z32 ..)
    | exact zx2 ..
    | exact zq4 ..
    | rfl
def z1h (f : Fl) (x : Nd) (st : List Int) : Bool × List Int := andP ((x.outs.length : Int) == 0 || !z09 x) st (z0v f.types st x.outs (List.replicate x.outs.length 0))
def z5p (st : List Int) (l : List Nd) : List Int := l.foldl (fun s x => z2e s x.outs) st
def zx0 (l : List Nd) (s : List Int) : Bool × List Int := (decide ((l.length : Int) > 0), z5p s l)
mutual
def z3f (u : Un) (f : Fl) (deep : Int) (w : Wh) (st : List Int) : Nd -> Bool × List Int
  | .mk kind op n name args outs params kids =>
    if !z0k (.mk kind op n name args outs params kids) then (false, st)
    else if kind == 10 then
      match kids with
      | a :: b :: _ =>
        if z19 f.types st args [2] then
          andQ (andQ (shGo u f (deep + 1) ⟨true, w.Loop, r8of f.types outs, w.Next, w.Left⟩ st a) (zx0 a)) fun s1 =>
          andQ (andQ (shGo u f (deep + 1) ⟨true, w.Loop, r8of f.types outs, w.Next, w.Left⟩ s1 b) (zx0 b)) fun s2 =>
          z1h f (.mk kind op n name args outs params kids) s2
        else (false, st)
      | _ => (false, st)
    else if kind == 11 then
      if z19 f.types st args (r8of f.types params) then
        andQ (z0v f.types st params (List.replicate params.length 0)) fun s1 =>
        match kids with
        | a :: _ =>
          andQ (andQ (shGo u f (deep + 1) ⟨false, true, [], r8of f.types params, r8of f.types outs⟩ s1 a) (zx0 a)) fun s2 =>
          z1h f (.mk kind op n name args outs params kids) (z2e s2 params)
        | _ => (false, s1)
      else (false, st)
    else if z1b kind then (z7b f st (.mk kind op n name args outs params kids) w, st)
    else z04 u f st (.mk kind op n name args outs params kids)
def shGo (u : Un) (f : Fl) (deep : Int) (w : Wh) (st : List Int) : List Nd -> Bool × List Int
  | [] => (true, st)
  | x :: r =>
    if deep > 100 then (false, st)
    else andQ (z3f u f deep w st x) fun s1 =>
      if z09 x != r.isEmpty then (false, s1)
      else shGo u f deep w s1 r
end
def z0t (u : Un) (f : Fl) (deep : Int) (w : Wh) (st : List Int) (l : List Nd) : Bool × List Int := andQ (shGo u f deep w st l) (zx0 l)
theorem z2w {r : Bool × List Int} {k : List Int -> Bool × List Int} {n : Nat} (h1 : r.2.length = n) (h2 : ∀ s, s.length = n -> (k s).2.length = n) : (andQ r k).2.length = n := by
  unfold andQ; split
  ·exact h2 _ h1
  exact h1
theorem z77 : ∀ (l : List Nd) (st : List Int), (z5p st l).length = st.length
  | [], _ => rfl
  | x :: r, st => by
    have := z77 r (z2e st x.outs)
    rw [z4h] at this
    simpa [z5p] using this
theorem z9j {f : Fl} {x : Nd} {st : List Int} {n : Nat} (h : st.length = n) : (z1h f x st).2.length = n := (z6k (z32 ..)).trans h
theorem z61 {l : List Nd} {s : List Int} {n : Nat} (h : s.length = n) : (zx0 l s).2.length = n := (z77 l s).trans h
mutual
theorem z9i (u : Un) (f : Fl) : ∀ (x : Nd) (deep : Int) (w : Wh) (st : List Int), (z3f u f deep w st x).2.length = st.length
  | .mk kind op n name args outs params kids, deep, w, st => by
    unfold z3f
    split
    ·rfl
    split
    ·match kids with
     | [] => rfl
     | [_] => rfl
     | a :: b :: _ =>
       simp only
       split
       ·exact z2w (z2w (z5o u f a ..) fun s hs => z61 hs) fun s hs => z2w (z2w ((z5o u f b ..).trans hs) fun s hs => z61 hs) fun s hs => z9j hs
       rfl
    split
    ·split
     ·refine z2w (z32 ..) fun s hs => ?_
      match kids with
      | [] => exact hs
      | a :: _ => exact z2w (z2w ((z5o u f a ..).trans hs) fun s hs => z61 hs) fun s hs => z9j ((z4h ..).trans hs)
     rfl
    split
    ·rfl
    exact zj5 ..
theorem z5o (u : Un) (f : Fl) : ∀ (l : List Nd) (deep : Int) (w : Wh) (st : List Int), (shGo u f deep w st l).2.length = st.length
  | [], _, _, _ => by simp [shGo]
  | x :: r, deep, w, st => by
    unfold shGo
    split
    ·rfl
    refine z2w (z9i u f x ..) fun s hs => ?_
    split
    ·exact hs
    exact (z5o u f r ..).trans hs
end
theorem z6w (u : Un) (f : Fl) (deep : Int) (w : Wh) (st : List Int) (l : List Nd) : (z0t u f deep w st l).2.length = st.length := z2w (z5o ..) fun _ h => z61 h
theorem z8q (u : Un) (f : Fl) (deep : Int) (w : Wh) (st : List Int) {x : Nd} (h : z0k x = false) : z3f u f deep w st x = (false, st) := by
  cases x; unfold z3f; simp [h]
theorem zj3 (u : Un) (f : Fl) (deep : Int) (w : Wh) (st : List Int) {x : Nd} {a b : List Nd} (h : z0k x = true) (hk : x.kind = 10) (hx : x.kids = [a, b]) :
    z3f u f deep w st x = if z19 f.types st x.args [2] then andQ (z0t u f (deep + 1) ⟨true, w.Loop, r8of f.types x.outs, w.Next, w.Left⟩ st a) (fun s1 => andQ (z0t u f (deep + 1) ⟨true, w.Loop, r8of f.types x.outs, w.Next, w.Left⟩ s1 b) fun s2 => z1h f x s2) else (false, st) := by
  cases x
  simp only [Nd.kind, Nd.kids] at hk hx
  subst hk hx
  unfold z3f
  simp only [h, Bool.not_true, Bool.false_eq_true, if_false, Nd.args, Nd.outs]
  rfl
theorem z8r (u : Un) (f : Fl) (deep : Int) (w : Wh) (st : List Int) {x : Nd} {a : List Nd} (h : z0k x = true) (hk : x.kind = 11) (hx : x.kids = [a]) :
    z3f u f deep w st x = if z19 f.types st x.args (r8of f.types x.params) then andQ (z0v f.types st x.params (List.replicate x.params.length 0)) (fun s1 => andQ (z0t u f (deep + 1) ⟨false, true, [], r8of f.types x.params, r8of f.types x.outs⟩ s1 a) fun s2 => z1h f x (z2e s2 x.params)) else (false, st) := by
  cases x
  simp only [Nd.kind, Nd.kids] at hk hx
  subst hk hx
  unfold z3f
  simp only [h, Bool.not_true, Bool.false_eq_true, if_false, Nd.args, Nd.outs, Nd.params]
  rfl
theorem za7 (u : Un) (f : Fl) (deep : Int) (w : Wh) (st : List Int) {x : Nd} (h : z0k x = true) (h1 : (x.kind == 10) = false) (h2 : (x.kind == 11) = false) (h3 : z1b x.kind = true) : z3f u f deep w st x = (z7b f st x w, st) := by
  cases x
  simp only [Nd.kind] at h1 h2 h3
  unfold z3f
  simp [h, h1, h2, h3]
theorem z6x (u : Un) (f : Fl) (deep : Int) (w : Wh) (st : List Int) {x : Nd} (h : z0k x = true) (h1 : (x.kind == 10) = false) (h2 : (x.kind == 11) = false) (h3 : z1b x.kind = false) : z3f u f deep w st x = z04 u f st x := by
  cases x
  simp only [Nd.kind] at h1 h2 h3
  unfold z3f
  simp [h, h1, h2, h3]
theorem zr6 {S : Type} {b : Bool} {s : S} {r : Bool × S} (h : (andP b s r).1 = true) : b = true /\ r.1 = true := by
  unfold andP at h; split at h
  ·rename_i hb; exact ⟨hb, h⟩
  cases h
theorem z7c {S : Type} {r : Bool × S} {k : S -> Bool × S} (h : (andQ r k).1 = true) : r.1 = true /\ (k r.2).1 = true := by
  unfold andQ at h; split at h
  ·rename_i hb; exact ⟨hb, h⟩
  cases h
theorem zj6 {f : Fl} {x : Nd} {st : List Int} (h : (z1h f x st).1 = true) : ∀ v ∈ x.outs, 0 <= v /\ v < f.types.length := zj4 (zr6 h).2
theorem zq5 {u : Un} {f : Fl} {st : List Int} {x : Nd} (h : (z04 u f st x).1 = true) : ∀ v ∈ x.outs, 0 <= v /\ v < f.types.length := by
  unfold z04 z38 z4w at h
  repeat' split at h
  all_goals first
    | exact zj4 (zr6 h).2
    | cases h
theorem y2s {f : Fl} {st : List Int} {x : Nd} {w : Wh} (h : z7b f st x w = true) : x.outs = [] := by
  unfold z7b at h
  have key : ∀ b : Bool, ((x.outs.length : Int) == 0 && b) = true -> x.outs = [] := fun b hb => by
    simp only [Bool.and_eq_true, beq_iff_eq] at hb
    exact List.eq_nil_of_length_eq_zero oM0
  repeat' split at h
  all_goals first
    | exact key _ h
    | (rw [Bool.and_assoc] at h; exact key _ h)
theorem y0g {u : Un} {f : Fl} {deep : Int} {w : Wh} {st : List Int} {x : Nd} (h : (z3f u f deep w st x).1 = true) : ∀ v ∈ x.outs, 0 <= v /\ v < f.types.length := by
  cases hb : z0k x with
  | false => rw [z8q _ _ _ _ _ hb] at h; cases h
  | true =>
    by_cases h10 : x.kind = 10
    ·obtain ⟨a, b, hk⟩ := z3t hb h10
     rw [zj3 _ _ _ _ _ hb h10 hk] at h
     split at h
     ·exact zj6 (z7c (z7c h).2).2
     cases h
    by_cases h11 : x.kind = 11
    ·obtain ⟨a, hk⟩ := z2n hb h11
     rw [z8r _ _ _ _ _ hb h11 hk] at h
     split at h
     ·exact zj6 (z7c (z7c h).2).2
     cases h
    have e10 : (x.kind == 10) = false := by simpa using h10
    have e11 : (x.kind == 11) = false := by simpa using h11
    cases he : z1b x.kind with
    | true => rw [za7 _ _ _ _ _ hb e10 e11 he] at h; intro v hv; rw [y2s h] at hv; simp at hv
    | false => rw [z6x _ _ _ _ _ hb e10 e11 he] at h; exact zq5 h
theorem zx1 {u : Un} {f : Fl} {deep : Int} {w : Wh} : ∀ {l : List Nd} {st : List Int}, (shGo u f deep w st l).1 = true -> ∀ x ∈ l, ∀ v ∈ x.outs, 0 <= v /\ v < f.types.length
  | [], _, _, x, hx => by simp at hx
  | y :: r, st, h, x, hx => by
    unfold shGo at h
    split at h
    ·cases h
    obtain ⟨h1, h2⟩ := z7c h
    split at h2
    ·cases h2
    rcases List.mem_cons.1 hx with rfl | hx
    ·exact y0g h1
    exact zx1 h2 x hx
theorem zo9 : ∀ {l : List Nd} {x : Nd}, x ∈ l -> ndW x <= lsW l
  | y :: r, x, h => by
    rcases List.mem_cons.1 h with rfl | h
    ·simp only [lsW]; omega
    have := zo9 h; simp only [lsW]; omega
theorem z9u : ∀ {ks : List (List Nd)} {q : List Nd}, q ∈ ks -> lsW q <= kdW ks
  | y :: r, x, h => by
    rcases List.mem_cons.1 h with rfl | h
    ·simp only [kdW]; omega
    have := z9u h; simp only [kdW]; omega
def z7s (k n : Nat) : List Int := List.replicate k 1 ++ List.replicate (n - k) 0
def z8g (u : Un) (f : Fl) : Bool := !(decide (f.params > 8) || decide ((f.types.length : Int) > 20000) || f.types.any (fun t => !isTy t)) && (z0t u f 1 z21 (z7s f.params.toNat f.types.length) f.body).1
theorem z7t {k n : Nat} (h : k <= n) : (z7s k n).length = n := by simp [z7s]; omega
theorem y5t {k n : Nat} (h : k < n) : (z7s k n).set k 1 = z7s (k + 1) n := by
  unfold z7s
  rw [List.set_append_right _ _ sI0, List.length_replicate, Nat.sub_self]
  have : n - k = (n - (k + 1)) + 1 := by omega
  rw [this, List.replicate_succ, List.set_cons_zero, List.replicate_succ', List.append_assoc]
  rfl
def bump (s : ByteArray) (es : List (Value × PV)) : List (Value × PV) :=
  mput (.string s) (match z4s (.string s) es with | some (.val (.int .i64 n)) => .val (.int .i64 (IntKind.i64.wrap (n + 1))) | _ => .val (.int .i64 1)) es
def z7a (a : Ar) : Bool := z45 a.name && !decide (a.size < 1) && !decide (a.size > 1000)
def z5v (f : Fl) : Bool := z45 f.name && isTy f.ty && !decide (f.params < 0) && !decide (f.params > f.types.length)
def zb5 (es : List (Value × PV)) (l : List Ar) : List (Value × PV) := l.foldl (fun e a => bump a.name e) es
def ze6 (es : List (Value × PV)) (l : List Fl) : List (Value × PV) := l.foldl (fun e a => bump a.name e) es
def z4g (u : Un) : Bool := u.arrays.all z7a && u.flows.all z5v && ((ze6 (zb5 [] u.arrays) u.flows).length : Int) == u.arrays.length + u.flows.length && z76 u
def z6z (u : Un) : List Fl -> Int -> Int × Int
  | [], _ => (0, 0)
  | f :: r, i => if z8g u f then z6z u r (i + 1) else (80, i)
def z3z (u : Un) : Int × Int := if z4g u then z6z u u.flows 0 else (1, 0)
theorem z9h {u : Un} (h : z4g u = true) : ∀ g ∈ u.flows, 0 <= g.params /\ g.params <= g.types.length := by
  simp only [z4g, Bool.and_eq_true, List.all_eq_true] at h
  intro g hg
  have := h.1.1.2 g hg
  simp only [z5v, Bool.and_eq_true, Bool.not_eq_true', decide_eq_false_iff_not] at this
  omega
theorem z9l {α : Type} {p : α -> Bool} : ∀ {l : List α} {k : Nat} {x : α}, (l.take k).all p = true -> l[k]? = some x -> p x = false -> (l.takeWhile p).length = k /\ l.all p = false
  | [], k, x, _, h, _ => by simp at h
  | a :: r, 0, x, _, h, hx => by
    simp only [List.getElem?_cons_zero, Option.some.injEq] at h
    subst h
    simp [hx]
  | a :: r, k + 1, x, h, hg, hx => by
    simp only [List.take_succ_cons, List.all_cons, Bool.and_eq_true] at h
    obtain ⟨h1, h2⟩ := z9l h.2 (by simpa using hg) hx
    simp [h.1, h1, h2]
def y28 (s : ByteArray) : ByteArray := if s.toList.all isLD then s else s.extract 0 (s.toList.takeWhile isLD).length
theorem runOf_at {s : ByteArray} {k : Nat} {b : UInt8} (h : (s.toList.take k).all isLD = true) (hb : s.toList[k]? = some b) (hn : isLD b = false) : y28 s = s.extract 0 k := by
  obtain ⟨h1, h2⟩ := z9l h hb hn
  simp [y28, h1, h2]
theorem runOf_eq (s : ByteArray) : ((y28 s).toList == s.toList) = s.toList.all isLD := by
  unfold y28
  cases h : s.toList.all isLD with
  | true => simp
  | false =>
    simp only [Bool.false_eq_true, if_false]
    have hlt : (s.toList.takeWhile isLD).length < s.toList.length := by
      rcases Nat.lt_or_ge (s.toList.takeWhile isLD).length s.toList.length with h1 | h1
      ·exact h1
      have hp := List.takeWhile_prefix (l := s.toList) isLD
      have he := hp.eq_of_length_le h1
      have : s.toList.all isLD = true := by rw [<- he]; exact List.all_takeWhile
      rw [h] at this; cases this
    have hne : (s.extract 0 (s.toList.takeWhile isLD).length).toList ≠ s.toList := by
      intro he
      have := congrArg List.length he
      rw [z8c, ByteArray.size_extract, z8c] at this
      rw [z8c] at hlt
      omega
    simpa using hne
theorem y1n {s : ByteArray} {k : Nat} (h : k < s.toList.length) : ((s.toList[k]).toNat < 128 -> Utf8.decode s k = ((s.toList[k]).toNat, 1)) /\ (128 <= (s.toList[k]).toNat -> 128 <= (Utf8.decode s k).1) := by
  have hk : k < s.size := by rwa [z8c] at h
  have e0 : s.get! (k + 0) = s.toList[k] := by
    have h2 := y0u h
    rw [getElem?_pos s k hk] at h2
    rw [<- Option.some.inj h2]
    show s.get! k = _
    simp [ByteArray.get!, getElem!_pos, hk]
    rfl
  refine ⟨fun hb => ?_, fun hb => ?_⟩
  ·simp only [Utf8.decode, e0, hb, if_true]
  have hn : ¬ (s.toList[k]).toNat < 128 := by omega
  simp only [Utf8.decode, e0]
  rw [if_neg (by simpa using hn)]
  repeat' split
  all_goals first
    | (simp [Utf8.runeError]; done)
    | (rename_i hc; simp only [ge_iff_le, Bool.and_eq_true, decide_eq_true_eq] at hc; simp only; omega)
def zk6 (r : Int) : Bool := z1z r || z6p r
theorem zt5 {r : Int} (h : zk6 r = true) : r < 128 := by
  simp only [zk6, z1z, z6p, Bool.or_eq_true, Bool.and_eq_true, decide_eq_true_eq, beq_iff_eq] at h
  omega
theorem ze8 {s : ByteArray} {k : Nat} (h : k < s.toList.length) : (zk6 (Utf8.decode s k).1 = true -> (Utf8.decode s k).2 = 1 /\ isLD s.toList[k] = true) /\ (zk6 (Utf8.decode s k).1 = false -> isLD s.toList[k] = false) := by
  obtain ⟨h1, h2⟩ := y1n h
  by_cases hb : (s.toList[k]).toNat < 128
  ·rw [h1 hb]
   exact ⟨fun h => ⟨rfl, h⟩, fun h => h⟩
  have h3 := h2 oM0
  refine ⟨fun hl => ?_, fun _ => ?_⟩
  ·have := zt5 hl; omega
  cases hd : isLD s.toList[k] with
  | false => rfl
  | true => have := zt5 (r := ((s.toList[k]).toNat : Int)) hd; omega
def Cnt (es : List (Value × PV)) : Prop := (∀ e ∈ es, z36 .string e.1 = true) /\ ∀ e ∈ es, ∃ n, e.2 = vInt n
theorem zo8 {k : Value} {v : PV} : ∀ {es : List (Value × PV)} {e : Value × PV}, e ∈ mput k v es -> e = (k, v) ∨ e ∈ es
  | [], e, h => by simp [mput] at h; exact .inl h
  | (a, p) :: r, e, h => by
    simp only [mput] at h
    split at h
    ·rcases List.mem_cons.1 h with rfl | h
     ·exact .inl rfl
     exact .inr (.tail _ h)
    rcases List.mem_cons.1 h with rfl | h
    ·exact .inr (.head _)
    rcases zo8 h with h | h
    ·exact .inl h
    exact .inr (.tail _ h)
theorem zu5 {k : Value} {p : PV} : ∀ {es : List (Value × PV)}, z4s k es = some p -> ∃ a, (a, p) ∈ es
  | (a, q) :: r, h => by
    simp only [z4s] at h
    split at h
    ·cases h; exact ⟨a, .head _⟩
    obtain ⟨b, hb⟩ := zu5 h; exact ⟨b, .tail _ hb⟩
theorem Cnt.find {es : List (Value × PV)} (h : Cnt es) (k : Value) : ∃ n, (z4s k es).getD (.val (.int .i64 0)) = vInt n := by
  cases hf : z4s k es with
  | none => exact ⟨0, rfl⟩
  | some p => obtain ⟨a, ha⟩ := zu5 hf; obtain ⟨n, hn⟩ := h.2 _ ha; exact ⟨n, hn⟩
theorem zo1 {es : List (Value × PV)} {s : ByteArray} {n : Int} (h : (z4s (.string s) es).getD (.val (.int .i64 0)) = vInt n) : bump s es = mput (.string s) (vInt (IntKind.i64.wrap (n + 1))) es := by
  unfold bump
  cases hf : z4s (.string s) es with
  | none =>
    rw [hf] at h
    simp only [Option.getD_none, vInt, PV.val.injEq, Value.int.injEq, true_and] at h
    subst h
    rfl
  | some p =>
    rw [hf] at h
    simp only [Option.getD_some] at h
    subst h
    rfl
theorem Cnt.bump {es : List (Value × PV)} (h : Cnt es) (s : ByteArray) : Cnt (bump s es) := by
  obtain ⟨n, hn⟩ := h.find (.string s)
  rw [zo1 hn]
  refine ⟨fun e he => ?_, fun e he => ?_⟩
  ·rcases zo8 he with rfl | he
   ·rfl
   exact h.1 e he
  rcases zo8 he with rfl | he
  ·exact ⟨_, rfl⟩
  exact h.2 e he
theorem Cnt.nil : Cnt [] := ⟨fun _ h => by simp at h, fun _ h => by simp at h⟩
structure Rl (n : Nat) (st : List Int) (set : List Bool) (seen : List Int) : Prop where
  l1 : st.length = n
  l2 : set.length = n
  s : ∀ v : Nat, v < n -> set.getD v false = !(st.getD v 0 == 0)
  u : ∀ v : Nat, v < n -> seen.contains (v : Int) = (st.getD v 0 == 1)
theorem z8z {α : Type} {l : List α} {i j : Nat} {a d : α} : (l.set i a).getD j d = if i = j /\ i < l.length then a else l.getD j d := by
  simp only [List.getD_eq_getElem?_getD, List.getElem?_set]
  by_cases h : i = j
  ·subst h
   by_cases h2 : i < l.length
   ·simp [h2]
   simp [h2]
  simp [h]
theorem use_rl {tys st : List Int} {set : List Bool} {seen : List Int} (h : Rl tys.length st set seen) (v w : Int) : z54 tys seen v w = (za8 tys st v w).1 := by
  unfold z54 za8 z46
  by_cases h0 : 0 <= v
  ·by_cases h1 : v < tys.length
   ·have hv : v = (v.toNat : Int) := by omega
    have hu := h.u v.toNat oM0
    rw [<- hv] at hu
    have e1 : decide (v < 0) = false := by simpa using h0
    have e2 : decide (v ≥ tys.length) = false := by simpa using h1
    have e3 : decide (0 <= v) = true := by simpa using h0
    have e4 : decide (v < tys.length) = true := by simpa using h1
    simp only [e1, e2, e3, e4, hu, Bool.false_or, Bool.true_and]
    clear hv e1 e2 e3 e4
    cases hw : (w == 0) <;> cases ht : (tys.getD v.toNat 0 == w) <;> cases hs : (st.getD v.toNat 0 == 1) <;> simp_all [bne]
   have e2 : decide (v ≥ tys.length) = true := by simp; omega
   have e4 : decide (v < tys.length) = false := by simp; omega
   simp [e2, e4]
  have e1 : decide (v < 0) = true := by simp; omega
  have e3 : decide (0 <= v) = false := by simp; omega
  simp [e1, e3]
theorem zx9 {tys st : List Int} {set : List Bool} {seen : List Int} (h : Rl tys.length st set seen) : ∀ (a b : List Int), z17 tys seen a b = (eqGo (za8 tys) st a b).1
  | [], _ => by simp [z17, eqGo]
  | _ :: _, [] => by simp [z17, eqGo]
  | x :: a, y :: b => by
    simp only [z17, eqGo, use_rl h x y]
    have h2 : (za8 tys st x y).2 = st := rfl
    cases hx : (za8 tys st x y).1 with
    | true => simp [h2, zx9 h a b]
    | false => simp
theorem y0n {tys st : List Int} {set : List Bool} {seen : List Int} (h : Rl tys.length st set seen) (a b : List Int) : z07 tys seen a b = z19 tys st a b := by
  unfold z07 z19 eqf
  by_cases hl : (a.length : Int) = b.length
  ·rw [if_pos hl]
   have : ((a.length : Int) == b.length) = true := by simpa using hl
   rw [this, Bool.true_and, zx9 h]
  rw [if_neg hl]
  have : ((a.length : Int) == b.length) = false := by simpa using hl
  rw [this, Bool.false_and]
theorem set1_rl {tys st : List Int} {set : List Bool} {seen : List Int} (h : Rl tys.length st set seen) (v w : Int) :
    z79 tys set v w = !(z3g tys st v w).1 /\ ((z3g tys st v w).1 = true -> Rl tys.length (z3g tys st v w).2 (set.set v.toNat true) (seen ++ [v]) /\ 0 <= v /\ v < tys.length /\ seen.contains v = false) := by
  unfold z79 z3g z46
  by_cases h0 : 0 <= v
  ·by_cases h1 : v < tys.length
   ·have hv : v = (v.toNat : Int) := by omega
    have hn : v.toNat < tys.length := by omega
    have hs := h.s v.toNat hn
    have hu := h.u v.toNat hn
    rw [<- hv] at hu
    have e1 : decide (v < 0) = false := by simpa using h0
    have e2 : decide (v ≥ tys.length) = false := by simpa using h1
    have e3 : decide (0 <= v) = true := by simpa using h0
    have e4 : decide (v < tys.length) = true := by simpa using h1
    simp only [e1, e2, e3, e4, hs, Bool.false_or, Bool.true_and]
    refine ⟨by clear hv e1 e2 e3 e4; cases hw : (w == 0) <;> cases ht : (tys.getD v.toNat 0 == w) <;> cases hz : (st.getD v.toNat 0 == 0) <;> simp_all [bne], fun hc => ?_⟩
    split at hc
    ·rename_i hif
     rw [if_pos hif]
     simp only [Bool.and_eq_true] at hif
     have hz : st.getD v.toNat 0 = 0 := by simpa using hif.2
     refine ⟨⟨by simpa using h.l1, by simpa using h.l2, fun j hj => ?_, fun j hj => ?_⟩, h0, h1, by rw [hu, hz]; rfl⟩
     ·rw [z8z, z8z]
      by_cases e : v.toNat = j
      ·subst e; simp [h.l1, h.l2, hn]
      simp only [e, false_and, if_false]; exact h.s j hj
     rw [z8z]
     simp only [List.contains_append, List.contains_cons, List.contains_nil, Bool.or_false]
     by_cases e : v.toNat = j
     ·subst e
      have : ((v.toNat : Int) == v) = true := by simpa using hv.symm
      rw [this, Bool.or_true, if_pos ⟨rfl, by rw [h.l1]; exact hn⟩]; rfl
     have : ((j : Int) == v) = false := by simp; omega
     simp only [e, false_and, if_false, this, Bool.or_false]
     exact h.u j hj
    cases hc
   have e2 : decide (v ≥ tys.length) = true := by simp; omega
   have e4 : decide (v < tys.length) = false := by simp; omega
   simp [e2, e4]
  have e1 : decide (v < 0) = true := by simp; omega
  have e3 : decide (0 <= v) = false := by simp; omega
  simp [e1, e3]
theorem zw8 {tys : List Int} : ∀ (a b st : List Int) (set : List Bool) (seen : List Int), a.length = b.length -> Rl tys.length st set seen ->
    (z1o tys set a b).1 = (eqGo (z3g tys) st a b).1 /\ ((eqGo (z3g tys) st a b).1 = true -> Rl tys.length (eqGo (z3g tys) st a b).2 (z1o tys set a b).2 (seen ++ a) /\ ∀ v ∈ a, 0 <= v /\ v < tys.length /\ seen.contains v = false)
  | [], _, st, set, seen, _, h => by simp [z1o, eqGo]; exact h
  | _ :: _, [], _, _, _, hl, _ => by simp at hl
  | x :: a, y :: b, st, set, seen, hl, h => by
    obtain ⟨h1, h2⟩ := set1_rl h x y
    simp only [z1o, eqGo, h1]
    cases hx : (z3g tys st x y).1 with
    | false => simp
    | true =>
      obtain ⟨h3, h4, h5, h6⟩ := h2 hx
      obtain ⟨ih1, ih2⟩ := zw8 a b _ _ _ (by simpa using hl) h3
      simp only [Bool.not_true, Bool.false_eq_true, if_false, if_true]
      refine ⟨ih1, fun hc => ?_⟩
      obtain ⟨h7, h8⟩ := ih2 hc
      refine ⟨by simpa using h7, fun v hv => ?_⟩
      rcases List.mem_cons.1 hv with rfl | hv
      ·exact ⟨h4, h5, h6⟩
      obtain ⟨g1, g2, g3⟩ := h8 v hv
      refine ⟨g1, g2, ?_⟩
      rw [List.contains_append, Bool.or_eq_false_iff] at g3
      exact g3.1
theorem y5u {tys st : List Int} {set : List Bool} {seen : List Int} (h : Rl tys.length st set seen) (a b : List Int) :
    (z0p tys set a b).1 = (z0v tys st a b).1 /\ ((z0v tys st a b).1 = true -> Rl tys.length (z0v tys st a b).2 (z0p tys set a b).2 (seen ++ a) /\ ∀ v ∈ a, 0 <= v /\ v < tys.length /\ seen.contains v = false) := by
  unfold z0p z0v eqf
  by_cases hl : (a.length : Int) = b.length
  ·have e : ((a.length : Int) == b.length) = true := by simpa using hl
   rw [if_pos hl, if_pos e]
   exact zw8 a b st set seen oM0 h
  have e : ¬ ((a.length : Int) == b.length) = true := by simpa using hl
  rw [if_neg hl, if_neg e]
  simp
theorem y43 {n : Nat} : ∀ (l st : List Int) (set : List Bool) (seen rest : List Int), (∀ v ∈ l, 0 <= v /\ v < n /\ rest.contains v = false) -> (∀ v ∈ l, st.getD v.toNat 0 ≠ 0) -> st.length = n -> set.length = n ->
    (∀ v : Nat, v < n -> set.getD v false = !(st.getD v 0 == 0)) -> (∀ v : Nat, v < n -> l.contains (v : Int) = false -> rest.contains (v : Int) = (st.getD v 0 == 1)) -> Rl n (z2e st l) set rest
  | [], st, set, _, rest, _, _, h1, h2, h3, h4 => ⟨h1, h2, h3, fun v hv => h4 v hv rfl⟩
  | x :: l, st, set, seen, rest, hin, hnz, h1, h2, h3, h4 => by
    obtain ⟨hx0, hx1, hx2⟩ := hin x (.head _)
    have hxn : x.toNat < n := by omega
    show Rl n (z2e (st.set x.toNat 2) l) set rest
    have hg : ∀ j, (st.set x.toNat 2).getD j 0 = if x.toNat = j then 2 else st.getD j 0 := fun j => by
      rw [z8z]; simp [h1, hxn]
    -- hidden values are no more among the seen
    have key : ∀ v : Nat, v < n -> l.contains (v : Int) = false -> rest.contains (v : Int) = ((st.set x.toNat 2).getD v 0 == 1) := by
      intro v hv hl
      rw [hg]
      by_cases e : x.toNat = v
      ·have hv2 : (v : Int) = x := by omega
       rw [if_pos e, hv2, hx2]; rfl
      rw [if_neg e]
      refine h4 v hv ?_
      have : ((v : Int) == x) = false := by simp; omega
      rw [List.contains_cons, this, hl]; rfl
    refine y43 l (st.set x.toNat 2) set seen rest (fun v hv => hin v (.tail _ hv)) (fun v hv => ?_) (by simpa using h1) h2 (fun v hv => ?_) key
    ·rw [hg]; split
     ·decide
     exact hnz v (.tail _ hv)
    rw [hg, h3 v hv]
    split
    ·rename_i e
     have := hnz x (.head _)
     rw [e] at this
     have hb : (st.getD v 0 == 0) = false := by simpa using this
     rw [hb]; rfl
    rfl
def PR (n : Nat) (seen outs : List Int) (r : Bool × List Int) (q : Bool × List Bool) : Prop :=
  q.1 = r.1 /\ (r.1 = true -> Rl n r.2 q.2 (seen ++ outs) /\ ∀ v ∈ outs, 0 <= v /\ v < n /\ seen.contains v = false)
theorem PR.no {n : Nat} {seen outs : List Int} {st : List Int} {set : List Bool} : PR n seen outs (false, st) (false, set) := ⟨rfl, fun h => by cases h⟩
theorem zb6 {tys st : List Int} {set : List Bool} {seen : List Int} (h : Rl tys.length st set seen) {b b' : Bool} (hb : b = b') (outs want : List Int) : PR tys.length seen outs (andP b st (z0v tys st outs want)) (andS b' set (z0p tys set outs want)) := by
  subst hb
  cases b with
  | false => exact .no
  | true => exact y5u h outs want
theorem nil_rl {tys st : List Int} {set : List Bool} {seen : List Int} (h : Rl tys.length st set seen) {b b' : Bool} (hb : b = b') (outs : List Int) : PR tys.length seen outs (andP b st (z0v tys st outs [])) (b' && (outs.length : Int) == 0, set) := by
  subst hb
  cases b with
  | false => exact .no
  | true =>
    cases outs with
    | nil => exact ⟨rfl, fun _ => ⟨by rw [List.append_nil]; exact h, fun v hv => by simp at hv⟩⟩
    | cons v r =>
      have e : ¬ (((v :: r).length : Int) = (([] : List Int).length : Int)) := by simp; omega
      have e2 : (((v :: r).length : Int) == 0) = false := by simp; omega
      simp only [andP, if_true, z0v, eqf, if_neg e, e2, Bool.and_false]
      exact .no
theorem y0w {n : Nat} {st : List Int} {set : List Bool} {seen : List Int} (h : Rl n st set seen) {b b' : Bool} (hb : b = b') {outs : List Int} (ho : b = true -> outs = []) : PR n seen outs (b, st) (b', set) := by
  subst hb
  refine ⟨rfl, fun hb => ?_⟩
  rw [ho hb]
  exact ⟨by simpa using h, fun v hv => by simp at hv⟩
theorem y01 {op : Int} (h : z2m op = true) : z0d op = z08 op := by
  simp only [z2m, Bool.and_eq_true, decide_eq_true_eq] at h
  have h18 : (op == 18) = false := by simp; omega
  have h19 : (op == 19) = false := by simp; omega
  have h22 : (op == 22) = false := by simp; omega
  simp only [z0d, z08, h18, h19, h22, Bool.or_false, Bool.false_eq_true, if_false]
theorem y00 {op : Int} (h : z2h op = true) : z0d op = z08 op := by
  simp only [z2h, Bool.and_eq_true, decide_eq_true_eq] at h
  have h18 : (op == 18) = false := by simp; omega
  have h19 : (op == 19) = false := by simp; omega
  simp only [z0d, z08, h18, h19, Bool.false_or]
theorem y4b (op : Int) : (decide (z8i op > 0) && decide (op <= 17)) = z2m op := by
  by_cases h0 : op < 0
  ·have : z8i op = 0 := by simp [z8i, h0]
   have h2 : z2m op = false := by simp [z2m]; omega
   rw [this, h2]; rfl
  by_cases h1 : op ≥ 29
  ·have : z8i op = 0 := by simp [z8i, h1]
   have h2 : z2m op = false := by simp [z2m]; omega
   rw [this, h2]; rfl
  rcases y3d (op := op) oM0 oM0 with rfl | rfl | rfl | rfl | rfl | rfl | rfl | rfl | rfl | rfl | rfl | rfl | rfl | rfl | rfl | rfl | rfl | rfl | rfl | rfl | rfl | rfl | rfl | rfl | rfl | rfl | rfl | rfl | rfl <;> rfl
theorem y5y (u : Un) (f : Fl) {st : List Int} {set : List Bool} {seen : List Int} (h : Rl f.types.length st set seen) (x : Nd) (w : Wh) :
    PR f.types.length seen x.outs (if z1b x.kind then (z7b f st x w, st) else z04 u f st x) (z02 u f set x seen w) := by
  have U := fun want => (y0n h x.args want).symm
  have hlen : ∀ b, z19 f.types st x.args [] = b -> ((x.args.length : Int) == 0) = b := fun b hb => by
    rw [<- hb]
    unfold z19 eqf
    cases x.args with
    | nil => rfl
    | cons a r =>
      have e : ¬ (((a :: r).length : Int) = (([] : List Int).length : Int)) := by simp; omega
      have e2 : (((a :: r).length : Int) == 0) = false := by simp; omega
      rw [if_neg e, e2]
  unfold z02 z04 z7b z38 z4w z0r
  by_cases k1 : x.kind = 1
  ·simp only [k1, z1b]; exact zb6 h (U _) _ _
  by_cases k2 : x.kind = 2
  ·simp only [k2, z1b]; exact zb6 h (by rw [U]) _ _
  by_cases k3 : x.kind = 3
  ·simp only [k3, z1b]
   cases ho : z2h x.op with
   | false => exact .no
   | true => rw [y00 ho]; exact zb6 h (by rw [U]) _ _
  by_cases k4 : x.kind = 4
  ·simp only [k4, z1b, y4b]
   cases ho : z2m x.op with
   | false => exact .no
   | true => rw [y01 ho]; exact zb6 h (by rw [U]) _ _
  by_cases k5 : x.kind = 5
  ·simp only [k5, z1b]; exact zb6 h (by rw [U]) _ _
  by_cases k6 : x.kind = 6
  ·simp only [k6, z1b]; exact nil_rl h (by rw [U]) _
  by_cases k7 : x.kind = 7
  ·simp only [k7, z1b]
   by_cases hp : z0a x.name u.flows 0 < 0
   ·have e : ¬ (decide (z0a x.name u.flows 0 ≥ 0)) = true := by simp; omega
    simp only [if_pos hp, if_neg e]
    exact .no
   have e : (decide (z0a x.name u.flows 0 ≥ 0)) = true := by simp; omega
   simp only [if_neg hp, if_pos e]
   cases u.flows[(z0a x.name u.flows 0).toNat]? with
   | none => exact .no
   | some g => exact zb6 h (U _) _ _
  by_cases k8 : x.kind = 8
  ·simp only [k8, z1b]; exact zb6 h (hlen _ rfl).symm _ _
  by_cases k9 : x.kind = 9
  ·simp only [k9, z1b]; exact nil_rl h (U _) _
  have out0 : ∀ c : Bool, ((x.outs.length : Int) == 0 && c) = true -> x.outs = [] := fun c hc => by
    simp only [Bool.and_eq_true, beq_iff_eq] at hc
    exact List.eq_nil_of_length_eq_zero oM0
  by_cases k12 : x.kind = 12
  ·simp only [k12, z1b]
   show PR _ _ _ ((x.outs.length : Int) == 0 && w.If && z19 f.types st x.args w.Yield, st) (w.If && z07 f.types seen x.args w.Yield && (x.outs.length : Int) == 0, set)
   exact y0w h (by rw [<- U]; cases (w.If) <;> cases ((x.outs.length : Int) == 0) <;> simp) (fun hb => by rw [Bool.and_assoc] at hb; exact out0 _ hb)
  by_cases k13 : x.kind = 13
  ·simp only [k13, z1b]
   show PR _ _ _ ((x.outs.length : Int) == 0 && w.Loop && z19 f.types st x.args w.Next, st) (w.Loop && z07 f.types seen x.args w.Next && (x.outs.length : Int) == 0, set)
   exact y0w h (by rw [<- U]; cases (w.Loop) <;> cases ((x.outs.length : Int) == 0) <;> simp) (fun hb => by rw [Bool.and_assoc] at hb; exact out0 _ hb)
  by_cases k14 : x.kind = 14
  ·simp only [k14, z1b]
   show PR _ _ _ ((x.outs.length : Int) == 0 && w.Loop && z19 f.types st x.args w.Left, st) (w.Loop && z07 f.types seen x.args w.Left && (x.outs.length : Int) == 0, set)
   exact y0w h (by rw [<- U]; cases (w.Loop) <;> cases ((x.outs.length : Int) == 0) <;> simp) (fun hb => by rw [Bool.and_assoc] at hb; exact out0 _ hb)
  by_cases k15 : x.kind = 15
  ·simp only [k15, z1b]
   show PR _ _ _ ((x.outs.length : Int) == 0 && z19 f.types st x.args [f.ty], st) (z07 f.types seen x.args [f.ty] && (x.outs.length : Int) == 0, set)
   exact y0w h (by rw [<- U]; exact Bool.and_comm _ _) (fun hb => out0 _ hb)
  have e1 : (x.kind == 1) = false := by simpa using k1
  have e2 : (x.kind == 2) = false := by simpa using k2
  have e3 : (x.kind == 3) = false := by simpa using k3
  have e4 : (x.kind == 4) = false := by simpa using k4
  have e5 : (x.kind == 5) = false := by simpa using k5
  have e6 : (x.kind == 6) = false := by simpa using k6
  have e7 : (x.kind == 7) = false := by simpa using k7
  have e8 : (x.kind == 8) = false := by simpa using k8
  have e9 : (x.kind == 9) = false := by simpa using k9
  have e12 : (x.kind == 12) = false := by simpa using k12
  have e13 : (x.kind == 13) = false := by simpa using k13
  have e14 : (x.kind == 14) = false := by simpa using k14
  have e15 : (x.kind == 15) = false := by simpa using k15
  have ee : z1b x.kind = false := by simp [z1b]; omega
  simp only [e1, e2, e3, e4, e5, e6, e7, e8, e9, e12, e13, e14, e15, ee, Bool.false_eq_true, if_false, Bool.or_false]
  exact .no
theorem zm2 : ∀ (l : List Nd) (st : List Int), z5p st l = z2e st (l.flatMap Nd.outs)
  | [], _ => rfl
  | x :: r, st => by
    have := zm2 r (z2e st x.outs)
    simp only [z5p, List.foldl_cons, List.flatMap_cons, z2e, List.foldl_append] at this ⊢
    exact this
theorem zt3 {n : Nat} {st : List Int} {set : List Bool} {all l : List Int} (h : Rl n st set (all ++ l)) (hl : ∀ v ∈ l, 0 <= v /\ v < n /\ all.contains v = false) : Rl n (z2e st l) set all := by
  refine y43 l st set [] all hl (fun v hv => ?_) h.l1 h.l2 h.s (fun v hv hc => ?_)
  ·obtain ⟨h0, h1, _⟩ := hl v hv
   have hu := h.u v.toNat oM0
   have hc : (all ++ l).contains ((v.toNat : Nat) : Int) = true := by
     rw [show ((v.toNat : Nat) : Int) = v by omega]
     simp [hv]
   rw [hc] at hu
   have : st.getD v.toNat 0 = 1 := by simpa using hu.symm
   rw [this]; decide
  have hu := h.u v hv
  rw [List.contains_append, hc, Bool.or_false] at hu
  exact hu
def LR (u : Un) (f : Fl) (l : List Nd) : Prop := ∀ (deep : Int) (w : Wh) (st : List Int) (set : List Bool) (seen : List Int), Rl f.types.length st set seen ->
  (z0l u f deep w seen set l).1 = (z0t u f deep w st l).1 /\ ((z0t u f deep w st l).1 = true -> Rl f.types.length (z0t u f deep w st l).2 (z0l u f deep w seen set l).2 seen)
theorem ze1 {n : Nat} {seen outs : List Int} {r : Bool × List Int} {q : Bool × List Bool} {k : List Int -> Bool × List Int} {k' : List Bool -> Bool × List Bool} (h : q.1 = r.1) (hk : r.1 = true -> PR n seen outs (k r.2) (k' q.2)) : PR n seen outs (andQ r k) (andT q k') := by
  unfold andQ andT
  rw [h]
  cases hr : r.1 with
  | false => exact .no
  | true => exact hk hr
theorem y61 {f : Fl} {x : Nd} {st : List Int} {set : List Bool} {seen : List Int} (h : Rl f.types.length st set seen) : PR f.types.length seen x.outs (z1h f x st) (z1c f x set) := zb6 h rfl _ _
theorem node_rl (u : Un) (f : Fl) (x : Nd) (ih : ∀ q ∈ x.kids, LR u f q) (deep : Int) (w : Wh) {st : List Int} {set : List Bool} {seen : List Int} (h : Rl f.types.length st set seen) :
    PR f.types.length seen x.outs (z3f u f deep w st x) (z14 u f deep w seen set x) := by
  cases hb : z0k x with
  | false => rw [z8q _ _ _ _ _ hb, z8o _ _ _ _ _ _ hb]; exact .no
  | true =>
    by_cases h10 : x.kind = 10
    ·obtain ⟨a, b, hk⟩ := z3t hb h10
     rw [zj3 _ _ _ _ _ hb h10 hk, z16 _ _ _ _ _ _ hb h10 hk, y0n h]
     split
     ·obtain ⟨h1, h2⟩ := ih a (by rw [hk]; simp) (deep + 1) ⟨true, w.Loop, r8of f.types x.outs, w.Next, w.Left⟩ st set seen h
      refine ze1 h1 fun ht => ?_
      obtain ⟨h3, h4⟩ := ih b (by rw [hk]; simp) (deep + 1) ⟨true, w.Loop, r8of f.types x.outs, w.Next, w.Left⟩ _ _ seen (h2 ht)
      exact ze1 h3 fun ht2 => y61 (h4 ht2)
     exact .no
    by_cases h11 : x.kind = 11
    ·obtain ⟨a, hk⟩ := z2n hb h11
     rw [z8r _ _ _ _ _ hb h11 hk, z0e _ _ _ _ _ _ hb h11 hk, y0n h]
     split
     ·obtain ⟨h1, h2⟩ := y5u h x.params (List.replicate x.params.length 0)
      refine ze1 h1 fun ht => ?_
      obtain ⟨h3, h4⟩ := h2 ht
      obtain ⟨h5, h6⟩ := ih a (by rw [hk]; simp) (deep + 1) ⟨false, true, [], r8of f.types x.params, r8of f.types x.outs⟩ _ _ _ h3
      exact ze1 h5 fun ht2 => y61 (zt3 (h6 ht2) h4)
     exact .no
    have e10 : (x.kind == 10) = false := by simpa using h10
    have e11 : (x.kind == 11) = false := by simpa using h11
    rw [z6v _ _ _ _ _ _ hb e10 e11]
    have hs := y5y u f h x w
    cases he : z1b x.kind with
    | true => rw [za7 _ _ _ _ _ hb e10 e11 he]; rw [if_pos he] at hs; exact hs
    | false => rw [z6x _ _ _ _ _ hb e10 e11 he]; rw [if_neg (by simp [he])] at hs; exact hs
theorem go_rl (u : Un) (f : Fl) (deep : Int) (w : Wh) : ∀ (l : List Nd), (∀ x ∈ l, ∀ q ∈ x.kids, LR u f q) -> ∀ (st : List Int) (set : List Bool) (all : List Int), Rl f.types.length st set all ->
    PR f.types.length all (l.flatMap Nd.outs) (shGo u f deep w st l) (r8go u f deep w all set l)
  | [], _, st, set, all, h => by
    unfold shGo r8go
    exact ⟨rfl, fun _ => ⟨by simpa using h, fun v hv => by simp at hv⟩⟩
  | x :: r, ih, st, set, all, h => by
    unfold shGo r8go
    by_cases hd : deep > 100
    ·rw [if_pos hd, if_pos hd]; exact .no
    rw [if_neg hd, if_neg hd]
    obtain ⟨h1, h2⟩ := node_rl u f x (ih x (.head _)) deep w h
    refine ze1 h1 fun ht => ?_
    obtain ⟨h3, h4⟩ := h2 ht
    by_cases hc : (z09 x != r.isEmpty) = true
    ·rw [if_pos hc, if_pos hc]; exact .no
    rw [if_neg hc, if_neg hc]
    obtain ⟨h5, h6⟩ := go_rl u f deep w r (fun y hy => ih y (.tail _ hy)) _ _ _ h3
    refine ⟨h5, fun ht2 => ?_⟩
    obtain ⟨h7, h8⟩ := h6 ht2
    refine ⟨by simpa using h7, fun v hv => ?_⟩
    rw [List.flatMap_cons, List.mem_append] at hv
    rcases hv with hv | hv
    ·exact h4 v hv
    obtain ⟨g1, g2, g3⟩ := h8 v hv
    rw [List.contains_append, Bool.or_eq_false_iff] at g3
    exact ⟨g1, g2, g3.1⟩
theorem y4c (u : Un) (f : Fl) : ∀ (N : Nat) (l : List Nd), SizeOf.sizeOf l < N -> LR u f l
  | 0, _, h => absurd h (Nat.not_lt_zero _)
  | N + 1, l, hN => by
    intro deep w st set seen h
    have ih : ∀ x ∈ l, ∀ q ∈ x.kids, LR u f q := fun x hx q hq => y4c u f N q (Nat.lt_of_lt_of_le (z7j hx rfl hq) (Nat.le_of_lt_succ hN))
    obtain ⟨h1, h2⟩ := go_rl u f deep w l ih st set seen h
    unfold z0l z0t ne andQ
    cases l with
    | nil =>
      simp only [List.isEmpty_nil, if_true]
      unfold shGo
      simp [zx0]
    | cons x r =>
      simp only [List.isEmpty_cons, Bool.false_eq_true, if_false]
      rw [h1]
      cases hg : (shGo u f deep w st (x :: r)).1 with
      | false => simp [hg]
      | true =>
        obtain ⟨h3, h4⟩ := h2 hg
        simp only [if_true, zx0]
        refine ⟨by simp, fun _ => ?_⟩
        rw [zm2]
        exact zt3 h3 h4
theorem y5x (u : Un) (f : Fl) (deep : Int) (w : Wh) {st : List Int} {set : List Bool} {seen : List Int} (h : Rl f.types.length st set seen) (l : List Nd) : (z0t u f deep w st l).1 = (z0l u f deep w seen set l).1 :=
  ((y4c u f _ l (Nat.lt_succ_self _)) deep w st set seen h).1.symm
theorem start_rl {k n : Nat} (h : k <= n) : Rl n (z7s k n) (z2u k n) (iota k) := by
  refine ⟨z7t h, z2x h, fun v hv => ?_, fun v hv => ?_⟩
  ·simp only [z2u, z7s, List.getD_eq_getElem?_getD]
   by_cases e : v < k
   ·rw [List.getElem?_append_left (by simpa using e), List.getElem?_append_left (by simpa using e)]
    simp [List.getElem?_replicate, e]
   rw [List.getElem?_append_right (by simpa using e), List.getElem?_append_right (by simpa using e)]
   simp only [List.length_replicate, List.getElem?_replicate]
   rw [if_pos oM0, if_pos oM0]
   rfl
  have hc : (iota k).contains (v : Int) = decide (v < k) := by
    simp only [iota]
    by_cases e : v < k
    ·simp [e]
     exact ⟨v, e, rfl⟩
    simp [e]
    intro x hx; omega
  rw [hc]
  simp only [z7s, List.getD_eq_getElem?_getD]
  by_cases e : v < k
  ·rw [List.getElem?_append_left (by simpa using e)]
   simp [List.getElem?_replicate, e]
  rw [List.getElem?_append_right (by simpa using e)]
  simp only [List.length_replicate, List.getElem?_replicate]
  rw [if_pos oM0]
  simp [e]
theorem y0s : ∀ l : List Int, l.any (fun t => !isTy t) = !l.all (fun t => t == 1 || t == 2)
  | [] => rfl
  | t :: r => by rw [List.any_cons, List.all_cons, y0s r, Bool.not_and]; rfl
theorem y5v (u : Un) (f : Fl) (h0 : 0 <= f.params) (h1 : f.params <= f.types.length) : z8g u f = z2v u f := by
  unfold z8g z2v
  rw [y5x u f 1 z21 (start_rl (k := f.params.toNat) oM0) f.body]
  have e1 : decide (f.params < 0) = false := by simp; omega
  have e2 : decide (f.params > f.types.length) = false := by simp; omega
  have e3 := y0s f.types
  rw [e1, e2, e3]
  cases decide (f.params > 8) <;> cases decide ((f.types.length : Int) > 20000) <;> cases f.types.all (fun t => t == 1 || t == 2) <;> simp
def nmA (l : List Ar) : List (List UInt8) := l.map fun a => a.name.toList
def nmF (l : List Fl) : List (List UInt8) := l.map fun a => a.name.toList
theorem ze2 (nm : ByteArray) : ∀ (pre l : List Ar) (i : Int), (nm.toList ∈ nmA pre -> i <= z1j nm (pre ++ l) i /\ z1j nm (pre ++ l) i < i + pre.length) /\ (nm.toList ∉ nmA pre -> z1j nm (pre ++ l) i = z1j nm l (i + pre.length))
  | [], l, i => by simp [nmA]
  | a :: pre, l, i => by
    obtain ⟨h1, h2⟩ := ze2 nm pre l (i + 1)
    rw [List.cons_append, show z1j nm (a :: (pre ++ l)) i = if (a.name.toList == nm.toList) = true then i else z1j nm (pre ++ l) (i + 1) from rfl]
    by_cases e : a.name.toList = nm.toList
    ·have eb : (a.name.toList == nm.toList) = true := by simpa using e
     rw [if_pos eb]
     refine ⟨fun _ => ⟨Int.le_refl _, by simp; omega⟩, fun h => absurd (by simp [nmA, e]) h⟩
    have eb : ¬ (a.name.toList == nm.toList) = true := by simpa using e
    rw [if_neg eb]
    refine ⟨fun h => ?_, fun h => ?_⟩
    ·have : nm.toList ∈ nmA pre := by
       simp only [nmA, List.map_cons, List.mem_cons] at h
       exact h.resolve_left fun h => e h.symm
     have := h1 this
     simp only [List.length_cons]; omega
    have : nm.toList ∉ nmA pre := fun hm => h (by simp only [nmA, List.map_cons, List.mem_cons]; exact .inr hm)
    rw [h2 this]
    congr 1
    simp only [List.length_cons]; omega
theorem z8m (nm : ByteArray) : ∀ (pre l : List Fl) (i : Int), (nm.toList ∈ nmF pre -> i <= z0a nm (pre ++ l) i /\ z0a nm (pre ++ l) i < i + pre.length) /\ (nm.toList ∉ nmF pre -> z0a nm (pre ++ l) i = z0a nm l (i + pre.length))
  | [], l, i => by simp [nmF]
  | a :: pre, l, i => by
    obtain ⟨h1, h2⟩ := z8m nm pre l (i + 1)
    rw [List.cons_append, show z0a nm (a :: (pre ++ l)) i = if (a.name.toList == nm.toList) = true then i else z0a nm (pre ++ l) (i + 1) from rfl]
    by_cases e : a.name.toList = nm.toList
    ·have eb : (a.name.toList == nm.toList) = true := by simpa using e
     rw [if_pos eb]
     refine ⟨fun _ => ⟨Int.le_refl _, by simp; omega⟩, fun h => absurd (by simp [nmF, e]) h⟩
    have eb : ¬ (a.name.toList == nm.toList) = true := by simpa using e
    rw [if_neg eb]
    refine ⟨fun h => ?_, fun h => ?_⟩
    ·have : nm.toList ∈ nmF pre := by
       simp only [nmF, List.map_cons, List.mem_cons] at h
       exact h.resolve_left fun h => e h.symm
     have := h1 this
     simp only [List.length_cons]; omega
    have : nm.toList ∉ nmF pre := fun hm => h (by simp only [nmF, List.map_cons, List.mem_cons]; exact .inr hm)
    rw [h2 this]
    congr 1
    simp only [List.length_cons]; omega
theorem y4q (nm : ByteArray) (l : List Fl) : z0a nm l 0 ≥ 0 ↔ nm.toList ∈ nmF l := by
  obtain ⟨h1, h2⟩ := z8m nm l [] 0
  rw [List.append_nil] at h1 h2
  by_cases h : nm.toList ∈ nmF l
  ·exact ⟨fun _ => h, fun h => (h1 h).1⟩
  refine ⟨fun h3 => ?_, fun h4 => absurd h4 h⟩
  rw [h2 h] at h3
  simp [z0a] at h3
theorem array_at (nm : ByteArray) (pre r : List Ar) (a : Ar) (h : a.name.toList = nm.toList) : z1j nm (pre ++ a :: r) 0 = pre.length ↔ nm.toList ∉ nmA pre := by
  obtain ⟨h1, h2⟩ := ze2 nm pre (a :: r) 0
  by_cases e : nm.toList ∈ nmA pre
  ·have := h1 e
   exact ⟨fun h => by omega, fun h => absurd e h⟩
  refine ⟨fun _ => e, fun _ => ?_⟩
  rw [h2 e]
  have eb : (a.name.toList == nm.toList) = true := by simpa using h
  rw [show z1j nm (a :: r) (0 + pre.length) = if (a.name.toList == nm.toList) = true then (0 + pre.length : Int) else z1j nm r (0 + pre.length + 1) from rfl, if_pos eb]
  omega
theorem place_at (nm : ByteArray) (pre r : List Fl) (a : Fl) (h : a.name.toList = nm.toList) : z0a nm (pre ++ a :: r) 0 = pre.length ↔ nm.toList ∉ nmF pre := by
  obtain ⟨h1, h2⟩ := z8m nm pre (a :: r) 0
  by_cases e : nm.toList ∈ nmF pre
  ·have := h1 e
   exact ⟨fun h => by omega, fun h => absurd e h⟩
  refine ⟨fun _ => e, fun _ => ?_⟩
  rw [h2 e]
  have eb : (a.name.toList == nm.toList) = true := by simpa using h
  rw [show z0a nm (a :: r) (0 + pre.length) = if (a.name.toList == nm.toList) = true then (0 + pre.length : Int) else z0a nm r (0 + pre.length + 1) from rfl, if_pos eb]
  omega
theorem gA_iff (u : Un) : ∀ (pre l : List Ar), u.arrays = pre ++ l -> (r8gA u l pre.length = true ↔ (∀ a ∈ l, z7a a = true /\ a.name.toList ∉ nmF u.flows /\ a.name.toList ∉ nmA pre) /\ (nmA l).Nodup)
  | pre, [], _ => by simp [r8gA, nmA]
  | pre, a :: r, hu => by
    have ih := gA_iff u (pre ++ [a]) r (by simp [hu])
    have hlen : (((pre ++ [a]).length : Nat) : Int) = (pre.length : Int) + 1 := by simp
    rw [hlen] at ih
    rw [r8gA, Bool.and_eq_true, ih]
    have ha : gArr u a pre.length = true ↔ z7a a = true /\ a.name.toList ∉ nmA pre /\ a.name.toList ∉ nmF u.flows := by
      have h1 := array_at a.name pre r a rfl
      have h2 := y4q a.name u.flows
      rw [<- hu] at h1
      unfold gArr z7a
      simp only [Bool.and_eq_true, Bool.not_eq_true', decide_eq_false_iff_not, beq_iff_eq, h1, h2]
      constructor
      ·rintro ⟨⟨⟨⟨a1, a2⟩, a3⟩, a4⟩, a5⟩; exact ⟨⟨⟨a1, a2⟩, a3⟩, a4, a5⟩
      rintro ⟨⟨⟨a1, a2⟩, a3⟩, a4, a5⟩; exact ⟨⟨⟨⟨a1, a2⟩, a3⟩, a4⟩, a5⟩
    rw [ha]
    constructor
    ·rintro ⟨⟨b1, b2, b3⟩, b4, b5⟩
     refine ⟨fun x hx => ?_, ?_⟩
     ·rcases List.mem_cons.1 hx with rfl | hx
      ·exact ⟨b1, b3, b2⟩
      obtain ⟨c1, c2, c3⟩ := b4 x hx
      exact ⟨c1, c2, fun h => c3 (by simp only [nmA, List.map_append, List.mem_append]; exact .inl h)⟩
     refine List.nodup_cons.2 ⟨fun h => ?_, b5⟩
     obtain ⟨x, hx, e⟩ := List.mem_map.1 h
     exact (b4 x hx).2.2 (by simp only [nmA, List.map_append, List.mem_append, List.map_cons, List.map_nil, List.mem_singleton]; exact .inr e)
    rintro ⟨b1, b2⟩
    have b3 := List.nodup_cons.1 b2
    obtain ⟨c1, c2, c3⟩ := b1 a (.head _)
    refine ⟨⟨c1, c3, c2⟩, fun x hx => ?_, b3.2⟩
    obtain ⟨d1, d2, d3⟩ := b1 x (.tail _ hx)
    refine ⟨d1, d2, fun h => ?_⟩
    simp only [nmA, List.map_append, List.mem_append, List.map_cons, List.map_nil, List.mem_singleton] at h
    rcases h with h | h
    ·exact d3 h
    exact b3.1 (List.mem_map.2 ⟨x, hx, h⟩)
theorem gF_iff (u : Un) : ∀ (pre l : List Fl), u.flows = pre ++ l -> (r8gF u l pre.length = true ↔ (∀ a ∈ l, z5v a = true /\ a.name.toList ∉ nmF pre) /\ (nmF l).Nodup)
  | pre, [], _ => by simp [r8gF, nmF]
  | pre, a :: r, hu => by
    have ih := gF_iff u (pre ++ [a]) r (by simp [hu])
    have hlen : (((pre ++ [a]).length : Nat) : Int) = (pre.length : Int) + 1 := by simp
    rw [hlen] at ih
    rw [r8gF, Bool.and_eq_true, ih]
    have ha : gFlw u a pre.length = true ↔ z5v a = true /\ a.name.toList ∉ nmF pre := by
      have h1 := place_at a.name pre r a rfl
      rw [<- hu] at h1
      unfold gFlw z5v isTy
      simp only [Bool.and_eq_true, Bool.not_eq_true', decide_eq_false_iff_not, beq_iff_eq, h1]
      constructor
      ·rintro ⟨⟨⟨⟨a1, a2⟩, a3⟩, a4⟩, a5⟩; exact ⟨⟨⟨⟨a1, a3⟩, a4⟩, a5⟩, a2⟩
      rintro ⟨⟨⟨⟨a1, a3⟩, a4⟩, a5⟩, a2⟩; exact ⟨⟨⟨⟨a1, a2⟩, a3⟩, a4⟩, a5⟩
    rw [ha]
    constructor
    ·rintro ⟨⟨b1, b2⟩, b4, b5⟩
     refine ⟨fun x hx => ?_, ?_⟩
     ·rcases List.mem_cons.1 hx with rfl | hx
      ·exact ⟨b1, b2⟩
      obtain ⟨c1, c3⟩ := b4 x hx
      exact ⟨c1, fun h => c3 (by simp only [nmF, List.map_append, List.mem_append]; exact .inl h)⟩
     refine List.nodup_cons.2 ⟨fun h => ?_, b5⟩
     obtain ⟨x, hx, e⟩ := List.mem_map.1 h
     exact (b4 x hx).2 (by simp only [nmF, List.map_append, List.mem_append, List.map_cons, List.map_nil, List.mem_singleton]; exact .inr e)
    rintro ⟨b1, b2⟩
    have b3 := List.nodup_cons.1 b2
    obtain ⟨c1, c3⟩ := b1 a (.head _)
    refine ⟨⟨c1, c3⟩, fun x hx => ?_, b3.2⟩
    obtain ⟨d1, d3⟩ := b1 x (.tail _ hx)
    refine ⟨d1, fun h => ?_⟩
    simp only [nmF, List.map_append, List.mem_append, List.map_cons, List.map_nil, List.mem_singleton] at h
    rcases h with h | h
    ·exact d3 h
    exact b3.1 (List.mem_map.2 ⟨x, hx, h⟩)
def z2a (es : List (Value × PV)) : List (List UInt8) := es.map fun e => match e.1 with
  | .string s => s.toList
  | _ => []
theorem zg0 (s : ByteArray) (v : PV) : ∀ (es : List (Value × PV)), Cnt es -> (s.toList ∈ z2a es -> z2a (mput (.string s) v es) = z2a es) /\ (s.toList ∉ z2a es -> z2a (mput (.string s) v es) = z2a es ++ [s.toList])
  | [], _ => by simp [z2a, mput]
  | (a, p) :: r, h => by
    have ha := h.1 (a, p) (.head _)
    have hr : Cnt r := ⟨fun e he => h.1 e (.tail _ he), fun e he => h.2 e (.tail _ he)⟩
    obtain ⟨h1, h2⟩ := zg0 s v r hr
    cases a with
    | string t =>
      simp only [mput]
      by_cases e : s.toList = t.toList
      ·have eb : keyB (.string s) (.string t) = true := by simpa [keyB] using e
       rw [if_pos eb]
       exact ⟨fun _ => by simp [z2a, e], fun h => absurd (by simp [z2a, e]) h⟩
      have eb : ¬ keyB (.string s) (.string t) = true := by simpa [keyB] using e
      rw [if_neg eb]
      refine ⟨fun h => ?_, fun h => ?_⟩
      ·have : s.toList ∈ z2a r := by
         simp only [z2a, List.map_cons, List.mem_cons] at h
         exact h.resolve_left e
       have h3 := h1 this
       simp only [z2a, List.map_cons] at h3 ⊢
       rw [h3]
      have : s.toList ∉ z2a r := fun hm => h (by simp only [z2a, List.map_cons, List.mem_cons]; exact .inr hm)
      have h3 := h2 this
      simp only [z2a, List.map_cons, List.cons_append] at h3 ⊢
      rw [h3]
    | _ => simp [z36] at ha
theorem zy6 (s : ByteArray) {es : List (Value × PV)} (h : Cnt es) : (s.toList ∈ z2a es -> z2a (bump s es) = z2a es) /\ (s.toList ∉ z2a es -> z2a (bump s es) = z2a es ++ [s.toList]) := by
  obtain ⟨n, hn⟩ := h.find (.string s)
  rw [zo1 hn]
  exact zg0 s _ es h
def ze7 (es : List (Value × PV)) (l : List ByteArray) : List (Value × PV) := l.foldl (fun e s => bump s e) es
def nmS (l : List ByteArray) : List (List UInt8) := l.map ByteArray.toList
theorem zl4 : ∀ (l : List ByteArray) (es : List (Value × PV)), Cnt es -> (z2a (ze7 es l)).length <= (z2a es).length + l.length /\
    ((z2a (ze7 es l)).length = (z2a es).length + l.length ↔ (∀ s ∈ l, s.toList ∉ z2a es) /\ (nmS l).Nodup)
  | [], es, _ => by simp [ze7, nmS]
  | s :: r, es, h => by
    obtain ⟨ih1, ih2⟩ := zl4 r (bump s es) (h.bump s)
    obtain ⟨h1, h2⟩ := zy6 s h
    show (z2a (ze7 (bump s es) r)).length <= _ /\ ((z2a (ze7 (bump s es) r)).length = _ ↔ _)
    by_cases e : s.toList ∈ z2a es
    ·rw [h1 e] at ih1
     refine ⟨by simp only [List.length_cons]; omega, fun hl => by simp only [List.length_cons] at hl; omega, fun hb => absurd e (hb.1 s (.head _))⟩
    have hk := h2 e
    rw [hk] at ih1 ih2
    simp only [List.length_append, List.length_cons, List.length_nil] at ih1 ih2 ⊢
    refine ⟨by omega, ?_⟩
    rw [show (z2a es).length + (r.length + 1) = (z2a es).length + (0 + 1) + r.length by omega, ih2]
    constructor
    ·rintro ⟨b1, b2⟩
     refine ⟨fun x hx => ?_, List.nodup_cons.2 ⟨fun hm => ?_, b2⟩⟩
     ·rcases List.mem_cons.1 hx with rfl | hx
      ·exact e
      exact fun hm => b1 x hx (List.mem_append.2 (.inl hm))
     obtain ⟨x, hx, he⟩ := List.mem_map.1 hm
     exact b1 x hx (by rw [he]; simp)
    rintro ⟨b1, b2⟩
    have b3 := List.nodup_cons.1 b2
    refine ⟨fun x hx hm => ?_, b3.2⟩
    rcases List.mem_append.1 hm with hm | hm
    ·exact b1 x (.tail _ hx) hm
    exact b3.1 (List.mem_map.2 ⟨x, hx, by simpa using hm⟩)
theorem y3j (u : Un) : ((ze6 (zb5 [] u.arrays) u.flows).length : Int) = u.arrays.length + u.flows.length ↔ (nmA u.arrays ++ nmF u.flows).Nodup := by
  have e : ze6 (zb5 [] u.arrays) u.flows = ze7 [] (u.arrays.map Ar.name ++ u.flows.map Fl.name) := by
    simp only [ze6, zb5, ze7, List.foldl_append, List.foldl_map]
  have hn : nmS (u.arrays.map Ar.name ++ u.flows.map Fl.name) = nmA u.arrays ++ nmF u.flows := by
    simp only [nmS, nmA, nmF, List.map_append, List.map_map]
    rfl
  obtain ⟨_, h2⟩ := zl4 (u.arrays.map Ar.name ++ u.flows.map Fl.name) [] .nil
  rw [e]
  simp only [z2a, List.length_map, List.length_append, List.length_nil, Nat.zero_add] at h2
  rw [<- hn]
  constructor
  ·intro h; exact (h2.1 oM0).2
  intro h
  have := h2.2 ⟨fun s _ => by simp, h⟩
  omega
theorem y5w (u : Un) : z4g u = z0z u := by
  have hA := gA_iff u [] u.arrays rfl
  have hF := gF_iff u [] u.flows rfl
  simp only [List.length_nil] at hA hF
  rw [Bool.eq_iff_iff]
  unfold z4g z0z
  simp only [Bool.and_eq_true, List.all_eq_true, beq_iff_eq, y3j]
  rw [show ((0 : Nat) : Int) = 0 from rfl] at hA hF
  rw [hA, hF, List.nodup_append]
  constructor
  ·rintro ⟨⟨⟨a1, a2⟩, a3, a4, a5⟩, a6⟩
   exact ⟨⟨⟨fun a ha => ⟨a1 a ha, fun hm => a5 _ (List.mem_map.2 ⟨a, ha, rfl⟩) _ hm rfl, by simp [nmA]⟩, a3⟩, fun f hf => ⟨a2 f hf, by simp [nmF]⟩, a4⟩, a6⟩
  rintro ⟨⟨⟨a1, a3⟩, a2, a4⟩, a6⟩
  refine ⟨⟨⟨fun a ha => (a1 a ha).1, fun f hf => (a2 f hf).1⟩, a3, a4, fun x hx y hy e => ?_⟩, a6⟩
  obtain ⟨a, ha, rfl⟩ := List.mem_map.1 hx
  exact (a1 a ha).2.1 (e ▸ hy)
theorem zn6 (u : Un) : ∀ (l : List Fl) (i : Int), (∀ f ∈ l, 0 <= f.params /\ f.params <= f.types.length) -> z6z u l i = z4a u l i
  | [], _, _ => rfl
  | f :: r, i, h => by
    obtain ⟨h1, h2⟩ := h f (.head _)
    simp only [z6z, z4a, y5v u f h1 h2, zn6 u r (i + 1) (fun f hf => h f (.tail _ hf))]
theorem z6h (u : Un) : z3z u = z2i u := by
  unfold z3z z2i
  rw [y5w]
  cases h : z0z u with
  | false => rfl
  | true => simp only [if_true]; exact zn6 u _ _ (z75 h)
theorem Nd.enc_len (x : Nd) : x.enc.length = 8 := by rw [Nd.enc_eq, Nd.cells_eta]; rfl
theorem Nd.enc_one (x : Nd) : ∀ y ∈ x.enc, y.one = true := by
  rw [Nd.enc_eq, Nd.cells_eta]
  intro y hy
  simp only [List.mem_cons, List.not_mem_nil, or_false] at hy
  rcases hy with rfl | rfl | rfl | rfl | rfl | rfl | rfl | rfl <;> rfl
theorem hw_node {l : List Nd} : ∀ el ∈ l.map Nd.enc, el.length = 8 := by
  intro el hel
  obtain ⟨x, _, rfl⟩ := List.mem_map.1 hel
  exact x.enc_len
theorem y44 {l : List Nd} : ∀ el ∈ l.map Nd.enc, ∀ x ∈ el, x.one = true := by
  intro el hel
  obtain ⟨x, _, rfl⟩ := List.mem_map.1 hel
  exact x.enc_one
def vKey (v : Int) : Value := .int .i64 v
theorem z8w (l : List Nd) (x : Nd) : (l ++ [x]).map Nd.enc = l.map Nd.enc ++ [[vInt x.kind, vInt x.op, vInt x.n, vStr x.name, ints x.args, ints x.outs, ints x.params, kids x.kids]] := by
  rw [List.map_append, List.map_cons, List.map_nil, Nd.enc_eq, Nd.cells_eta]
theorem z7y (x : Nd) : ∀ el ∈ z03 8 1 [vInt x.kind, vInt x.op, vInt x.n, vStr x.name, ints x.args, ints x.outs, ints x.params, kids x.kids], ∀ y ∈ el, y.one = true := by
  intro el hel
  have : el = x.enc := by
    rw [Nd.enc_eq, Nd.cells_eta]
    exact List.mem_singleton.1 hel
  subst this
  exact x.enc_one
theorem z5h (a b c : Int) (s : ByteArray) (l1 l2 l3 : List Int) (ks : List (List Nd)) : ∀ el ∈ z03 8 1 [vInt a, vInt b, vInt c, vStr s, ints l1, ints l2, ints l3, kids ks], ∀ y ∈ el, y.one = true := z7y (.mk a b c s l1 l2 l3 ks)
def qS (l : List UInt8) (all : List Int) (g1 : Gn) (m1 : Nat) : Nd × Gn := z0w l all { g1 with left := m1 }
def qK (l : List UInt8) (all : List Int) (g1 : Gn) (m1 : Nat) : Nat × Gn := z01 l 6 (qS l all g1 m1).2
def qT (l : List UInt8) (all : List Int) (g1 : Gn) (m1 : Nat) : List Int × Gn := z0x l (qK l all g1 m1).2
def qC (l : List UInt8) (all : List Int) (g1 : Gn) (m1 : Nat) : List Int × Gn := z1p l all [2] (qT l all g1 m1).2
def qP (l : List UInt8) (all : List Int) (g1 : Gn) (m1 : Nat) (p : Plc) : Plc := ⟨true, p.Loop, (qT l all g1 m1).1, p.Next, p.Left⟩
def qA (l : List UInt8) (m : Nat) (all : List Int) (p : Plc) (g1 : Gn) (m1 : Nat) : List Nd × Gn := z2y l m all (qP l all g1 m1 p) (qC l all g1 m1).2
def qB (l : List UInt8) (m : Nat) (all : List Int) (p : Plc) (g1 : Gn) (m1 : Nat) : List Nd × Gn := z2y l m all (qP l all g1 m1 p) (qA l m all p g1 m1).2
def qO (l : List UInt8) (all : List Int) (g1 : Gn) (m1 : Nat) : List Int × Gn := z0x l (qT l all g1 m1).2
def qE (l : List UInt8) (all : List Int) (g1 : Gn) (m1 : Nat) : List Int × Gn := z1p l all (qT l all g1 m1).1 (qO l all g1 m1).2
def qQ (l : List UInt8) (all : List Int) (g1 : Gn) (m1 : Nat) : List Int × Gn := z0q (qT l all g1 m1).1 (qE l all g1 m1).2
def qL (l : List UInt8) (all : List Int) (g1 : Gn) (m1 : Nat) : Plc := ⟨false, true, [], (qT l all g1 m1).1, (qO l all g1 m1).1⟩
def qD (l : List UInt8) (m : Nat) (all : List Int) (g1 : Gn) (m1 : Nat) : List Nd × Gn := z2y l m (all ++ (qQ l all g1 m1).1) (qL l all g1 m1) (qQ l all g1 m1).2
def gHr (k : Nat) (l : List UInt8) (g : Gn) (seen : List Int) : List (Nat × HO) := [(2001, z3b l g), (2002, rowI g.types), (k, rowI seen)]
theorem zi5 (l : List UInt8) (seen ts : List Int) (g : Gn) (hs : InR g.types seen) (hb : g.pos + ts.length <= 1000000) (hsl : seen.length <= 1000000) : SC Tryz.prog 53 [.ptr 2001 0, .sl 2010 (seen.map eInt).length, .pv (ints ts)] (gHr 2010 l g seen) (fun _ => False) (.pv (ints (z1p l seen ts g).1)) (gHr 2010 l (z1p l seen ts g).2 seen) := SC.sw 2003 2010 (z1r l seen ts g hs hb hsl)
theorem y07 (l : List UInt8) (seen : List Int) (g : Gn) (hs : InR g.types seen) (hb : g.pos <= 999980) (hbt : g.types.length <= 999990) (hsl : seen.length <= 1000000) : SC Tryz.prog 51 [.ptr 2001 0, .sl 2010 (seen.map eInt).length] (gHr 2010 l g seen) (fun _ => False) (.pv (ndv (z0w l seen g).1)) (gHr 2010 l (z0w l seen g).2 seen) := SC.sw 2003 2010 (y2e l seen g hs hb hbt hsl)
theorem y1e (l : List UInt8) (seen : List Int) (p : Plc) (g : Gn) (hs : InR g.types seen) (hb : g.pos <= 999980) (hsl : seen.length <= 1000000) (hp : p.small) : SC Tryz.prog 55 [.ptr 2001 0, .sl 2010 (seen.map eInt).length, .pv (plcv p)] (gHr 2010 l g seen) (fun _ => False) (.pv (ndv (gEnd l seen p g).1)) (gHr 2010 l (gEnd l seen p g).2 seen) := SC.sw 2003 2010 (sc_gEnd l seen p g hs hb hsl hp.1 hp.2.1 hp.2.2)
def LSCg (l : List UInt8) (d : Nat) : Prop := ∀ (seen : List Int) (p : Plc) (g : Gn), InR g.types seen -> p.small -> g.pos + 60 * g.left <= 900000 -> g.types.length + 10 * g.left <= 900000 -> seen.length + 10 * g.left <= 900000 ->
  SC Tryz.prog 36 [.ptr 2001 0, .sl 2003 (seen.map eInt).length, .pv (plcv p), iInt (d : Int)] (gHs l g seen) (fun _ => False) (.pv (z0g (z2y l d seen p g).1)) (gHs l (z2y l d seen p g).2 seen)
theorem LSCg.at2010 {l : List UInt8} {d : Nat} (h : LSCg l d) (seen : List Int) (p : Plc) (g : Gn) (h1 : InR g.types seen) (h2 : p.small) (h3 : g.pos + 60 * g.left <= 900000) (h4 : g.types.length + 10 * g.left <= 900000) (h5 : seen.length + 10 * g.left <= 900000) :
    SC Tryz.prog 36 [.ptr 2001 0, .sl 2010 (seen.map eInt).length, .pv (plcv p), iInt (d : Int)] (gHr 2010 l g seen) (fun _ => False) (.pv (z0g (z2y l d seen p g).1)) (gHr 2010 l (z2y l d seen p g).2 seen) := SC.sw 2003 2010 (h seen p g h1 h2 h3 h4 h5)
theorem LSCg.at2019 {l : List UInt8} {d : Nat} (h : LSCg l d) (seen : List Int) (p : Plc) (g : Gn) (h1 : InR g.types seen) (h2 : p.small) (h3 : g.pos + 60 * g.left <= 900000) (h4 : g.types.length + 10 * g.left <= 900000) (h5 : seen.length + 10 * g.left <= 900000) :
    SC Tryz.prog 36 [.ptr 2001 0, .sl 2019 (seen.map eInt).length, .pv (plcv p), iInt (d : Int)] (gHr 2019 l g seen) (fun _ => False) (.pv (z0g (z2y l d seen p g).1)) (gHr 2019 l (z2y l d seen p g).2 seen) := SC.sw 2003 2019 (h seen p g h1 h2 h3 h4 h5)
theorem zw0 (l : List UInt8) (d : Nat) (hd3 : d <= 100) (ih : ∀ m, d = m + 1 -> LSCg l m) (seen : List Int) (p : Plc) (g : Gn) (hs : InR g.types seen) (hp : p.small) (hb1 : g.pos + 60 * g.left <= 900000) (hb2 : g.types.length + 10 * g.left <= 900000) (hb3 : seen.length + 10 * g.left <= 900000) : SC Tryz.prog 36 [.ptr 2001 0, .sl 2003 (seen.map eInt).length, .pv (plcv p), iInt (d : Int)] (gHs l g seen) (fun _ => False) (.pv (z0g (z2y l d seen p g).1)) (gHs l (z2y l d seen p g).2 seen) := by
  refine SC.of Tryz.func36 rfl (lb rfl) fun F ρ w => ?_
  have h6 : (z01 l 6 g).1 < 6 := z26 oM0
  have hsl0 : (seen.map eInt).length = seen.length := by simp
  refine tQ <| tG <| cE rfl (z1d rfl rfl) <| sm 1 rfl <| nL <| tQ <| tG <| sm 1 rfl <| nL <| tQ <| tG <| sm 1 rfl ?_
  refine nL <| tQ <| Tr.grow (t := 10) (k := 2010) ⟨3, 1⟩ rfl rfl rfl rfl rfl <| tG <| sm 2 rfl ?_
  refine cE rfl (z6q rfl rfl rfl rfl rfl rfl rfl sI0 uT35 tB3 dC0 z5i z2z (by simp [maxLen]; omega) (by simp; omega)) ?_
  refine sm 1 rfl <| nL <| tQ <| tQ <| Tr.grow (t := 9) (k := 109) ⟨43, 8⟩ rfl rfl rfl rfl rfl <| tG <| sm 1 rfl <| cE rfl (ocr (z2q l 6 g oM0 oM0) z39 rfl (po2 rfl rfl) rfl (fun k (h : _) => .inr h) rfl rfl) <| sm 1 rfl <| nL <| tBk <| Tr.sub (Sub.of (fr' := [(11, iInt (((z01 l 6 g).1 : Nat) : Int)), (10, .sl 2010 (seen.map eInt).length), (9, .sl 109 (([] : List Nd).map Nd.enc).length), (6, .pv (.ept [vBool p.If, vBool p.Loop, ints p.Yield, ints p.Next, ints p.Left] 0)), (0, .ptr 2001 0), (3, iInt (d : Int))]) ⟨rfl, congrArg (fun z => some (IV.sl _ z)) sI0, rfl, rfl, rfl, rfl, trivial⟩) ?_
  refine Tr.heap (σ' := look [(109, some (.row ⟨43, 8⟩ (([] : List Nd).map Nd.enc))), (2010, some (rowI seen)), (2001, some (z3b l (z01 l 6 g).2)), (2002, some (rowI (z01 l 6 g).2.types)), (2003, some (rowI seen))]) (lkq [109, 2010, 2001, 2002, 2003] rfl rfl ⟨rfl, (congrArg (fun z => some (HO.row _ z)) sI0), rfl, rfl, rfl, trivial⟩) ?_
  refine Tr.loop (fun fr σ m => ∃ (n : Nat) (out : List Nd) (all : List Int) (g1 : Gn), (z3a l (gRec l d) p n out all g1 = z2y l d seen p g) /\ (InR g1.types all) /\ (g1.pos + 60 * g1.left <= 900001) /\ (g1.types.length + 10 * g1.left <= 900000) /\ (all.length + 10 * g1.left <= 900000) /\ (out.length + n <= 5) /\ fr = [(11, iInt ((n : Nat) : Int)), (10, .sl 2010 (all.map eInt).length), (9, .sl 109 (out.map Nd.enc).length), (6, .pv (.ept [vBool p.If, vBool p.Loop, ints p.Yield, ints p.Next, ints p.Left] 0)), (0, .ptr 2001 0), (3, iInt (d : Int))] /\ σ = look [(109, some (.row ⟨43, 8⟩ (out.map Nd.enc))), (2010, some (rowI all)), (2001, some (z3b l g1)), (2002, some (rowI g1.types)), (2003, some (rowI seen))] /\ m = n + 1) (n := (z01 l 6 g).1 + 1) ?_ ?_
  ·exact ⟨(z01 l 6 g).1, ([] : List Nd), seen, (z01 l 6 g).2, (z6m l d seen p g).symm, hs, (by simp only [z01]; omega), hb2, hb3, (by simp; omega), rfl, rfl, rfl⟩
  rintro fr σ m ⟨n, out, all, g1, hI, hIn, hIp, hIt, hIa, hIo, rfl, rfl, rfl⟩
  refine tQ <| tQ <| tG <| sm 3 rfl ?_
  refine wS 27 rfl (fun hb27 => ?_) fun hb27 => ?_
  ·refine sm 1 rfl <| yV rfl rfl (nCk rfl rfl rfl) <| sm 4 rfl <| nL ?_
   refine tC rfl (fun hc33 => ?_) fun hc33 => ?_
   ·refine tSk <| tQ <| tBk <| tQ ?_
    have hn0 : 0 < n := by simpa using hb27
    obtain ⟨n1, rfl⟩ : ∃ n1, n = n1 + 1 := ⟨n - 1, by omega⟩
    have hl0 : 0 < g1.left := by simpa using hc33
    have hleft : ¬ g1.left = 0 := by omega
    obtain ⟨m1, hm1⟩ : ∃ m1, g1.left = m1 + 1 := ⟨g1.left - 1, by omega⟩
    have hXb := bd_any l (y3x l d) all p hp g1 hl0
    have hXo := y0t l (rec := gRec l d) all p g1
    have hXl : (gAny l (gRec l d) all p g1).2.left + 1 <= g1.left := any_left l (y3x l d) all p hp g1 hl0
    refine tG <| sm 2 rfl <| cV rfl (nCk rfl rfl rfl) <| sm 2 rfl <| cV rfl (oB rfl rfl (z3l rfl oM0)) <| cV rfl (nCk rfl rfl rfl) <| sm 1 rfl <| c0 (sBx rfl rfl rfl rfl ((fun h => h)) tS3 (rfl) (lb rfl)) <| nL <| tQ <| Tr.heap (σ' := look [(109, some (.row ⟨43, 8⟩ (out.map Nd.enc))), (2010, some (rowI all)), (2001, some (z3b l { g1 with left := m1 })), (2002, some (rowI { g1 with left := m1 }.types)), (2003, some (rowI seen))]) (lkq [2001, 109, 2010, 2002, 2003] rfl rfl ⟨(by exact congrArg (fun z => some (HO.box [.pv (bts l), iInt (g1.pos : Int), .sl 2002 (g1.types.map eInt).length, iInt z])) (by show (g1.left : Int) - 1 = (m1 : Int); omega)), rfl, rfl, rfl, rfl, trivial⟩) <| tG ?_
    refine sm 2 rfl <| cE rfl (ocr (y07 l all { g1 with left := m1 } hIn (by show g1.pos <= 999980; omega) (by show g1.types.length <= 999990; omega) oM0) ent51 rfl (po3 rfl rfl rfl) rfl (fun k (h : _) => .inr h) rfl rfl) <| cE rfl (aLc (k := 112) rfl tZ43 rfl rfl rfl rfl) <| c0 (sBA rfl rfl rfl rfl rfl ((fun h => h)) tS43 (flk rfl) (lb rfl)) <| nL <| tQ ?_
    have e2 : ({ g1 with left := g1.left - 1 } : Gn) = { g1 with left := m1 } := by rw [hm1]; rfl
    have hSb : Bd 4 1 { g1 with left := m1 } (qS l all g1 m1).2 := ze5 l all { g1 with left := m1 }
    have hS1 := hSb.ps
    have hS2 := hSb.t1
    have hS3 := hSb.t2
    have hS4 := hSb.lf
    have hKb : Bd 1 0 (qS l all g1 m1).2 (qK l all g1 m1).2 := z7d l 6 (qS l all g1 m1).2
    have hK1 := hKb.ps
    have hK2 := hKb.t1
    have hK3 := hKb.t2
    have hK4 := hKb.lf
    dsimp only at hS1 hS2 hS3 hS4
    refine tG <| sm 1 rfl <| cE rfl (ocr (z2q l 6 (qS l all g1 m1).2 oM0 oM0) z39 rfl (po2 rfl rfl) rfl (fun k (h : _) => .inr h) rfl rfl) <| sm 1 rfl <| nL <| tQ ?_
    refine Tr.cut (fr' := [(12, .ptr 112 0), (11, iInt ((n1 + 1 : Nat) : Int)), (10, .sl 2010 (all.map eInt).length), (9, .sl 109 (out.map Nd.enc).length), (6, .pv (.ept [vBool p.If, vBool p.Loop, ints p.Yield, ints p.Next, ints p.Left] 0)), (0, .ptr 2001 0), (3, iInt (d : Int))]) (σ' := look [(112, some (.box [.pv (vInt (gAny l (gRec l d) all p g1).1.kind), .pv (vInt (gAny l (gRec l d) all p g1).1.op), .pv (vInt (gAny l (gRec l d) all p g1).1.n), .pv (vStr (gAny l (gRec l d) all p g1).1.name), .pv (ints (gAny l (gRec l d) all p g1).1.args), .pv (ints (gAny l (gRec l d) all p g1).1.outs), .pv (ints (gAny l (gRec l d) all p g1).1.params), .pv (kids (gAny l (gRec l d) all p g1).1.kids)])), (109, some (.row ⟨43, 8⟩ (out.map Nd.enc))), (2010, some (rowI all)), (2001, some (z3b l (gAny l (gRec l d) all p g1).2)), (2002, some (rowI (gAny l (gRec l d) all p g1).2.types)), (2003, some (rowI seen))]) ?_ ?_
    ·refine tBk <| tQ <| tG <| sm 3 rfl ?_
     refine wS 52 rfl (fun hb52 => ?_) fun hb52 => ?_
     ·refine sm 4 rfl <| nL ?_
      refine tC rfl (fun hc49 => ?_) fun hc49 => ?_
      ·have hk0 : (z01 l 6 (qS l all g1 m1).2).1 = 0 := by simp at hb52; omega
       obtain ⟨m, rfl⟩ : ∃ m, d = m + 1 := ⟨d - 1, by simp at hc49; omega⟩
       obtain ⟨hTb, hTl⟩ : Bd 3 0 (qK l all g1 m1).2 (qT l all g1 m1).2 /\ (qT l all g1 m1).1.length <= 2 := z3j l (qK l all g1 m1).2
       have hT1 := hTb.ps
       have hT2 := hTb.t1
       have hT3 := hTb.t2
       have hT4 := hTb.lf
       have hXP : Plc.small (qP l all g1 m1 p) := ⟨hTl, hp.2.1, hp.2.2⟩
       have hCb : Bd 1 0 (qT l all g1 m1).2 (qC l all g1 m1).2 := z9p l all [2] (qT l all g1 m1).2
       have hC1 := hCb.ps
       have hC2 := hCb.t1
       have hC3 := hCb.t2
       have hC4 := hCb.lf
       have hAb : Bd 4 0 (qC l all g1 m1).2 (qA l m all p g1 m1).2 := z6l l m all (qP l all g1 m1 p) (qC l all g1 m1).2 hXP
       have hA1 := hAb.ps
       have hA2 := hAb.t1
       have hA3 := hAb.t2
       have hA4 := hAb.lf
       have hBb : Bd 4 0 (qA l m all p g1 m1).2 (qB l m all p g1 m1).2 := z6l l m all (qP l all g1 m1 p) (qA l m all p g1 m1).2 hXP
       have hB1 := hBb.ps
       have hB2 := hBb.t1
       have hB3 := hBb.t2
       have hB4 := hBb.lf
       refine tQ <| tG <| sm 1 rfl <| cE rfl (ocr (z7p l (qK l all g1 m1).2 oM0) y3r rfl (po2 rfl rfl) rfl (fun k (h : _) => .inr h) rfl rfl) <| sm 1 rfl <| nL <| tQ <| tG <| sm 7 rfl <| cV rfl (bPu rfl rfl tZ78 tP78 rfl (fbk rfl) rfl) <| cE rfl (aLc (k := 115) rfl tZ78 rfl rfl rfl rfl) <| c0 (sBA rfl rfl rfl rfl rfl ((fun h => h)) tS78 (flk rfl) (lb rfl)) ?_
       refine nL <| tQ <| Tr.freezeBox (t := 15) (k := 115) rfl rfl rfl <| tG <| sm 2 rfl <| cE rfl (bSl rfl rfl uT35 tZ3 tS3 rfl rfl rfl rfl (fbk rfl) rfl) ?_
       refine cE rfl (ocr (zi5 l all [2] (qT l all g1 m1).2 (hIn.mono oM0) (by simp only [List.length_cons, List.length_nil]; omega) oM0) z1m rfl (po3 rfl rfl rfl) rfl (fun k (h : _) => .inr h) rfl rfl) ?_
       refine cV rfl (bPu rfl rfl tZ43 tP43 rfl (fbk rfl) rfl) <| c0 (sBA rfl rfl rfl rfl rfl ((fun h => h)) tS43 (flk rfl) (lb rfl)) <| nL <| tQ <| Tr.fixNil (k := 112) rfl (fun h => h) <| tG <| sm 2 rfl <| cV rfl (lEA rfl rfl Tryz.underlying78 rfl tS78 (lb rfl)) <| sm 1 rfl <| cV rfl (oB rfl rfl (z3l rfl oM0)) <| cE rfl (cRr ((ih m rfl).at2010 all (qP l all g1 m1 p) (qC l all g1 m1).2 (hIn.mono oM0) hXP oM0 oM0 oM0) y3q rfl rfl (sSm rfl (sSm rfl (sSm rfl (sSm (congrArg (fun z => iInt z) oM0) Subs.nil)))) (po3 rfl rfl rfl) (by rfl) (fun k (h : _) => .inr h) rfl (by rfl)) <| sm 1 rfl ?_
       refine nL <| tQ <| tG <| sm 3 rfl <| cV rfl (lEA rfl rfl Tryz.underlying78 rfl tS78 (lb rfl)) <| sm 1 rfl <| cV rfl (oB rfl rfl (z3l rfl oM0)) <| cE rfl (cRr ((ih m rfl).at2010 all (qP l all g1 m1 p) (qA l m all p g1 m1).2 (hIn.mono oM0) hXP oM0 oM0 oM0) y3q rfl rfl (sSm rfl (sSm rfl (sSm rfl (sSm (congrArg (fun z => iInt z) oM0) Subs.nil)))) (po3 rfl rfl rfl) (by rfl) (fun k (h : _) => .inr h) rfl (by rfl)) <| cE rfl (bSl rfl rfl uT41 tZ44 tS44 rfl rfl rfl rfl (fbk rfl) rfl) <| sm 1 rfl <| c0 (sBx rfl rfl rfl rfl ((fun h => h)) tS41 (rfl) (lb rfl)) <| nL ?_
       refine tQ <| tG <| cV rfl (lBP rfl rfl rfl uT43 rfl tS43 (lb rfl) rfl trivial) <| cE rfl (ocq (z2o (.mk 10 0 0 z0n (qC l all g1 m1).1 [] [] [(qA l m all p g1 m1).1, (qB l m all p g1 m1).1] : Nd)) zk4 rfl rfl) <| sm 1 rfl <| nL ?_
       refine tC rfl (fun hc88 => ?_) fun hc88 => ?_
       ·have hX : gAny l (gRec l (m + 1)) all p g1 = ((.mk 10 0 0 z0n (qC l all g1 m1).1 (z0q (qT l all g1 m1).1 (qB l m all p g1 m1).2).1 [] [(qA l m all p g1 m1).1, (qB l m all p g1 m1).1] : Nd), (z0q (qT l all g1 m1).1 (qB l m all p g1 m1).2).2) := by
          have hcl : z09 (.mk 10 0 0 z0n (qC l all g1 m1).1 [] [] [(qA l m all p g1 m1).1, (qB l m all p g1 m1).1] : Nd) = false := by simpa using hc88
          unfold gAny
          simp only [gRec, e2]
          exact (if_pos hk0).trans (if_neg (fun h => Bool.noConfusion (hcl.symm.trans h)))
        refine tG <| sm 2 rfl <| cE rfl (ocr (z2k l (qT l all g1 m1).1 (qB l m all p g1 m1).2 oM0) z1e rfl (po2 rfl rfl) rfl (fun k (h : _) => .inr h) rfl rfl) <| sm 1 rfl <| c0 (sBx rfl rfl rfl rfl ((fun h => h)) tS35 (rfl) (lb rfl)) <| nL ?_
        refine ⟨rfl, Sub.of ⟨rfl, rfl, rfl, rfl, rfl, rfl, rfl, trivial⟩, funext (lkq [112, 109, 2010, 2001, 2002, 2003, 115, 2019] rfl rfl ⟨(by first | rfl | (rw [hX]; rfl)), rfl, rfl, (by first | rfl | (rw [hX]; rfl)), (by first | rfl | (rw [hX]; rfl)), rfl, rfl, rfl, trivial⟩)⟩
       have hX : gAny l (gRec l (m + 1)) all p g1 = ((.mk 10 0 0 z0n (qC l all g1 m1).1 [] [] [(qA l m all p g1 m1).1, (qB l m all p g1 m1).1] : Nd), (qB l m all p g1 m1).2) := by
         have hcl : z09 (.mk 10 0 0 z0n (qC l all g1 m1).1 [] [] [(qA l m all p g1 m1).1, (qB l m all p g1 m1).1] : Nd) = true := by simpa using hc88
         unfold gAny
         simp only [gRec, e2]
         exact (if_pos hk0).trans (if_pos hcl)
       refine tSk ?_
       refine ⟨rfl, Sub.of ⟨rfl, rfl, rfl, rfl, rfl, rfl, rfl, trivial⟩, funext (lkq [112, 109, 2010, 2001, 2002, 2003, 115, 2019] rfl rfl ⟨(by first | rfl | (rw [hX]; rfl)), rfl, rfl, (by first | rfl | (rw [hX]; rfl)), (by first | rfl | (rw [hX]; rfl)), rfl, rfl, rfl, trivial⟩)⟩
      refine tQ <| tG <| sm 3 rfl ?_
      refine wS 96 rfl (fun hb96 => ?_) fun hb96 => ?_
      ·refine sm 4 rfl <| nL ?_
       refine tC rfl (fun hc93 => ?_) fun hc93 => ?_
       ·have hk1 : (z01 l 6 (qS l all g1 m1).2).1 = 1 := by simp at hb96; omega
        obtain ⟨m, rfl⟩ : ∃ m, d = m + 1 := ⟨d - 1, by simp at hc93; omega⟩
        obtain ⟨hTb, hTl⟩ : Bd 3 0 (qK l all g1 m1).2 (qT l all g1 m1).2 /\ (qT l all g1 m1).1.length <= 2 := z3j l (qK l all g1 m1).2
        have hT1 := hTb.ps
        have hT2 := hTb.t1
        have hT3 := hTb.t2
        have hT4 := hTb.lf
        obtain ⟨hOb, hOl⟩ : Bd 3 0 (qT l all g1 m1).2 (qO l all g1 m1).2 /\ (qO l all g1 m1).1.length <= 2 := z3j l (qT l all g1 m1).2
        have hO1 := hOb.ps
        have hO2 := hOb.t1
        have hO3 := hOb.t2
        have hO4 := hOb.lf
        have hLP : Plc.small (qL l all g1 m1) := ⟨by simp [qL], hTl, hOl⟩
        have hCb : Bd (qT l all g1 m1).1.length 0 (qO l all g1 m1).2 (qE l all g1 m1).2 := z9p l all (qT l all g1 m1).1 (qO l all g1 m1).2
        have hC1 := hCb.ps
        have hC2 := hCb.t1
        have hC3 := hCb.t2
        have hC4 := hCb.lf
        have hQb : Bd 0 (qT l all g1 m1).1.length (qE l all g1 m1).2 (qQ l all g1 m1).2 := ze4 (qT l all g1 m1).1 (qE l all g1 m1).2
        have hQ1 := hQb.ps
        have hQ2 := hQb.t1
        have hQ3 := hQb.t2
        have hQ4 := hQb.lf
        have hQl : (qQ l all g1 m1).1.length = (qT l all g1 m1).1.length := (z25 (qT l all g1 m1).1 (qE l all g1 m1).2).2
        have hInQ : InR (qQ l all g1 m1).2.types (all ++ (qQ l all g1 m1).1) := (hIn.mono oM0).app (InR.outs _ _)
        have hBb : Bd 4 0 (qQ l all g1 m1).2 (qD l m all g1 m1).2 := z6l l m (all ++ (qQ l all g1 m1).1) (qL l all g1 m1) (qQ l all g1 m1).2 hLP
        have hB1 := hBb.ps
        have hB2 := hBb.t1
        have hB3 := hBb.t2
        have hB4 := hBb.lf
        have hQl2 : ((qQ l all g1 m1).1.map eInt).length = (qQ l all g1 m1).1.length := by simp
        have hal : (all.map eInt).length = all.length := by simp
        have hQl3 := (z25 (qT l all g1 m1).1 (qE l all g1 m1).2).2
        refine tQ <| tG <| sm 1 rfl <| cE rfl (ocr (z7p l (qK l all g1 m1).2 oM0) y3r rfl (po2 rfl rfl) rfl (fun k (h : _) => .inr h) rfl rfl) <| sm 1 rfl <| cE rfl (ocr (z7p l (qT l all g1 m1).2 oM0) y3r rfl (po2 rfl rfl) rfl (fun k (h : _) => .inr h) rfl rfl) <| sm 2 rfl <| nL <| tQ <| tG <| sm 3 rfl <| cE rfl (ocr (zi5 l all (qT l all g1 m1).1 (qO l all g1 m1).2 (hIn.mono oM0) oM0 oM0) z1m rfl (po3 rfl rfl rfl) rfl (fun k (h : _) => .inr h) rfl rfl) ?_
        refine sm 2 rfl <| cE rfl (ocr (z2k l (qT l all g1 m1).1 (qE l all g1 m1).2 oM0) z1e rfl (po2 rfl rfl) rfl (fun k (h : _) => .inr h) rfl rfl) <| cV rfl (bPu rfl rfl tZ43 tP43 rfl (fbk rfl) rfl) <| c0 (sBA rfl rfl rfl rfl rfl ((fun h => h)) tS43 (flk rfl) (lb rfl)) <| nL <| tQ <| Tr.fixNil (k := 112) rfl (fun h => h) <| tG <| sm 1 rfl <| nL <| tQ <| Tr.grow (t := 19) (k := 2019) ⟨3, 1⟩ rfl rfl rfl rfl rfl ?_
        refine tG <| sm 2 rfl ?_
        refine cE rfl (z6q rfl rfl rfl rfl rfl rfl rfl sI0 uT35 tB3 dC0 z5i z2z (by simp [maxLen]; omega) (by simp; omega)) ?_
        refine sm 1 rfl <| nL <| tQ <| tG <| sm 3 rfl ?_
        refine cE rfl (aPp rfl rfl rfl rfl (by (simp; done)) ((fun h => h)) uT35 tB3 dC0 (z5i) (z2z) (by simp [maxLen, z03]; omega) (by simp [z03]; omega)) ?_
        refine sm 1 rfl <| nL <| tQ ?_
        refine Tr.heap (σ' := look [(2019, some (rowI (all ++ (qQ l all g1 m1).1))), (112, some (.box [.pv (vInt (.mk 11 0 0 z0n (qE l all g1 m1).1 [] (qQ l all g1 m1).1 [] : Nd).kind), .pv (vInt (.mk 11 0 0 z0n (qE l all g1 m1).1 [] (qQ l all g1 m1).1 [] : Nd).op), .pv (vInt (.mk 11 0 0 z0n (qE l all g1 m1).1 [] (qQ l all g1 m1).1 [] : Nd).n), .pv (vStr (.mk 11 0 0 z0n (qE l all g1 m1).1 [] (qQ l all g1 m1).1 [] : Nd).name), .pv (ints (.mk 11 0 0 z0n (qE l all g1 m1).1 [] (qQ l all g1 m1).1 [] : Nd).args), .pv (ints (.mk 11 0 0 z0n (qE l all g1 m1).1 [] (qQ l all g1 m1).1 [] : Nd).outs), .pv (ints (.mk 11 0 0 z0n (qE l all g1 m1).1 [] (qQ l all g1 m1).1 [] : Nd).params), .pv (kids (.mk 11 0 0 z0n (qE l all g1 m1).1 [] (qQ l all g1 m1).1 [] : Nd).kids)])), (109, some (.row ⟨43, 8⟩ (out.map Nd.enc))), (2010, some (rowI all)), (2001, some (z3b l (qQ l all g1 m1).2)), (2002, some (rowI (qQ l all g1 m1).2.types)), (2003, some (rowI seen))]) (lkq [2019, 112, 109, 2010, 2001, 2002, 2003] rfl rfl ⟨(congrArg (fun z => some (HO.row _ z)) (by simp [qQ])), rfl, rfl, rfl, rfl, rfl, rfl, trivial⟩) ?_
        refine tG <| sm 4 rfl <| cV rfl (bPu rfl rfl tZ78 tP78 rfl (fbk rfl) rfl) <| sm 1 rfl <| cV rfl (oB rfl rfl (z3l rfl oM0)) ?_
        refine cE rfl (cRr ((ih m rfl).at2019 (all ++ (qQ l all g1 m1).1) (qL l all g1 m1) (qQ l all g1 m1).2 hInQ hLP oM0 oM0 (by rw [List.length_append]; omega)) y3q rfl rfl (sSm rfl (sSm (congrArg (fun n => IV.sl 2019 n) (by simp [qQ])) (Subs.cons (fun _ _ _ _ h => z3i (q := plcv (qL l all g1 m1)) (PSub.agg (ps := [vBool false, vBool true, .val (.slice none 0 0), ints (qT l all g1 m1).1, ints (qO l all g1 m1).1]) (And.intro (PSub.refl _) (And.intro (PSub.refl _) (And.intro PSub.nil (And.intro (PSub.refl _) (And.intro (PSub.refl _) trivial)))))) h) (sSm (congrArg (fun z => iInt z) oM0) Subs.nil)))) (po3 rfl rfl rfl) (by rfl) (fun k (h : _) => .inr h) rfl (by rfl)) ?_
        refine cE rfl (bSl rfl rfl uT41 tZ44 tS44 rfl rfl rfl rfl (fbk rfl) rfl) <| sm 1 rfl <| c0 (sBx rfl rfl rfl rfl ((fun h => h)) tS41 (rfl) (lb rfl)) <| nL <| tQ <| Tr.drop (k := 2019) <| tG <| cV rfl (lBP rfl rfl rfl uT43 rfl tS43 (lb rfl) rfl trivial) <| cE rfl (ocq (z2o (.mk 11 0 0 z0n (qE l all g1 m1).1 [] (qQ l all g1 m1).1 [(qD l m all g1 m1).1] : Nd)) zk4 rfl rfl) <| sm 1 rfl <| nL ?_
        refine tC rfl (fun hc131 => ?_) fun hc131 => ?_
        ·have hX : gAny l (gRec l (m + 1)) all p g1 = ((.mk 11 0 0 z0n (qE l all g1 m1).1 (z0q (qO l all g1 m1).1 (qD l m all g1 m1).2).1 (qQ l all g1 m1).1 [(qD l m all g1 m1).1] : Nd), (z0q (qO l all g1 m1).1 (qD l m all g1 m1).2).2) := by
           have hcl : z09 (.mk 11 0 0 z0n (qE l all g1 m1).1 [] (qQ l all g1 m1).1 [(qD l m all g1 m1).1] : Nd) = false := by simpa using hc131
           have hk0 : ¬ (z01 l 6 (qS l all g1 m1).2).1 = 0 := by omega
           unfold gAny
           simp only [gRec, e2]
           exact (if_neg hk0).trans ((if_pos hk1).trans (if_neg (fun h => Bool.noConfusion (hcl.symm.trans h))))
         refine tG <| sm 2 rfl <| cE rfl (ocr (z2k l (qO l all g1 m1).1 (qD l m all g1 m1).2 oM0) z1e rfl (po2 rfl rfl) rfl (fun k (h : _) => .inr h) rfl rfl) <| sm 1 rfl <| c0 (sBx rfl rfl rfl rfl ((fun h => h)) tS35 (rfl) (lb rfl)) <| nL ?_
         refine ⟨rfl, Sub.of ⟨rfl, rfl, rfl, rfl, rfl, rfl, rfl, trivial⟩, funext (lkq [112, 109, 2010, 2001, 2002, 2003, 115, 2019] rfl rfl ⟨(by first | rfl | (rw [hX]; rfl)), rfl, rfl, (by first | rfl | (rw [hX]; rfl)), (by first | rfl | (rw [hX]; rfl)), rfl, rfl, rfl, trivial⟩)⟩
        have hX : gAny l (gRec l (m + 1)) all p g1 = ((.mk 11 0 0 z0n (qE l all g1 m1).1 [] (qQ l all g1 m1).1 [(qD l m all g1 m1).1] : Nd), (qD l m all g1 m1).2) := by
          have hcl : z09 (.mk 11 0 0 z0n (qE l all g1 m1).1 [] (qQ l all g1 m1).1 [(qD l m all g1 m1).1] : Nd) = true := by simpa using hc131
          have hk0 : ¬ (z01 l 6 (qS l all g1 m1).2).1 = 0 := by omega
          unfold gAny
          simp only [gRec, e2]
          exact (if_neg hk0).trans ((if_pos hk1).trans (if_pos hcl))
        refine tSk ?_
        refine ⟨rfl, Sub.of ⟨rfl, rfl, rfl, rfl, rfl, rfl, rfl, trivial⟩, funext (lkq [112, 109, 2010, 2001, 2002, 2003, 115, 2019] rfl rfl ⟨(by first | rfl | (rw [hX]; rfl)), rfl, rfl, (by first | rfl | (rw [hX]; rfl)), (by first | rfl | (rw [hX]; rfl)), rfl, rfl, rfl, trivial⟩)⟩
       have hX : gAny l (gRec l d) all p g1 = ((qS l all g1 m1).1, (qK l all g1 m1).2) := by
         unfold gAny
         simp only [e2]
         cases d with
         | zero => rfl
         | succ m =>
           have hk0 : ¬ (z01 l 6 (qS l all g1 m1).2).1 = 0 := by first | (simp at hb52 <;> omega) | (simp at hc49 <;> omega)
           have hk1 : ¬ (z01 l 6 (qS l all g1 m1).2).1 = 1 := by first | (simp at hb96 <;> omega) | (simp at hc93 <;> omega)
           exact (if_neg hk0).trans (if_neg hk1)
       refine tSk ?_
       refine ⟨rfl, Sub.of ⟨rfl, rfl, rfl, rfl, rfl, rfl, rfl, trivial⟩, funext (lkq [112, 109, 2010, 2001, 2002, 2003, 115, 2019] rfl rfl ⟨(by first | rfl | (rw [hX]; rfl)), rfl, rfl, (by first | rfl | (rw [hX]; rfl)), (by first | rfl | (rw [hX]; rfl)), rfl, rfl, rfl, trivial⟩)⟩
      refine sm 4 rfl <| nL <| Tr.condF rfl ?_
      have hX : gAny l (gRec l d) all p g1 = ((qS l all g1 m1).1, (qK l all g1 m1).2) := by
        unfold gAny
        simp only [e2]
        cases d with
        | zero => rfl
        | succ m =>
          have hk0 : ¬ (z01 l 6 (qS l all g1 m1).2).1 = 0 := by first | (simp at hb52 <;> omega) | (simp at hc49 <;> omega)
          have hk1 : ¬ (z01 l 6 (qS l all g1 m1).2).1 = 1 := by first | (simp at hb96 <;> omega) | (simp at hc93 <;> omega)
          exact (if_neg hk0).trans (if_neg hk1)
      refine tSk ?_
      refine ⟨rfl, Sub.of ⟨rfl, rfl, rfl, rfl, rfl, rfl, rfl, trivial⟩, funext (lkq [112, 109, 2010, 2001, 2002, 2003, 115, 2019] rfl rfl ⟨(by first | rfl | (rw [hX]; rfl)), rfl, rfl, (by first | rfl | (rw [hX]; rfl)), (by first | rfl | (rw [hX]; rfl)), rfl, rfl, rfl, trivial⟩)⟩
     refine sm 4 rfl <| nL <| Tr.condF rfl <| tQ <| tG <| sm 3 rfl ?_
     refine wS 96 rfl (fun hb96 => ?_) fun hb96 => ?_
     ·refine sm 4 rfl <| nL ?_
      refine tC rfl (fun hc93 => ?_) fun hc93 => ?_
      ·have hk1 : (z01 l 6 (qS l all g1 m1).2).1 = 1 := by simp at hb96; omega
       obtain ⟨m, rfl⟩ : ∃ m, d = m + 1 := ⟨d - 1, by simp at hc93; omega⟩
       obtain ⟨hTb, hTl⟩ : Bd 3 0 (qK l all g1 m1).2 (qT l all g1 m1).2 /\ (qT l all g1 m1).1.length <= 2 := z3j l (qK l all g1 m1).2
       have hT1 := hTb.ps
       have hT2 := hTb.t1
       have hT3 := hTb.t2
       have hT4 := hTb.lf
       obtain ⟨hOb, hOl⟩ : Bd 3 0 (qT l all g1 m1).2 (qO l all g1 m1).2 /\ (qO l all g1 m1).1.length <= 2 := z3j l (qT l all g1 m1).2
       have hO1 := hOb.ps
       have hO2 := hOb.t1
       have hO3 := hOb.t2
       have hO4 := hOb.lf
       have hLP : Plc.small (qL l all g1 m1) := ⟨by simp [qL], hTl, hOl⟩
       have hCb : Bd (qT l all g1 m1).1.length 0 (qO l all g1 m1).2 (qE l all g1 m1).2 := z9p l all (qT l all g1 m1).1 (qO l all g1 m1).2
       have hC1 := hCb.ps
       have hC2 := hCb.t1
       have hC3 := hCb.t2
       have hC4 := hCb.lf
       have hQb : Bd 0 (qT l all g1 m1).1.length (qE l all g1 m1).2 (qQ l all g1 m1).2 := ze4 (qT l all g1 m1).1 (qE l all g1 m1).2
       have hQ1 := hQb.ps
       have hQ2 := hQb.t1
       have hQ3 := hQb.t2
       have hQ4 := hQb.lf
       have hQl : (qQ l all g1 m1).1.length = (qT l all g1 m1).1.length := (z25 (qT l all g1 m1).1 (qE l all g1 m1).2).2
       have hInQ : InR (qQ l all g1 m1).2.types (all ++ (qQ l all g1 m1).1) := (hIn.mono oM0).app (InR.outs _ _)
       have hBb : Bd 4 0 (qQ l all g1 m1).2 (qD l m all g1 m1).2 := z6l l m (all ++ (qQ l all g1 m1).1) (qL l all g1 m1) (qQ l all g1 m1).2 hLP
       have hB1 := hBb.ps
       have hB2 := hBb.t1
       have hB3 := hBb.t2
       have hB4 := hBb.lf
       have hQl2 : ((qQ l all g1 m1).1.map eInt).length = (qQ l all g1 m1).1.length := by simp
       have hal : (all.map eInt).length = all.length := by simp
       have hQl3 := (z25 (qT l all g1 m1).1 (qE l all g1 m1).2).2
       refine tQ <| tG <| sm 1 rfl <| cE rfl (ocr (z7p l (qK l all g1 m1).2 oM0) y3r rfl (po2 rfl rfl) rfl (fun k (h : _) => .inr h) rfl rfl) <| sm 1 rfl <| cE rfl (ocr (z7p l (qT l all g1 m1).2 oM0) y3r rfl (po2 rfl rfl) rfl (fun k (h : _) => .inr h) rfl rfl) <| sm 2 rfl <| nL <| tQ <| tG <| sm 3 rfl <| cE rfl (ocr (zi5 l all (qT l all g1 m1).1 (qO l all g1 m1).2 (hIn.mono oM0) oM0 oM0) z1m rfl (po3 rfl rfl rfl) rfl (fun k (h : _) => .inr h) rfl rfl) ?_
       refine sm 2 rfl <| cE rfl (ocr (z2k l (qT l all g1 m1).1 (qE l all g1 m1).2 oM0) z1e rfl (po2 rfl rfl) rfl (fun k (h : _) => .inr h) rfl rfl) <| cV rfl (bPu rfl rfl tZ43 tP43 rfl (fbk rfl) rfl) <| c0 (sBA rfl rfl rfl rfl rfl ((fun h => h)) tS43 (flk rfl) (lb rfl)) <| nL <| tQ <| Tr.fixNil (k := 112) rfl (fun h => h) <| tG <| sm 1 rfl <| nL <| tQ <| Tr.grow (t := 19) (k := 2019) ⟨3, 1⟩ rfl rfl rfl rfl rfl ?_
       refine tG <| sm 2 rfl ?_
       refine cE rfl (z6q rfl rfl rfl rfl rfl rfl rfl sI0 uT35 tB3 dC0 z5i z2z (by simp [maxLen]; omega) (by simp; omega)) ?_
       refine sm 1 rfl <| nL <| tQ <| tG <| sm 3 rfl ?_
       refine cE rfl (aPp rfl rfl rfl rfl (by (simp; done)) ((fun h => h)) uT35 tB3 dC0 (z5i) (z2z) (by simp [maxLen, z03]; omega) (by simp [z03]; omega)) ?_
       refine sm 1 rfl <| nL <| tQ ?_
       refine Tr.heap (σ' := look [(2019, some (rowI (all ++ (qQ l all g1 m1).1))), (112, some (.box [.pv (vInt (.mk 11 0 0 z0n (qE l all g1 m1).1 [] (qQ l all g1 m1).1 [] : Nd).kind), .pv (vInt (.mk 11 0 0 z0n (qE l all g1 m1).1 [] (qQ l all g1 m1).1 [] : Nd).op), .pv (vInt (.mk 11 0 0 z0n (qE l all g1 m1).1 [] (qQ l all g1 m1).1 [] : Nd).n), .pv (vStr (.mk 11 0 0 z0n (qE l all g1 m1).1 [] (qQ l all g1 m1).1 [] : Nd).name), .pv (ints (.mk 11 0 0 z0n (qE l all g1 m1).1 [] (qQ l all g1 m1).1 [] : Nd).args), .pv (ints (.mk 11 0 0 z0n (qE l all g1 m1).1 [] (qQ l all g1 m1).1 [] : Nd).outs), .pv (ints (.mk 11 0 0 z0n (qE l all g1 m1).1 [] (qQ l all g1 m1).1 [] : Nd).params), .pv (kids (.mk 11 0 0 z0n (qE l all g1 m1).1 [] (qQ l all g1 m1).1 [] : Nd).kids)])), (109, some (.row ⟨43, 8⟩ (out.map Nd.enc))), (2010, some (rowI all)), (2001, some (z3b l (qQ l all g1 m1).2)), (2002, some (rowI (qQ l all g1 m1).2.types)), (2003, some (rowI seen))]) (lkq [2019, 112, 109, 2010, 2001, 2002, 2003] rfl rfl ⟨(congrArg (fun z => some (HO.row _ z)) (by simp [qQ])), rfl, rfl, rfl, rfl, rfl, rfl, trivial⟩) ?_
       refine tG <| sm 4 rfl <| cV rfl (bPu rfl rfl tZ78 tP78 rfl (fbk rfl) rfl) <| sm 1 rfl <| cV rfl (oB rfl rfl (z3l rfl oM0)) ?_
       refine cE rfl (cRr ((ih m rfl).at2019 (all ++ (qQ l all g1 m1).1) (qL l all g1 m1) (qQ l all g1 m1).2 hInQ hLP oM0 oM0 (by rw [List.length_append]; omega)) y3q rfl rfl (sSm rfl (sSm (congrArg (fun n => IV.sl 2019 n) (by simp [qQ])) (Subs.cons (fun _ _ _ _ h => z3i (q := plcv (qL l all g1 m1)) (PSub.agg (ps := [vBool false, vBool true, .val (.slice none 0 0), ints (qT l all g1 m1).1, ints (qO l all g1 m1).1]) (And.intro (PSub.refl _) (And.intro (PSub.refl _) (And.intro PSub.nil (And.intro (PSub.refl _) (And.intro (PSub.refl _) trivial)))))) h) (sSm (congrArg (fun z => iInt z) oM0) Subs.nil)))) (po3 rfl rfl rfl) (by rfl) (fun k (h : _) => .inr h) rfl (by rfl)) ?_
       refine cE rfl (bSl rfl rfl uT41 tZ44 tS44 rfl rfl rfl rfl (fbk rfl) rfl) <| sm 1 rfl <| c0 (sBx rfl rfl rfl rfl ((fun h => h)) tS41 (rfl) (lb rfl)) <| nL <| tQ <| Tr.drop (k := 2019) <| tG <| cV rfl (lBP rfl rfl rfl uT43 rfl tS43 (lb rfl) rfl trivial) <| cE rfl (ocq (z2o (.mk 11 0 0 z0n (qE l all g1 m1).1 [] (qQ l all g1 m1).1 [(qD l m all g1 m1).1] : Nd)) zk4 rfl rfl) <| sm 1 rfl <| nL ?_
       refine tC rfl (fun hc131 => ?_) fun hc131 => ?_
       ·have hX : gAny l (gRec l (m + 1)) all p g1 = ((.mk 11 0 0 z0n (qE l all g1 m1).1 (z0q (qO l all g1 m1).1 (qD l m all g1 m1).2).1 (qQ l all g1 m1).1 [(qD l m all g1 m1).1] : Nd), (z0q (qO l all g1 m1).1 (qD l m all g1 m1).2).2) := by
          have hcl : z09 (.mk 11 0 0 z0n (qE l all g1 m1).1 [] (qQ l all g1 m1).1 [(qD l m all g1 m1).1] : Nd) = false := by simpa using hc131
          have hk0 : ¬ (z01 l 6 (qS l all g1 m1).2).1 = 0 := by omega
          unfold gAny
          simp only [gRec, e2]
          exact (if_neg hk0).trans ((if_pos hk1).trans (if_neg (fun h => Bool.noConfusion (hcl.symm.trans h))))
        refine tG <| sm 2 rfl <| cE rfl (ocr (z2k l (qO l all g1 m1).1 (qD l m all g1 m1).2 oM0) z1e rfl (po2 rfl rfl) rfl (fun k (h : _) => .inr h) rfl rfl) <| sm 1 rfl <| c0 (sBx rfl rfl rfl rfl ((fun h => h)) tS35 (rfl) (lb rfl)) <| nL ?_
        refine ⟨rfl, Sub.of ⟨rfl, rfl, rfl, rfl, rfl, rfl, rfl, trivial⟩, funext (lkq [112, 109, 2010, 2001, 2002, 2003, 115, 2019] rfl rfl ⟨(by first | rfl | (rw [hX]; rfl)), rfl, rfl, (by first | rfl | (rw [hX]; rfl)), (by first | rfl | (rw [hX]; rfl)), rfl, rfl, rfl, trivial⟩)⟩
       have hX : gAny l (gRec l (m + 1)) all p g1 = ((.mk 11 0 0 z0n (qE l all g1 m1).1 [] (qQ l all g1 m1).1 [(qD l m all g1 m1).1] : Nd), (qD l m all g1 m1).2) := by
         have hcl : z09 (.mk 11 0 0 z0n (qE l all g1 m1).1 [] (qQ l all g1 m1).1 [(qD l m all g1 m1).1] : Nd) = true := by simpa using hc131
         have hk0 : ¬ (z01 l 6 (qS l all g1 m1).2).1 = 0 := by omega
         unfold gAny
         simp only [gRec, e2]
         exact (if_neg hk0).trans ((if_pos hk1).trans (if_pos hcl))
       refine tSk ?_
       refine ⟨rfl, Sub.of ⟨rfl, rfl, rfl, rfl, rfl, rfl, rfl, trivial⟩, funext (lkq [112, 109, 2010, 2001, 2002, 2003, 115, 2019] rfl rfl ⟨(by first | rfl | (rw [hX]; rfl)), rfl, rfl, (by first | rfl | (rw [hX]; rfl)), (by first | rfl | (rw [hX]; rfl)), rfl, rfl, rfl, trivial⟩)⟩
      have hX : gAny l (gRec l d) all p g1 = ((qS l all g1 m1).1, (qK l all g1 m1).2) := by
        unfold gAny
        simp only [e2]
        cases d with
        | zero => rfl
        | succ m =>
          have hk0 : ¬ (z01 l 6 (qS l all g1 m1).2).1 = 0 := by first | (simp at hb52 <;> omega) | (simp at hc49 <;> omega)
          have hk1 : ¬ (z01 l 6 (qS l all g1 m1).2).1 = 1 := by first | (simp at hb96 <;> omega) | (simp at hc93 <;> omega)
          exact (if_neg hk0).trans (if_neg hk1)
      refine tSk ?_
      refine ⟨rfl, Sub.of ⟨rfl, rfl, rfl, rfl, rfl, rfl, rfl, trivial⟩, funext (lkq [112, 109, 2010, 2001, 2002, 2003, 115, 2019] rfl rfl ⟨(by first | rfl | (rw [hX]; rfl)), rfl, rfl, (by first | rfl | (rw [hX]; rfl)), (by first | rfl | (rw [hX]; rfl)), rfl, rfl, rfl, trivial⟩)⟩
     refine sm 4 rfl <| nL <| Tr.condF rfl ?_
     have hX : gAny l (gRec l d) all p g1 = ((qS l all g1 m1).1, (qK l all g1 m1).2) := by
       unfold gAny
       simp only [e2]
       cases d with
       | zero => rfl
       | succ m =>
         have hk0 : ¬ (z01 l 6 (qS l all g1 m1).2).1 = 0 := by first | (simp at hb52 <;> omega) | (simp at hc49 <;> omega)
         have hk1 : ¬ (z01 l 6 (qS l all g1 m1).2).1 = 1 := by first | (simp at hb96 <;> omega) | (simp at hc93 <;> omega)
         exact (if_neg hk0).trans (if_neg hk1)
     refine tSk ?_
     refine ⟨rfl, Sub.of ⟨rfl, rfl, rfl, rfl, rfl, rfl, rfl, trivial⟩, funext (lkq [112, 109, 2010, 2001, 2002, 2003, 115, 2019] rfl rfl ⟨(by first | rfl | (rw [hX]; rfl)), rfl, rfl, (by first | rfl | (rw [hX]; rfl)), (by first | rfl | (rw [hX]; rfl)), rfl, rfl, rfl, trivial⟩)⟩
    refine tQ ?_
    have hol : (out.map Nd.enc).length = out.length := by simp
    have hal : (all.map eInt).length = all.length := by simp
    have hxo : ((gAny l (gRec l d) all p g1).1.outs.map eInt).length = (gAny l (gRec l d) all p g1).1.outs.length := by simp
    have hxo2 := hXo.2
    refine tG <| sm 1 rfl <| cV rfl (lBP rfl rfl rfl uT43 rfl tS43 (lb rfl) rfl trivial) <| cE rfl (bSl rfl rfl uT44 tZ43 tS43 rfl rfl rfl rfl (fbk rfl) rfl) ?_
    refine cE rfl (aPp rfl rfl rfl rfl (by rfl) ((fun h => h)) uT44 tB43 dC0 (by (simp [z03]; done)) (z7y _) (by simp [maxLen, z03]; omega) (by simp [z03]; omega)) ?_
    refine sm 1 rfl <| nL <| tQ <| tQ <| tG <| cV rfl (lBP rfl rfl rfl uT43 rfl tS43 (lb rfl) rfl trivial) <| cE rfl (ocq (z2o (gAny l (gRec l d) all p g1).1) zk4 rfl rfl) <| nL ?_
    refine tC rfl (fun hc141 => ?_) fun hc141 => ?_
    ·refine tQ ?_
     have hres : z2y l d seen p g = (out ++ [(gAny l (gRec l d) all p g1).1], (gAny l (gRec l d) all p g1).2) := by rw [<- hI, z3a, if_neg hleft, if_pos hc141]
     refine tG <| sm 2 rfl <| nL ?_
     refine Tr.freeze (t := 8) (k := 109) rfl rfl (by simp [z03]) ?_
     refine tRt ?_
     rw [hres]
     refine rOk rfl (congrArg (fun z => IV.pv (.seq z)) (by simp [z03, Nd.enc_eq, Nd.cells_eta])) (po3 rfl rfl rfl)
    refine tSk <| tG <| sm 3 rfl ?_
    refine cE rfl (aPp rfl rfl rfl rfl (by rfl) ((fun h => h)) uT35 tB3 dC0 (z5i) (z2z) (by simp [maxLen, z03]; omega) (by simp [z03]; omega)) ?_
    refine sm 1 rfl <| nL <| Tr.drop (k := 112) <| tG <| sm 1 rfl <| cV rfl (oB rfl rfl (z3l rfl oM0)) <| sm 1 rfl <| nL ?_
    refine ⟨_, _, ?_, Sub.of (fr' := [(11, iInt ((n1 : Nat) : Int)), (10, .sl 2010 ((all ++ (gAny l (gRec l d) all p g1).1.outs).map eInt).length), (9, .sl 109 ((out ++ [(gAny l (gRec l d) all p g1).1]).map Nd.enc).length), (6, .pv (.ept [vBool p.If, vBool p.Loop, ints p.Yield, ints p.Next, ints p.Left] 0)), (0, .ptr 2001 0), (3, iInt (d : Int))]) ⟨congrArg (fun z => some (iInt z)) oM0, congrArg (fun z => some (IV.sl _ z)) sI0, congrArg (fun z => some (IV.sl _ z)) (by simp [z03]), rfl, rfl, rfl, trivial⟩, n1, (out ++ [(gAny l (gRec l d) all p g1).1]), (all ++ (gAny l (gRec l d) all p g1).1.outs), (gAny l (gRec l d) all p g1).2, ?_, ?_, ?_, ?_, ?_, ?_, rfl, (funext (lkq [112, 109, 2010, 2001, 2002, 2003] rfl rfl ⟨rfl, (by first | rfl | exact congrArg (fun z => some (HO.row _ z)) (by simp [z03, Nd.enc_eq, Nd.cells_eta]) | exact congrArg (fun z => some (HO.row _ z)) sI0), (by first | rfl | exact congrArg (fun z => some (HO.row _ z)) (by simp [z03, Nd.enc_eq, Nd.cells_eta]) | exact congrArg (fun z => some (HO.row _ z)) sI0), rfl, rfl, rfl, trivial⟩)), rfl⟩
    ·omega
    ·rw [<- hI, z3a, if_neg hleft, if_neg (by rw [hc141]; decide)]
    ·exact (hIn.mono hXb.t1).app hXo.1
    ·have := hXb.ps; omega
    ·have := hXb.t2; omega
    ·have := hXo.2; rw [List.length_append]; have := hXl; omega
    simp; omega
   refine tEx <| tQ ?_
   have hres : z2y l d seen p g = (out ++ [(gEnd l all p g1).1], (gEnd l all p g1).2) := by
     rw [<- hI]
     (have h0 : g1.left = 0 := by simpa using hc33
      cases n with
      | zero => rw [z3a]
      | succ n => rw [z3a, if_pos h0])
   have hol : (out.map Nd.enc).length = out.length := by simp
   refine tG <| sm 3 rfl <| cV rfl (lEA rfl rfl Tryz.underlying78 rfl tS78 (lb rfl)) <| cE rfl (ocr (y1e l all p g1 hIn oM0 oM0 hp) ent55 rfl (po3 rfl rfl rfl) rfl (fun k (h : _) => .inr h) rfl rfl) <| cE rfl (bSl rfl rfl uT44 tZ43 tS43 rfl rfl rfl rfl (fbk rfl) rfl) ?_
   refine cE rfl (aPp rfl rfl rfl rfl (by rfl) ((fun h => h)) uT44 tB43 dC0 (by (simp [z03]; done)) (z7y _) (by simp [maxLen, z03]; omega) (by simp [z03]; omega)) ?_
   refine sm 1 rfl <| nL ?_
   refine Tr.freeze (t := 8) (k := 109) rfl rfl (by simp [z03]) ?_
   refine tRt ?_
   rw [hres]
   refine rOk rfl (congrArg (fun z => IV.pv (.seq z)) (by simp [z03, Nd.enc_eq, Nd.cells_eta])) (po3 rfl rfl rfl)
  refine sm 6 rfl <| nL <| Tr.condF rfl <| tEx <| tQ ?_
  have hres : z2y l d seen p g = (out ++ [(gEnd l all p g1).1], (gEnd l all p g1).2) := by
    rw [<- hI]
    (have h0 : n = 0 := by simpa using hb27
     rw [h0, z3a]
     done)
  have hol : (out.map Nd.enc).length = out.length := by simp
  refine tG <| sm 3 rfl <| cV rfl (lEA rfl rfl Tryz.underlying78 rfl tS78 (lb rfl)) <| cE rfl (ocr (y1e l all p g1 hIn oM0 oM0 hp) ent55 rfl (po3 rfl rfl rfl) rfl (fun k (h : _) => .inr h) rfl rfl) <| cE rfl (bSl rfl rfl uT44 tZ43 tS43 rfl rfl rfl rfl (fbk rfl) rfl) ?_
  refine cE rfl (aPp rfl rfl rfl rfl (by rfl) ((fun h => h)) uT44 tB43 dC0 (by (simp [z03]; done)) (z7y _) (by simp [maxLen, z03]; omega) (by simp [z03]; omega)) ?_
  refine sm 1 rfl <| nL ?_
  refine Tr.freeze (t := 8) (k := 109) rfl rfl (by simp [z03]) ?_
  refine tRt ?_
  rw [hres]
  refine rOk rfl (congrArg (fun z => IV.pv (.seq z)) (by simp [z03, Nd.enc_eq, Nd.cells_eta])) (po3 rfl rfl rfl)
theorem kd_len : ∀ ks : List (List Nd), ks.length <= kdW ks
  | [] => by simp
  | l :: r => by have := kd_len r; simp only [kdW, List.length_cons]; omega
theorem z1s (a : ByteArray) (b c : Int) (l : List Int) (ns : List Nd) : ∀ el ∈ z03 5 1 [vStr a, vInt b, vInt c, ints l, z0g ns], ∀ y ∈ el, y.one = true := by
  intro el hel y hy
  rw [List.mem_singleton.1 hel] at hy
  simp only [List.take, List.mem_cons, List.not_mem_nil, or_false] at hy
  rcases hy with rfl | rfl | rfl | rfl | rfl <;> rfl
theorem zl5 {F : Nat -> Prop} {ρ : Loc} {σ : Heap'} {w : World} {v : Value} (h : RepI F ρ σ w (.pv (.agg [.val (.slice none 0 0), .val (.slice none 0 0)])) v) : RepI F ρ σ w (.pv (Un.enc ⟨[], []⟩)) v :=
  z3i (PSub.agg (ps := [.val (.slice none 0 0), .val (.slice none 0 0)]) (qs := [.seq [], .seq []]) (And.intro PSub.nil (And.intro PSub.nil trivial))) h
theorem y1f (l : List UInt8) : ∀ d, d <= 100 -> LSCg l d
  | 0, h => fun seen p g h1 h2 h3 h4 h5 => zw0 l 0 h (fun m e => by omega) seen p g h1 h2 h3 h4 h5
  | d + 1, h => fun seen p g h1 h2 h3 h4 h5 => zw0 l (d + 1) h (fun m e => by obtain rfl : d = m := oM0; exact y1f l d oM0) seen p g h1 h2 h3 h4 h5
theorem y56 (l : List UInt8) (seen : List Int) (p : Plc) (g : Gn) (h1 : InR g.types seen) (h2 : p.small) (h3 : g.pos + 60 * g.left <= 900000) (h4 : g.types.length + 10 * g.left <= 900000) (h5 : seen.length + 10 * g.left <= 900000) :
    SC Tryz.prog 36 [.ptr 2001 0, .sl 2005 (seen.map eInt).length, .pv (plcv p), iInt 3] (gHr 2005 l g seen) (fun _ => False) (.pv (z0g (z2y l 3 seen p g).1)) (gHr 2005 l (z2y l 3 seen p g).2 seen) := SC.sw 2003 2005 (y1f l 3 oM0 seen p g h1 h2 h3 h4 h5)
def genF (l : List UInt8) (g : Gn) (ty : PV) : HO := .box [.pv (bts l), iInt (g.pos : Int), .pv ty, iInt (g.left : Int)]
theorem plc0_sub : PSub (.agg [vBool false, vBool false, .val (.slice none 0 0), .val (.slice none 0 0), .val (.slice none 0 0)]) (plcv plc0) := zp0 [vBool false, vBool false, .val (.slice none 0 0), .val (.slice none 0 0), .val (.slice none 0 0)]
theorem z4e (l : List UInt8) (name : ByteArray) (params : List Int) (hpl : params.length <= 10) (g : Gn) (hb : g.pos <= 500000) (ty : PV) : SC Tryz.prog 21 [.ptr 2001 0, iStr name, .pv (ints params)] [(2001, genF l g ty)] (fun _ => False) (.pv (.agg (z22 l name params g).1.enc)) [(2001, genF l (z22 l name params g).2 (ints (z22 l name params g).2.types))] := by
  refine SC.ofC Tryz.func21 rfl (lb rfl) rfl fun F ρ w => ?_
  refine Tr.lenOf (t := 2) rfl (fun hl => ?_)
  simp only [List.length_map] at hl
  have hS := (z25 params { g with types := [], left := 30 }).1
  have hSl := (z25 params { g with types := [], left := 30 }).2
  have hSin := InR.outs params { g with types := [], left := 30 }
  have hst : (z0q params { g with types := [], left := 30 }).2.types.length = params.length := by rw [hS]; simp
  have hsp : (z0q params { g with types := [], left := 30 }).2.pos = g.pos /\ (z0q params { g with types := [], left := 30 }).2.left = 30 := by rw [hS]; exact ⟨rfl, rfl⟩
  have hbt : (z0c 2 (z0c 1 (z0q params { g with types := [], left := 30 }).2).2).2.types.length = params.length + 2 := by simp [z0c, hst]
  have hbp : (z0c 2 (z0c 1 (z0q params { g with types := [], left := 30 }).2).2).2.pos = g.pos /\ (z0c 2 (z0c 1 (z0q params { g with types := [], left := 30 }).2).2).2.left = 30 := hsp
  have hin : InR (z0c 2 (z0c 1 (z0q params { g with types := [], left := 30 }).2).2).2.types ((z0q params { g with types := [], left := 30 }).1 ++ [(z0c 1 (z0q params { g with types := [], left := 30 }).2).1, (z0c 2 (z0c 1 (z0q params { g with types := [], left := 30 }).2).2).1]) := by
    refine (hSin.mono oM0).app fun s hs => ?_
    simp only [List.mem_cons, List.not_mem_nil, or_false] at hs
    rcases hs with rfl | rfl
    ·rw [hbt]; simp only [z0c, hst]; omega
    rw [hbt]; simp only [z0c, List.length_append, List.length_cons, List.length_nil, hst]; omega
  have hsl2 : ((z0q params { g with types := [], left := 30 }).1.map eInt).length = (z0q params { g with types := [], left := 30 }).1.length := by simp
  refine tQ <| tG <| cE rfl (aLc (k := 106) rfl tZ51 rfl rfl rfl rfl) <| nL <| tQ <| tG <| sm 2 rfl <| cV rfl (nCk rfl rfl rfl) <| sm 1 rfl <| c0 (sBx rfl rfl rfl rfl ((fun h => h)) tS35 (rfl) (lb rfl)) <| cV rfl (nCk rfl rfl rfl) <| sm 1 rfl ?_
  refine c0 (sBx rfl rfl rfl rfl ((fun h => h)) tS3 (rfl) (lb rfl)) <| nL <| tQ <| Tr.growCell (k := 2002) (k2 := 2001) (j := 2) ⟨3, 1⟩ rfl rfl rfl rfl rfl rfl <| Tr.heap (σ' := look [(106, some (.box [.pv (vStr ⟨#[]⟩), iInt 0, iInt 0, .pv (.val (.slice none 0 0)), .pv (.val (.slice none 0 0))])), (2001, some (z3b l { g with types := [], left := 30 })), (2002, some (rowI []))]) (lkq [106, 2001, 2002] rfl rfl ⟨rfl, rfl, rfl, trivial⟩) <| tG <| sm 2 rfl <| cE rfl (ok_calln (k0 := 2005) (y57 l params { g with types := [], left := 30 } (by show 0 + params.length <= 1000000; omega)) z1e rfl rfl (sRf _ _) (po2 rfl rfl) rfl rfl rfl rfl rfl (fun k (h : _) => .inr h) rfl (by rfl)) <| sm 1 rfl <| nL <| tQ <| tG ?_
  refine sm 1 rfl <| cE rfl (ocr (z9d l 1 (z0q params { g with types := [], left := 30 }).2 oM0) ent35 rfl (po2 rfl rfl) rfl (fun k (h : _) => .inr h) rfl rfl) <| sm 1 rfl ?_
  refine cE rfl (ocr (z9d l 2 (z0c 1 (z0q params { g with types := [], left := 30 }).2).2 (by simp only [z0c, List.length_append, List.length_cons, List.length_nil]; omega)) ent35 rfl (po2 rfl rfl) rfl (fun k (h : _) => .inr h) rfl rfl) ?_
  refine sm 2 rfl <| nL <| tQ <| tG <| sm 1 rfl <| cE rfl (bSl rfl rfl uT35 tZ3 tS3 rfl rfl rfl rfl (fbk rfl) rfl) <| cV rfl (bPu rfl rfl tZ43 tP43 rfl (fbk rfl) rfl) <| WL.sub (Sub.cons2 (fun _ _ _ _ h => z3i (zp0 _) h) Sub.rfl') <| sm 1 rfl <| cE rfl (bSl rfl rfl uT35 tZ3 tS3 rfl rfl rfl rfl (fbk rfl) rfl) <| cV rfl (bPu rfl rfl tZ43 tP43 rfl (fbk rfl) rfl) <| WL.sub (Sub.cons2 (fun _ _ _ _ h => z3i (zp0 _) h) Sub.rfl') ?_
  refine cE rfl (zc6 (k := 110) rfl rfl uT44 tZ43 tS43 rfl rfl rfl rfl (fbk rfl) rfl rfl rfl rfl rfl) <| sm 1 rfl <| nL <| tQ <| tG <| sm 3 rfl <| cE rfl (bSl rfl rfl uT35 tZ3 tS3 rfl rfl rfl rfl (fbk rfl) rfl) ?_
  refine cE rfl (aPp rfl rfl rfl rfl (by rfl) sI0 uT35 tB3 dC0 (by simp [z03]) (z2z (l := [(z0c 1 (z0q params { g with types := [], left := 30 }).2).1, (z0c 2 (z0c 1 (z0q params { g with types := [], left := 30 }).2).2).1])) (by simp [maxLen, z03]; omega) (by simp [z03]; omega)) ?_
  refine sm 1 rfl <| nL <| tQ ?_
  refine Tr.heap (σ' := look [(106, some (.box [.pv (vStr ⟨#[]⟩), iInt 0, iInt 0, .pv (.val (.slice none 0 0)), .pv (.val (.slice none 0 0))])), (110, some (.row ⟨43, 8⟩ ((zf4 (z0c 1 (z0q params { g with types := [], left := 30 }).2).1 (z0c 2 (z0c 1 (z0q params { g with types := [], left := 30 }).2).2).1).map Nd.enc))), (2005, some (rowI ((z0q params { g with types := [], left := 30 }).1 ++ [(z0c 1 (z0q params { g with types := [], left := 30 }).2).1, (z0c 2 (z0c 1 (z0q params { g with types := [], left := 30 }).2).2).1]))), (2001, some (z3b l (z0c 2 (z0c 1 (z0q params { g with types := [], left := 30 }).2).2).2)), (2002, some (rowI (z0c 2 (z0c 1 (z0q params { g with types := [], left := 30 }).2).2).2.types))]) (lkq [106, 110, 2005, 2001, 2002] rfl rfl ⟨rfl, rfl, (congrArg (fun z => some (HO.row _ z)) (by simp [z03, eInt])), rfl, rfl, trivial⟩) ?_
  refine tG <| sm 3 rfl <| cV rfl (bPu rfl rfl tZ78 tP78 rfl (fbk rfl) rfl) ?_
  have hli := z6l l 3 ((z0q params { g with types := [], left := 30 }).1 ++ [(z0c 1 (z0q params { g with types := [], left := 30 }).2).1, (z0c 2 (z0c 1 (z0q params { g with types := [], left := 30 }).2).2).1]) plc0 (z0c 2 (z0c 1 (z0q params { g with types := [], left := 30 }).2).2).2 ⟨by simp [plc0], by simp [plc0], by simp [plc0]⟩
  have hrl := zf5 l 3 ((z0q params { g with types := [], left := 30 }).1 ++ [(z0c 1 (z0q params { g with types := [], left := 30 }).2).1, (z0c 2 (z0c 1 (z0q params { g with types := [], left := 30 }).2).2).1]) plc0 (z0c 2 (z0c 1 (z0q params { g with types := [], left := 30 }).2).2).2
  refine cE rfl (cRr (y56 l ((z0q params { g with types := [], left := 30 }).1 ++ [(z0c 1 (z0q params { g with types := [], left := 30 }).2).1, (z0c 2 (z0c 1 (z0q params { g with types := [], left := 30 }).2).2).1]) plc0 (z0c 2 (z0c 1 (z0q params { g with types := [], left := 30 }).2).2).2 hin ⟨by simp [plc0], by simp [plc0], by simp [plc0]⟩ oM0 oM0 (by simp; omega)) y3q rfl rfl (sSm rfl (sSm (congrArg (fun n => IV.sl 2005 n) (by simp [z52])) (Subs.cons (fun _ _ _ _ h => z3i plc0_sub h) (sSm rfl Subs.nil)))) (po3 rfl rfl rfl) (by rfl) (fun k (h : _) => .inr h) rfl (by rfl)) ?_
  refine cE rfl (aPp rfl rfl rfl rfl (by rfl) ((fun h => h)) uT44 tB43 dC0 (hw_node) (y44) (by simp [maxLen, z03]; omega) (by simp [z03]; omega)) ?_
  refine sm 1 rfl <| nL <| tQ ?_
  refine Tr.freeze (t := 10) (k := 110) rfl rfl (by simp [z03, zf4]; omega) ?_
  refine Tr.freezeCell (k := 2002) (k2 := 2001) (j := 2) (n := ((z2y l 3 ((z0q params { g with types := [], left := 30 }).1 ++ [(z0c 1 (z0q params { g with types := [], left := 30 }).2).1, (z0c 2 (z0c 1 (z0q params { g with types := [], left := 30 }).2).2).1]) plc0 (z0c 2 (z0c 1 (z0q params { g with types := [], left := 30 }).2).2).2).2.types.map eInt).length) rfl rfl rfl rfl dC0 <| tG <| sm 2 rfl <| cV rfl (oSm uT35 rfl) <| sm 1 rfl <| cV rfl (nCk rfl rfl rfl) <| sm 3 rfl <| cV rfl (bPu rfl rfl tZ51 tP51 rfl (fbk rfl) rfl) <| c0 (sBA rfl rfl rfl rfl rfl ((fun h => h)) tS51 (flk rfl) (lb rfl)) <| nL <| tRt <| rCk (.inl rfl) (fun _ _ ho => lBP ho rfl rfl Tryz.underlying51 rfl tS51 (lb rfl) rfl trivial) ?_ (po1 rfl)
  rfl
theorem sc_made (l : List UInt8) : SC Tryz.prog 10 [.pv (bts l)] [] (fun _ => False) (.pv (made l).enc) [] := by
  refine SC.ofC Tryz.func10 rfl (lb rfl) rfl fun F ρ w => ?_
  have hb1 : (z22 l z0f [] ⟨0, [], 0⟩).2.pos <= 2000 := y3w l z0f [] ⟨0, [], 0⟩ sI0 sI0
  refine tQ <| tG <| cE rfl (aLc (k := 102) rfl tZ25 rfl rfl rfl rfl) <| nL <| tQ <| tG <| sm 1 rfl <| cV rfl (bPu rfl rfl tZ57 tP57 rfl (fbk rfl) rfl) <| cE rfl (z80 (k := 2001) rfl rfl rfl rfl rfl rfl) <| sm 1 rfl <| nL <| tQ ?_
  refine tG <| cV rfl (bPu rfl rfl tZ49 tP49 rfl (fbk rfl) rfl) <| cE rfl (bSl rfl rfl uT22 tZ49 tS49 rfl rfl rfl rfl (fbk rfl) rfl) <| cV rfl (bPu rfl rfl tZ25 tP25 rfl (fbk rfl) rfl) <| cE rfl (aLc (k := 104) rfl tZ25 rfl rfl rfl rfl) <| c0 (sBA rfl rfl rfl rfl rfl ((fun h => h)) tS25 (flk rfl) (lb rfl)) <| nL <| tQ <| Tr.growCell (k := 1040) (k2 := 104) (j := 1) ⟨51, 5⟩ rfl rfl rfl rfl rfl rfl <| tDr z1a (fun k => k ∈ ([] : List Nat)) <| wR 6 [0, 2] kR0 h30 <| smR 2 rfl ?_
  refine nR <| WA.all (rs := [1, 3]) kR0 sI0 ?_
  refine fmc ⟨?_, fmc ⟨?_, by simp⟩⟩
  ·refine wI rfl rfl nf nw (fun _ _ => OkV.ok (R1 := fun _ => True) ((z18 rfl rfl rfl uT23 rfl rfl trivial))) <| wO 3 kR0 <| wI rfl rfl nf (nAp rfl) (fun _ _ => cRr (z4e l z0f [] sI0 ⟨0, [], 0⟩ sI0 (.val (.slice none 0 0))) zf1 rfl rfl (sSm rfl (sSm rfl (Subs.cons (fun _ _ _ _ h => z3i PSub.nil h) Subs.nil))) (po1 rfl) (by rfl) (fun k (h : _) => absurd h List.not_mem_nil) rfl (by rfl)) <| wO 4 kR0 <| wI rfl rfl nf nw (fun _ _ => bSl rfl rfl uT23 tZ51 tS51 rfl rfl rfl rfl (fbk rfl) rfl) <| wO 5 kR0 ?_
   refine wI rfl rfl nf (nOl rfl) (fun _ _ => aPp rfl rfl rfl rfl (by rfl) sI0 uT23 tB51 dC0 (fun el hel => by rw [List.mem_singleton.1 hel]; rfl) (z1s _ _ _ _ _) (by simp [maxLen, z03]) (by simp [z03])) ?_
   refine wR 1 [6] kR0 h30 <| smR 1 rfl <| nR <| wO 7 kR0 <| wI rfl rfl nf (nOl rfl) (fun _ _ => sBx rfl rfl rfl rfl sI0 tS23 (⟨_, _, rfl, rfl⟩) (lb rfl)) <| wDn kR0 <| tQ <| tDr z1a (fun k => k ∈ ([] : List Nat)) <| wR 7 [0, 2] kR0 h30 <| smR 2 rfl <| nR <| WA.all (rs := [1, 3]) kR0 sI0 ?_
   refine fmc ⟨?_, fmc ⟨?_, by simp⟩⟩
   ·refine wI rfl rfl nf nw (fun _ _ => OkV.ok (R1 := fun _ => True) ((z18 rfl rfl rfl uT23 rfl rfl trivial))) <| wO 3 kR0 <| wI rfl rfl nf nw (fun _ _ => bSl rfl rfl uT35 tZ3 tS3 rfl rfl rfl rfl (fbk rfl) rfl) <| wO 4 kR0 <| wI rfl rfl nf (nAp rfl) (fun _ _ => ocr (z4e l z2t [1, 2] sI0 (z22 l z0f [] ⟨0, [], 0⟩).2 oM0 (ints (z22 l z0f [] ⟨0, [], 0⟩).2.types)) zf1 rfl (po1 rfl) rfl nl rfl rfl) <| wO 5 kR0 <| wI rfl rfl nf nw (fun _ _ => bSl rfl rfl uT23 tZ51 tS51 rfl rfl rfl rfl (fbk rfl) rfl) <| wO 6 kR0 ?_
    refine wI rfl rfl nf (nOl rfl) (fun _ _ => aPp rfl rfl rfl rfl (by rfl) sI0 uT23 tB51 dC0 (fun el hel => by rw [List.mem_singleton.1 hel]; rfl) (z1s _ _ _ _ _) (by simp [maxLen, z03]) (by simp [z03])) ?_
    refine wR 1 [7] kR0 h30 <| smR 1 rfl <| nR <| wO 8 kR0 <| wI rfl rfl nf (nOl rfl) (fun _ _ => sBx rfl rfl rfl rfl sI0 tS23 (⟨_, _, rfl, rfl⟩) (lb rfl)) <| wDn kR0 <| tQ <| Tr.freezeCell (k := 1040) (k2 := 104) (j := 1) (n := 2) rfl rfl rfl rfl dC0 <| tG <| cV rfl (lBP rfl rfl rfl uT25 rfl tS25 (lb rfl) rfl trivial) <| c0 (sBA rfl rfl rfl rfl rfl ((fun h => h)) tS25 (flk rfl) (lb rfl)) <| nL ?_
    refine tRt <| rCk (.inl rfl) (fun _ _ ho => lBP ho rfl rfl uT25 rfl tS25 (lb rfl) rfl trivial) rfl nPo
   refine wI rfl rfl nf nw (fun _ _ => bSl rfl rfl uT35 tZ3 tS3 rfl rfl rfl rfl (fbk rfl) rfl) <| WA.all (rs := [1, 4]) kR0 sI0 ?_
   refine fmc ⟨?_, fmc ⟨?_, by simp⟩⟩
   ·refine wI rfl rfl nf nw (fun _ _ => OkV.ok (R1 := fun _ => True) ((z18 rfl rfl rfl uT23 rfl rfl trivial))) <| wO 4 kR0 <| wI rfl rfl nf (nAp rfl) (fun _ _ => ocr (z4e l z2t [1, 2] sI0 (z22 l z0f [] ⟨0, [], 0⟩).2 oM0 (ints (z22 l z0f [] ⟨0, [], 0⟩).2.types)) zf1 rfl (po1 rfl) rfl nl rfl rfl) <| wO 5 kR0 <| wI rfl rfl nf nw (fun _ _ => bSl rfl rfl uT23 tZ51 tS51 rfl rfl rfl rfl (fbk rfl) rfl) <| wO 6 kR0 ?_
    refine wI rfl rfl nf (nOl rfl) (fun _ _ => aPp rfl rfl rfl rfl (by rfl) sI0 uT23 tB51 dC0 (fun el hel => by rw [List.mem_singleton.1 hel]; rfl) (z1s _ _ _ _ _) (by simp [maxLen, z03]) (by simp [z03])) ?_
    refine wR 1 [7] kR0 h30 <| smR 1 rfl <| nR <| wO 8 kR0 <| wI rfl rfl nf (nOl rfl) (fun _ _ => sBx rfl rfl rfl rfl sI0 tS23 (⟨_, _, rfl, rfl⟩) (lb rfl)) <| wDn kR0 <| tQ <| Tr.freezeCell (k := 1040) (k2 := 104) (j := 1) (n := 2) rfl rfl rfl rfl dC0 <| tG <| cV rfl (lBP rfl rfl rfl uT25 rfl tS25 (lb rfl) rfl trivial) <| c0 (sBA rfl rfl rfl rfl rfl ((fun h => h)) tS25 (flk rfl) (lb rfl)) <| nL ?_
    refine tRt <| rCk (.inl rfl) (fun _ _ ho => lBP ho rfl rfl uT25 rfl tS25 (lb rfl) rfl trivial) rfl nPo
   refine wI rfl rfl nf (nAp rfl) (fun _ _ => ocr (z4e l z2t [1, 2] sI0 (z22 l z0f [] ⟨0, [], 0⟩).2 oM0 (ints (z22 l z0f [] ⟨0, [], 0⟩).2.types)) zf1 rfl (po1 rfl) rfl nl rfl rfl) <| WA.all (rs := [1, 5]) kR0 sI0 ?_
   refine fmc ⟨?_, fmc ⟨?_, by simp⟩⟩
   ·refine wI rfl rfl nf nw (fun _ _ => OkV.ok (R1 := fun _ => True) ((z18 rfl rfl rfl uT23 rfl rfl trivial))) <| wO 5 kR0 <| wI rfl rfl nf nw (fun _ _ => bSl rfl rfl uT23 tZ51 tS51 rfl rfl rfl rfl (fbk rfl) rfl) <| wO 6 kR0 ?_
    refine wI rfl rfl nf (nOl rfl) (fun _ _ => aPp rfl rfl rfl rfl (by rfl) sI0 uT23 tB51 dC0 (fun el hel => by rw [List.mem_singleton.1 hel]; rfl) (z1s _ _ _ _ _) (by simp [maxLen, z03]) (by simp [z03])) ?_
    refine wR 1 [7] kR0 h30 <| smR 1 rfl <| nR <| wO 8 kR0 <| wI rfl rfl nf (nOl rfl) (fun _ _ => sBx rfl rfl rfl rfl sI0 tS23 (⟨_, _, rfl, rfl⟩) (lb rfl)) <| wDn kR0 <| tQ <| Tr.freezeCell (k := 1040) (k2 := 104) (j := 1) (n := 2) rfl rfl rfl rfl dC0 <| tG <| cV rfl (lBP rfl rfl rfl uT25 rfl tS25 (lb rfl) rfl trivial) <| c0 (sBA rfl rfl rfl rfl rfl ((fun h => h)) tS25 (flk rfl) (lb rfl)) <| nL ?_
    refine tRt <| rCk (.inl rfl) (fun _ _ ho => lBP ho rfl rfl uT25 rfl tS25 (lb rfl) rfl trivial) rfl nPo
   refine wI rfl rfl nf nw (fun _ _ => bSl rfl rfl uT23 tZ51 tS51 rfl rfl rfl rfl (fbk rfl) rfl) <| wO 1 kR0 <| wI rfl rfl nf nw (fun _ _ => OkV.ok (R1 := fun _ => True) ((z18 rfl rfl rfl uT23 rfl rfl trivial))) <| wO 6 kR0 ?_
   refine wI rfl rfl nf (nOl rfl) (fun _ _ => aPp rfl rfl rfl rfl (by rfl) sI0 uT23 tB51 dC0 (fun el hel => by rw [List.mem_singleton.1 hel]; rfl) (z1s _ _ _ _ _) (by simp [maxLen, z03]) (by simp [z03])) ?_
   refine wR 1 [7] kR0 h30 <| smR 1 rfl <| nR <| wO 8 kR0 <| wI rfl rfl nf (nOl rfl) (fun _ _ => sBx rfl rfl rfl rfl sI0 tS23 (⟨_, _, rfl, rfl⟩) (lb rfl)) <| wDn kR0 <| tQ <| Tr.freezeCell (k := 1040) (k2 := 104) (j := 1) (n := 2) rfl rfl rfl rfl dC0 <| tG <| cV rfl (lBP rfl rfl rfl uT25 rfl tS25 (lb rfl) rfl trivial) <| c0 (sBA rfl rfl rfl rfl rfl ((fun h => h)) tS25 (flk rfl) (lb rfl)) <| nL ?_
   refine tRt <| rCk (.inl rfl) (fun _ _ ho => lBP ho rfl rfl uT25 rfl tS25 (lb rfl) rfl trivial) rfl nPo
  refine wI rfl rfl nf (nAp rfl) (fun _ _ => cRr (z4e l z0f [] sI0 ⟨0, [], 0⟩ sI0 (.val (.slice none 0 0))) zf1 rfl rfl (sSm rfl (sSm rfl (Subs.cons (fun _ _ _ _ h => z3i PSub.nil h) Subs.nil))) (po1 rfl) (by rfl) (fun k (h : _) => absurd h List.not_mem_nil) rfl (by rfl)) <| WA.all (rs := [1, 4]) kR0 sI0 ?_
  refine fmc ⟨?_, fmc ⟨?_, by simp⟩⟩
  ·refine wI rfl rfl nf nw (fun _ _ => OkV.ok (R1 := fun _ => True) ((z18 rfl rfl rfl uT23 rfl rfl trivial))) <| wO 4 kR0 <| wI rfl rfl nf nw (fun _ _ => bSl rfl rfl uT23 tZ51 tS51 rfl rfl rfl rfl (fbk rfl) rfl) <| wO 5 kR0 ?_
   refine wI rfl rfl nf (nOl rfl) (fun _ _ => aPp rfl rfl rfl rfl (by rfl) sI0 uT23 tB51 dC0 (fun el hel => by rw [List.mem_singleton.1 hel]; rfl) (z1s _ _ _ _ _) (by simp [maxLen, z03]) (by simp [z03])) ?_
   refine wR 1 [6] kR0 h30 <| smR 1 rfl <| nR <| wO 7 kR0 <| wI rfl rfl nf (nOl rfl) (fun _ _ => sBx rfl rfl rfl rfl sI0 tS23 (⟨_, _, rfl, rfl⟩) (lb rfl)) <| wDn kR0 <| tQ <| tDr z1a (fun k => k ∈ ([] : List Nat)) <| wR 7 [0, 2] kR0 h30 <| smR 2 rfl <| nR <| WA.all (rs := [1, 3]) kR0 sI0 ?_
   refine fmc ⟨?_, fmc ⟨?_, by simp⟩⟩
   ·refine wI rfl rfl nf nw (fun _ _ => OkV.ok (R1 := fun _ => True) ((z18 rfl rfl rfl uT23 rfl rfl trivial))) <| wO 3 kR0 <| wI rfl rfl nf nw (fun _ _ => bSl rfl rfl uT35 tZ3 tS3 rfl rfl rfl rfl (fbk rfl) rfl) <| wO 4 kR0 <| wI rfl rfl nf (nAp rfl) (fun _ _ => ocr (z4e l z2t [1, 2] sI0 (z22 l z0f [] ⟨0, [], 0⟩).2 oM0 (ints (z22 l z0f [] ⟨0, [], 0⟩).2.types)) zf1 rfl (po1 rfl) rfl nl rfl rfl) <| wO 5 kR0 <| wI rfl rfl nf nw (fun _ _ => bSl rfl rfl uT23 tZ51 tS51 rfl rfl rfl rfl (fbk rfl) rfl) <| wO 6 kR0 ?_
    refine wI rfl rfl nf (nOl rfl) (fun _ _ => aPp rfl rfl rfl rfl (by rfl) sI0 uT23 tB51 dC0 (fun el hel => by rw [List.mem_singleton.1 hel]; rfl) (z1s _ _ _ _ _) (by simp [maxLen, z03]) (by simp [z03])) ?_
    refine wR 1 [7] kR0 h30 <| smR 1 rfl <| nR <| wO 8 kR0 <| wI rfl rfl nf (nOl rfl) (fun _ _ => sBx rfl rfl rfl rfl sI0 tS23 (⟨_, _, rfl, rfl⟩) (lb rfl)) <| wDn kR0 <| tQ <| Tr.freezeCell (k := 1040) (k2 := 104) (j := 1) (n := 2) rfl rfl rfl rfl dC0 <| tG <| cV rfl (lBP rfl rfl rfl uT25 rfl tS25 (lb rfl) rfl trivial) <| c0 (sBA rfl rfl rfl rfl rfl ((fun h => h)) tS25 (flk rfl) (lb rfl)) <| nL ?_
    refine tRt <| rCk (.inl rfl) (fun _ _ ho => lBP ho rfl rfl uT25 rfl tS25 (lb rfl) rfl trivial) rfl nPo
   refine wI rfl rfl nf nw (fun _ _ => bSl rfl rfl uT35 tZ3 tS3 rfl rfl rfl rfl (fbk rfl) rfl) <| WA.all (rs := [1, 4]) kR0 sI0 ?_
   refine fmc ⟨?_, fmc ⟨?_, by simp⟩⟩
   ·refine wI rfl rfl nf nw (fun _ _ => OkV.ok (R1 := fun _ => True) ((z18 rfl rfl rfl uT23 rfl rfl trivial))) <| wO 4 kR0 <| wI rfl rfl nf (nAp rfl) (fun _ _ => ocr (z4e l z2t [1, 2] sI0 (z22 l z0f [] ⟨0, [], 0⟩).2 oM0 (ints (z22 l z0f [] ⟨0, [], 0⟩).2.types)) zf1 rfl (po1 rfl) rfl nl rfl rfl) <| wO 5 kR0 <| wI rfl rfl nf nw (fun _ _ => bSl rfl rfl uT23 tZ51 tS51 rfl rfl rfl rfl (fbk rfl) rfl) <| wO 6 kR0 ?_
    refine wI rfl rfl nf (nOl rfl) (fun _ _ => aPp rfl rfl rfl rfl (by rfl) sI0 uT23 tB51 dC0 (fun el hel => by rw [List.mem_singleton.1 hel]; rfl) (z1s _ _ _ _ _) (by simp [maxLen, z03]) (by simp [z03])) ?_
    refine wR 1 [7] kR0 h30 <| smR 1 rfl <| nR <| wO 8 kR0 <| wI rfl rfl nf (nOl rfl) (fun _ _ => sBx rfl rfl rfl rfl sI0 tS23 (⟨_, _, rfl, rfl⟩) (lb rfl)) <| wDn kR0 <| tQ <| Tr.freezeCell (k := 1040) (k2 := 104) (j := 1) (n := 2) rfl rfl rfl rfl dC0 <| tG <| cV rfl (lBP rfl rfl rfl uT25 rfl tS25 (lb rfl) rfl trivial) <| c0 (sBA rfl rfl rfl rfl rfl ((fun h => h)) tS25 (flk rfl) (lb rfl)) <| nL ?_
    refine tRt <| rCk (.inl rfl) (fun _ _ ho => lBP ho rfl rfl uT25 rfl tS25 (lb rfl) rfl trivial) rfl nPo
   refine wI rfl rfl nf (nAp rfl) (fun _ _ => ocr (z4e l z2t [1, 2] sI0 (z22 l z0f [] ⟨0, [], 0⟩).2 oM0 (ints (z22 l z0f [] ⟨0, [], 0⟩).2.types)) zf1 rfl (po1 rfl) rfl nl rfl rfl) <| WA.all (rs := [1, 5]) kR0 sI0 ?_
   refine fmc ⟨?_, fmc ⟨?_, by simp⟩⟩
   ·refine wI rfl rfl nf nw (fun _ _ => OkV.ok (R1 := fun _ => True) ((z18 rfl rfl rfl uT23 rfl rfl trivial))) <| wO 5 kR0 <| wI rfl rfl nf nw (fun _ _ => bSl rfl rfl uT23 tZ51 tS51 rfl rfl rfl rfl (fbk rfl) rfl) <| wO 6 kR0 ?_
    refine wI rfl rfl nf (nOl rfl) (fun _ _ => aPp rfl rfl rfl rfl (by rfl) sI0 uT23 tB51 dC0 (fun el hel => by rw [List.mem_singleton.1 hel]; rfl) (z1s _ _ _ _ _) (by simp [maxLen, z03]) (by simp [z03])) ?_
    refine wR 1 [7] kR0 h30 <| smR 1 rfl <| nR <| wO 8 kR0 <| wI rfl rfl nf (nOl rfl) (fun _ _ => sBx rfl rfl rfl rfl sI0 tS23 (⟨_, _, rfl, rfl⟩) (lb rfl)) <| wDn kR0 <| tQ <| Tr.freezeCell (k := 1040) (k2 := 104) (j := 1) (n := 2) rfl rfl rfl rfl dC0 <| tG <| cV rfl (lBP rfl rfl rfl uT25 rfl tS25 (lb rfl) rfl trivial) <| c0 (sBA rfl rfl rfl rfl rfl ((fun h => h)) tS25 (flk rfl) (lb rfl)) <| nL ?_
    refine tRt <| rCk (.inl rfl) (fun _ _ ho => lBP ho rfl rfl uT25 rfl tS25 (lb rfl) rfl trivial) rfl nPo
   refine wI rfl rfl nf nw (fun _ _ => bSl rfl rfl uT23 tZ51 tS51 rfl rfl rfl rfl (fbk rfl) rfl) <| wO 1 kR0 <| wI rfl rfl nf nw (fun _ _ => OkV.ok (R1 := fun _ => True) ((z18 rfl rfl rfl uT23 rfl rfl trivial))) <| wO 6 kR0 ?_
   refine wI rfl rfl nf (nOl rfl) (fun _ _ => aPp rfl rfl rfl rfl (by rfl) sI0 uT23 tB51 dC0 (fun el hel => by rw [List.mem_singleton.1 hel]; rfl) (z1s _ _ _ _ _) (by simp [maxLen, z03]) (by simp [z03])) ?_
   refine wR 1 [7] kR0 h30 <| smR 1 rfl <| nR <| wO 8 kR0 <| wI rfl rfl nf (nOl rfl) (fun _ _ => sBx rfl rfl rfl rfl sI0 tS23 (⟨_, _, rfl, rfl⟩) (lb rfl)) <| wDn kR0 <| tQ <| Tr.freezeCell (k := 1040) (k2 := 104) (j := 1) (n := 2) rfl rfl rfl rfl dC0 <| tG <| cV rfl (lBP rfl rfl rfl uT25 rfl tS25 (lb rfl) rfl trivial) <| c0 (sBA rfl rfl rfl rfl rfl ((fun h => h)) tS25 (flk rfl) (lb rfl)) <| nL ?_
   refine tRt <| rCk (.inl rfl) (fun _ _ ho => lBP ho rfl rfl uT25 rfl tS25 (lb rfl) rfl trivial) rfl nPo
  refine wI rfl rfl nf nw (fun _ _ => bSl rfl rfl uT23 tZ51 tS51 rfl rfl rfl rfl (fbk rfl) rfl) <| wO 1 kR0 <| wI rfl rfl nf nw (fun _ _ => OkV.ok (R1 := fun _ => True) ((z18 rfl rfl rfl uT23 rfl rfl trivial))) <| wO 5 kR0 ?_
  refine wI rfl rfl nf (nOl rfl) (fun _ _ => aPp rfl rfl rfl rfl (by rfl) sI0 uT23 tB51 dC0 (fun el hel => by rw [List.mem_singleton.1 hel]; rfl) (z1s _ _ _ _ _) (by simp [maxLen, z03]) (by simp [z03])) ?_
  refine wR 1 [6] kR0 h30 <| smR 1 rfl <| nR <| wO 7 kR0 <| wI rfl rfl nf (nOl rfl) (fun _ _ => sBx rfl rfl rfl rfl sI0 tS23 (⟨_, _, rfl, rfl⟩) (lb rfl)) <| wDn kR0 <| tQ <| tDr z1a (fun k => k ∈ ([] : List Nat)) <| wR 7 [0, 2] kR0 h30 <| smR 2 rfl <| nR <| WA.all (rs := [1, 3]) kR0 sI0 ?_
  refine fmc ⟨?_, fmc ⟨?_, by simp⟩⟩
  ·refine wI rfl rfl nf nw (fun _ _ => OkV.ok (R1 := fun _ => True) ((z18 rfl rfl rfl uT23 rfl rfl trivial))) <| wO 3 kR0 <| wI rfl rfl nf nw (fun _ _ => bSl rfl rfl uT35 tZ3 tS3 rfl rfl rfl rfl (fbk rfl) rfl) <| wO 4 kR0 <| wI rfl rfl nf (nAp rfl) (fun _ _ => ocr (z4e l z2t [1, 2] sI0 (z22 l z0f [] ⟨0, [], 0⟩).2 oM0 (ints (z22 l z0f [] ⟨0, [], 0⟩).2.types)) zf1 rfl (po1 rfl) rfl nl rfl rfl) <| wO 5 kR0 <| wI rfl rfl nf nw (fun _ _ => bSl rfl rfl uT23 tZ51 tS51 rfl rfl rfl rfl (fbk rfl) rfl) <| wO 6 kR0 ?_
   refine wI rfl rfl nf (nOl rfl) (fun _ _ => aPp rfl rfl rfl rfl (by rfl) sI0 uT23 tB51 dC0 (fun el hel => by rw [List.mem_singleton.1 hel]; rfl) (z1s _ _ _ _ _) (by simp [maxLen, z03]) (by simp [z03])) ?_
   refine wR 1 [7] kR0 h30 <| smR 1 rfl <| nR <| wO 8 kR0 <| wI rfl rfl nf (nOl rfl) (fun _ _ => sBx rfl rfl rfl rfl sI0 tS23 (⟨_, _, rfl, rfl⟩) (lb rfl)) <| wDn kR0 <| tQ <| Tr.freezeCell (k := 1040) (k2 := 104) (j := 1) (n := 2) rfl rfl rfl rfl dC0 <| tG <| cV rfl (lBP rfl rfl rfl uT25 rfl tS25 (lb rfl) rfl trivial) <| c0 (sBA rfl rfl rfl rfl rfl ((fun h => h)) tS25 (flk rfl) (lb rfl)) <| nL ?_
   refine tRt <| rCk (.inl rfl) (fun _ _ ho => lBP ho rfl rfl uT25 rfl tS25 (lb rfl) rfl trivial) rfl nPo
  refine wI rfl rfl nf nw (fun _ _ => bSl rfl rfl uT35 tZ3 tS3 rfl rfl rfl rfl (fbk rfl) rfl) <| WA.all (rs := [1, 4]) kR0 sI0 ?_
  refine fmc ⟨?_, fmc ⟨?_, by simp⟩⟩
  ·refine wI rfl rfl nf nw (fun _ _ => OkV.ok (R1 := fun _ => True) ((z18 rfl rfl rfl uT23 rfl rfl trivial))) <| wO 4 kR0 <| wI rfl rfl nf (nAp rfl) (fun _ _ => ocr (z4e l z2t [1, 2] sI0 (z22 l z0f [] ⟨0, [], 0⟩).2 oM0 (ints (z22 l z0f [] ⟨0, [], 0⟩).2.types)) zf1 rfl (po1 rfl) rfl nl rfl rfl) <| wO 5 kR0 <| wI rfl rfl nf nw (fun _ _ => bSl rfl rfl uT23 tZ51 tS51 rfl rfl rfl rfl (fbk rfl) rfl) <| wO 6 kR0 ?_
   refine wI rfl rfl nf (nOl rfl) (fun _ _ => aPp rfl rfl rfl rfl (by rfl) sI0 uT23 tB51 dC0 (fun el hel => by rw [List.mem_singleton.1 hel]; rfl) (z1s _ _ _ _ _) (by simp [maxLen, z03]) (by simp [z03])) ?_
   refine wR 1 [7] kR0 h30 <| smR 1 rfl <| nR <| wO 8 kR0 <| wI rfl rfl nf (nOl rfl) (fun _ _ => sBx rfl rfl rfl rfl sI0 tS23 (⟨_, _, rfl, rfl⟩) (lb rfl)) <| wDn kR0 <| tQ <| Tr.freezeCell (k := 1040) (k2 := 104) (j := 1) (n := 2) rfl rfl rfl rfl dC0 <| tG <| cV rfl (lBP rfl rfl rfl uT25 rfl tS25 (lb rfl) rfl trivial) <| c0 (sBA rfl rfl rfl rfl rfl ((fun h => h)) tS25 (flk rfl) (lb rfl)) <| nL ?_
   refine tRt <| rCk (.inl rfl) (fun _ _ ho => lBP ho rfl rfl uT25 rfl tS25 (lb rfl) rfl trivial) rfl nPo
  refine wI rfl rfl nf (nAp rfl) (fun _ _ => ocr (z4e l z2t [1, 2] sI0 (z22 l z0f [] ⟨0, [], 0⟩).2 oM0 (ints (z22 l z0f [] ⟨0, [], 0⟩).2.types)) zf1 rfl (po1 rfl) rfl nl rfl rfl) <| WA.all (rs := [1, 5]) kR0 sI0 ?_
  refine fmc ⟨?_, fmc ⟨?_, by simp⟩⟩
  ·refine wI rfl rfl nf nw (fun _ _ => OkV.ok (R1 := fun _ => True) ((z18 rfl rfl rfl uT23 rfl rfl trivial))) <| wO 5 kR0 <| wI rfl rfl nf nw (fun _ _ => bSl rfl rfl uT23 tZ51 tS51 rfl rfl rfl rfl (fbk rfl) rfl) <| wO 6 kR0 ?_
   refine wI rfl rfl nf (nOl rfl) (fun _ _ => aPp rfl rfl rfl rfl (by rfl) sI0 uT23 tB51 dC0 (fun el hel => by rw [List.mem_singleton.1 hel]; rfl) (z1s _ _ _ _ _) (by simp [maxLen, z03]) (by simp [z03])) ?_
   refine wR 1 [7] kR0 h30 <| smR 1 rfl <| nR <| wO 8 kR0 <| wI rfl rfl nf (nOl rfl) (fun _ _ => sBx rfl rfl rfl rfl sI0 tS23 (⟨_, _, rfl, rfl⟩) (lb rfl)) <| wDn kR0 <| tQ <| Tr.freezeCell (k := 1040) (k2 := 104) (j := 1) (n := 2) rfl rfl rfl rfl dC0 <| tG <| cV rfl (lBP rfl rfl rfl uT25 rfl tS25 (lb rfl) rfl trivial) <| c0 (sBA rfl rfl rfl rfl rfl ((fun h => h)) tS25 (flk rfl) (lb rfl)) <| nL ?_
   refine tRt <| rCk (.inl rfl) (fun _ _ ho => lBP ho rfl rfl uT25 rfl tS25 (lb rfl) rfl trivial) rfl nPo
  refine wI rfl rfl nf nw (fun _ _ => bSl rfl rfl uT23 tZ51 tS51 rfl rfl rfl rfl (fbk rfl) rfl) <| wO 1 kR0 <| wI rfl rfl nf nw (fun _ _ => OkV.ok (R1 := fun _ => True) ((z18 rfl rfl rfl uT23 rfl rfl trivial))) <| wO 6 kR0 ?_
  refine wI rfl rfl nf (nOl rfl) (fun _ _ => aPp rfl rfl rfl rfl (by rfl) sI0 uT23 tB51 dC0 (fun el hel => by rw [List.mem_singleton.1 hel]; rfl) (z1s _ _ _ _ _) (by simp [maxLen, z03]) (by simp [z03])) ?_
  refine wR 1 [7] kR0 h30 <| smR 1 rfl <| nR <| wO 8 kR0 <| wI rfl rfl nf (nOl rfl) (fun _ _ => sBx rfl rfl rfl rfl sI0 tS23 (⟨_, _, rfl, rfl⟩) (lb rfl)) <| wDn kR0 <| tQ <| Tr.freezeCell (k := 1040) (k2 := 104) (j := 1) (n := 2) rfl rfl rfl rfl dC0 <| tG <| cV rfl (lBP rfl rfl rfl uT25 rfl tS25 (lb rfl) rfl trivial) <| c0 (sBA rfl rfl rfl rfl rfl ((fun h => h)) tS25 (flk rfl) (lb rfl)) <| nL ?_
  refine tRt <| rCk (.inl rfl) (fun _ _ ho => lBP ho rfl rfl uT25 rfl tS25 (lb rfl) rfl trivial) rfl nPo
theorem z1k (u : Un) (f : Fl) (set : List Bool) (l want : List Int) (hs : set.length = f.types.length) : SC Tryz.prog 97 [.ptr 3 0, .pv (ints l), .pv (ints want)] (ckHp u f 4 set) (fun k => k = 3) (iBool (z0p f.types set l want).1) (ckHp u f 4 (z0p f.types set l want).2) := by
  refine SC.of Tryz.func97 rfl (lb rfl) fun F ρ w => ?_
  refine Tr.lenOf (t := 1) rfl (fun hl => ?_)
  simp only [List.length_map] at hl
  refine Tr.lenOf (t := 2) rfl (fun hl3 => ?_)
  simp only [List.length_map] at hl3
  refine tQ <| tG <| sm 1 rfl <| nL <| tQ <| tQ <| tG <| sm 1 rfl <| cV rfl (oSm uT35 rfl) <| sm 1 rfl <| cV rfl (oSm uT35 rfl) <| sm 1 rfl ?_
  refine nL ?_
  refine tC rfl (fun hc12 => ?_) fun hc12 => ?_
  ·refine tQ <| tG <| sm 1 rfl <| nL <| tRt <| rOk rfl ?_ ?_
   ·have : ((l.length : Int) == want.length) = false := by simpa using hc12
    simp [z0p, this]
   have : ((l.length : Int) == want.length) = false := by simpa using hc12
   simp only [z0p, this]
   exact fun _ _ h => h
  have hlen : l.length = want.length := by simp at hc12; omega
  refine tSk <| tQ <| tQ <| tG <| sm 1 rfl <| nL <| tBk <| Tr.sub (Sub.of (fr' := [(7, iInt 0), (0, .ptr 3 0), (1, .pv (ints l)), (2, .pv (ints want))]) ⟨rfl, rfl, rfl, rfl, trivial⟩) ?_
  refine Tr.loop (fun fr σ m => ∃ (k : Nat) (st : List Bool), (k <= l.length) /\ (z1o f.types set l want = z1o f.types st (l.drop k) (want.drop k)) /\ (st.length = f.types.length) /\ fr = [(7, iInt k), (0, .ptr 3 0), (1, .pv (ints l)), (2, .pv (ints want))] /\ σ = look (up (ckHp u f 4 st)) /\ m = l.length - k) (n := l.length - 0) ?_ ?_
  ·exact ⟨0, set, Nat.zero_le _, rfl, hs, rfl, rfl, rfl⟩
  rintro fr σ m ⟨k, st, hI0, hI1, hI2, rfl, rfl, rfl⟩
  refine tQ <| tQ <| tG <| sm 2 rfl <| cV rfl (oSm uT35 rfl) <| sm 1 rfl <| nL ?_
  refine tC rfl (fun hc16 => ?_) fun hc16 => ?_
  ·have hlt : k < l.length := by simpa using hc16
   have hd := List.drop_eq_getElem_cons hlt
   have hm := List.getElem_mem hlt
   have hi := z0i (f := eInt) (List.getElem?_eq_getElem hlt)
   generalize l[k] = x at hd hm hi
   have hltw : k < want.length := by omega
   have hdw := List.drop_eq_getElem_cons hltw
   have hw := z0i (f := eInt) (List.getElem?_eq_getElem hltw)
   generalize want[k] = y at hdw hw
   refine tSk <| tQ <| tBk <| tQ <| tQ <| Tr.still z1a kR0 rfl <| smS 2 rfl <| sV rfl (iSq rfl rfl rfl uT35 hi tS3 rfl (by rfl)) <| smS 3 rfl ?_
   refine WS.split (t := 24) rfl (fun hb24 => ?_) (fun hb24 => ?_)
   ·refine smS 31 rfl <| WS.noU rfl rfl rfl rfl rfl rfl <| WS.noU rfl rfl rfl rfl rfl rfl <| WS.noU rfl rfl rfl rfl rfl rfl <| WS.noU rfl rfl rfl rfl rfl rfl <| WS.noU rfl rfl rfl rfl rfl rfl <| WS.noU rfl rfl rfl rfl rfl rfl <| WS.noU rfl rfl rfl rfl rfl rfl <| WS.noU rfl rfl rfl rfl rfl rfl <| WS.noU rfl rfl rfl rfl rfl rfl <| WS.noU rfl rfl rfl rfl rfl rfl <| WS.noU rfl rfl rfl rfl rfl rfl ?_
    refine WS.noU rfl rfl rfl rfl rfl rfl <| WS.noU rfl rfl rfl rfl rfl rfl <| WS.noU rfl rfl rfl rfl rfl rfl <| WS.noU rfl rfl rfl rfl rfl rfl <| WS.noU rfl rfl rfl rfl rfl rfl <| smS 2 rfl <| WS.nil <| Tr.condT rfl <| tQ <| tG <| sm 1 rfl <| nL ?_
    refine tRt ?_
    have hu : z79 f.types st x y = true := by (try clear hvx); simp_all [z79]
    have hsum : z0p f.types set l want = (false, st) := by simp [z0p, hlen, hI1, hd, hdw, z1o, hu]
    rw [hsum]
    exact rOk rfl rfl (fun _ _ h => h)
   refine smS 2 rfl <| syV rfl rfl (iSq rfl rfl rfl uT35 hi tS3 rfl (by rfl)) <| smS 2 rfl <| syV rfl rfl (nCk rfl rfl rfl) <| smS 3 rfl <| syV rfl rfl (oSm uT35 rfl) <| smS 3 rfl ?_
   refine WS.split (t := 37) rfl (fun hb37 => ?_) (fun hb37 => ?_)
   ·refine smS 18 rfl <| WS.noU rfl rfl rfl rfl rfl rfl <| WS.noU rfl rfl rfl rfl rfl rfl <| WS.noU rfl rfl rfl rfl rfl rfl <| WS.noU rfl rfl rfl rfl rfl rfl <| WS.noU rfl rfl rfl rfl rfl rfl <| WS.noU rfl rfl rfl rfl rfl rfl <| WS.noU rfl rfl rfl rfl rfl rfl <| WS.noU rfl rfl rfl rfl rfl rfl <| WS.noU rfl rfl rfl rfl rfl rfl <| WS.noU rfl rfl rfl rfl rfl rfl <| WS.noU rfl rfl rfl rfl rfl rfl ?_
    refine WS.noU rfl rfl rfl rfl rfl rfl <| WS.noU rfl rfl rfl rfl rfl rfl <| WS.noU rfl rfl rfl rfl rfl rfl <| WS.noU rfl rfl rfl rfl rfl rfl <| WS.noU rfl rfl rfl rfl rfl rfl <| smS 2 rfl <| WS.nil <| Tr.condT rfl <| tQ <| tG <| sm 1 rfl <| nL ?_
    refine tRt ?_
    have hu : z79 f.types st x y = true := by (try clear hvx); simp_all [z79]
    have hsum : z0p f.types set l want = (false, st) := by simp [z0p, hlen, hI1, hd, hdw, z1o, hu]
    rw [hsum]
    exact rOk rfl rfl (fun _ _ h => h)
   have hv0 : x.toNat < f.types.length := by simp at hb24 hb37; omega
   have hvx : x = ((x.toNat : Nat) : Int) := by simp at hb24; omega
   have hty : (f.types.map eInt)[x.toNat]? = some [vInt (f.types.getD x.toNat 0)] := by rw [List.getElem?_map]; simp [eInt, List.getD, hv0]
   have hst : (st.map zc4)[x.toNat]? = some [vBool (st.getD x.toNat false)] := by rw [List.getElem?_map]; simp [zc4, List.getD, hI2, hv0]
   have hstl : x.toNat < (st.map zc4).length := by simpa [hI2] using hv0
   refine smS 1 rfl <| syV rfl rfl (nCk rfl rfl rfl) <| smS 4 rfl <| syV rfl rfl (iSq rfl rfl rfl uT35 hi tS3 rfl (by rfl)) <| smS 1 rfl <| syV rfl rfl (iRw rfl rfl rfl rfl rfl Tryz.underlying87 tS4 (by assumption) oM0) <| syV rfl rfl (lRw rfl rfl rfl rfl (Nat.add_zero _).symm (by assumption) rfl Tryz.underlying4 rfl trivial) <| smS 2 rfl ?_
   refine WS.split (t := 49) rfl (fun hb49 => ?_) (fun hb49 => ?_)
   ·refine smS 6 rfl <| WS.noU rfl rfl rfl rfl rfl rfl <| WS.noU rfl rfl rfl rfl rfl rfl <| WS.noU rfl rfl rfl rfl rfl rfl <| WS.noU rfl rfl rfl rfl rfl rfl <| WS.noU rfl rfl rfl rfl rfl rfl <| WS.noU rfl rfl rfl rfl rfl rfl <| WS.noU rfl rfl rfl rfl rfl rfl <| WS.noU rfl rfl rfl rfl rfl rfl <| WS.noU rfl rfl rfl rfl rfl rfl <| WS.noU rfl rfl rfl rfl rfl rfl <| WS.noU rfl rfl rfl rfl rfl rfl ?_
    refine WS.noU rfl rfl rfl rfl rfl rfl <| WS.noU rfl rfl rfl rfl rfl rfl <| WS.noU rfl rfl rfl rfl rfl rfl <| WS.noU rfl rfl rfl rfl rfl rfl <| WS.noU rfl rfl rfl rfl rfl rfl <| smS 2 rfl <| WS.nil <| Tr.condT rfl <| tQ <| tG <| sm 1 rfl <| nL ?_
    refine tRt ?_
    have hu : z79 f.types st x y = true := by (try clear hvx); simp_all [z79]
    have hsum : z0p f.types set l want = (false, st) := by simp [z0p, hlen, hI1, hd, hdw, z1o, hu]
    rw [hsum]
    exact rOk rfl rfl (fun _ _ h => h)
   refine smS 2 rfl <| syV rfl rfl (iSq rfl rfl rfl uT35 hw tS3 rfl (by rfl)) <| smS 3 rfl ?_
   refine WS.split (t := 55) rfl (fun hb55 => ?_) (fun hb55 => ?_)
   ·refine smS 1 rfl <| syV rfl rfl (nCk rfl rfl rfl) <| smS 5 rfl <| syV rfl rfl (iSq rfl rfl rfl uT35 hi tS3 rfl (by rfl)) <| smS 1 rfl <| syV rfl rfl (iSq rfl rfl rfl uT35 hty tS3 rfl oM0) <| smS 3 rfl <| syV rfl rfl (iSq rfl rfl rfl uT35 hw tS3 rfl (by rfl)) <| smS 4 rfl <| WS.nil ?_
    refine tC rfl (fun hc73 => ?_) fun hc73 => ?_
    ·refine tQ <| tG <| sm 1 rfl <| nL <| tRt ?_
     have hu : z79 f.types st x y = true := by (try clear hvx); simp_all [z79]
     have hsum : z0p f.types set l want = (false, st) := by simp [z0p, hlen, hI1, hd, hdw, z1o, hu]
     rw [hsum]
     exact rOk rfl rfl (fun _ _ h => h)
    refine tSk <| tDr z1a (fun k => k ∈ ([3] : List Nat)) <| wR 1 [0, 1, 2, 3, 4, 5, 6, 7, 8] kR0 h30 <| smR 1 rfl <| rV rfl rfl (nCk rfl rfl rfl) <| smR 1 rfl <| rV rfl rfl (oLb Tryz.underlying87 rfl rfl rfl dC0) <| smR 2 rfl <| rV rfl rfl (iSq rfl rfl rfl uT35 hi tS3 rfl (by rfl)) <| smR 1 rfl <| rV rfl rfl (iRw rfl rfl rfl rfl rfl Tryz.underlying87 tS4 (by assumption) oM0) <| nR ?_
    refine wO 9 kR0 <| wI rfl rfl (fun k (h : _) => by (simp at h ⊢; omega)) (nOl rfl) (fun _ _ => z1y rfl rfl rfl rfl rfl (Nat.add_zero _).symm (by assumption) sI0 tS4 rfl sI0) <| wDn kR0 <| tG <| sm 1 rfl <| cV rfl (oB rfl rfl (z0b rfl oM0)) <| sm 1 rfl <| nL ?_
    refine ⟨_, _, ?_, Sub.of (fr' := [(7, iInt (k + 1)), (0, .ptr 3 0), (1, .pv (ints l)), (2, .pv (ints want))]) ⟨rfl, rfl, rfl, rfl, trivial⟩, (k + 1), (st.set x.toNat true), ?_, ?_, ?_, rfl, (funext y0v), rfl⟩
    ·omega
    ·omega
    ·rw [hI1, hd, hdw]
     have hu : z79 f.types st x y = false := by (try clear hvx); simp_all [z79]
     simp [z1o, hu]
    simpa using hI2
   refine smS 18 rfl <| WS.nil <| Tr.condF rfl <| tSk <| tDr z1a (fun k => k ∈ ([3] : List Nat)) <| wR 1 [0, 1, 2, 3, 4, 5, 6, 7, 8] kR0 h30 <| smR 1 rfl <| rV rfl rfl (nCk rfl rfl rfl) <| smR 1 rfl <| rV rfl rfl (oLb Tryz.underlying87 rfl rfl rfl dC0) <| smR 2 rfl <| rV rfl rfl (iSq rfl rfl rfl uT35 hi tS3 rfl (by rfl)) ?_
   refine smR 1 rfl <| rV rfl rfl (iRw rfl rfl rfl rfl rfl Tryz.underlying87 tS4 (by assumption) oM0) <| nR <| wO 9 kR0 <| wI rfl rfl (fun k (h : _) => by (simp at h ⊢; omega)) (nOl rfl) (fun _ _ => z1y rfl rfl rfl rfl rfl (Nat.add_zero _).symm (by assumption) sI0 tS4 rfl sI0) <| wDn kR0 <| tG <| sm 1 rfl <| cV rfl (oB rfl rfl (z0b rfl oM0)) <| sm 1 rfl <| nL ?_
   refine ⟨_, _, ?_, Sub.of (fr' := [(7, iInt (k + 1)), (0, .ptr 3 0), (1, .pv (ints l)), (2, .pv (ints want))]) ⟨rfl, rfl, rfl, rfl, trivial⟩, (k + 1), (st.set x.toNat true), ?_, ?_, ?_, rfl, (funext y0v), rfl⟩
   ·omega
   ·omega
   ·rw [hI1, hd, hdw]
    have hu : z79 f.types st x y = false := by (try clear hvx); simp_all [z79]
    simp [z1o, hu]
   simpa using hI2
  refine tEx <| tQ <| tG <| sm 1 rfl <| nL <| tRt ?_
  have hge : l.length <= k := by simpa using hc16
  have hsum : z0p f.types set l want = (true, st) := by simp [z0p, hlen, hI1, List.drop_eq_nil_of_le hge, z1o]
  rw [hsum]
  exact rOk rfl rfl (fun _ _ h => h)
theorem y2l (op : Int) : SC Tryz.prog 111 [iInt op] [] (fun _ => False) (iBool (z2h op)) [] := by
  refine SC.of Tryz.func111 rfl (lb rfl) fun F ρ w => ?_
  refine tQ <| tG <| sm 1 rfl <| nL <| tQ <| tG <| sm 3 rfl ?_
  refine wS 5 rfl (fun hb5 => ?_) fun hb5 => ?_
  ·refine sm 4 rfl <| nL <| tRt <| rOk rfl ?_ nPo
   first | (simp_all [z2h]; done) | (simp_all [z2h]; omega)
  refine sm 4 rfl <| nL <| tRt <| rOk rfl ?_ nPo
  first | (simp_all [z2h]; done) | (simp_all [z2h]; omega)
theorem y2m (op : Int) : SC Tryz.prog 112 [iInt op] [] (fun _ => False) (iBool (z2m op)) [] := by
  refine SC.of Tryz.func112 rfl (lb rfl) fun F ρ w => ?_
  refine tQ <| tG <| sm 1 rfl <| nL <| tQ <| tG <| sm 3 rfl ?_
  refine wS 5 rfl (fun hb5 => ?_) fun hb5 => ?_
  ·refine sm 4 rfl <| nL <| tRt <| rOk rfl ?_ nPo
   first | (simp_all [z2m]; done) | (simp_all [z2m]; omega)
  refine sm 4 rfl <| nL <| tRt <| rOk rfl ?_ nPo
  first | (simp_all [z2m]; done) | (simp_all [z2m]; omega)
theorem zc3 (op : Int) : SC Tryz.prog 110 [iInt op] [] (fun _ => False) (.tup [iInt (z08 op).1, iInt (z08 op).2]) [] := by
  refine SC.of Tryz.func110 rfl (lb rfl) fun F ρ w => ?_
  refine tQ <| tG <| sm 2 rfl <| nL <| tQ <| tBk <| tQ <| tG <| sm 3 rfl ?_
  refine wS 7 rfl (fun hb7 => ?_) fun hb7 => ?_
  ·refine sm 8 rfl <| nL <| Tr.condT rfl <| tQ <| tG <| sm 2 rfl <| nL <| tRt <| rOk rfl ?_ nPo
   first | (simp_all [z08]; done) | (simp_all [z08]; split <;> first | omega | (simp; done))
  refine sm 4 rfl ?_
  refine wS 11 rfl (fun hb11 => ?_) fun hb11 => ?_
  ·refine sm 4 rfl <| nL <| Tr.condT rfl <| tQ <| tG <| sm 2 rfl <| nL <| tRt <| rOk rfl ?_ nPo
   first | (simp_all [z08]; done) | (simp_all [z08]; split <;> first | omega | (simp; done))
  refine sm 4 rfl <| nL ?_
  refine tC rfl (fun hc4 => ?_) fun hc4 => ?_
  ·refine tQ <| tG <| sm 2 rfl <| nL <| tRt <| rOk rfl ?_ nPo
   first | (simp_all [z08]; done) | (simp_all [z08]; split <;> first | omega | (simp; done))
  refine tQ <| tG <| sm 3 rfl ?_
  refine wS 18 rfl (fun hb18 => ?_) fun hb18 => ?_
  ·refine sm 4 rfl <| nL <| Tr.condT rfl <| tQ <| tG <| sm 2 rfl <| nL <| tRt <| rOk rfl ?_ nPo
   first | (simp_all [z08]; done) | (simp_all [z08]; split <;> first | omega | (simp; done))
  refine sm 4 rfl <| nL ?_
  refine tC rfl (fun hc15 => ?_) fun hc15 => ?_
  ·refine tQ <| tG <| sm 2 rfl <| nL <| tRt <| rOk rfl ?_ nPo
   first | (simp_all [z08]; done) | (simp_all [z08]; split <;> first | omega | (simp; done))
  refine tQ <| tG <| sm 3 rfl ?_
  refine wS 25 rfl (fun hb25 => ?_) fun hb25 => ?_
  ·refine sm 4 rfl <| nL ?_
   refine tC rfl (fun hc22 => ?_) fun hc22 => ?_
   ·refine tQ <| tG <| sm 2 rfl <| nL <| tRt <| rOk rfl ?_ nPo
    first | (simp_all [z08]; done) | (simp_all [z08]; split <;> first | omega | (simp; done))
   refine tSk <| tQ <| tG <| sm 2 rfl <| nL <| tRt <| rOk rfl ?_ nPo
   first | (simp_all [z08]; done) | (simp_all [z08]; split <;> first | omega | (simp; done))
  refine sm 4 rfl <| nL <| Tr.condF rfl <| tSk <| tQ <| tG <| sm 2 rfl <| nL <| tRt <| rOk rfl ?_ nPo
  first | (simp_all [z08]; done) | (simp_all [z08]; split <;> first | omega | (simp; done))
theorem z68 (u : Un) (f : Fl) (set : List Bool) (l : List Int) (hb : l.length <= 1073741824) : SC Tryz.prog 95 [.ptr 3 0, .pv (ints l)] (ckHp u f 4 set) (fun k => k < 100) (.pv (ints (r8of f.types l))) (ckHp u f 4 set) := by
  refine SC.of Tryz.func95 rfl (lb rfl) fun F ρ w => ?_
  refine Tr.lenOf (t := 1) rfl (fun hl => ?_)
  simp only [List.length_map] at hl
  rw [y4w]
  refine tQ <| tG <| sm 1 rfl <| nL <| tQ <| tG <| sm 1 rfl <| nL <| tQ <| tQ <| tG <| sm 1 rfl ?_
  refine nL <| tBk <| Tr.grow (t := 5) (k := 105) ⟨3, 1⟩ rfl rfl rfl rfl rfl <| Tr.sub (Sub.of (fr' := [(6, iInt 0), (5, .sl 105 0), (0, .ptr 3 0), (1, .pv (ints l))]) ⟨rfl, rfl, rfl, rfl, trivial⟩) ?_
  refine Tr.loop (fun fr σ m => ∃ (k : Nat) (st : List Int), (k <= l.length) /\ (st.length = k) /\ (z60 f.types [] l = z60 f.types st (l.drop k)) /\ fr = [(6, iInt k), (5, .sl 105 k), (0, .ptr 3 0), (1, .pv (ints l))] /\ σ = look ((105, some (.row ⟨3, 1⟩ (st.map eInt))) :: up (ckHp u f 4 set)) /\ m = l.length - k) (n := l.length - 0) ?_ ?_
  ·exact ⟨0, [], Nat.zero_le _, rfl, rfl, rfl, rfl, rfl⟩
  rintro fr σ m ⟨k, st, hI0, hI1, hI2, rfl, rfl, rfl⟩
  refine tQ <| tQ <| tG <| sm 2 rfl <| cV rfl (oSm uT35 rfl) <| sm 1 rfl <| nL ?_
  refine tC rfl (fun hc10 => ?_) fun hc10 => ?_
  ·have hlt : k < l.length := by simpa using hc10
   have hd := List.drop_eq_getElem_cons hlt
   have hm := List.getElem_mem hlt
   have hi := z0i (f := eInt) (List.getElem?_eq_getElem hlt)
   generalize l[k] = x at hd hm hi
   refine tSk <| tQ <| tBk <| tQ <| tQ <| Tr.still z1a kR0 rfl <| smS 2 rfl <| sV rfl (iSq rfl rfl rfl uT35 hi tS3 rfl (by rfl)) <| smS 3 rfl ?_
   refine WS.split (t := 18) rfl (fun hb18 => ?_) (fun hb18 => ?_)
   ·refine smS 12 rfl <| WS.nil <| Tr.condT rfl <| tQ <| tG <| sm 1 rfl <| nL <| tRt ?_
    have hin : z6t f.types x = false := by simp [z6t] at *; omega
    rw [hI2, hd]
    simp only [z60, hin]
    exact ⟨⟨_, rfl, fun _ _ _ _ h => z41 h⟩, (po2 rfl rfl)⟩
   refine smS 2 rfl <| syV rfl rfl (iSq rfl rfl rfl uT35 hi tS3 rfl (by rfl)) <| smS 2 rfl <| syV rfl rfl (nCk rfl rfl rfl) <| smS 3 rfl <| syV rfl rfl (oSm uT35 rfl) <| smS 2 rfl <| WS.nil ?_
   refine tC rfl (fun hc30 => ?_) fun hc30 => ?_
   ·refine tQ <| tG <| sm 1 rfl <| nL <| tRt ?_
    have hin : z6t f.types x = false := by simp [z6t] at *; omega
    rw [hI2, hd]
    simp only [z60, hin]
    exact ⟨⟨_, rfl, fun _ _ _ _ h => z41 h⟩, (po2 rfl rfl)⟩
   have hv0 : x.toNat < f.types.length := by simp at *; omega
   have hvx : x = ((x.toNat : Nat) : Int) := by simp at *; omega
   have hin : z6t f.types x = true := by simp [z6t]; omega
   have hty : (f.types.map eInt)[x.toNat]? = some [vInt (f.types.getD x.toNat 0)] := by rw [List.getElem?_map]; simp [eInt, List.getD, hv0]
   refine tSk <| tDr z1a (fun k => k < 100) <| wR 3 [0, 1, 2, 3, 4, 5, 6, 7, 8, 9, 10, 11] kR0 h30 <| smR 2 rfl <| rV rfl rfl (nCk rfl rfl rfl) <| smR 2 rfl <| rV rfl rfl (oLb uT35 rfl rfl rfl dC0) <| smR 2 rfl <| rV rfl rfl (iSq rfl rfl rfl uT35 (by assumption) tS3 rfl (by rfl)) <| smR 1 rfl <| rV rfl rfl (iSq rfl rfl rfl uT35 hty tS3 rfl oM0) <| smR 1 rfl ?_
   refine nR <| wO 12 kR0 <| wI rfl rfl (fun k (h : _) => h) nw (fun _ _ => bSl rfl rfl uT35 tZ3 tS3 rfl rfl rfl rfl (fbk rfl) rfl) <| wO 13 kR0 ?_
   refine wI rfl rfl (fun k (h : _) => h) (nOl rfl) (fun _ _ => aPp rfl rfl rfl rfl (by (simp; omega)) sI0 uT35 tB3 dC0 (by simp [z03]) (by (simp [z03, PV.one]; rfl)) (by simp [maxLen, z03]; omega) (by simp [z03]; omega)) ?_
   refine wR 0 [14] kR0 h30 <| smR 1 rfl <| nR <| wDn kR0 <| tG <| sm 1 rfl <| cV rfl (oB rfl rfl (z0b rfl oM0)) <| sm 1 rfl <| nL ?_
   refine ⟨_, _, ?_, Sub.of (fr' := [(6, iInt (k + 1)), (5, .sl 105 (k + 1)), (0, .ptr 3 0), (1, .pv (ints l))]) ⟨rfl, rfl, rfl, rfl, trivial⟩, (k + 1), (st ++ [f.types.getD x.toNat 0]), ?_, ?_, ?_, rfl, zo6, rfl⟩
   ·omega
   ·omega
   ·simp [hI1]
   rw [hI2, hd]
   simp [z60, hin]
  refine tEx <| tQ ?_
  refine Tr.freeze (t := 5) (k := 105) rfl rfl (by simpa using hI1) ?_
  refine tG <| sm 2 rfl <| nL <| tRt <| rOk rfl ?_ (po2 rfl rfl)
  have hge : l.length <= k := by simpa using hc10
  rw [hI2, List.drop_eq_nil_of_le hge]
  rfl
end Go.Proofs.YthbcibeddfacbaaGreat
