/- PART 3 of 6 of a proof: see the last part. -/
import Derived.Test.YtfaeemilgahcpaaGreatHb2
set_option linter.unusedSimpArgs false
set_option linter.unusedVariables false
namespace Go.Proofs.YtfaeemilgahcpaaGreat
open Go
set_option maxRecDepth 8000 in
set_option maxHeartbeats 2000000 in
theorem sc_r2letter (n : Int) : SC Tryz.prog 69 [.pv (vU8 n)] [] (fun _ => False) (iBool (isLetter n)) [] := by
  refine SC.of Tryz.func69 rfl (lb rfl) fun F ρ w => ?_
  refine Tr.seq <| Tr.region rfl <| cV rfl (oA rfl) <| WL.nil <| Tr.seq <| Tr.region rfl <| cV rfl (oM rfl) <| cV rfl (oB rfl rfl rfl) <| cV rfl (oM rfl) ?_
  refine WL.split (t := 5) rfl (fun hb5 => ?_) (fun hb5 => ?_)
  · refine yV rfl rfl (oM rfl) <| yV rfl rfl (oB rfl rfl rfl) <| cV rfl (oT rfl rfl) <| cV rfl (oM rfl) ?_
    refine WL.split (t := 9) rfl (fun hb9 => ?_) (fun hb9 => ?_)
    · refine nV rfl rfl <| nV rfl rfl <| nV rfl rfl <| WL.noU rfl rfl rfl rfl rfl rfl <| WL.noU rfl rfl rfl rfl rfl rfl <| nV rfl rfl <| cV rfl (oT rfl rfl) <| cV rfl (oM rfl) <| nV rfl rfl <| nV rfl rfl <| cV rfl (oT rfl rfl) <| cV rfl (oA rfl) ?_
      refine WL.nil <| Tr.ret ?_
      refine ret_ok rfl ?_ no_post
      unfold isLetter
      first | (simp_all; done) | (simp_all <;> omega)
    refine yV rfl rfl (oM rfl) <| yV rfl rfl (oB rfl rfl rfl) <| yV rfl rfl (oM rfl) ?_
    refine WL.split (t := 12) rfl (fun hb12 => ?_) (fun hb12 => ?_)
    · refine yV rfl rfl (oM rfl) <| yV rfl rfl (oB rfl rfl rfl) <| yV rfl rfl (oT rfl rfl) <| cV rfl (oF rfl rfl) <| cV rfl (oM rfl) ?_
      refine WL.split (t := 17) rfl (fun hb17 => ?_) (fun hb17 => ?_)
      · refine nV rfl rfl <| nV rfl rfl <| cV rfl (oT rfl rfl) <| cV rfl (oA rfl) <| WL.nil <| Tr.ret ?_
        refine ret_ok rfl ?_ no_post
        unfold isLetter
        first | (simp_all; done) | (simp_all <;> omega)
      refine yV rfl rfl (oM rfl) <| yV rfl rfl (oB rfl rfl rfl) <| cV rfl (oF rfl rfl) <| cV rfl (oA rfl) <| WL.nil <| Tr.ret ?_
      refine ret_ok rfl ?_ no_post
      unfold isLetter
      first | (simp_all; done) | (simp_all <;> omega)
    refine nV rfl rfl <| nV rfl rfl <| yV rfl rfl (oF rfl rfl) <| cV rfl (oF rfl rfl) <| cV rfl (oM rfl) <| yV rfl rfl (oM rfl) <| yV rfl rfl (oB rfl rfl rfl) <| cV rfl (oF rfl rfl) <| cV rfl (oA rfl) <| WL.nil <| Tr.ret ?_
    refine ret_ok rfl ?_ no_post
    unfold isLetter
    first | (simp_all; done) | (simp_all <;> omega)
  refine nV rfl rfl <| nV rfl rfl <| cV rfl (oF rfl rfl) <| cV rfl (oM rfl) <| yV rfl rfl (oM rfl) <| yV rfl rfl (oB rfl rfl rfl) <| yV rfl rfl (oM rfl) ?_
  refine WL.split (t := 12) rfl (fun hb12 => ?_) (fun hb12 => ?_)
  · refine yV rfl rfl (oM rfl) <| yV rfl rfl (oB rfl rfl rfl) <| yV rfl rfl (oT rfl rfl) <| cV rfl (oF rfl rfl) <| cV rfl (oM rfl) ?_
    refine WL.split (t := 17) rfl (fun hb17 => ?_) (fun hb17 => ?_)
    · refine nV rfl rfl <| nV rfl rfl <| cV rfl (oT rfl rfl) <| cV rfl (oA rfl) <| WL.nil <| Tr.ret ?_
      refine ret_ok rfl ?_ no_post
      unfold isLetter
      first | (simp_all; done) | (simp_all <;> omega)
    refine yV rfl rfl (oM rfl) <| yV rfl rfl (oB rfl rfl rfl) <| cV rfl (oF rfl rfl) <| cV rfl (oA rfl) <| WL.nil <| Tr.ret ?_
    refine ret_ok rfl ?_ no_post
    unfold isLetter
    first | (simp_all; done) | (simp_all <;> omega)
  refine nV rfl rfl <| nV rfl rfl <| yV rfl rfl (oF rfl rfl) <| cV rfl (oF rfl rfl) <| cV rfl (oM rfl) <| yV rfl rfl (oM rfl) <| yV rfl rfl (oB rfl rfl rfl) <| cV rfl (oF rfl rfl) <| cV rfl (oA rfl) <| WL.nil <| Tr.ret ?_
  refine ret_ok rfl ?_ no_post
  unfold isLetter
  first | (simp_all; done) | (simp_all <;> omega)
set_option maxRecDepth 8000 in
set_option maxHeartbeats 2000000 in
theorem sc_r2digit (n : Int) : SC Tryz.prog 71 [.pv (vU8 n)] [] (fun _ => False) (iBool (isDigit n)) [] := by
  refine SC.of Tryz.func71 rfl (lb rfl) fun F ρ w => ?_
  refine Tr.seq <| Tr.region rfl <| cV rfl (oA rfl) <| WL.nil <| Tr.seq <| Tr.region rfl <| cV rfl (oM rfl) <| cV rfl (oB rfl rfl rfl) <| cV rfl (oM rfl) ?_
  refine WL.split (t := 5) rfl (fun hb5 => ?_) (fun hb5 => ?_)
  · refine yV rfl rfl (oM rfl) <| yV rfl rfl (oB rfl rfl rfl) <| cV rfl (oT rfl rfl) <| cV rfl (oA rfl) <| WL.nil <| Tr.ret ?_
    refine ret_ok rfl ?_ no_post
    unfold isDigit
    first | (simp_all; done) | (simp_all <;> omega)
  refine nV rfl rfl <| nV rfl rfl <| cV rfl (oF rfl rfl) <| cV rfl (oA rfl) <| WL.nil <| Tr.ret ?_
  refine ret_ok rfl ?_ no_post
  unfold isDigit
  first | (simp_all; done) | (simp_all <;> omega)
set_option maxRecDepth 8000 in
set_option maxHeartbeats 2000000 in
theorem sc_r2Word (s : ByteArray) : SC Tryz.prog 70 [iStr s] [] (fun _ => False) (iBool (isWord s)) [] := by
  refine SC.of Tryz.func70 rfl (lb rfl) fun F ρ w => ?_
  refine Tr.seq <| Tr.region rfl <| cV rfl (oA rfl) <| WL.nil <| Tr.seq <| Tr.seq <| Tr.region rfl <| cV rfl (oM rfl) <| WL.nil <| Tr.block <| Tr.seq <| Tr.seq ?_
  refine Tr.region rfl <| cV rfl (ok_bin_str rfl rfl rfl rfl) <| cV rfl (oA rfl) <| WL.nil ?_
  refine Tr.cond rfl (fun hc4 => ?_) (fun hc4 => ?_)
  · refine Tr.skip ?_
    refine Tr.cond rfl (fun hc4 => ?_) (fun hc4 => ?_)
    · refine Tr.seq <| Tr.region rfl <| cV rfl (oA rfl) <| WL.nil <| Tr.ret ?_
      refine ret_ok rfl ?_ no_post
      refine congrArg (fun b => iBool b) ?_
      simp_all [isWord]
    refine Tr.skip <| Tr.seq <| Tr.region rfl <| cV rfl (oA rfl) <| WL.nil <| Tr.ret ?_
    refine ret_ok rfl ?_ no_post
    refine congrArg (fun b => iBool b) ?_
    simp_all [isWord]
  refine Tr.seq <| Tr.region rfl <| cV rfl (ok_bin_str rfl rfl rfl rfl) <| cV rfl (oA rfl) <| WL.nil ?_
  refine Tr.cond rfl (fun hc4 => ?_) (fun hc4 => ?_)
  · refine Tr.skip ?_
    refine Tr.cond rfl (fun hc4 => ?_) (fun hc4 => ?_)
    · refine Tr.seq <| Tr.region rfl <| cV rfl (oA rfl) <| WL.nil <| Tr.ret ?_
      refine ret_ok rfl ?_ no_post
      refine congrArg (fun b => iBool b) ?_
      simp_all [isWord]
    refine Tr.skip <| Tr.seq <| Tr.region rfl <| cV rfl (oA rfl) <| WL.nil <| Tr.ret ?_
    refine ret_ok rfl ?_ no_post
    refine congrArg (fun b => iBool b) ?_
    simp_all [isWord]
  refine Tr.seq <| Tr.region rfl <| cV rfl (ok_bin_str rfl rfl rfl rfl) <| cV rfl (oA rfl) <| WL.nil ?_
  refine Tr.cond rfl (fun hc4 => ?_) (fun hc4 => ?_)
  · refine Tr.skip ?_
    refine Tr.cond rfl (fun hc4 => ?_) (fun hc4 => ?_)
    · refine Tr.seq <| Tr.region rfl <| cV rfl (oA rfl) <| WL.nil <| Tr.ret ?_
      refine ret_ok rfl ?_ no_post
      refine congrArg (fun b => iBool b) ?_
      simp_all [isWord]
    refine Tr.skip <| Tr.seq <| Tr.region rfl <| cV rfl (oA rfl) <| WL.nil <| Tr.ret ?_
    refine ret_ok rfl ?_ no_post
    refine congrArg (fun b => iBool b) ?_
    simp_all [isWord]
  refine Tr.seq <| Tr.region rfl <| cV rfl (ok_bin_str rfl rfl rfl rfl) <| cV rfl (oA rfl) <| WL.nil ?_
  refine Tr.cond rfl (fun hc4 => ?_) (fun hc4 => ?_)
  · refine Tr.skip ?_
    refine Tr.cond rfl (fun hc4 => ?_) (fun hc4 => ?_)
    · refine Tr.seq <| Tr.region rfl <| cV rfl (oA rfl) <| WL.nil <| Tr.ret ?_
      refine ret_ok rfl ?_ no_post
      refine congrArg (fun b => iBool b) ?_
      simp_all [isWord]
    refine Tr.skip <| Tr.seq <| Tr.region rfl <| cV rfl (oA rfl) <| WL.nil <| Tr.ret ?_
    refine ret_ok rfl ?_ no_post
    refine congrArg (fun b => iBool b) ?_
    simp_all [isWord]
  refine Tr.seq <| Tr.region rfl <| cV rfl (ok_bin_str rfl rfl rfl rfl) <| cV rfl (oA rfl) <| WL.nil ?_
  refine Tr.cond rfl (fun hc4 => ?_) (fun hc4 => ?_)
  · refine Tr.skip ?_
    refine Tr.cond rfl (fun hc4 => ?_) (fun hc4 => ?_)
    · refine Tr.seq <| Tr.region rfl <| cV rfl (oA rfl) <| WL.nil <| Tr.ret ?_
      refine ret_ok rfl ?_ no_post
      refine congrArg (fun b => iBool b) ?_
      simp_all [isWord]
    refine Tr.skip <| Tr.seq <| Tr.region rfl <| cV rfl (oA rfl) <| WL.nil <| Tr.ret ?_
    refine ret_ok rfl ?_ no_post
    refine congrArg (fun b => iBool b) ?_
    simp_all [isWord]
  refine Tr.seq <| Tr.region rfl <| cV rfl (ok_bin_str rfl rfl rfl rfl) <| cV rfl (oA rfl) <| WL.nil ?_
  refine Tr.cond rfl (fun hc4 => ?_) (fun hc4 => ?_)
  · refine Tr.skip ?_
    refine Tr.cond rfl (fun hc4 => ?_) (fun hc4 => ?_)
    · refine Tr.seq <| Tr.region rfl <| cV rfl (oA rfl) <| WL.nil <| Tr.ret ?_
      refine ret_ok rfl ?_ no_post
      refine congrArg (fun b => iBool b) ?_
      simp_all [isWord]
    refine Tr.skip <| Tr.seq <| Tr.region rfl <| cV rfl (oA rfl) <| WL.nil <| Tr.ret ?_
    refine ret_ok rfl ?_ no_post
    refine congrArg (fun b => iBool b) ?_
    simp_all [isWord]
  refine Tr.seq <| Tr.region rfl <| cV rfl (ok_bin_str rfl rfl rfl rfl) <| cV rfl (oA rfl) <| WL.nil ?_
  refine Tr.cond rfl (fun hc4 => ?_) (fun hc4 => ?_)
  · refine Tr.skip ?_
    refine Tr.cond rfl (fun hc4 => ?_) (fun hc4 => ?_)
    · refine Tr.seq <| Tr.region rfl <| cV rfl (oA rfl) <| WL.nil <| Tr.ret ?_
      refine ret_ok rfl ?_ no_post
      refine congrArg (fun b => iBool b) ?_
      simp_all [isWord]
    refine Tr.skip <| Tr.seq <| Tr.region rfl <| cV rfl (oA rfl) <| WL.nil <| Tr.ret ?_
    refine ret_ok rfl ?_ no_post
    refine congrArg (fun b => iBool b) ?_
    simp_all [isWord]
  refine Tr.seq <| Tr.region rfl <| cV rfl (ok_bin_str rfl rfl rfl rfl) <| cV rfl (oA rfl) <| WL.nil ?_
  refine Tr.cond rfl (fun hc4 => ?_) (fun hc4 => ?_)
  · refine Tr.skip ?_
    refine Tr.cond rfl (fun hc4 => ?_) (fun hc4 => ?_)
    · refine Tr.seq <| Tr.region rfl <| cV rfl (oA rfl) <| WL.nil <| Tr.ret ?_
      refine ret_ok rfl ?_ no_post
      refine congrArg (fun b => iBool b) ?_
      simp_all [isWord]
    refine Tr.skip <| Tr.seq <| Tr.region rfl <| cV rfl (oA rfl) <| WL.nil <| Tr.ret ?_
    refine ret_ok rfl ?_ no_post
    refine congrArg (fun b => iBool b) ?_
    simp_all [isWord]
  refine Tr.seq <| Tr.region rfl <| cV rfl (ok_bin_str rfl rfl rfl rfl) <| cV rfl (oA rfl) <| WL.nil ?_
  refine Tr.cond rfl (fun hc4 => ?_) (fun hc4 => ?_)
  · refine Tr.skip ?_
    refine Tr.cond rfl (fun hc4 => ?_) (fun hc4 => ?_)
    · refine Tr.seq <| Tr.region rfl <| cV rfl (oA rfl) <| WL.nil <| Tr.ret ?_
      refine ret_ok rfl ?_ no_post
      refine congrArg (fun b => iBool b) ?_
      simp_all [isWord]
    refine Tr.skip <| Tr.seq <| Tr.region rfl <| cV rfl (oA rfl) <| WL.nil <| Tr.ret ?_
    refine ret_ok rfl ?_ no_post
    refine congrArg (fun b => iBool b) ?_
    simp_all [isWord]
  refine Tr.seq <| Tr.region rfl <| cV rfl (ok_bin_str rfl rfl rfl rfl) <| cV rfl (oA rfl) <| WL.nil ?_
  refine Tr.cond rfl (fun hc4 => ?_) (fun hc4 => ?_)
  · refine Tr.skip ?_
    refine Tr.cond rfl (fun hc4 => ?_) (fun hc4 => ?_)
    · refine Tr.seq <| Tr.region rfl <| cV rfl (oA rfl) <| WL.nil <| Tr.ret ?_
      refine ret_ok rfl ?_ no_post
      refine congrArg (fun b => iBool b) ?_
      simp_all [isWord]
    refine Tr.skip <| Tr.seq <| Tr.region rfl <| cV rfl (oA rfl) <| WL.nil <| Tr.ret ?_
    refine ret_ok rfl ?_ no_post
    refine congrArg (fun b => iBool b) ?_
    simp_all [isWord]
  refine Tr.seq <| Tr.region rfl <| cV rfl (ok_bin_str rfl rfl rfl rfl) <| cV rfl (oA rfl) <| WL.nil ?_
  refine Tr.cond rfl (fun hc4 => ?_) (fun hc4 => ?_)
  · refine Tr.skip ?_
    refine Tr.cond rfl (fun hc4 => ?_) (fun hc4 => ?_)
    · refine Tr.seq <| Tr.region rfl <| cV rfl (oA rfl) <| WL.nil <| Tr.ret ?_
      refine ret_ok rfl ?_ no_post
      refine congrArg (fun b => iBool b) ?_
      simp_all [isWord]
    refine Tr.skip <| Tr.seq <| Tr.region rfl <| cV rfl (oA rfl) <| WL.nil <| Tr.ret ?_
    refine ret_ok rfl ?_ no_post
    refine congrArg (fun b => iBool b) ?_
    simp_all [isWord]
  refine Tr.seq <| Tr.region rfl <| cV rfl (ok_bin_str rfl rfl rfl rfl) <| cV rfl (oA rfl) <| WL.nil ?_
  refine Tr.cond rfl (fun hc4 => ?_) (fun hc4 => ?_)
  · refine Tr.skip ?_
    refine Tr.cond rfl (fun hc4 => ?_) (fun hc4 => ?_)
    · refine Tr.seq <| Tr.region rfl <| cV rfl (oA rfl) <| WL.nil <| Tr.ret ?_
      refine ret_ok rfl ?_ no_post
      refine congrArg (fun b => iBool b) ?_
      simp_all [isWord]
    refine Tr.skip <| Tr.seq <| Tr.region rfl <| cV rfl (oA rfl) <| WL.nil <| Tr.ret ?_
    refine ret_ok rfl ?_ no_post
    refine congrArg (fun b => iBool b) ?_
    simp_all [isWord]
  refine Tr.seq <| Tr.region rfl <| cV rfl (ok_bin_str rfl rfl rfl rfl) <| cV rfl (oA rfl) <| WL.nil ?_
  refine Tr.cond rfl (fun hc4 => ?_) (fun hc4 => ?_)
  · refine Tr.skip ?_
    refine Tr.cond rfl (fun hc4 => ?_) (fun hc4 => ?_)
    · refine Tr.seq <| Tr.region rfl <| cV rfl (oA rfl) <| WL.nil <| Tr.ret ?_
      refine ret_ok rfl ?_ no_post
      refine congrArg (fun b => iBool b) ?_
      simp_all [isWord]
    refine Tr.skip <| Tr.seq <| Tr.region rfl <| cV rfl (oA rfl) <| WL.nil <| Tr.ret ?_
    refine ret_ok rfl ?_ no_post
    refine congrArg (fun b => iBool b) ?_
    simp_all [isWord]
  refine Tr.seq <| Tr.region rfl <| cV rfl (ok_bin_str rfl rfl rfl rfl) <| cV rfl (oA rfl) <| WL.nil ?_
  refine Tr.cond rfl (fun hc4 => ?_) (fun hc4 => ?_)
  · refine Tr.skip ?_
    refine Tr.cond rfl (fun hc4 => ?_) (fun hc4 => ?_)
    · refine Tr.seq <| Tr.region rfl <| cV rfl (oA rfl) <| WL.nil <| Tr.ret ?_
      refine ret_ok rfl ?_ no_post
      refine congrArg (fun b => iBool b) ?_
      simp_all [isWord]
    refine Tr.skip <| Tr.seq <| Tr.region rfl <| cV rfl (oA rfl) <| WL.nil <| Tr.ret ?_
    refine ret_ok rfl ?_ no_post
    refine congrArg (fun b => iBool b) ?_
    simp_all [isWord]
  refine Tr.seq <| Tr.region rfl <| cV rfl (ok_bin_str rfl rfl rfl rfl) <| cV rfl (oA rfl) <| WL.nil ?_
  refine Tr.cond rfl (fun hc4 => ?_) (fun hc4 => ?_)
  · refine Tr.skip ?_
    refine Tr.cond rfl (fun hc4 => ?_) (fun hc4 => ?_)
    · refine Tr.seq <| Tr.region rfl <| cV rfl (oA rfl) <| WL.nil <| Tr.ret ?_
      refine ret_ok rfl ?_ no_post
      refine congrArg (fun b => iBool b) ?_
      simp_all [isWord]
    refine Tr.skip <| Tr.seq <| Tr.region rfl <| cV rfl (oA rfl) <| WL.nil <| Tr.ret ?_
    refine ret_ok rfl ?_ no_post
    refine congrArg (fun b => iBool b) ?_
    simp_all [isWord]
  refine Tr.seq <| Tr.region rfl <| cV rfl (ok_bin_str rfl rfl rfl rfl) <| cV rfl (oA rfl) <| WL.nil ?_
  refine Tr.cond rfl (fun hc4 => ?_) (fun hc4 => ?_)
  · refine Tr.skip ?_
    refine Tr.cond rfl (fun hc4 => ?_) (fun hc4 => ?_)
    · refine Tr.seq <| Tr.region rfl <| cV rfl (oA rfl) <| WL.nil <| Tr.ret ?_
      refine ret_ok rfl ?_ no_post
      refine congrArg (fun b => iBool b) ?_
      simp_all [isWord]
    refine Tr.skip <| Tr.seq <| Tr.region rfl <| cV rfl (oA rfl) <| WL.nil <| Tr.ret ?_
    refine ret_ok rfl ?_ no_post
    refine congrArg (fun b => iBool b) ?_
    simp_all [isWord]
  refine Tr.seq <| Tr.region rfl <| cV rfl (ok_bin_str rfl rfl rfl rfl) <| cV rfl (oA rfl) <| WL.nil ?_
  refine Tr.cond rfl (fun hc4 => ?_) (fun hc4 => ?_)
  · refine Tr.skip ?_
    refine Tr.cond rfl (fun hc4 => ?_) (fun hc4 => ?_)
    · refine Tr.seq <| Tr.region rfl <| cV rfl (oA rfl) <| WL.nil <| Tr.ret ?_
      refine ret_ok rfl ?_ no_post
      refine congrArg (fun b => iBool b) ?_
      simp_all [isWord]
    refine Tr.skip <| Tr.seq <| Tr.region rfl <| cV rfl (oA rfl) <| WL.nil <| Tr.ret ?_
    refine ret_ok rfl ?_ no_post
    refine congrArg (fun b => iBool b) ?_
    simp_all [isWord]
  refine Tr.region rfl <| cV rfl (ok_bin_str rfl rfl rfl rfl) <| cV rfl (oA rfl) <| WL.nil ?_
  refine Tr.cond rfl (fun hc4 => ?_) (fun hc4 => ?_)
  · refine Tr.seq <| Tr.region rfl <| cV rfl (oA rfl) <| WL.nil <| Tr.ret ?_
    refine ret_ok rfl ?_ no_post
    refine congrArg (fun b => iBool b) ?_
    simp_all [isWord]
  refine Tr.skip <| Tr.seq <| Tr.region rfl <| cV rfl (oA rfl) <| WL.nil <| Tr.ret ?_
  refine ret_ok rfl ?_ no_post
  refine congrArg (fun b => iBool b) ?_
  simp_all [isWord]
set_option maxRecDepth 8000 in
set_option maxHeartbeats 2000000 in
theorem sc_r2Name (s : ByteArray) : SC Tryz.prog 46 [iStr s] [] (fun _ => False) (iBool (isName s)) [] := by
  refine SC.of Tryz.func46 rfl (lb rfl) fun F ρ w => ?_
  have hsz : s.size ≤ 9223372036854775807 ∨ 9223372036854775807 < s.size := by omega
  refine Tr.seq <| Tr.region rfl <| cV rfl (oA rfl) <| WL.nil <| Tr.seq <| Tr.seq <| Tr.region rfl <| cV rfl (oM rfl) <| cV rfl (ok_bin_str rfl rfl rfl rfl) <| cV rfl (oM rfl) ?_
  refine WL.split (t := 6) rfl (fun hb6 => ?_) (fun hb6 => ?_)
  · refine nV rfl rfl <| nV rfl rfl <| nV rfl rfl <| cV rfl (oT rfl rfl) <| cV rfl (oM rfl) <| nV rfl rfl <| nV rfl rfl <| nV rfl rfl <| nV rfl rfl <| cV rfl (oT rfl rfl) <| cV rfl (oM rfl) <| nV rfl rfl ?_
    refine nV rfl rfl <| cV rfl (oT rfl rfl) <| WL.nil <| Tr.condT rfl <| Tr.seq <| Tr.region rfl <| cV rfl (oA rfl) <| WL.nil <| Tr.ret ?_
    refine ret_ok rfl ?_ no_post
    refine congrArg (fun b => iBool b) ?_
    simp_all [isName]
  have hne : s.toList ≠ [] := by simpa using hb6
  obtain ⟨b0, r0, hs0⟩ := List.exists_cons_of_ne_nil hne
  have hi0 : s[0]? = some b0 := by rw [ba_get (i := 0) (by rw [hs0]; simp)]; simp [hs0]
  refine yV rfl rfl (oM rfl) <| yV rfl rfl (ok_len_str rfl rfl Tryz.underlying9) <| yV rfl rfl (oB rfl rfl rfl) <| cV rfl (oF rfl rfl) <| cV rfl (oM rfl) ?_
  refine WL.split (t := 11) rfl (fun hb11 => ?_) (fun hb11 => ?_)
  · refine nV rfl rfl <| nV rfl rfl <| nV rfl rfl <| nV rfl rfl <| cV rfl (oT rfl rfl) <| cV rfl (oM rfl) <| nV rfl rfl <| nV rfl rfl <| cV rfl (oT rfl rfl) <| WL.nil <| Tr.condT rfl <| Tr.seq ?_
    refine Tr.region rfl <| cV rfl (oA rfl) <| WL.nil <| Tr.ret ?_
    refine ret_ok rfl ?_ no_post
    refine congrArg (fun b => iBool b) ?_
    (have h20 : ¬ ((s.size : Int) ≤ 20) := by simp at hb11; omega
     simp [isName, h20]; done)
  refine yV rfl rfl (oM rfl) <| yV rfl rfl (ok_index_str rfl rfl rfl Tryz.underlying9 (by assumption) (by rfl)) <| WL.yes rfl rfl rfl rfl rfl rfl (ok_callq (sc_r2letter _) ent69 rfl rfl (Subs.refl _ _) rfl) <| yV rfl rfl (oN rfl) <| cV rfl (oF rfl rfl) <| cV rfl (oM rfl) ?_
  refine WL.split (t := 17) rfl (fun hb17 => ?_) (fun hb17 => ?_)
  · refine nV rfl rfl <| nV rfl rfl <| cV rfl (oT rfl rfl) <| WL.nil <| Tr.condT rfl <| Tr.seq <| Tr.region rfl <| cV rfl (oA rfl) <| WL.nil <| Tr.ret ?_
    refine ret_ok rfl ?_ no_post
    refine congrArg (fun b => iBool b) ?_
    simp_all [isName]
  refine yV rfl rfl (oM rfl) <| WL.yes rfl rfl rfl rfl rfl rfl (ok_callq (sc_r2Word _) ent70 rfl rfl (Subs.refl _ _) rfl) <| cV rfl (oF rfl rfl) <| WL.nil ?_
  refine Tr.cond rfl (fun hc20 => ?_) (fun hc20 => ?_)
  · refine Tr.seq <| Tr.region rfl <| cV rfl (oA rfl) <| WL.nil <| Tr.ret ?_
    refine ret_ok rfl ?_ no_post
    refine congrArg (fun b => iBool b) ?_
    simp_all [isName]
  refine Tr.skip <| Tr.seq <| Tr.seq <| Tr.region rfl <| cV rfl (oA rfl) <| WL.nil <| Tr.block <| Tr.sub (Sub.of (fr' := [(3, iInt 0), (0, iStr s)]) ⟨rfl, rfl, trivial⟩) ?_
  refine Tr.loop (fun fr σ m => ∃ (k : Nat), (k ≤ s.toList.length) ∧ (s.toList.all isLD = (s.toList.drop k).all isLD) ∧ fr = [(3, iInt k), (0, iStr s)] ∧ σ = look [] ∧ m = s.toList.length - k) (n := s.toList.length - 0) ?_ ?_
  · exact ⟨0, Nat.zero_le _, rfl, rfl, rfl, rfl⟩
  rintro fr σ m ⟨k, hI0, hI1, rfl, rfl, rfl⟩
  refine Tr.seq <| Tr.seq <| Tr.region rfl <| cV rfl (oM rfl) <| cV rfl (oM rfl) <| cV rfl (ok_len_str rfl rfl Tryz.underlying9) <| cV rfl (oB rfl rfl rfl) <| WL.nil ?_
  refine Tr.cond rfl (fun hc24 => ?_) (fun hc24 => ?_)
  · have hlt : k < s.toList.length := by rw [ba_len]; simpa using hc24
    have hd := List.drop_eq_getElem_cons hlt
    have hi := ba_get hlt
    generalize s.toList[k] = b at hd hi
    have hl20 : s.toList.length ≤ 20 := by rw [ba_len]; simp at hb11; omega
    refine Tr.skip <| Tr.seq <| Tr.block <| Tr.seq <| Tr.region rfl <| cV rfl (oM rfl) <| cV rfl (oM rfl) <| cV rfl (ok_index_str rfl rfl rfl Tryz.underlying9 (by assumption) (by rfl)) <| WL.cons rfl rfl rfl (ok_callq (sc_r2letter _) ent69 rfl rfl (Subs.refl _ _) rfl) <| cV rfl (oN rfl) <| cV rfl (oM rfl) ?_
    refine WL.split (t := 32) rfl (fun hb32 => ?_) (fun hb32 => ?_)
    · refine yV rfl rfl (oM rfl) <| yV rfl rfl (oM rfl) <| yV rfl rfl (ok_index_str rfl rfl rfl Tryz.underlying9 (by assumption) (by rfl)) <| WL.yes rfl rfl rfl rfl rfl rfl (ok_callq (sc_r2digit _) ent71 rfl rfl (Subs.refl _ _) rfl) <| yV rfl rfl (oN rfl) <| cV rfl (oT rfl rfl) <| WL.nil ?_
      refine Tr.cond rfl (fun hc38 => ?_) (fun hc38 => ?_)
      · refine Tr.seq <| Tr.region rfl <| cV rfl (oA rfl) <| WL.nil <| Tr.ret ?_
        refine ret_ok rfl ?_ no_post
        have hb : isLD b = false := by simp_all [isLD]
        have hall : s.toList.all isLD = false := by rw [hI1, hd]; simp [hb]
        simp [isName, hall]
      refine Tr.skip <| Tr.region rfl <| cV rfl (oM rfl) <| cV rfl (oB rfl rfl (i64_add rfl (by omega))) <| cV rfl (oA rfl) <| WL.nil ?_
      refine ⟨_, _, ?_, Sub.of (fr' := [(3, iInt (k + 1)), (0, iStr s)]) ⟨rfl, rfl, trivial⟩, (k + 1), ?_, ?_, rfl, rfl, rfl⟩
      · omega
      · omega
      have hb : isLD b = true := by simp_all [isLD]
      rw [hI1, hd]; simp [hb]
    refine nV rfl rfl <| nV rfl rfl <| nV rfl rfl <| nV rfl rfl <| nV rfl rfl <| cV rfl (oF rfl rfl) <| WL.nil <| Tr.condF rfl <| Tr.skip <| Tr.region rfl <| cV rfl (oM rfl) <| cV rfl (oB rfl rfl (i64_add rfl (by omega))) ?_
    refine cV rfl (oA rfl) <| WL.nil ?_
    refine ⟨_, _, ?_, Sub.of (fr' := [(3, iInt (k + 1)), (0, iStr s)]) ⟨rfl, rfl, trivial⟩, (k + 1), ?_, ?_, rfl, rfl, rfl⟩
    · omega
    · omega
    have hb : isLD b = true := by simp_all [isLD]
    rw [hI1, hd]; simp [hb]
  refine Tr.exit <| Tr.seq <| Tr.region rfl <| cV rfl (oA rfl) <| WL.nil <| Tr.ret ?_
  refine ret_ok rfl ?_ no_post
  have hge : s.toList.length ≤ k := by rw [ba_len]; simpa using hc24
  have hall : s.toList.all isLD = true := by rw [hI1, List.drop_eq_nil_of_le hge]; rfl
  refine congrArg (fun b => iBool b) ?_
  simp_all [isName]
set_option maxRecDepth 8000 in
set_option maxHeartbeats 2000000 in
theorem sc_r8sameInts (a b : List Int) : SC Tryz.prog 27 [.pv (ints a), .pv (ints b)] [] (fun _ => False) (iBool (a == b)) [] := by
  refine SC.of Tryz.func27 rfl (lb rfl) fun F ρ w => ?_
  refine Tr.lenOf (t := 0) rfl (fun hl => ?_)
  simp only [List.length_map] at hl
  refine Tr.lenOf (t := 1) rfl (fun hl2 => ?_)
  simp only [List.length_map] at hl2
  refine Tr.seq <| Tr.region rfl <| cV rfl (oA rfl) <| WL.nil <| Tr.seq <| Tr.seq <| Tr.region rfl <| cV rfl (oM rfl) <| cV rfl (oSm Tryz.underlying35 rfl) <| cV rfl (oM rfl) <| cV rfl (oSm Tryz.underlying35 rfl) <| cV rfl (oB rfl rfl rfl) ?_
  refine WL.nil ?_
  refine Tr.cond rfl (fun hc10 => ?_) (fun hc10 => ?_)
  · refine Tr.seq <| Tr.region rfl <| cV rfl (oA rfl) <| WL.nil <| Tr.ret ?_
    refine ret_ok rfl ?_ no_post
    have hne : a ≠ b := by intro h; subst h; simp at hc10
    simp [hne]
  have hlen : a.length = b.length := by simp at hc10; omega
  refine Tr.skip <| Tr.seq <| Tr.seq <| Tr.region rfl <| cV rfl (oA rfl) <| WL.nil <| Tr.block <| Tr.sub (Sub.of (fr' := [(5, iInt 0), (0, .pv (ints a)), (1, .pv (ints b))]) ⟨rfl, rfl, rfl, trivial⟩) ?_
  refine Tr.loop (fun fr σ m => ∃ (k : Nat), (k ≤ a.length) ∧ ((a == b) = (a.drop k == b.drop k)) ∧ fr = [(5, iInt k), (0, .pv (ints a)), (1, .pv (ints b))] ∧ σ = look [] ∧ m = a.length - k) (n := a.length - 0) ?_ ?_
  · exact ⟨0, Nat.zero_le _, rfl, rfl, rfl, rfl⟩
  rintro fr σ m ⟨k, hI0, hI1, rfl, rfl, rfl⟩
  refine Tr.seq <| Tr.seq <| Tr.region rfl <| cV rfl (oM rfl) <| cV rfl (oM rfl) <| cV rfl (oSm Tryz.underlying35 rfl) <| cV rfl (oB rfl rfl rfl) <| WL.nil ?_
  refine Tr.cond rfl (fun hc14 => ?_) (fun hc14 => ?_)
  · have hlt : k < a.length := by simpa using hc14
    have hd := List.drop_eq_getElem_cons hlt
    have hm := List.getElem_mem hlt
    have hi := map_get (f := eInt) (List.getElem?_eq_getElem hlt)
    generalize a[k] = x at hd hm hi
    have hltw : k < b.length := by omega
    have hdw := List.drop_eq_getElem_cons hltw
    have hw := map_get (f := eInt) (List.getElem?_eq_getElem hltw)
    generalize b[k] = y at hdw hw
    refine Tr.skip <| Tr.seq <| Tr.block <| Tr.seq <| Tr.still mixed (by kernel_rfl) rfl <| sV rfl (oM rfl) <| sV rfl (oM rfl) <| sV rfl (ok_index_seq rfl rfl rfl Tryz.underlying35 hi tS3 rfl (by rfl)) <| sV rfl (oLe Tryz.underlying3 rfl rfl) <| sV rfl (oM rfl) <| sV rfl (oM rfl) <| sV rfl (ok_index_seq rfl rfl rfl Tryz.underlying35 hw tS3 rfl (by rfl)) ?_
    refine sV rfl (oLe Tryz.underlying3 rfl rfl) <| sV rfl (oB rfl rfl rfl) <| WS.nil ?_
    refine Tr.cond rfl (fun hc25 => ?_) (fun hc25 => ?_)
    · refine Tr.seq <| Tr.region rfl <| cV rfl (oA rfl) <| WL.nil <| Tr.ret ?_
      refine ret_ok rfl ?_ no_post
      have hxy : x ≠ y := by simpa using hc25
      rw [hI1, hd, hdw]
      simp [hxy]
    refine Tr.skip <| Tr.region rfl <| cV rfl (oM rfl) <| cV rfl (oB rfl rfl (i64_add rfl (by omega))) <| cV rfl (oA rfl) <| WL.nil ?_
    refine ⟨_, _, ?_, Sub.of (fr' := [(5, iInt (k + 1)), (0, .pv (ints a)), (1, .pv (ints b))]) ⟨rfl, rfl, rfl, trivial⟩, (k + 1), ?_, ?_, rfl, rfl, rfl⟩
    · omega
    · omega
    rw [hI1, hd, hdw]
    have : x = y := by simpa using hc25
    simp [this]
  refine Tr.exit <| Tr.seq <| Tr.region rfl <| cV rfl (oA rfl) <| WL.nil <| Tr.ret ?_
  refine ret_ok rfl ?_ no_post
  have hge : a.length ≤ k := by simpa using hc14
  rw [hI1, List.drop_eq_nil_of_le hge, List.drop_eq_nil_of_le (by omega)]
  rfl
set_option maxRecDepth 8000 in
set_option maxHeartbeats 2000000 in
theorem sc_r8nodes_aux (N : Nat) : ∀ (l : List Nd) (hb : r8nodes l ≤ 4611686018427387904), SizeOf.sizeOf l < N → SC Tryz.prog 18 [.pv (nodes l)] [] (fun _ => False) (iInt (r8nodes l)) [] := by
  induction N with
  | zero => intro l hb hN; exact absurd hN (Nat.not_lt_zero _)
  | succ N ih =>
    intro l hb hN
    refine SC.of Tryz.func18 rfl (lb rfl) fun F ρ w => ?_
    refine Tr.lenOf (t := 0) rfl (fun hl => ?_)
    simp only [List.length_map] at hl
    refine Tr.seq <| Tr.region rfl <| cV rfl (oA rfl) <| WL.nil <| Tr.seq <| Tr.region rfl <| cV rfl (oM rfl) <| cV rfl (oSm Tryz.underlying43 rfl) <| cV rfl (oA rfl) <| WL.nil <| Tr.seq <| Tr.seq ?_
    refine Tr.region rfl <| cV rfl (oA rfl) <| WL.nil <| Tr.block <| Tr.sub (Sub.of (fr' := [(4, iInt 0), (3, iInt l.length), (0, .pv (nodes l))]) ⟨rfl, rfl, rfl, trivial⟩) ?_
    refine Tr.loop (fun fr σ m => ∃ (k : Nat) (n : Nat), (k ≤ l.length) ∧ (n + wtL (l.drop k) = r8nodes l) ∧ fr = [(4, iInt k), (3, iInt n), (0, .pv (nodes l))] ∧ σ = look [] ∧ m = l.length - k) (n := l.length - 0) ?_ ?_
    · exact ⟨0, l.length, Nat.zero_le _, rfl, rfl, rfl, rfl⟩
    rintro fr σ m ⟨k, n, hI0, hI1, rfl, rfl, rfl⟩
    refine Tr.seq <| Tr.seq <| Tr.region rfl <| cV rfl (oM rfl) <| cV rfl (oM rfl) <| cV rfl (oSm Tryz.underlying43 rfl) <| cV rfl (oB rfl rfl rfl) <| WL.nil ?_
    refine Tr.cond rfl (fun hc11 => ?_) (fun hc11 => ?_)
    · have hlt : k < l.length := by simpa using hc11
      have hd := List.drop_eq_getElem_cons hlt
      have hm := List.getElem_mem hlt
      have hi := nodes_get (List.getElem?_eq_getElem hlt)
      generalize l[k] = x at hd hm hi
      have hstep : wtL (x :: l.drop (k + 1)) = wtN x + wtL (l.drop (k + 1)) := rfl
      have hx := wtN_eq x
      rw [hd, hstep, hx] at hI1
      refine Tr.skip <| Tr.seq <| Tr.block <| Tr.seq <| Tr.still mixed (by kernel_rfl) rfl <| sV rfl (oM rfl) <| sV rfl (oM rfl) <| sV rfl (oM rfl) <| sV rfl (ok_index_seq rfl rfl rfl Tryz.underlying43 (by assumption) tS42 rfl (by rfl)) <| sV rfl (oFe rfl tF42_4) <| sV rfl (oLe Tryz.underlying35 rfl rfl) <| sV rfl (oSm Tryz.underlying35 rfl) ?_
      refine sV rfl (oB rfl rfl (i64_add rfl (by omega))) <| sV rfl (oM rfl) <| sV rfl (oM rfl) <| sV rfl (ok_index_seq rfl rfl rfl Tryz.underlying43 (by assumption) tS42 rfl (by rfl)) <| sV rfl (oFe rfl tF42_5) <| sV rfl (oLe Tryz.underlying35 rfl rfl) <| sV rfl (oSm Tryz.underlying35 rfl) <| sV rfl (oB rfl rfl (i64_add rfl (by omega))) <| sV rfl (oM rfl) <| sV rfl (oM rfl) <| sV rfl (ok_index_seq rfl rfl rfl Tryz.underlying43 (by assumption) tS42 rfl (by rfl)) <| sV rfl (oFe rfl tF42_6) ?_
      refine sV rfl (oLe Tryz.underlying35 rfl rfl) <| sV rfl (oSm Tryz.underlying35 rfl) <| sV rfl (oB rfl rfl (i64_add rfl (by omega))) <| sV rfl (oM rfl) <| sV rfl (oM rfl) <| sV rfl (ok_index_seq rfl rfl rfl Tryz.underlying43 (by assumption) tS42 rfl (by rfl)) <| sV rfl (oFe rfl tF42_3) <| sV rfl (oLe Tryz.underlying9 rfl rfl) <| sV rfl (ok_len_str rfl rfl Tryz.underlying9) <| sV rfl (oB rfl rfl (i64_add rfl (by omega))) <| sV rfl (oA rfl) <| WS.nil ?_
      refine Tr.seq <| Tr.region rfl <| cV rfl (oA rfl) <| WL.nil <| Tr.block ?_
      have hstart : n + x.args.length + x.outs.length + x.params.length + x.name.size + wtK (x.kids.drop 0) + wtL (l.drop (k + 1)) = r8nodes l := by rw [List.drop_zero]; omega
      refine Tr.sub (Sub.of (fr' := [(5, iInt 0), (4, iInt k), (3, iInt (n + x.args.length + x.outs.length + x.params.length + x.name.size)), (0, .pv (nodes l))]) ⟨rfl, rfl, congrArg (fun z => some (iInt z)) (by rfl), rfl, trivial⟩) ?_
      refine Tr.loop (fun fr σ m => ∃ (i : Nat) (acc : Nat), (i ≤ x.kids.length) ∧ (acc + wtK (x.kids.drop i) + wtL (l.drop (k + 1)) = r8nodes l) ∧ fr = [(5, iInt i), (4, iInt k), (3, iInt acc), (0, .pv (nodes l))] ∧ σ = look [] ∧ m = x.kids.length - i) (n := x.kids.length - 0) ?_ ?_
      · exact ⟨0, (n + x.args.length + x.outs.length + x.params.length + x.name.size), Nat.zero_le _, hstart, rfl, rfl, rfl⟩
      rintro fr σ m ⟨i, acc, hJ0, hJ1, rfl, rfl, rfl⟩
      refine Tr.seq <| Tr.seq <| Tr.region rfl <| cV rfl (oM rfl) <| cV rfl (oM rfl) <| cV rfl (oM rfl) <| cV rfl (ok_index_seq rfl rfl rfl Tryz.underlying43 (by assumption) tS42 rfl (by rfl)) <| cV rfl (oFe rfl tF42_7) <| cV rfl (oLe Tryz.underlying40 rfl rfl) ?_
      refine WL.lenOf (t := 48) rfl (fun hl2 => ?_)
      simp only [List.length_map] at hl2
      refine cV rfl (oSm Tryz.underlying40 rfl) <| cV rfl (oB rfl rfl rfl) <| WL.nil ?_
      refine Tr.cond rfl (fun hc50 => ?_) (fun hc50 => ?_)
      · have hlt2 : i < x.kids.length := by simpa using hc50
        have hd2 := List.drop_eq_getElem_cons hlt2
        have hm2 := List.getElem_mem hlt2
        have hi2 := map_get (f := eKid) (List.getElem?_eq_getElem hlt2)
        generalize x.kids[i] = q at hd2 hm2 hi2
        have hdec : SizeOf.sizeOf q < N := Nat.lt_of_lt_of_le (kid_lt hm rfl hm2) (Nat.le_of_lt_succ hN)
        have hJ1' := hJ1
        rw [hd2, show wtK (q :: x.kids.drop (i + 1)) = 1 + (q.length + wtL q) + wtK (x.kids.drop (i + 1)) from rfl] at hJ1'
        have hqq : r8nodes q = q.length + wtL q := rfl
        have hbq : r8nodes q ≤ 4611686018427387904 := by unfold r8nodes at *; omega
        refine Tr.skip <| Tr.seq <| Tr.block <| Tr.region rfl <| cV rfl (oM rfl) <| cV rfl (oB rfl rfl (i64_add rfl (by omega))) <| cV rfl (oM rfl) <| cV rfl (oM rfl) <| cV rfl (ok_index_seq rfl rfl rfl Tryz.underlying43 (by assumption) tS42 rfl (by rfl)) <| cV rfl (oFe rfl tF42_7) <| cV rfl (oLe Tryz.underlying40 rfl rfl) <| cV rfl (oM rfl) ?_
        refine cV rfl (ok_index_seq rfl rfl rfl Tryz.underlying40 (by assumption) tS43 rfl (by rfl)) <| cV rfl (oLe Tryz.underlying43 rfl rfl) <| WL.cons rfl rfl rfl (ok_callq (ih q hbq hdec) ent18 rfl rfl (Subs.refl _ _) rfl) <| cV rfl (oB rfl rfl (i64_add rfl (by omega))) <| cV rfl (oA rfl) <| WL.nil <| Tr.region rfl <| cV rfl (oM rfl) <| cV rfl (oB rfl rfl (i64_add rfl (by omega))) <| cV rfl (oA rfl) <| WL.nil ?_
        refine ⟨_, _, ?_, Sub.of (fr' := [(5, iInt (i + 1)), (4, iInt k), (3, iInt (acc + 1 + r8nodes q)), (0, .pv (nodes l))]) ⟨rfl, rfl, congrArg (fun z => some (iInt z)) (by rfl), rfl, trivial⟩, (i + 1), (acc + 1 + r8nodes q), ?_, ?_, rfl, rfl, rfl⟩
        · omega
        · omega
        have hq : wtK (q :: x.kids.drop (i + 1)) = 1 + (q.length + wtL q) + wtK (x.kids.drop (i + 1)) := rfl
        rw [hd2, hq] at hJ1
        unfold r8nodes at *
        omega
      refine Tr.exit <| Tr.region rfl <| cV rfl (oM rfl) <| cV rfl (oB rfl rfl (i64_add rfl (by omega))) <| cV rfl (oA rfl) <| WL.nil ?_
      refine ⟨_, _, ?_, Sub.of (fr' := [(4, iInt (k + 1)), (3, iInt acc), (0, .pv (nodes l))]) ⟨rfl, rfl, rfl, trivial⟩, (k + 1), acc, ?_, ?_, rfl, rfl, rfl⟩
      · omega
      · omega
      have hz : wtK (x.kids.drop i) = 0 := by rw [List.drop_eq_nil_of_le (by simpa using hc50)]; rfl
      omega
    refine Tr.exit <| Tr.seq <| Tr.region rfl <| cV rfl (oM rfl) <| cV rfl (oA rfl) <| WL.nil <| Tr.ret ?_
    refine ret_ok rfl ?_ no_post
    have hge : l.length ≤ k := by simpa using hc11
    rw [List.drop_eq_nil_of_le hge] at hI1
    simp only [wtL, Nat.add_zero] at hI1
    rw [← hI1]
theorem sc_r8nodes (l : List Nd) (hb : r8nodes l ≤ 4611686018427387904) : SC Tryz.prog 18 [.pv (nodes l)] [] (fun _ => False) (iInt (r8nodes l)) [] := sc_r8nodes_aux _ l hb (Nat.lt_succ_self _)
set_option maxRecDepth 8000 in
set_option maxHeartbeats 2000000 in
theorem sc_r8sameNodes_aux (N : Nat) : ∀ (a b : List Nd), SizeOf.sizeOf a < N → SC Tryz.prog 28 [.pv (nodes a), .pv (nodes b)] [] (fun _ => False) (iBool (sameL a b)) [] := by
  induction N with
  | zero => intro a b hN; exact absurd hN (Nat.not_lt_zero _)
  | succ N ih =>
    intro a b hN
    refine SC.of Tryz.func28 rfl (lb rfl) fun F ρ w => ?_
    refine Tr.lenOf (t := 0) rfl (fun hl => ?_)
    simp only [List.length_map] at hl
    refine Tr.lenOf (t := 1) rfl (fun hl2 => ?_)
    simp only [List.length_map] at hl2
    refine Tr.seq <| Tr.region rfl <| cV rfl (oA rfl) <| WL.nil <| Tr.seq <| Tr.seq <| Tr.region rfl <| cV rfl (oM rfl) <| cV rfl (oSm Tryz.underlying43 rfl) <| cV rfl (oM rfl) <| cV rfl (oSm Tryz.underlying43 rfl) <| cV rfl (oB rfl rfl rfl) ?_
    refine WL.nil ?_
    refine Tr.cond rfl (fun hc13 => ?_) (fun hc13 => ?_)
    · refine Tr.seq <| Tr.region rfl <| cV rfl (oA rfl) <| WL.nil <| Tr.ret ?_
      refine ret_ok rfl ?_ no_post
      rw [sameL_len (by intro h; simp [h] at hc13)]
    have hlen : a.length = b.length := by simp at hc13; omega
    refine Tr.skip <| Tr.seq <| Tr.seq <| Tr.region rfl <| cV rfl (oA rfl) <| WL.nil <| Tr.block <| Tr.sub (Sub.of (fr' := [(5, iInt 0), (0, .pv (nodes a)), (1, .pv (nodes b))]) ⟨rfl, rfl, rfl, trivial⟩) ?_
    refine Tr.loop (fun fr σ m => ∃ (k : Nat), (k ≤ a.length) ∧ (sameL a b = sameL (a.drop k) (b.drop k)) ∧ fr = [(5, iInt k), (0, .pv (nodes a)), (1, .pv (nodes b))] ∧ σ = look [] ∧ m = a.length - k) (n := a.length - 0) ?_ ?_
    · exact ⟨0, Nat.zero_le _, rfl, rfl, rfl, rfl⟩
    rintro fr σ m ⟨k, hI0, hI1, rfl, rfl, rfl⟩
    refine Tr.seq <| Tr.seq <| Tr.region rfl <| cV rfl (oM rfl) <| cV rfl (oM rfl) <| cV rfl (oSm Tryz.underlying43 rfl) <| cV rfl (oB rfl rfl rfl) <| WL.nil ?_
    refine Tr.cond rfl (fun hc17 => ?_) (fun hc17 => ?_)
    · have hlt : k < a.length := by simpa using hc17
      have hd := List.drop_eq_getElem_cons hlt
      have hm := List.getElem_mem hlt
      have hi := nodes_get (List.getElem?_eq_getElem hlt)
      generalize a[k] = x at hd hm hi
      have hltw : k < b.length := by omega
      have hdw := List.drop_eq_getElem_cons hltw
      have hw := nodes_get (List.getElem?_eq_getElem hltw)
      generalize b[k] = y at hdw hw
      refine Tr.skip <| Tr.seq <| Tr.block <| Tr.seq ?_
      refine Tr.cut (fr' := [(7, .ptr 107 0), (6, .ptr 106 0), (5, iInt k), (0, .pv (nodes a)), (1, .pv (nodes b))]) (σ' := look [(106, some (.box [iInt x.kind, iInt x.op, iInt x.n, iStr x.name, .pv (ints x.args), .pv (ints x.outs), .pv (ints x.params), .pv (kids x.kids)])), (107, some (.box [iInt y.kind, iInt y.op, iInt y.n, iStr y.name, .pv (ints y.args), .pv (ints y.outs), .pv (ints y.params), .pv (kids y.kids)]))]) ?_ ?_
      · refine Tr.drawn mixed (fun k => k ∈ ([] : List Nat)) <| WA.run (fuel := 4) [0, 1, 2, 3, 4, 5, 6, 7] (by kernel_rfl) ((fun _ _ _ h => pn h.1)) (by kernel_rfl) <| rV rfl rfl (oM rfl) <| rV rfl rfl (oM rfl) <| rV rfl rfl (ok_index_seq rfl rfl rfl Tryz.underlying43 hi tS42 rfl (by rfl)) <| rV rfl rfl (ok_load_ept_agg rfl rfl Tryz.underlying42 rfl tS42 (Nat.le_of_ble_eq_true rfl)) <| rV rfl rfl (oM rfl) <| rV rfl rfl (oM rfl) <| rV rfl rfl (ok_index_seq rfl rfl rfl Tryz.underlying43 hw tS42 rfl (by rfl)) <| rV rfl rfl (ok_load_ept_agg rfl rfl Tryz.underlying42 rfl tS42 (Nat.le_of_ble_eq_true rfl)) <| WR.nil ?_
        refine WA.all (rs := [8, 9]) (by kernel_rfl) (by simp) ?_
        refine List.forall_mem_cons.2 ⟨?_, List.forall_mem_cons.2 ⟨?_, by simp⟩⟩
        · refine WI.op rfl rfl rfl (by intro t h; cases h <;> rfl) (fun k (h : _) => h.elim) (new_one rfl) (fun ρ w => ok_alloc (k := 106) rfl tZ42 rfl rfl rfl rfl) <| WA.one (i := 9) (by kernel_rfl) <| WI.op rfl rfl rfl (by intro t h; cases h <;> rfl) (fun k (h : _) => h.elim) (new_one rfl) (fun ρ w => ok_alloc (k := 107) rfl tZ42 rfl rfl rfl rfl) <| WA.one (i := 10) (by kernel_rfl) ?_
          refine WI.op rfl rfl rfl (by intro t h; cases h <;> rfl) (fun k (h : _) => h.elim) (new_old rfl) (fun ρ w => ok_store_box_agg rfl rfl rfl rfl rfl (by simp) tS42 (firmL_ok rfl) (lb rfl)) ?_
          refine WA.one (i := 11) (by kernel_rfl) ?_
          refine WI.op rfl rfl rfl (by intro t h; cases h <;> rfl) (fun k (h : _) => h.elim) (new_old rfl) (fun ρ w => ok_store_box_agg rfl rfl rfl rfl rfl (by simp) tS42 (firmL_ok rfl) (lb rfl)) ?_
          refine WA.done (by kernel_rfl) ?_
          refine ⟨rfl, Sub.of ⟨rfl, rfl, rfl, rfl, rfl, trivial⟩, ?_⟩
          exact look_two rfl rfl (fun k h1 h2 => by simp [look, beq_ne (Ne.symm h1), beq_ne (Ne.symm h2)]) (by decide)
        refine WI.op rfl rfl rfl (by intro t h; cases h <;> rfl) (fun k (h : _) => h.elim) (new_one rfl) (fun ρ w => ok_alloc (k := 107) rfl tZ42 rfl rfl rfl rfl) <| WA.one (i := 8) (by kernel_rfl) <| WI.op rfl rfl rfl (by intro t h; cases h <;> rfl) (fun k (h : _) => h.elim) (new_one rfl) (fun ρ w => ok_alloc (k := 106) rfl tZ42 rfl rfl rfl rfl) <| WA.one (i := 10) (by kernel_rfl) ?_
        refine WI.op rfl rfl rfl (by intro t h; cases h <;> rfl) (fun k (h : _) => h.elim) (new_old rfl) (fun ρ w => ok_store_box_agg rfl rfl rfl rfl rfl (by simp) tS42 (firmL_ok rfl) (lb rfl)) ?_
        refine WA.one (i := 11) (by kernel_rfl) ?_
        refine WI.op rfl rfl rfl (by intro t h; cases h <;> rfl) (fun k (h : _) => h.elim) (new_old rfl) (fun ρ w => ok_store_box_agg rfl rfl rfl rfl rfl (by simp) tS42 (firmL_ok rfl) (lb rfl)) ?_
        refine WA.done (by kernel_rfl) ?_
        refine ⟨rfl, Sub.of ⟨rfl, rfl, rfl, rfl, rfl, trivial⟩, ?_⟩
        exact look_two rfl rfl (fun k h1 h2 => by simp [look, beq_ne (Ne.symm h1), beq_ne (Ne.symm h2)]) (by decide)
      refine Tr.freezeBox (t := 6) (k := 106) rfl rfl rfl <| Tr.freezeBox (t := 7) (k := 107) rfl rfl rfl <| Tr.heap (σ' := look []) (fun k => by simp only [look]; cases Nat.beq 107 k <;> cases Nat.beq 106 k <;> rfl) <| Tr.seq <| Tr.seq <| Tr.region rfl <| cV rfl (oFe rfl tF42_0) <| cV rfl (oLe Tryz.underlying3 rfl rfl) <| cV rfl (oFe rfl tF42_0) <| cV rfl (oLe Tryz.underlying3 rfl rfl) <| cV rfl (oB rfl rfl rfl) <| cV rfl (oM rfl) ?_
      refine WL.split (t := 33) rfl (fun hb33 => ?_) (fun hb33 => ?_)
      · refine nV rfl rfl <| nV rfl rfl <| nV rfl rfl <| nV rfl rfl <| nV rfl rfl <| cV rfl (oT rfl rfl) <| cV rfl (oM rfl) <| nV rfl rfl <| nV rfl rfl <| nV rfl rfl <| nV rfl rfl <| nV rfl rfl ?_
        refine cV rfl (oT rfl rfl) <| cV rfl (oM rfl) <| nV rfl rfl <| nV rfl rfl <| nV rfl rfl <| nV rfl rfl <| nV rfl rfl <| cV rfl (oT rfl rfl) <| cV rfl (oM rfl) <| nV rfl rfl <| nV rfl rfl <| nV rfl rfl ?_
        refine nV rfl rfl <| nV rfl rfl <| nV rfl rfl <| nV rfl rfl <| cV rfl (oT rfl rfl) <| cV rfl (oM rfl) <| nV rfl rfl <| nV rfl rfl <| nV rfl rfl <| nV rfl rfl <| nV rfl rfl <| nV rfl rfl ?_
        refine cV rfl (oT rfl rfl) <| cV rfl (oM rfl) <| nV rfl rfl <| nV rfl rfl <| nV rfl rfl <| nV rfl rfl <| nV rfl rfl <| nV rfl rfl <| cV rfl (oT rfl rfl) <| cV rfl (oM rfl) <| nV rfl rfl <| nV rfl rfl ?_
        refine nV rfl rfl <| nV rfl rfl <| nV rfl rfl <| nV rfl rfl <| cV rfl (oT rfl rfl) <| WL.nil <| Tr.condT rfl <| Tr.seq <| Tr.region rfl <| cV rfl (oA rfl) <| WL.nil <| Tr.ret ?_
        refine ret_ok rfl ?_ no_post
        have hsh : sameH x y = false := by
          clear hd hdw hm hi hw hI1
          simp_all [sameH]
        rw [hI1, hd, hdw]
        simp [sameL, sameN_eq, hsh]
      refine yV rfl rfl (oFe rfl tF42_1) <| yV rfl rfl (oLe Tryz.underlying3 rfl rfl) <| yV rfl rfl (oFe rfl tF42_1) <| yV rfl rfl (oLe Tryz.underlying3 rfl rfl) <| yV rfl rfl (oB rfl rfl rfl) <| cV rfl (oF rfl rfl) <| cV rfl (oM rfl) ?_
      refine WL.split (t := 40) rfl (fun hb40 => ?_) (fun hb40 => ?_)
      · refine nV rfl rfl <| nV rfl rfl <| nV rfl rfl <| nV rfl rfl <| nV rfl rfl <| cV rfl (oT rfl rfl) <| cV rfl (oM rfl) <| nV rfl rfl <| nV rfl rfl <| nV rfl rfl <| nV rfl rfl <| nV rfl rfl ?_
        refine cV rfl (oT rfl rfl) <| cV rfl (oM rfl) <| nV rfl rfl <| nV rfl rfl <| nV rfl rfl <| nV rfl rfl <| nV rfl rfl <| nV rfl rfl <| nV rfl rfl <| cV rfl (oT rfl rfl) <| cV rfl (oM rfl) <| nV rfl rfl ?_
        refine nV rfl rfl <| nV rfl rfl <| nV rfl rfl <| nV rfl rfl <| nV rfl rfl <| cV rfl (oT rfl rfl) <| cV rfl (oM rfl) <| nV rfl rfl <| nV rfl rfl <| nV rfl rfl <| nV rfl rfl <| nV rfl rfl ?_
        refine nV rfl rfl <| cV rfl (oT rfl rfl) <| cV rfl (oM rfl) <| nV rfl rfl <| nV rfl rfl <| nV rfl rfl <| nV rfl rfl <| nV rfl rfl <| nV rfl rfl <| cV rfl (oT rfl rfl) <| WL.nil <| Tr.condT rfl ?_
        refine Tr.seq <| Tr.region rfl <| cV rfl (oA rfl) <| WL.nil <| Tr.ret ?_
        refine ret_ok rfl ?_ no_post
        have hsh : sameH x y = false := by
          clear hd hdw hm hi hw hI1
          simp_all [sameH]
        rw [hI1, hd, hdw]
        simp [sameL, sameN_eq, hsh]
      refine yV rfl rfl (oFe rfl tF42_2) <| yV rfl rfl (oLe Tryz.underlying3 rfl rfl) <| yV rfl rfl (oFe rfl tF42_2) <| yV rfl rfl (oLe Tryz.underlying3 rfl rfl) <| yV rfl rfl (oB rfl rfl rfl) <| cV rfl (oF rfl rfl) <| cV rfl (oM rfl) ?_
      refine WL.split (t := 47) rfl (fun hb47 => ?_) (fun hb47 => ?_)
      · refine nV rfl rfl <| nV rfl rfl <| nV rfl rfl <| nV rfl rfl <| nV rfl rfl <| cV rfl (oT rfl rfl) <| cV rfl (oM rfl) <| nV rfl rfl <| nV rfl rfl <| nV rfl rfl <| nV rfl rfl <| nV rfl rfl ?_
        refine nV rfl rfl <| nV rfl rfl <| cV rfl (oT rfl rfl) <| cV rfl (oM rfl) <| nV rfl rfl <| nV rfl rfl <| nV rfl rfl <| nV rfl rfl <| nV rfl rfl <| nV rfl rfl <| cV rfl (oT rfl rfl) <| cV rfl (oM rfl) ?_
        refine nV rfl rfl <| nV rfl rfl <| nV rfl rfl <| nV rfl rfl <| nV rfl rfl <| nV rfl rfl <| cV rfl (oT rfl rfl) <| cV rfl (oM rfl) <| nV rfl rfl <| nV rfl rfl <| nV rfl rfl <| nV rfl rfl ?_
        refine nV rfl rfl <| nV rfl rfl <| cV rfl (oT rfl rfl) <| WL.nil <| Tr.condT rfl <| Tr.seq <| Tr.region rfl <| cV rfl (oA rfl) <| WL.nil <| Tr.ret ?_
        refine ret_ok rfl ?_ no_post
        have hsh : sameH x y = false := by
          clear hd hdw hm hi hw hI1
          simp_all [sameH]
        rw [hI1, hd, hdw]
        simp [sameL, sameN_eq, hsh]
      refine yV rfl rfl (oFe rfl tF42_3) <| yV rfl rfl (oLe Tryz.underlying9 rfl rfl) <| yV rfl rfl (oFe rfl tF42_3) <| yV rfl rfl (oLe Tryz.underlying9 rfl rfl) <| yV rfl rfl (ok_bin_str rfl rfl rfl rfl) <| cV rfl (oF rfl rfl) <| cV rfl (oM rfl) ?_
      refine WL.split (t := 54) rfl (fun hb54 => ?_) (fun hb54 => ?_)
      · refine nV rfl rfl <| nV rfl rfl <| nV rfl rfl <| nV rfl rfl <| nV rfl rfl <| nV rfl rfl <| nV rfl rfl <| cV rfl (oT rfl rfl) <| cV rfl (oM rfl) <| nV rfl rfl <| nV rfl rfl <| nV rfl rfl ?_
        refine nV rfl rfl <| nV rfl rfl <| nV rfl rfl <| cV rfl (oT rfl rfl) <| cV rfl (oM rfl) <| nV rfl rfl <| nV rfl rfl <| nV rfl rfl <| nV rfl rfl <| nV rfl rfl <| nV rfl rfl <| cV rfl (oT rfl rfl) ?_
        refine cV rfl (oM rfl) <| nV rfl rfl <| nV rfl rfl <| nV rfl rfl <| nV rfl rfl <| nV rfl rfl <| nV rfl rfl <| cV rfl (oT rfl rfl) <| WL.nil <| Tr.condT rfl <| Tr.seq <| Tr.region rfl ?_
        refine cV rfl (oA rfl) <| WL.nil <| Tr.ret ?_
        refine ret_ok rfl ?_ no_post
        have hsh : sameH x y = false := by
          clear hd hdw hm hi hw hI1
          simp_all [sameH]
        rw [hI1, hd, hdw]
        simp [sameL, sameN_eq, hsh]
      refine yV rfl rfl (oFe rfl tF42_7) <| yV rfl rfl (oLe Tryz.underlying40 rfl rfl) <| yV rfl rfl (oSm Tryz.underlying40 rfl) <| yV rfl rfl (oFe rfl tF42_7) <| yV rfl rfl (oLe Tryz.underlying40 rfl rfl) <| yV rfl rfl (oSm Tryz.underlying40 rfl) <| yV rfl rfl (oB rfl rfl rfl) <| cV rfl (oF rfl rfl) <| cV rfl (oM rfl) ?_
      refine WL.split (t := 63) rfl (fun hb63 => ?_) (fun hb63 => ?_)
      · refine nV rfl rfl <| nV rfl rfl <| nV rfl rfl <| nV rfl rfl <| nV rfl rfl <| nV rfl rfl <| cV rfl (oT rfl rfl) <| cV rfl (oM rfl) <| nV rfl rfl <| nV rfl rfl <| nV rfl rfl <| nV rfl rfl ?_
        refine nV rfl rfl <| nV rfl rfl <| cV rfl (oT rfl rfl) <| cV rfl (oM rfl) <| nV rfl rfl <| nV rfl rfl <| nV rfl rfl <| nV rfl rfl <| nV rfl rfl <| nV rfl rfl <| cV rfl (oT rfl rfl) <| WL.nil ?_
        refine Tr.condT rfl <| Tr.seq <| Tr.region rfl <| cV rfl (oA rfl) <| WL.nil <| Tr.ret ?_
        refine ret_ok rfl ?_ no_post
        have hsh : sameH x y = false := by
          clear hd hdw hm hi hw hI1
          (simp_all [sameH] <;> omega)
        rw [hI1, hd, hdw]
        simp [sameL, sameN_eq, hsh]
      refine yV rfl rfl (oFe rfl tF42_4) <| yV rfl rfl (oLe Tryz.underlying35 rfl rfl) <| yV rfl rfl (oFe rfl tF42_4) <| yV rfl rfl (oLe Tryz.underlying35 rfl rfl) <| WL.yes rfl rfl rfl rfl rfl rfl (ok_callq (sc_r8sameInts _ _) ent27 rfl rfl (Subs.refl _ _) rfl) <| yV rfl rfl (oN rfl) <| cV rfl (oF rfl rfl) <| cV rfl (oM rfl) ?_
      refine WL.split (t := 71) rfl (fun hb71 => ?_) (fun hb71 => ?_)
      · refine nV rfl rfl <| nV rfl rfl <| nV rfl rfl <| nV rfl rfl <| nV rfl rfl <| nV rfl rfl <| cV rfl (oT rfl rfl) <| cV rfl (oM rfl) <| nV rfl rfl <| nV rfl rfl <| nV rfl rfl <| nV rfl rfl ?_
        refine nV rfl rfl <| nV rfl rfl <| cV rfl (oT rfl rfl) <| WL.nil <| Tr.condT rfl <| Tr.seq <| Tr.region rfl <| cV rfl (oA rfl) <| WL.nil <| Tr.ret ?_
        refine ret_ok rfl ?_ no_post
        have hsh : sameH x y = false := by
          clear hd hdw hm hi hw hI1
          simp_all [sameH]
        rw [hI1, hd, hdw]
        simp [sameL, sameN_eq, hsh]
      refine yV rfl rfl (oFe rfl tF42_5) <| yV rfl rfl (oLe Tryz.underlying35 rfl rfl) <| yV rfl rfl (oFe rfl tF42_5) <| yV rfl rfl (oLe Tryz.underlying35 rfl rfl) <| WL.yes rfl rfl rfl rfl rfl rfl (ok_callq (sc_r8sameInts _ _) ent27 rfl rfl (Subs.refl _ _) rfl) <| yV rfl rfl (oN rfl) <| cV rfl (oF rfl rfl) <| cV rfl (oM rfl) ?_
      refine WL.split (t := 79) rfl (fun hb79 => ?_) (fun hb79 => ?_)
      · refine nV rfl rfl <| nV rfl rfl <| nV rfl rfl <| nV rfl rfl <| nV rfl rfl <| nV rfl rfl <| cV rfl (oT rfl rfl) <| WL.nil <| Tr.condT rfl <| Tr.seq <| Tr.region rfl <| cV rfl (oA rfl) ?_
        refine WL.nil <| Tr.ret ?_
        refine ret_ok rfl ?_ no_post
        have hsh : sameH x y = false := by
          clear hd hdw hm hi hw hI1
          simp_all [sameH]
        rw [hI1, hd, hdw]
        simp [sameL, sameN_eq, hsh]
      refine yV rfl rfl (oFe rfl tF42_6) <| yV rfl rfl (oLe Tryz.underlying35 rfl rfl) <| yV rfl rfl (oFe rfl tF42_6) <| yV rfl rfl (oLe Tryz.underlying35 rfl rfl) <| WL.yes rfl rfl rfl rfl rfl rfl (ok_callq (sc_r8sameInts _ _) ent27 rfl rfl (Subs.refl _ _) rfl) <| yV rfl rfl (oN rfl) <| cV rfl (oF rfl rfl) <| WL.nil ?_
      refine Tr.cond rfl (fun hc86 => ?_) (fun hc86 => ?_)
      · refine Tr.seq <| Tr.region rfl <| cV rfl (oA rfl) <| WL.nil <| Tr.ret ?_
        refine ret_ok rfl ?_ no_post
        have hsh : sameH x y = false := by
          clear hd hdw hm hi hw hI1
          simp_all [sameH]
        rw [hI1, hd, hdw]
        simp [sameL, sameN_eq, hsh]
      refine Tr.skip <| Tr.seq <| Tr.region rfl <| cV rfl (oA rfl) <| WL.nil <| Tr.block ?_
      have hsh : sameH x y = true := by
        clear hd hdw hm hi hw
        (simp_all [sameH] <;> omega)
      have hkl : x.kids.length = y.kids.length := by
        clear hd hdw hm hi hw
        simp_all [sameH]
      have hstart : sameL a b = (sameK (x.kids.drop 0) (y.kids.drop 0) && sameL (a.drop (k + 1)) (b.drop (k + 1))) := by
        rw [hI1, hd, hdw]
        simp [sameL, sameN_eq, hsh]
      refine Tr.sub (Sub.of (fr' := [(8, iInt 0), (7, .pv (.ept [vInt y.kind, vInt y.op, vInt y.n, vStr y.name, ints y.args, ints y.outs, ints y.params, kids y.kids] 0)), (6, .pv (.ept [vInt x.kind, vInt x.op, vInt x.n, vStr x.name, ints x.args, ints x.outs, ints x.params, kids x.kids] 0)), (5, iInt k), (0, .pv (nodes a)), (1, .pv (nodes b))]) ⟨rfl, rfl, rfl, rfl, rfl, rfl, trivial⟩) ?_
      refine Tr.loop (fun fr σ m => ∃ (i : Nat), (i ≤ x.kids.length) ∧ (sameL a b = (sameK (x.kids.drop i) (y.kids.drop i) && sameL (a.drop (k + 1)) (b.drop (k + 1)))) ∧ fr = [(8, iInt i), (7, .pv (.ept [vInt y.kind, vInt y.op, vInt y.n, vStr y.name, ints y.args, ints y.outs, ints y.params, kids y.kids] 0)), (6, .pv (.ept [vInt x.kind, vInt x.op, vInt x.n, vStr x.name, ints x.args, ints x.outs, ints x.params, kids x.kids] 0)), (5, iInt k), (0, .pv (nodes a)), (1, .pv (nodes b))] ∧ σ = look [] ∧ m = x.kids.length - i) (n := x.kids.length - 0) ?_ ?_
      · exact ⟨0, Nat.zero_le _, hstart, rfl, rfl, rfl⟩
      rintro fr σ m ⟨i, hJ0, hJ1, rfl, rfl, rfl⟩
      refine Tr.seq <| Tr.seq <| Tr.region rfl <| cV rfl (oM rfl) <| cV rfl (oFe rfl tF42_7) <| cV rfl (oLe Tryz.underlying40 rfl rfl) ?_
      refine WL.lenOf (t := 89) rfl (fun hl3 => ?_)
      simp only [List.length_map] at hl3
      refine cV rfl (oSm Tryz.underlying40 rfl) <| cV rfl (oB rfl rfl rfl) <| WL.nil ?_
      refine Tr.cond rfl (fun hc91 => ?_) (fun hc91 => ?_)
      · have hlt2 : i < x.kids.length := by simpa using hc91
        have hd2 := List.drop_eq_getElem_cons hlt2
        have hm2 := List.getElem_mem hlt2
        have hi2 := map_get (f := eKid) (List.getElem?_eq_getElem hlt2)
        generalize x.kids[i] = p at hd2 hm2 hi2
        have hdec : SizeOf.sizeOf p < N := Nat.lt_of_lt_of_le (kid_lt hm rfl hm2) (Nat.le_of_lt_succ hN)
        have hltw2 : i < y.kids.length := by omega
        have hdw2 := List.drop_eq_getElem_cons hltw2
        have hw2 := map_get (f := eKid) (List.getElem?_eq_getElem hltw2)
        generalize y.kids[i] = q at hdw2 hw2
        refine Tr.skip <| Tr.seq <| Tr.block <| Tr.seq <| Tr.drawn mixed (fun k => k ∈ ([] : List Nat)) <| WA.run (fuel := 2) [0, 1, 2, 3, 4, 5, 6, 7, 8, 9] (by kernel_rfl) ((fun _ _ _ h => h)) (by kernel_rfl) <| rV rfl rfl (oFe rfl tF42_7) <| rV rfl rfl (oLe Tryz.underlying40 rfl rfl) <| rV rfl rfl (oM rfl) <| rV rfl rfl (ok_index_seq rfl rfl rfl Tryz.underlying40 hi2 tS43 rfl (by rfl)) <| rV rfl rfl (oLe Tryz.underlying43 rfl rfl) <| rV rfl rfl (oFe rfl tF42_7) ?_
        refine rV rfl rfl (oLe Tryz.underlying40 rfl rfl) <| rV rfl rfl (oM rfl) <| rV rfl rfl (ok_index_seq rfl rfl rfl Tryz.underlying40 hw2 tS43 rfl (by rfl)) <| rV rfl rfl (oLe Tryz.underlying43 rfl rfl) <| WR.nil <| WA.one (i := 10) (by kernel_rfl) <| WI.op rfl rfl rfl (by intro t h; cases h <;> rfl) (fun k (h : _) => h.elim) (fun _ h1 h2 => absurd h1 h2) (fun ρ w => ok_callq (ih p q hdec) ent28 rfl rfl (Subs.refl _ _) rfl) <| WA.run (fuel := 0) [11] (by kernel_rfl) ((fun _ _ _ h => h)) (by kernel_rfl) <| rV rfl rfl (oN rfl) <| WR.nil <| WA.done (by kernel_rfl) ?_
        refine Tr.cond rfl (fun hc105 => ?_) (fun hc105 => ?_)
        · refine Tr.seq <| Tr.region rfl <| cV rfl (oA rfl) <| WL.nil <| Tr.ret ?_
          refine ret_ok rfl ?_ no_post
          have hpq : sameL p q = false := by simpa using hc105
          rw [hJ1, hd2, hdw2]
          simp [sameK, hpq]
        refine Tr.skip <| Tr.region rfl <| cV rfl (oM rfl) <| cV rfl (oB rfl rfl (i64_add rfl (by omega))) <| cV rfl (oA rfl) <| WL.nil ?_
        refine ⟨_, _, ?_, Sub.of (fr' := [(8, iInt (i + 1)), (7, .pv (.ept [vInt y.kind, vInt y.op, vInt y.n, vStr y.name, ints y.args, ints y.outs, ints y.params, kids y.kids] 0)), (6, .pv (.ept [vInt x.kind, vInt x.op, vInt x.n, vStr x.name, ints x.args, ints x.outs, ints x.params, kids x.kids] 0)), (5, iInt k), (0, .pv (nodes a)), (1, .pv (nodes b))]) ⟨rfl, rfl, rfl, rfl, rfl, rfl, trivial⟩, (i + 1), ?_, ?_, rfl, rfl, rfl⟩
        · omega
        · omega
        rw [hJ1, hd2, hdw2]
        have : sameL p q = true := by simpa using hc105
        simp [sameK, this]
      refine Tr.exit <| Tr.region rfl <| cV rfl (oM rfl) <| cV rfl (oB rfl rfl (i64_add rfl (by omega))) <| cV rfl (oA rfl) <| WL.nil ?_
      refine ⟨_, _, ?_, Sub.of (fr' := [(5, iInt (k + 1)), (0, .pv (nodes a)), (1, .pv (nodes b))]) ⟨rfl, rfl, rfl, trivial⟩, (k + 1), ?_, ?_, rfl, rfl, rfl⟩
      · omega
      · omega
      have hz1 : x.kids.drop i = [] := List.drop_eq_nil_of_le (by simpa using hc91)
      have hz2 : y.kids.drop i = [] := List.drop_eq_nil_of_le (by rw [← hkl]; simpa using hc91)
      rw [hJ1, hz1, hz2]
      simp [sameK]
    refine Tr.exit <| Tr.seq <| Tr.region rfl <| cV rfl (oA rfl) <| WL.nil <| Tr.ret ?_
    refine ret_ok rfl ?_ no_post
    have hge : a.length ≤ k := by simpa using hc17
    rw [hI1, List.drop_eq_nil_of_le hge, List.drop_eq_nil_of_le (by omega)]
    rfl
theorem sc_r8sameNodes (a b : List Nd) : SC Tryz.prog 28 [.pv (nodes a), .pv (nodes b)] [] (fun _ => False) (iBool (sameL a b)) [] := sc_r8sameNodes_aux _ a b (Nat.lt_succ_self _)
section
variable {P : Program} {c : Cx} {R1 : Nat → Prop} {o : Oper} {fr : Fr} {hp : Hp}
/-- A struct that is kept in a new variable of the call's own. -/
theorem ok_boxOwn {t : TypeId} {x : Operand} {k : Nat} {cs : List IV} (ho : o.op = .box t x) (hx : fr.ev x = some (.agg cs)) (hσ : look hp k = none) (hc : c.σ k = none) (hfr : nmFr k fr = false) (hhp : nmHp k hp = false) (hcs : nm.nms k cs = false) :
    Ok P c o fr (look hp) (.ptr k 0) (look ((k, some (.box cs)) :: hp)) := by
  intro ρ w a K Q h hK
  obtain ⟨vs, u, hv, hl, hvu, hr⟩ := (h.ev hx).inv_agg
  have hrun : (execOp a.eval o).run P w = .ok (.value (.pointer (some ⟨w.heap.size, 0, none⟩))) (w.alloc (.cells vs t)) := by
    have hn : (newVar t (.agg vs)).run P w = .ok ⟨w.heap.size, 0, none⟩ (w.alloc (.cells vs t)) := rfl
    simp only [execOp, ho, hv, Instr.box, Sem.run_bind, hn, Result.andThen_ok]
    rfl
  unfold Oper.wp
  rw [hrun]
  refine hK (locUpd ρ k (some (w.heap.size, 1))) _ _ (h.alloc hσ hc hfr hhp 1 _ _ fun keep _ => ?_) (.ptr _ _ _ fun cs' _ => ⟨w.heap.size, 1, locUpd_same, rfl⟩)
  exact .box _ t vs u (heap_new w _) hl hvu fun j x hj => keep _ _ (hr j x hj) (nms_mem hcs (List.mem_of_getElem? hj))
theorem ok_neq_strint {t t2 : TypeId} {x y : Operand} {s s' : ByteArray} {n n' : Int} {f0 f1 : Field} {σ : Heap'} (ho : o.op = .binOp .neq t x y t2) (hx : fr.ev x = some (.pv (.agg [vStr s, vInt n]))) (hy : fr.ev y = some (.pv (.agg [vStr s', vInt n'])))
    (hu : P.underlying t = some (.struct #[f0, f1])) (h0 : P.underlying f0.type = some .string) (h1 : P.underlying f1.type = some (.int .i64)) (ho0 : f0.offset = 0) (ho1 : f1.offset = 1) (hn0 : f0.name ≠ "_") (hn1 : f1.name ≠ "_") (hs : P.stoodInHeld t = false) (hg : P.eqGuardType P.depth t = false) :
    OkV P c R1 o fr σ (.pv (vBool (!(s.toList == s'.toList && n == n')))) := by
  have inv : ∀ {F : Nat → Prop} {ρ : Loc} {w : World} {v : Value} {s : ByteArray} {n : Int}, RepI F ρ σ w (.pv (.agg [vStr s, vInt n])) v → v = .agg #[.string s, .int .i64 n] := by
    intro F ρ w v s n h
    cases h with
    | pv _ _ h =>
      cases h with
      | agg _ vs u hl hv hr =>
        have h0 := hv 0 _ rfl; have h1 := hv 1 _ rfl
        have r0 := hr 0 _ rfl; have r1 := hr 1 _ rfl
        cases hu0 : u 0 <;> rw [hu0] at r0 <;> cases r0
        cases hu1 : u 1 <;> rw [hu1] at r1 <;> cases r1
        rw [hu0] at h0; rw [hu1] at h1
        congr 1
        apply Array.ext_getElem?
        intro i
        match i with
        | 0 => simpa using h0
        | 1 => simpa using h1
        | i + 2 => rw [Array.getElem?_eq_none (by simp at hl; omega), Array.getElem?_eq_none (by simp)]
  intro ρ w a h
  have e1 := inv (h.ev hx)
  have e2 := inv (h.ev hy)
  have hfs : P.fieldsOf t = #[f0, f1] := by simp [Program.fieldsOf, hu]
  refine ⟨_, fun w2 _ => ?_, mkVal _⟩
  have hp0 : ∀ (s : ByteArray) (n : Int), (part f0.type #[.string s, .int .i64 n] f0.offset).run P w2 = .ok (.string s) w2 := fun s n => by simp [part, run_isAgg h0, TypeDesc.isRow, ho0, Sem.run_bind]
  have hp1 : ∀ (s : ByteArray) (n : Int), (part f1.type #[.string s, .int .i64 n] f1.offset).run P w2 = .ok (.int .i64 n) w2 := fun s n => by simp [part, run_isAgg h1, TypeDesc.isRow, ho1, Sem.run_bind]
  have heq : (Op.equalIn 10000 t (.agg #[.string s, .int .i64 n]) (.agg #[.string s', .int .i64 n'])).run P w2 = .ok (s.toList == s'.toList && n == n') w2 := by
    rw [run_equalIn_struct w2 9999 t _ _ (by rw [hfs]; exact hu) hs, hfs]
    have hi9 : (Op.equalIn 9999 f1.type (.int .i64 n) (.int .i64 n')).run P w2 = .ok (n == n') w2 := run_equalIn_int w2 9998 f1.type .i64 .i64 n n' h1
    have hs9 : (Op.equalIn 9999 f0.type (.string s) (.string s')).run P w2 = .ok (s.toList == s'.toList) w2 := run_equalIn_string w2 9998 f0.type s s' h0
    simp only [Op.eqFields, hn0, hn1, Sem.run_bind, hp0, hp1, Result.andThen_ok, ne_eq, not_false_eq_true, if_true, hs9]
    cases hb : (s.toList == s'.toList)
    · simp
    simp only [Bool.not_true, Bool.false_eq_true, if_false, Sem.run_bind, hp1, Result.andThen_ok, hi9]
    cases hc : (n == n') <;> simp
  simp [execOp, ho, e1, e2, Sem.run_bind, run_eqGuard_agg w2 .neq t x y _ _ hg, run_neq_struct, heq]
def firm1 (hp : Hp) : IV → Prop
  | .pv (.agg _) => True
  | .pv p => p.one = true
  | .agg _ => True
  | .fn .. => True
  | .sl k len => ∃ s els, look hp k = some (.row s els) ∧ els.length = len
  | .ptr k _ => ∃ cs, look hp k = some (.box cs)
  | .mp k => ∃ es, look hp k = some (.map es)
  | _ => False
def firmHp (hp : Hp) : List (Nat × IV) → Prop
  | [] => True
  | (_, x) :: r => firm1 hp x ∧ firmHp hp r
theorem firmHp_ok : ∀ {xs : List (Nat × IV)}, firmHp hp xs → firmParts (look hp) xs
  | (i, x) :: r, h, p, hq, hn => by
    rcases List.mem_cons.1 hq with rfl | hq
    · have h1 := h.1
      cases x with
      | pv q => cases q <;> first | exact h1 | (simp [IV.parts] at hn)
      | agg => simp [IV.parts] at hn
      | fn => trivial
      | tup => exact h1.elim
      | rpt => exact h1.elim
      | _ => exact h1
    exact firmHp_ok h.2 p hq hn
def keyB : Value → Value → Bool
  | .int _ a, .int _ b => a == b
  | .string a, .string b => a.toList == b.toList
  | _, _ => false
def isKeyB : TypeDesc → Value → Bool
  | .int k, .int k' _ => k' == k
  | .string, .string _ => true
  | _, _ => false
theorem isKeyB_key {d : TypeDesc} {v : Value} (h : isKeyB d v = true) : MapKept.IsKey d v := by
  cases d <;> cases v <;> simp_all [isKeyB, MapKept.IsKey]
theorem keyB_iff {d : TypeDesc} {a b : Value} (ha : isKeyB d a = true) (hb : isKeyB d b = true) : keyB a b = true ↔ a = b := by
  cases d <;> cases a <;> cases b <;> first
    | (simp_all [isKeyB, keyB]; done)
    | (simp only [keyB, beq_iff_eq, Value.string.injEq]
       exact ⟨fun h => MapKept.bytes_beq _ _ |>.1 (by rw [beq_toListBytes]; simpa using h), fun h => by rw [h]⟩)
def mfind (k : Value) : List (Value × PV) → Option PV
  | [] => none
  | (a, p) :: r => if keyB k a then some p else mfind k r
def mput (k : Value) (v : PV) : List (Value × PV) → List (Value × PV)
  | [] => [(k, v)]
  | (a, p) :: r => if keyB k a then (k, v) :: r else (a, p) :: mput k v r
theorem find_map {d : TypeDesc} {k : Value} (hk : isKeyB d k = true) : ∀ (es : List (Value × PV)) (l : List MapEntry) (i : Nat), l.length = es.length → (∀ e ∈ es, isKeyB d e.1 = true) → (∀ (j : Nat) (a : Value) (p : PV), es[j]? = some (a, p) → ∃ m : MapEntry, l[j]? = some m ∧ m.key = a) →
    (Instr.findNow d k l i = some none ∧ mfind k es = none ∧ ∀ v, mput k v es = es ++ [(k, v)]) ∨ ∃ j m p, Instr.findNow d k l i = some (some (i + j, m.val)) ∧ l[j]? = some m ∧ m.key = k ∧ es[j]? = some (k, p) ∧ mfind k es = some p ∧ ∀ v, mput k v es = es.set j (k, v)
  | [], [], _, _, _, _ => .inl ⟨rfl, rfl, fun _ => rfl⟩
  | (a, p) :: es, m :: l, i, hl, he, h => by
    have h0 : m.key = a := by obtain ⟨m', hm', e⟩ := h 0 a p rfl; cases hm'; exact e
    have ha := he (a, p) (.head _)
    obtain ⟨r, hr, hiff⟩ := MapKept.sameNow_of_keys (isKeyB_key hk) (isKeyB_key ha)
    rw [← h0] at hr
    cases r with
    | true =>
      have hka : k = a := hiff.1 rfl
      have hb : keyB k a = true := (keyB_iff hk ha).2 hka
      exact .inr ⟨0, m, p, by simp [Instr.findNow, hr], rfl, h0.trans hka.symm, by simp [hka], by simp [mfind, hb], fun v => by simp [mput, hb]⟩
    | false =>
      have hb : keyB k a = false := by
        cases hb : keyB k a with
        | false => rfl
        | true => have := hiff.2 ((keyB_iff hk ha).1 hb); cases this
      rcases find_map hk es l (i + 1) (by simpa using hl) (fun e h' => he e (.tail _ h')) (fun j a p hj => by simpa using h (j + 1) a p (by simpa using hj)) with ⟨h1, h2, h3⟩ | ⟨j, m', p', h1, h2, h3, h4, h5, h6⟩
      · exact .inl ⟨by simp [Instr.findNow, hr, h1], by simp [mfind, hb, h2], fun v => by simp [mput, hb, h3]⟩
      exact .inr ⟨j + 1, m', p', by simp [Instr.findNow, hr, h1]; omega, by simpa using h2, h3, by simpa using h4, by simp [mfind, hb, h5], fun v => by simp [mput, hb, h6]⟩
theorem RepO.inv_map {F : Nat → Prop} {ρ : Loc} {σ : Heap'} {w : World} {b cc : Nat} {es : List (Value × PV)} (h : RepO F ρ σ w b cc (.map es)) :
    ∃ (a : Array MapEntry) (t : Nat) (u : Nat → Value), w.heap[b]? = some (.map a t) ∧ a.size = es.length ∧ (∀ i k p, es[i]? = some (k, p) → ∃ m : MapEntry, a[i]? = some m ∧ m.key = k ∧ m.val = u i) ∧ ∀ i k p, es[i]? = some (k, p) → RepP (owned F ρ) w p (u i) := by
  cases h with
  | map _ a t u h hl hv hr => exact ⟨a, t, u, h, hl, hv, hr⟩
theorem All.mapAt {ρ : Loc} {w : World} {a : Act} (h : All c ρ (look hp) w fr a) {x : Operand} {k : Nat} {es : List (Value × PV)} (hx : fr.ev x = some (.mp k)) (hk : look hp k = some (.map es)) :
    ∃ (b cc : Nat) (r : Array MapEntry) (t : Nat) (u : Nat → Value), a.eval x = .map (some b) ∧ ρ k = some (b, cc) ∧ w.heap[b]? = some (.map r t) ∧ r.size = es.length ∧ (∀ i k p, es[i]? = some (k, p) → ∃ m : MapEntry, r[i]? = some m ∧ m.key = k ∧ m.val = u i) ∧ ∀ i k p, es[i]? = some (k, p) → RepP (owned c.F ρ) w p (u i) := by
  have hr := h.ev hx
  generalize hv : a.eval x = v at hr
  cases hr with
  | mp _ _ hh =>
    obtain ⟨b, cc, hρ, rfl⟩ := hh es hk
    obtain ⟨o1, h1, h2⟩ := h.rel.obj k b cc hρ
    rw [hk] at h1; cases h1
    obtain ⟨r, t, u, h3, h4, h5, h6⟩ := h2.inv_map
    exact ⟨b, cc, r, t, u, rfl, hρ, h3, h4, h5, h6⟩
theorem ok_makeMap {t : TypeId} {k : Nat} (ho : o.op = .makeMap t none) (hσ : look hp k = none) (hc : c.σ k = none) (hfr : nmFr k fr = false) (hhp : nmHp k hp = false) :
    Ok P c o fr (look hp) (.mp k) (look ((k, some (.map [])) :: hp)) := by
  intro ρ w a K Q h hK
  have hrun : (execOp a.eval o).run P w = .ok (.value (.map (some w.heap.size))) (w.alloc (.map #[] 0)) := by
    have hn : (newObj (.map #[] 0)).run P w = .ok w.heap.size (w.alloc (.map #[] 0)) := rfl
    simp [execOp, ho, Instr.makeMap, Sem.run_bind, hn]
  unfold Oper.wp
  rw [hrun]
  refine hK (locUpd ρ k (some (w.heap.size, 1))) _ _ (h.alloc hσ hc hfr hhp 1 _ _ fun keep _ => ?_) (.mp _ _ fun es' _ => ⟨w.heap.size, 1, locUpd_same, rfl⟩)
  exact .map [] #[] 0 (fun _ => undef) (heap_new w _) rfl (fun i k p hi => by simp at hi) fun i k p hi => by simp at hi
theorem ok_mapUpdate {t kt et : TypeId} {d : TypeDesc} {x y z : Operand} {k : Nat} {es : List (Value × PV)} {kv : Value} {p : PV} (ho : o.op = .mapUpdate t x y z) (hx : fr.ev x = some (.mp k)) (hy : fr.ev y = some (.pv (.val kv))) (hz : fr.ev z = some (.pv p)) (hk : look hp k = some (.map es))
    (hR : ¬ c.R k) (hu : P.underlying t = some (.map kt et)) (hd : P.underlying kt = some d) (hkv : isKeyB d kv = true) (hes : ∀ e ∈ es, isKeyB d e.1 = true) : Ok P c o fr (look hp) (.pv (.val undef)) (look ((k, some (.map (mput kv p es))) :: hp)) := by
  refine ok_skip fun ρ w a h => ?_
  obtain ⟨b, cc, r, ck, u, hv, hρ, h3, h4, h5, h6⟩ := h.mapAt hx hk
  have hzr : RepP (owned c.F ρ) w p (a.eval z) := by
    have := h.ev hz
    generalize a.eval z = vz at this
    cases this with
    | pv _ _ hp => exact hp
  have hkey := MapKept.run_checkKey (w := w) hd (isKeyB_key hkv) false 9999
  have hset : ∀ o', (setObj b o').run P w = .ok () { w with heap := w.heap.setIfInBounds b o' } := fun o' => MapKept.run_setObj_map o' h3
  have hb : b < w.heap.size := (Array.getElem?_eq_some_iff.1 h3).1
  have hsame : ∀ v : Value, isKeyB d v = true → Instr.sameBits 10000 v v = true := by
    intro v hv
    cases d <;> cases v <;> simp_all [isKeyB, Instr.sameBits, MapKept.bytes_beq]
  rcases find_map hkv es r.toList 0 (by simpa using h4) hes (fun j a p hj => by obtain ⟨m, hm, e, _⟩ := h5 j a p hj; exact ⟨m, by simpa using hm, e⟩) with ⟨h1, h2, h7⟩ | ⟨j, m, q, h1, h2, h3', h4', h5', h7⟩
  · have hfind := MapKept.run_findKey (P := P) (w := w) (kt := kt) hd h1
    refine ⟨ρ, { w with heap := w.heap.setIfInBounds b (.map (r.push ⟨kv, a.eval z, ck⟩) (ck + 1)) }, by simp [execOp, ho, hv, ev_val h hy, Instr.mapUpdate, Sem.run_bind, run_underlying hu, MapKept.run_getObj_map h3, hkey, hfind, hset], ?_⟩
    refine h.write hρ hk trivial hR rfl rfl rfl (by simp) (fun j hj => by simp [Ne.symm hj]) fun keep keepP => ?_
    refine .map _ (r.push ⟨kv, a.eval z, ck⟩) (ck + 1) (fun i => if i = es.length then a.eval z else u i) (by simp [hb]) (by simp [h7, h4]) (fun i k' p' hi => ?_) fun i k' p' hi => ?_
    · rw [h7] at hi
      by_cases e : i = es.length
      · subst e
        simp only [List.getElem?_concat_length, Option.some.injEq, Prod.mk.injEq] at hi
        obtain ⟨rfl, rfl⟩ := hi
        exact ⟨⟨kv, a.eval z, ck⟩, by rw [← h4]; simp, rfl, by simp⟩
      have hlt : i < es.length := by
        have := (List.getElem?_eq_some_iff.1 hi).1
        simp at this; omega
      rw [List.getElem?_append_left hlt] at hi
      obtain ⟨m, hm, e1, e2⟩ := h5 i k' p' hi
      refine ⟨m, ?_, e1, by simp [e, e2]⟩
      rw [Array.getElem?_push, if_neg (by omega)]
      exact hm
    rw [h7] at hi
    by_cases e : i = es.length
    · subst e
      simp only [List.getElem?_concat_length, Option.some.injEq, Prod.mk.injEq] at hi
      obtain ⟨rfl, rfl⟩ := hi
      simpa using keepP _ _ hzr
    have hlt : i < es.length := by
      have := (List.getElem?_eq_some_iff.1 hi).1
      simp at this; omega
    rw [List.getElem?_append_left hlt] at hi
    simpa [e] using keepP _ _ (h6 i k' p' hi)
  have hfind := MapKept.run_findKey (P := P) (w := w) (kt := kt) hd h1
  have hj : r[0 + j]? = some m := by simpa using h2
  have hstay : (Instr.keyThatStays kv kv).run P w = .ok kv w := by simp [Instr.keyThatStays, hsame kv hkv]
  refine ⟨ρ, { w with heap := w.heap.setIfInBounds b (.map (r.modify (0 + j) fun e => { e with key := kv, val := a.eval z }) ck) }, ?_, ?_⟩
  · simp only [execOp, ho, hv, ev_val h hy, Instr.mapUpdate, Sem.run_bind, run_underlying hu, MapKept.run_getObj_map h3, hkey, hfind, Result.andThen_ok, hj, Option.map_some, Option.getD_some, h3', hstay, hset]
    rfl
  refine h.write hρ hk trivial hR rfl rfl rfl (by simp) (fun j hj => by simp [Ne.symm hj]) fun keep keepP => ?_
  have hjl : j < es.length := (List.getElem?_eq_some_iff.1 h4').1
  refine .map _ (r.modify (0 + j) fun e => { e with key := kv, val := a.eval z }) ck (fun i => if i = j then a.eval z else u i) (by simp [hb]) (by simp [h7, h4]) (fun i k' p' hi => ?_) fun i k' p' hi => ?_
  · rw [h7] at hi
    by_cases e : i = j
    · subst e
      rw [List.getElem?_set_self hjl] at hi
      cases hi
      refine ⟨{ m with key := kv, val := a.eval z }, ?_, rfl, by simp⟩
      simp only [Nat.zero_add, Array.getElem?_modify, if_true] at hj ⊢
      rw [hj]; rfl
    rw [List.getElem?_set_ne (Ne.symm e)] at hi
    obtain ⟨m', hm', e1, e2⟩ := h5 i k' p' hi
    refine ⟨m', ?_, e1, by simp [e, e2]⟩
    simp only [Nat.zero_add, Array.getElem?_modify, if_neg (Ne.symm e)]
    exact hm'
  rw [h7] at hi
  by_cases e : i = j
  · subst e
    rw [List.getElem?_set_self hjl] at hi
    cases hi
    simpa using keepP _ _ hzr
  rw [List.getElem?_set_ne (Ne.symm e)] at hi
  simpa [e] using keepP _ _ (h6 i k' p' hi)
theorem ok_insert {t kt et : TypeId} {d : TypeDesc} {x y z : Operand} {k : Nat} {es : List (Value × PV)} {kv : Value} {p : PV} (ho : o.op = .insert t x y z) (hx : fr.ev x = some (.mp k)) (hy : fr.ev y = some (.pv (.val kv))) (hz : fr.ev z = some (.pv p)) (hk : look hp k = some (.map es))
    (hR : ¬ c.R k) (hu : P.underlying t = some (.map kt et)) (hd : P.underlying kt = some d) (hkv : isKeyB d kv = true) (hes : ∀ e ∈ es, isKeyB d e.1 = true) : Ok P c o fr (look hp) (.pv (.val undef)) (look ((k, some (.map (mput kv p es))) :: hp)) := by
  refine ok_skip fun ρ w a h => ?_
  obtain ⟨b, cc, r, ck, u, hv, hρ, h3, h4, h5, h6⟩ := h.mapAt hx hk
  have hzr : RepP (owned c.F ρ) w p (a.eval z) := by
    have := h.ev hz
    generalize a.eval z = vz at this
    cases this with
    | pv _ _ hp => exact hp
  have hkey := MapKept.run_checkKey (w := w) hd (isKeyB_key hkv) false 9999
  have hset : ∀ o', (setObj b o').run P w = .ok () { w with heap := w.heap.setIfInBounds b o' } := fun o' => MapKept.run_setObj_map o' h3
  have hb : b < w.heap.size := (Array.getElem?_eq_some_iff.1 h3).1
  have hsame : ∀ v : Value, isKeyB d v = true → Instr.sameBits 10000 v v = true := by
    intro v hv
    cases d <;> cases v <;> simp_all [isKeyB, Instr.sameBits, MapKept.bytes_beq]
  rcases find_map hkv es r.toList 0 (by simpa using h4) hes (fun j a p hj => by obtain ⟨m, hm, e, _⟩ := h5 j a p hj; exact ⟨m, by simpa using hm, e⟩) with ⟨h1, h2, h7⟩ | ⟨j, m, q, h1, h2, h3', h4', h5', h7⟩
  · have hfind := MapKept.run_findKey (P := P) (w := w) (kt := kt) hd h1
    refine ⟨ρ, { w with heap := w.heap.setIfInBounds b (.map (r.push ⟨kv, a.eval z, ck⟩) (ck + 1)) }, by simp [execOp, ho, hv, ev_val h hy, Instr.mapUpdate, Sem.run_bind, run_underlying hu, MapKept.run_getObj_map h3, hkey, hfind, hset], ?_⟩
    refine h.write hρ hk trivial hR rfl rfl rfl (by simp) (fun j hj => by simp [Ne.symm hj]) fun keep keepP => ?_
    refine .map _ (r.push ⟨kv, a.eval z, ck⟩) (ck + 1) (fun i => if i = es.length then a.eval z else u i) (by simp [hb]) (by simp [h7, h4]) (fun i k' p' hi => ?_) fun i k' p' hi => ?_
    · rw [h7] at hi
      by_cases e : i = es.length
      · subst e
        simp only [List.getElem?_concat_length, Option.some.injEq, Prod.mk.injEq] at hi
        obtain ⟨rfl, rfl⟩ := hi
        exact ⟨⟨kv, a.eval z, ck⟩, by rw [← h4]; simp, rfl, by simp⟩
      have hlt : i < es.length := by
        have := (List.getElem?_eq_some_iff.1 hi).1
        simp at this; omega
      rw [List.getElem?_append_left hlt] at hi
      obtain ⟨m, hm, e1, e2⟩ := h5 i k' p' hi
      refine ⟨m, ?_, e1, by simp [e, e2]⟩
      rw [Array.getElem?_push, if_neg (by omega)]
      exact hm
    rw [h7] at hi
    by_cases e : i = es.length
    · subst e
      simp only [List.getElem?_concat_length, Option.some.injEq, Prod.mk.injEq] at hi
      obtain ⟨rfl, rfl⟩ := hi
      simpa using keepP _ _ hzr
    have hlt : i < es.length := by
      have := (List.getElem?_eq_some_iff.1 hi).1
      simp at this; omega
    rw [List.getElem?_append_left hlt] at hi
    simpa [e] using keepP _ _ (h6 i k' p' hi)
  have hfind := MapKept.run_findKey (P := P) (w := w) (kt := kt) hd h1
  have hj : r[0 + j]? = some m := by simpa using h2
  have hstay : (Instr.keyThatStays kv kv).run P w = .ok kv w := by simp [Instr.keyThatStays, hsame kv hkv]
  refine ⟨ρ, { w with heap := w.heap.setIfInBounds b (.map (r.modify (0 + j) fun e => { e with key := kv, val := a.eval z }) ck) }, ?_, ?_⟩
  · simp only [execOp, ho, hv, ev_val h hy, Instr.mapUpdate, Sem.run_bind, run_underlying hu, MapKept.run_getObj_map h3, hkey, hfind, Result.andThen_ok, hj, Option.map_some, Option.getD_some, h3', hstay, hset]
    rfl
  refine h.write hρ hk trivial hR rfl rfl rfl (by simp) (fun j hj => by simp [Ne.symm hj]) fun keep keepP => ?_
  have hjl : j < es.length := (List.getElem?_eq_some_iff.1 h4').1
  refine .map _ (r.modify (0 + j) fun e => { e with key := kv, val := a.eval z }) ck (fun i => if i = j then a.eval z else u i) (by simp [hb]) (by simp [h7, h4]) (fun i k' p' hi => ?_) fun i k' p' hi => ?_
  · rw [h7] at hi
    by_cases e : i = j
    · subst e
      rw [List.getElem?_set_self hjl] at hi
      cases hi
      refine ⟨{ m with key := kv, val := a.eval z }, ?_, rfl, by simp⟩
      simp only [Nat.zero_add, Array.getElem?_modify, if_true] at hj ⊢
      rw [hj]; rfl
    rw [List.getElem?_set_ne (Ne.symm e)] at hi
    obtain ⟨m', hm', e1, e2⟩ := h5 i k' p' hi
    refine ⟨m', ?_, e1, by simp [e, e2]⟩
    simp only [Nat.zero_add, Array.getElem?_modify, if_neg (Ne.symm e)]
    exact hm'
  rw [h7] at hi
  by_cases e : i = j
  · subst e
    rw [List.getElem?_set_self hjl] at hi
    cases hi
    simpa using keepP _ _ hzr
  rw [List.getElem?_set_ne (Ne.symm e)] at hi
  simpa [e] using keepP _ _ (h6 i k' p' hi)
theorem run_lookup {t kt et : TypeId} {d : TypeDesc} {b ck : Nat} {r : Array MapEntry} {kv z : Value} {es : List (Value × PV)} (commaOk : Bool) (hl : r.size = es.length) (h5 : ∀ (j : Nat) (a : Value) (p : PV), es[j]? = some (a, p) → ∃ m : MapEntry, r[j]? = some m ∧ m.key = a)
    (hu : P.underlying t = some (.map kt et)) (hd : P.underlying kt = some d) (hkv : isKeyB d kv = true) (hes : ∀ e ∈ es, isKeyB d e.1 = true) (hzv : ((P.info? et).bind (·.zero)) = some z) :
    (mfind kv es = none ∧ ∀ w : World, w.heap[b]? = some (.map r ck) → (Instr.lookup t (.map (some b)) kv commaOk).run P w = .ok (if commaOk then .tuple #[z, .bool false] else z) w) ∨
    ∃ (j : Nat) (m : MapEntry) (p : PV), r[j]? = some m ∧ es[j]? = some (kv, p) ∧ mfind kv es = some p ∧ ∀ w : World, w.heap[b]? = some (.map r ck) → (Instr.lookup t (.map (some b)) kv commaOk).run P w = .ok (if commaOk then .tuple #[m.val, .bool true] else m.val) w := by
  have hz : ∀ w, (zeroValue et).run P w = .ok z w := by
    intro w
    cases hq : P.info? et with
    | none => simp [hq] at hzv
    | some i => simp [hq] at hzv; simp [zeroValue, typeInfo, hq, hzv]
  rcases find_map hkv es r.toList 0 (by simpa using hl) hes (fun j a p hj => by obtain ⟨m, hm, e⟩ := h5 j a p hj; exact ⟨m, by simpa using hm, e⟩) with ⟨h1, h2, h7⟩ | ⟨j, m, q, h1, h2, h3', h4', h5', h7⟩
  · refine .inl ⟨h2, fun w hb => ?_⟩
    have hkey := MapKept.run_checkKey (w := w) hd (isKeyB_key hkv) r.isEmpty 9999
    have hfind := MapKept.run_findKey (P := P) (w := w) (kt := kt) hd h1
    simp only [Instr.lookup, Sem.run_bind, run_underlying hu, MapKept.run_getObj_map hb, Sem.run_pure, hkey, hfind, hz, Result.andThen_ok]
  refine .inr ⟨j, m, q, by simpa using h2, h4', h5', fun w hb => ?_⟩
  have hkey := MapKept.run_checkKey (w := w) hd (isKeyB_key hkv) r.isEmpty 9999
  have hfind := MapKept.run_findKey (P := P) (w := w) (kt := kt) hd h1
  simp only [Instr.lookup, Sem.run_bind, run_underlying hu, MapKept.run_getObj_map hb, Sem.run_pure, hkey, hfind, hz, Result.andThen_ok]
/-- m[k] -/
theorem ok_lookup {t kt et : TypeId} {d : TypeDesc} {x y : Operand} {k : Nat} {es : List (Value × PV)} {kv z : Value} (ho : o.op = .lookup t x y false) (hx : fr.ev x = some (.mp k)) (hy : fr.ev y = some (.pv (.val kv))) (hk : look hp k = some (.map es))
    (hu : P.underlying t = some (.map kt et)) (hd : P.underlying kt = some d) (hkv : isKeyB d kv = true) (hes : ∀ e ∈ es, isKeyB d e.1 = true) (hzv : ((P.info? et).bind (·.zero)) = some z) (hR : R1 k) : OkV P c R1 o fr (look hp) (.pv ((mfind kv es).getD (.val z))) := by
  intro ρ w a h
  obtain ⟨b, cc, r, ck, u, hv, hρ, h3, h4, h5, h6⟩ := h.mapAt hx hk
  have h3' : ∀ w2, SameFor c.F R1 ρ w w2 → w2.heap[b]? = some (.map r ck) := fun w2 h2 => (h2 b (h.rel.lt hρ) (.inr ⟨k, cc, hR, hρ⟩)).trans h3
  rcases run_lookup (b := b) (ck := ck) false h4 (fun j a p hj => by obtain ⟨m, h1, h2, _⟩ := h5 j a p hj; exact ⟨m, h1, h2⟩) hu hd hkv hes hzv with ⟨h1, h2⟩ | ⟨j, m, p, h1, h2, h7, h8⟩
  · refine ⟨z, fun w2 hw2 => ?_, by rw [h1]; exact mkVal _⟩
    simp [execOp, ho, hv, ev_val h hy, Sem.run_bind, h2 w2 (h3' w2 hw2)]
  obtain ⟨m', hm', _, e2⟩ := h5 j kv p h2
  rw [h1] at hm'; cases hm'
  refine ⟨m.val, fun w2 hw2 => by simp [execOp, ho, hv, ev_val h hy, Sem.run_bind, h8 w2 (h3' w2 hw2)], ?_⟩
  rw [h7, e2]
  exact .pv _ _ (h6 j kv p h2)
/-- v, ok := m[k] -/
theorem ok_lookup2 {t kt et : TypeId} {d : TypeDesc} {x y : Operand} {k : Nat} {es : List (Value × PV)} {kv z : Value} (ho : o.op = .lookup t x y true) (hx : fr.ev x = some (.mp k)) (hy : fr.ev y = some (.pv (.val kv))) (hk : look hp k = some (.map es))
    (hu : P.underlying t = some (.map kt et)) (hd : P.underlying kt = some d) (hkv : isKeyB d kv = true) (hes : ∀ e ∈ es, isKeyB d e.1 = true) (hzv : ((P.info? et).bind (·.zero)) = some z) (hR : R1 k) : OkV P c R1 o fr (look hp) (.tup [.pv ((mfind kv es).getD (.val z)), iBool (mfind kv es).isSome]) := by
  intro ρ w a h
  obtain ⟨b, cc, r, ck, u, hv, hρ, h3, h4, h5, h6⟩ := h.mapAt hx hk
  have h3' : ∀ w2, SameFor c.F R1 ρ w w2 → w2.heap[b]? = some (.map r ck) := fun w2 h2 => (h2 b (h.rel.lt hρ) (.inr ⟨k, cc, hR, hρ⟩)).trans h3
  have two : ∀ {p : PV} {v : Value} {g : Bool}, RepP (owned c.F ρ) w p v → RepI c.F ρ (look hp) w (.tup [.pv p, iBool g]) (.tuple #[v, .bool g]) := fun {p v g} hp => .tup _ _ (fun j => if j = 0 then v else .bool g) rfl (fun j x hj => by
      match j, hj with
      | 0, hj => rfl
      | 1, hj => rfl
      | j + 2, hj => simp at hj) fun j x hj => by
      match j, hj with
      | 0, hj => cases hj; exact .pv _ _ hp
      | 1, hj => cases hj; exact mkVal _
      | j + 2, hj => simp at hj
  rcases run_lookup (b := b) (ck := ck) true h4 (fun j a p hj => by obtain ⟨m, h1, h2, _⟩ := h5 j a p hj; exact ⟨m, h1, h2⟩) hu hd hkv hes hzv with ⟨h1, h2⟩ | ⟨j, m, p, h1, h2, h7, h8⟩
  · refine ⟨.tuple #[z, .bool false], fun w2 hw2 => ?_, by rw [h1]; exact two (.val _)⟩
    simp [execOp, ho, hv, ev_val h hy, Sem.run_bind, h2 w2 (h3' w2 hw2)]
  obtain ⟨m', hm', _, e2⟩ := h5 j kv p h2
  rw [h1] at hm'; cases hm'
  refine ⟨.tuple #[m.val, .bool true], fun w2 hw2 => by simp [execOp, ho, hv, ev_val h hy, Sem.run_bind, h8 w2 (h3' w2 hw2)], ?_⟩
  rw [h7, e2]
  exact two (h6 j kv p h2)
theorem ok_len_map {t kt et : TypeId} {x : Operand} {k : Nat} {es : List (Value × PV)} (ho : o.op = .call { callee := .builtin .len, args := #[x], argTypes := #[t] }) (hx : fr.ev x = some (.mp k)) (hk : look hp k = some (.map es)) (hu : P.underlying t = some (.map kt et)) (hR : R1 k) :
    OkV P c R1 o fr (look hp) (.pv (vInt es.length)) := by
  intro ρ w a h
  obtain ⟨b, cc, r, ck, u, hv, hρ, h3, h4, h5, h6⟩ := h.mapAt hx hk
  refine ⟨_, fun w2 h2 => ?_, mkVal _⟩
  have h3' := (h2 b (h.rel.lt hρ) (.inr ⟨k, cc, hR, hρ⟩)).trans h3
  simp [execOp, ho, hv, resolve, Sem.run_bind, invoke, builtin, Builtin.len_, run_underlying hu, goInt, MapKept.run_getObj_map h3', h4]
end
set_option maxRecDepth 8000 in
set_option maxHeartbeats 2000000 in
theorem sc_r8Same (u v : Un) : SC Tryz.prog 15 [.pv u.enc, .pv v.enc] [] (fun _ => False) (iBool (r8Same u v)) [] := by
  refine SC.of Tryz.func15 rfl (lb rfl) fun F ρ w => ?_
  refine Tr.seq <| Tr.region rfl <| WL.cons rfl rfl rfl (ok_box rfl rfl) <| WL.cons rfl rfl rfl (ok_box rfl rfl) <| cV rfl (oA rfl) <| WL.nil <| Tr.seq <| Tr.seq <| Tr.region rfl <| cV rfl (oFe rfl tF25_0) <| cV rfl (oLe Tryz.underlying22 rfl rfl) <| cV rfl (oSm Tryz.underlying22 rfl) ?_
  refine cV rfl (oFe rfl tF25_0) <| cV rfl (oLe Tryz.underlying22 rfl rfl) <| cV rfl (oSm Tryz.underlying22 rfl) <| cV rfl (oB rfl rfl rfl) <| cV rfl (oM rfl) ?_
  refine WL.split (t := 16) rfl (fun hb16 => ?_) (fun hb16 => ?_)
  · refine nV rfl rfl <| nV rfl rfl <| nV rfl rfl <| nV rfl rfl <| nV rfl rfl <| nV rfl rfl <| nV rfl rfl <| cV rfl (oT rfl rfl) <| WL.nil <| Tr.condT rfl <| Tr.seq <| Tr.region rfl ?_
    refine cV rfl (oA rfl) <| WL.nil <| Tr.ret ?_
    refine ret_ok rfl ?_ no_post
    refine congrArg (fun b => iBool b) ?_
    have hne : ¬ (u.arrays.length = v.arrays.length ∧ u.flows.length = v.flows.length) := by
      rintro ⟨h1, h2⟩
      simp_all
    unfold r8Same
    by_cases h1 : u.arrays.length = v.arrays.length
    · have h2 : ¬ u.flows.length = v.flows.length := fun h2 => hne ⟨h1, h2⟩
      simp [h2]
    simp [h1]
  refine yV rfl rfl (oFe rfl tF25_1) <| yV rfl rfl (oLe Tryz.underlying23 rfl rfl) <| yV rfl rfl (oSm Tryz.underlying23 rfl) <| yV rfl rfl (oFe rfl tF25_1) <| yV rfl rfl (oLe Tryz.underlying23 rfl rfl) <| yV rfl rfl (oSm Tryz.underlying23 rfl) <| yV rfl rfl (oB rfl rfl rfl) <| cV rfl (oF rfl rfl) <| WL.nil ?_
  refine Tr.cond rfl (fun hc24 => ?_) (fun hc24 => ?_)
  · refine Tr.seq <| Tr.region rfl <| cV rfl (oA rfl) <| WL.nil <| Tr.ret ?_
    refine ret_ok rfl ?_ no_post
    refine congrArg (fun b => iBool b) ?_
    have hne : ¬ (u.arrays.length = v.arrays.length ∧ u.flows.length = v.flows.length) := by
      rintro ⟨h1, h2⟩
      simp_all
    unfold r8Same
    by_cases h1 : u.arrays.length = v.arrays.length
    · have h2 : ¬ u.flows.length = v.flows.length := fun h2 => hne ⟨h1, h2⟩
      simp [h2]
    simp [h1]
  have hlen : u.arrays.length = v.arrays.length ∧ u.flows.length = v.flows.length := by
    (simp_all <;> omega)
  refine Tr.skip <| Tr.seq <| Tr.seq <| Tr.region rfl <| cV rfl (oA rfl) <| WL.nil <| Tr.block <| Tr.sub (Sub.of (fr' := [(5, iInt 0), (2, .pv (.ept [arrs u.arrays, flws u.flows] 0)), (3, .pv (.ept [arrs v.arrays, flws v.flows] 0))]) ⟨rfl, rfl, rfl, trivial⟩) ?_
  refine Tr.loop (fun fr σ m => ∃ (k : Nat), (k ≤ u.arrays.length) ∧ (sameAs u.arrays v.arrays = sameAs (u.arrays.drop k) (v.arrays.drop k)) ∧ fr = [(5, iInt k), (2, .pv (.ept [arrs u.arrays, flws u.flows] 0)), (3, .pv (.ept [arrs v.arrays, flws v.flows] 0))] ∧ σ = look [] ∧ m = u.arrays.length - k) (n := u.arrays.length - 0) ?_ ?_
  · exact ⟨0, Nat.zero_le _, rfl, rfl, rfl, rfl⟩
  rintro fr σ m ⟨k, hI0, hI1, rfl, rfl, rfl⟩
  refine Tr.seq <| Tr.seq <| Tr.region rfl <| cV rfl (oM rfl) <| cV rfl (oFe rfl tF25_0) <| cV rfl (oLe Tryz.underlying22 rfl rfl) ?_
  refine WL.lenOf (t := 27) rfl (fun hl1 => ?_)
  simp only [List.length_map] at hl1
  refine cV rfl (oSm Tryz.underlying22 rfl) <| cV rfl (oB rfl rfl rfl) <| WL.nil ?_
  refine Tr.cond rfl (fun hc29 => ?_) (fun hc29 => ?_)
  · have hlt : k < u.arrays.length := by simpa using hc29
    have hd := List.drop_eq_getElem_cons hlt
    have hm := List.getElem_mem hlt
    have hi := map_get (f := Ar.enc) (List.getElem?_eq_getElem hlt)
    generalize u.arrays[k] = x at hd hm hi
    have hltw : k < v.arrays.length := by omega
    have hdw := List.drop_eq_getElem_cons hltw
    have hw := map_get (f := Ar.enc) (List.getElem?_eq_getElem hltw)
    generalize v.arrays[k] = y at hdw hw
    refine Tr.skip <| Tr.seq <| Tr.block <| Tr.seq <| Tr.still mixed (by kernel_rfl) rfl <| sV rfl (oFe rfl tF25_0) <| sV rfl (oLe Tryz.underlying22 rfl rfl) <| sV rfl (oM rfl) <| sV rfl (ok_index_seq rfl rfl rfl Tryz.underlying22 hi tS49 rfl (by rfl)) <| sV rfl (ok_load_ept_agg rfl rfl Tryz.underlying49 rfl tS49 (Nat.le_of_ble_eq_true rfl)) <| sV rfl (oFe rfl tF25_0) <| sV rfl (oLe Tryz.underlying22 rfl rfl) ?_
    refine sV rfl (oM rfl) <| sV rfl (ok_index_seq rfl rfl rfl Tryz.underlying22 hw tS49 rfl (by rfl)) <| sV rfl (ok_load_ept_agg rfl rfl Tryz.underlying49 rfl tS49 (Nat.le_of_ble_eq_true rfl)) <| sV rfl (ok_neq_strint rfl rfl rfl Tryz.underlying49 Tryz.underlying9 Tryz.underlying3 rfl rfl (by decide) (by decide) (by kernel_rfl) (by kernel_rfl)) <| WS.nil ?_
    refine Tr.cond rfl (fun hc42 => ?_) (fun hc42 => ?_)
    · refine Tr.seq <| Tr.region rfl <| cV rfl (oA rfl) <| WL.nil <| Tr.ret ?_
      refine ret_ok rfl ?_ no_post
      have hxy : sameA x y = false := by
        clear hd hdw hm hi hw hI1
        cases hb1 : (x.name.toList == y.name.toList) <;> cases hb2 : (x.size == y.size) <;> simp_all [sameA]
      have hA : sameAs u.arrays v.arrays = false := by rw [hI1, hd, hdw]; simp [sameAs, hxy]
      simp [r8Same, hA]
    refine Tr.skip <| Tr.region rfl <| cV rfl (oM rfl) <| cV rfl (oB rfl rfl (i64_add rfl (by omega))) <| cV rfl (oA rfl) <| WL.nil ?_
    refine ⟨_, _, ?_, Sub.of (fr' := [(5, iInt (k + 1)), (2, .pv (.ept [arrs u.arrays, flws u.flows] 0)), (3, .pv (.ept [arrs v.arrays, flws v.flows] 0))]) ⟨rfl, rfl, rfl, trivial⟩, (k + 1), ?_, ?_, rfl, rfl, rfl⟩
    · omega
    · omega
    rw [hI1, hd, hdw]
    have hxy : sameA x y = true := by
      clear hd hdw hm hi hw
      simp_all [sameA]
    simp [sameAs, hxy]
  refine Tr.exit <| Tr.seq <| Tr.seq ?_
  have hAs : sameAs u.arrays v.arrays = true := by
    have hge : u.arrays.length ≤ k := by simpa using hc29
    rw [hI1, List.drop_eq_nil_of_le hge, List.drop_eq_nil_of_le (by omega)]
    rfl
  refine Tr.region rfl <| cV rfl (oA rfl) <| WL.nil <| Tr.block <| Tr.sub (Sub.of (fr' := [(6, iInt 0), (2, .pv (.ept [arrs u.arrays, flws u.flows] 0)), (3, .pv (.ept [arrs v.arrays, flws v.flows] 0))]) ⟨rfl, rfl, rfl, trivial⟩) ?_
  refine Tr.loop (fun fr σ m => ∃ (k : Nat), (k ≤ u.flows.length) ∧ (sameFs u.flows v.flows = sameFs (u.flows.drop k) (v.flows.drop k)) ∧ fr = [(6, iInt k), (2, .pv (.ept [arrs u.arrays, flws u.flows] 0)), (3, .pv (.ept [arrs v.arrays, flws v.flows] 0))] ∧ σ = look [] ∧ m = u.flows.length - k) (n := u.flows.length - 0) ?_ ?_
  · exact ⟨0, Nat.zero_le _, rfl, rfl, rfl, rfl⟩
  rintro fr σ m ⟨k, hI0, hI1, rfl, rfl, rfl⟩
  refine Tr.seq <| Tr.seq <| Tr.region rfl <| cV rfl (oM rfl) <| cV rfl (oFe rfl tF25_1) <| cV rfl (oLe Tryz.underlying23 rfl rfl) ?_
  refine WL.lenOf (t := 45) rfl (fun hl1 => ?_)
  simp only [List.length_map] at hl1
  refine cV rfl (oSm Tryz.underlying23 rfl) <| cV rfl (oB rfl rfl rfl) <| WL.nil ?_
  refine Tr.cond rfl (fun hc47 => ?_) (fun hc47 => ?_)
  · have hlt : k < u.flows.length := by simpa using hc47
    have hd := List.drop_eq_getElem_cons hlt
    have hm := List.getElem_mem hlt
    have hi := map_get (f := Fl.enc) (List.getElem?_eq_getElem hlt)
    generalize u.flows[k] = x at hd hm hi
    have hltw : k < v.flows.length := by omega
    have hdw := List.drop_eq_getElem_cons hltw
    have hw := map_get (f := Fl.enc) (List.getElem?_eq_getElem hltw)
    generalize v.flows[k] = y at hdw hw
    refine Tr.skip <| Tr.seq <| Tr.block <| Tr.seq ?_
    refine Tr.cut (fr' := [(8, .ptr 108 0), (7, .ptr 107 0), (6, iInt k), (2, .pv (.ept [arrs u.arrays, flws u.flows] 0)), (3, .pv (.ept [arrs v.arrays, flws v.flows] 0))]) (σ' := look [(107, some (.box [iStr x.name, iInt x.ty, iInt x.params, .pv (ints x.types), .pv (nodes x.body)])), (108, some (.box [iStr y.name, iInt y.ty, iInt y.params, .pv (ints y.types), .pv (nodes y.body)]))]) ?_ ?_
    · refine Tr.drawn mixed (fun k => k ∈ ([] : List Nat)) <| WA.run (fuel := 4) [0, 1, 2, 3, 4, 5, 6, 7, 8, 9] (by kernel_rfl) ((fun _ _ _ h => pn h.1)) (by kernel_rfl) <| rV rfl rfl (oFe rfl tF25_1) <| rV rfl rfl (oLe Tryz.underlying23 rfl rfl) <| rV rfl rfl (oM rfl) <| rV rfl rfl (ok_index_seq rfl rfl rfl Tryz.underlying23 hi tS51 rfl (by rfl)) <| rV rfl rfl (ok_load_ept_agg rfl rfl Tryz.underlying51 rfl tS51 (Nat.le_of_ble_eq_true rfl)) <| rV rfl rfl (oFe rfl tF25_1) <| rV rfl rfl (oLe Tryz.underlying23 rfl rfl) <| rV rfl rfl (oM rfl) <| rV rfl rfl (ok_index_seq rfl rfl rfl Tryz.underlying23 hw tS51 rfl (by rfl)) <| rV rfl rfl (ok_load_ept_agg rfl rfl Tryz.underlying51 rfl tS51 (Nat.le_of_ble_eq_true rfl)) ?_
      refine WR.nil ?_
      refine WA.all (rs := [10, 11]) (by kernel_rfl) (by simp) ?_
      refine List.forall_mem_cons.2 ⟨?_, List.forall_mem_cons.2 ⟨?_, by simp⟩⟩
      · refine WI.op rfl rfl rfl (by intro t h; cases h <;> rfl) (fun k (h : _) => h.elim) (new_one rfl) (fun ρ w => ok_alloc (k := 107) rfl tZ51 rfl rfl rfl rfl) <| WA.one (i := 11) (by kernel_rfl) <| WI.op rfl rfl rfl (by intro t h; cases h <;> rfl) (fun k (h : _) => h.elim) (new_one rfl) (fun ρ w => ok_alloc (k := 108) rfl tZ51 rfl rfl rfl rfl) <| WA.one (i := 12) (by kernel_rfl) ?_
        refine WI.op rfl rfl rfl (by intro t h; cases h <;> rfl) (fun k (h : _) => h.elim) (new_old rfl) (fun ρ w => ok_store_box_agg rfl rfl rfl rfl rfl (by simp) tS51 (firmL_ok rfl) (lb rfl)) ?_
        refine WA.one (i := 13) (by kernel_rfl) ?_
        refine WI.op rfl rfl rfl (by intro t h; cases h <;> rfl) (fun k (h : _) => h.elim) (new_old rfl) (fun ρ w => ok_store_box_agg rfl rfl rfl rfl rfl (by simp) tS51 (firmL_ok rfl) (lb rfl)) ?_
        refine WA.done (by kernel_rfl) ?_
        refine ⟨rfl, Sub.of ⟨rfl, rfl, rfl, rfl, rfl, trivial⟩, ?_⟩
        exact look_two rfl rfl (fun k h1 h2 => by simp [look, beq_ne (Ne.symm h1), beq_ne (Ne.symm h2)]) (by decide)
      refine WI.op rfl rfl rfl (by intro t h; cases h <;> rfl) (fun k (h : _) => h.elim) (new_one rfl) (fun ρ w => ok_alloc (k := 108) rfl tZ51 rfl rfl rfl rfl) <| WA.one (i := 10) (by kernel_rfl) <| WI.op rfl rfl rfl (by intro t h; cases h <;> rfl) (fun k (h : _) => h.elim) (new_one rfl) (fun ρ w => ok_alloc (k := 107) rfl tZ51 rfl rfl rfl rfl) <| WA.one (i := 12) (by kernel_rfl) ?_
      refine WI.op rfl rfl rfl (by intro t h; cases h <;> rfl) (fun k (h : _) => h.elim) (new_old rfl) (fun ρ w => ok_store_box_agg rfl rfl rfl rfl rfl (by simp) tS51 (firmL_ok rfl) (lb rfl)) ?_
      refine WA.one (i := 13) (by kernel_rfl) ?_
      refine WI.op rfl rfl rfl (by intro t h; cases h <;> rfl) (fun k (h : _) => h.elim) (new_old rfl) (fun ρ w => ok_store_box_agg rfl rfl rfl rfl rfl (by simp) tS51 (firmL_ok rfl) (lb rfl)) ?_
      refine WA.done (by kernel_rfl) ?_
      refine ⟨rfl, Sub.of ⟨rfl, rfl, rfl, rfl, rfl, trivial⟩, ?_⟩
      exact look_two rfl rfl (fun k h1 h2 => by simp [look, beq_ne (Ne.symm h1), beq_ne (Ne.symm h2)]) (by decide)
    refine Tr.freezeBox (t := 7) (k := 107) rfl rfl rfl <| Tr.freezeBox (t := 8) (k := 108) rfl rfl rfl <| Tr.heap (σ' := look []) (fun k => by simp only [look]; cases Nat.beq 107 k <;> cases Nat.beq 108 k <;> rfl) <| Tr.seq <| Tr.region rfl <| cV rfl (oFe rfl tF51_0) <| cV rfl (oLe Tryz.underlying9 rfl rfl) <| cV rfl (oFe rfl tF51_0) <| cV rfl (oLe Tryz.underlying9 rfl rfl) <| cV rfl (ok_bin_str rfl rfl rfl rfl) <| cV rfl (oM rfl) ?_
    refine WL.split (t := 65) rfl (fun hb65 => ?_) (fun hb65 => ?_)
    · refine nV rfl rfl <| nV rfl rfl <| nV rfl rfl <| nV rfl rfl <| nV rfl rfl <| cV rfl (oT rfl rfl) <| cV rfl (oM rfl) <| nV rfl rfl <| nV rfl rfl <| nV rfl rfl <| nV rfl rfl <| nV rfl rfl ?_
      refine cV rfl (oT rfl rfl) <| cV rfl (oM rfl) <| nV rfl rfl <| nV rfl rfl <| nV rfl rfl <| nV rfl rfl <| nV rfl rfl <| nV rfl rfl <| cV rfl (oT rfl rfl) <| cV rfl (oM rfl) <| nV rfl rfl <| nV rfl rfl ?_
      refine nV rfl rfl <| nV rfl rfl <| nV rfl rfl <| nV rfl rfl <| cV rfl (oT rfl rfl) <| WL.nil <| Tr.condT rfl <| Tr.seq <| Tr.region rfl <| cV rfl (oA rfl) <| WL.nil <| Tr.ret ?_
      refine ret_ok rfl ?_ no_post
      have hxy : sameF x y = false := by
        clear hd hdw hm hi hw hI1
        simp_all [sameF]
      have hF : sameFs u.flows v.flows = false := by rw [hI1, hd, hdw]; simp [sameFs, hxy]
      simp [r8Same, hF]
    refine yV rfl rfl (oFe rfl tF51_1) <| yV rfl rfl (oLe Tryz.underlying3 rfl rfl) <| yV rfl rfl (oFe rfl tF51_1) <| yV rfl rfl (oLe Tryz.underlying3 rfl rfl) <| yV rfl rfl (oB rfl rfl rfl) <| cV rfl (oF rfl rfl) <| cV rfl (oM rfl) ?_
    refine WL.split (t := 72) rfl (fun hb72 => ?_) (fun hb72 => ?_)
    · refine nV rfl rfl <| nV rfl rfl <| nV rfl rfl <| nV rfl rfl <| nV rfl rfl <| cV rfl (oT rfl rfl) <| cV rfl (oM rfl) <| nV rfl rfl <| nV rfl rfl <| nV rfl rfl <| nV rfl rfl <| nV rfl rfl ?_
      refine nV rfl rfl <| cV rfl (oT rfl rfl) <| cV rfl (oM rfl) <| nV rfl rfl <| nV rfl rfl <| nV rfl rfl <| nV rfl rfl <| nV rfl rfl <| nV rfl rfl <| cV rfl (oT rfl rfl) <| WL.nil <| Tr.condT rfl ?_
      refine Tr.seq <| Tr.region rfl <| cV rfl (oA rfl) <| WL.nil <| Tr.ret ?_
      refine ret_ok rfl ?_ no_post
      have hxy : sameF x y = false := by
        clear hd hdw hm hi hw hI1
        simp_all [sameF]
      have hF : sameFs u.flows v.flows = false := by rw [hI1, hd, hdw]; simp [sameFs, hxy]
      simp [r8Same, hF]
    refine yV rfl rfl (oFe rfl tF51_2) <| yV rfl rfl (oLe Tryz.underlying3 rfl rfl) <| yV rfl rfl (oFe rfl tF51_2) <| yV rfl rfl (oLe Tryz.underlying3 rfl rfl) <| yV rfl rfl (oB rfl rfl rfl) <| cV rfl (oF rfl rfl) <| cV rfl (oM rfl) ?_
    refine WL.split (t := 79) rfl (fun hb79 => ?_) (fun hb79 => ?_)
    · refine nV rfl rfl <| nV rfl rfl <| nV rfl rfl <| nV rfl rfl <| nV rfl rfl <| nV rfl rfl <| cV rfl (oT rfl rfl) <| cV rfl (oM rfl) <| nV rfl rfl <| nV rfl rfl <| nV rfl rfl <| nV rfl rfl ?_
      refine nV rfl rfl <| nV rfl rfl <| cV rfl (oT rfl rfl) <| WL.nil <| Tr.condT rfl <| Tr.seq <| Tr.region rfl <| cV rfl (oA rfl) <| WL.nil <| Tr.ret ?_
      refine ret_ok rfl ?_ no_post
      have hxy : sameF x y = false := by
        clear hd hdw hm hi hw hI1
        simp_all [sameF]
      have hF : sameFs u.flows v.flows = false := by rw [hI1, hd, hdw]; simp [sameFs, hxy]
      simp [r8Same, hF]
    refine yV rfl rfl (oFe rfl tF51_3) <| yV rfl rfl (oLe Tryz.underlying35 rfl rfl) <| yV rfl rfl (oFe rfl tF51_3) <| yV rfl rfl (oLe Tryz.underlying35 rfl rfl) <| WL.yes rfl rfl rfl rfl rfl rfl (ok_callq (sc_r8sameInts _ _) ent27 rfl rfl (Subs.refl _ _) rfl) <| yV rfl rfl (oN rfl) <| cV rfl (oF rfl rfl) <| cV rfl (oM rfl) ?_
    refine WL.split (t := 87) rfl (fun hb87 => ?_) (fun hb87 => ?_)
    · refine nV rfl rfl <| nV rfl rfl <| nV rfl rfl <| nV rfl rfl <| nV rfl rfl <| nV rfl rfl <| cV rfl (oT rfl rfl) <| WL.nil <| Tr.condT rfl <| Tr.seq <| Tr.region rfl <| cV rfl (oA rfl) ?_
      refine WL.nil <| Tr.ret ?_
      refine ret_ok rfl ?_ no_post
      have hxy : sameF x y = false := by
        clear hd hdw hm hi hw hI1
        simp_all [sameF]
      have hF : sameFs u.flows v.flows = false := by rw [hI1, hd, hdw]; simp [sameFs, hxy]
      simp [r8Same, hF]
    refine yV rfl rfl (oFe rfl tF51_4) <| yV rfl rfl (oLe Tryz.underlying43 rfl rfl) <| yV rfl rfl (oFe rfl tF51_4) <| yV rfl rfl (oLe Tryz.underlying43 rfl rfl) <| WL.yes rfl rfl rfl rfl rfl rfl (ok_callq (sc_r8sameNodes _ _) ent28 rfl rfl (Subs.refl _ _) rfl) <| yV rfl rfl (oN rfl) <| cV rfl (oF rfl rfl) <| WL.nil ?_
    refine Tr.cond rfl (fun hc94 => ?_) (fun hc94 => ?_)
    · refine Tr.seq <| Tr.region rfl <| cV rfl (oA rfl) <| WL.nil <| Tr.ret ?_
      refine ret_ok rfl ?_ no_post
      have hxy : sameF x y = false := by
        clear hd hdw hm hi hw hI1
        simp_all [sameF]
      have hF : sameFs u.flows v.flows = false := by rw [hI1, hd, hdw]; simp [sameFs, hxy]
      simp [r8Same, hF]
    refine Tr.skip <| Tr.region rfl <| cV rfl (oM rfl) <| cV rfl (oB rfl rfl (i64_add rfl (by omega))) <| cV rfl (oA rfl) <| WL.nil ?_
    refine ⟨_, _, ?_, Sub.of (fr' := [(6, iInt (k + 1)), (2, .pv (.ept [arrs u.arrays, flws u.flows] 0)), (3, .pv (.ept [arrs v.arrays, flws v.flows] 0))]) ⟨rfl, rfl, rfl, trivial⟩, (k + 1), ?_, ?_, rfl, rfl, rfl⟩
    · omega
    · omega
    rw [hI1, hd, hdw]
    have hxy : sameF x y = true := by
      clear hd hdw hm hi hw
      simp_all [sameF]
    simp [sameFs, hxy]
  refine Tr.exit <| Tr.seq <| Tr.region rfl <| cV rfl (oA rfl) <| WL.nil <| Tr.ret ?_
  refine ret_ok rfl ?_ no_post
  have hge : u.flows.length ≤ k := by simpa using hc47
  have hF : sameFs u.flows v.flows = true := by rw [hI1, List.drop_eq_nil_of_le hge, List.drop_eq_nil_of_le (by omega)]; rfl
  simp [r8Same, hAs, hF, hlen.1, hlen.2]
set_option maxRecDepth 8000 in
set_option maxHeartbeats 2000000 in
theorem sc_r8Weight (u : Un) (hb : r8Weight u ≤ 4611686018427387904) : SC Tryz.prog 8 [.pv u.enc] [] (fun _ => False) (iInt (r8Weight u)) [] := by
  refine SC.of Tryz.func8 rfl (lb rfl) fun F ρ w => ?_
  have hW : r8Weight u = u.arrays.length + u.flows.length + wtA u.arrays + wtF u.flows := rfl
  refine Tr.seq <| Tr.region rfl <| WL.cons rfl rfl rfl (ok_box rfl rfl) <| cV rfl (oA rfl) <| WL.nil <| Tr.seq <| Tr.region rfl <| cV rfl (oFe rfl tF25_0) <| cV rfl (oLe Tryz.underlying22 rfl rfl) ?_
  refine WL.lenOf (t := 7) rfl (fun hl1 => ?_)
  simp only [List.length_map] at hl1
  refine cV rfl (oSm Tryz.underlying22 rfl) <| cV rfl (oFe rfl tF25_1) <| cV rfl (oLe Tryz.underlying23 rfl rfl) ?_
  refine WL.lenOf (t := 10) rfl (fun hl2 => ?_)
  simp only [List.length_map] at hl2
  refine cV rfl (oSm Tryz.underlying23 rfl) <| cV rfl (oB rfl rfl (i64_add rfl (by omega))) <| cV rfl (oA rfl) <| WL.nil <| Tr.seq <| Tr.seq <| Tr.region rfl <| cV rfl (oA rfl) <| WL.nil <| Tr.block <| Tr.sub (Sub.of (fr' := [(4, iInt 0), (3, iInt (u.arrays.length + u.flows.length)), (1, .pv (.ept [arrs u.arrays, flws u.flows] 0))]) ⟨rfl, (by rfl), rfl, trivial⟩) ?_
  refine Tr.loop (fun fr σ m => ∃ (k : Nat) (n : Nat), (k ≤ u.arrays.length) ∧ (n + wtA (u.arrays.drop k) + wtF u.flows = r8Weight u) ∧ fr = [(4, iInt k), (3, iInt n), (1, .pv (.ept [arrs u.arrays, flws u.flows] 0))] ∧ σ = look [] ∧ m = u.arrays.length - k) (n := u.arrays.length - 0) ?_ ?_
  · exact ⟨0, (u.arrays.length + u.flows.length), Nat.zero_le _, rfl, rfl, rfl, rfl⟩
  rintro fr σ m ⟨k, n, hI0, hI1, rfl, rfl, rfl⟩
  refine Tr.seq <| Tr.seq <| Tr.region rfl <| cV rfl (oM rfl) <| cV rfl (oFe rfl tF25_0) <| cV rfl (oLe Tryz.underlying22 rfl rfl) <| cV rfl (oSm Tryz.underlying22 rfl) <| cV rfl (oB rfl rfl rfl) <| WL.nil ?_
  refine Tr.cond rfl (fun hc17 => ?_) (fun hc17 => ?_)
  · have hlt : k < u.arrays.length := by simpa using hc17
    have hd := List.drop_eq_getElem_cons hlt
    have hm := List.getElem_mem hlt
    have hi := map_get (f := Ar.enc) (List.getElem?_eq_getElem hlt)
    generalize u.arrays[k] = x at hd hm hi
    rw [hd, show wtA (x :: u.arrays.drop (k + 1)) = x.name.size + wtA (u.arrays.drop (k + 1)) from rfl] at hI1
    refine Tr.skip <| Tr.seq <| Tr.block <| Tr.region rfl <| cV rfl (oM rfl) <| cV rfl (oFe rfl tF25_0) <| cV rfl (oLe Tryz.underlying22 rfl rfl) <| cV rfl (oM rfl) <| cV rfl (ok_index_seq rfl rfl rfl Tryz.underlying22 hi tS49 rfl (by rfl)) <| cV rfl (oFe rfl tF49_0) <| cV rfl (oLe Tryz.underlying9 rfl rfl) <| cV rfl (ok_len_str rfl rfl Tryz.underlying9) ?_
    refine cV rfl (oB rfl rfl (i64_add rfl (by omega))) <| cV rfl (oA rfl) <| WL.nil <| Tr.region rfl <| cV rfl (oM rfl) <| cV rfl (oB rfl rfl (i64_add rfl (by omega))) <| cV rfl (oA rfl) <| WL.nil ?_
    refine ⟨_, _, ?_, Sub.of (fr' := [(4, iInt (k + 1)), (3, iInt (n + x.name.size)), (1, .pv (.ept [arrs u.arrays, flws u.flows] 0))]) ⟨rfl, congrArg (fun z => some (iInt z)) (by rfl), rfl, trivial⟩, (k + 1), (n + x.name.size), ?_, ?_, rfl, rfl, rfl⟩
    all_goals omega
  refine Tr.exit <| Tr.seq <| Tr.seq <| Tr.region rfl <| cV rfl (oA rfl) <| WL.nil <| Tr.block ?_
  have hstart : n + wtF (u.flows.drop 0) = r8Weight u := by
    rw [List.drop_eq_nil_of_le (by simpa using hc17)] at hI1
    simpa [wtA] using hI1
  refine Tr.sub (Sub.of (fr' := [(5, iInt 0), (3, iInt n), (1, .pv (.ept [arrs u.arrays, flws u.flows] 0))]) ⟨rfl, rfl, rfl, trivial⟩) ?_
  refine Tr.loop (fun fr σ m => ∃ (k : Nat) (acc : Nat), (k ≤ u.flows.length) ∧ (acc + wtF (u.flows.drop k) = r8Weight u) ∧ fr = [(5, iInt k), (3, iInt acc), (1, .pv (.ept [arrs u.arrays, flws u.flows] 0))] ∧ σ = look [] ∧ m = u.flows.length - k) (n := u.flows.length - 0) ?_ ?_
  · exact ⟨0, n, Nat.zero_le _, hstart, rfl, rfl, rfl⟩
  rintro fr σ m ⟨k, acc, hJ0, hJ1, rfl, rfl, rfl⟩
  refine Tr.seq <| Tr.seq <| Tr.region rfl <| cV rfl (oM rfl) <| cV rfl (oFe rfl tF25_1) <| cV rfl (oLe Tryz.underlying23 rfl rfl) <| cV rfl (oSm Tryz.underlying23 rfl) <| cV rfl (oB rfl rfl rfl) <| WL.nil ?_
  refine Tr.cond rfl (fun hc33 => ?_) (fun hc33 => ?_)
  · have hlt : k < u.flows.length := by simpa using hc33
    have hd := List.drop_eq_getElem_cons hlt
    have hm := List.getElem_mem hlt
    have hi := map_get (f := Fl.enc) (List.getElem?_eq_getElem hlt)
    generalize u.flows[k] = x at hd hm hi
    rw [hd, show wtF (x :: u.flows.drop (k + 1)) = x.name.size + x.types.length + r8nodes x.body + wtF (u.flows.drop (k + 1)) from rfl] at hJ1
    have hbn : r8nodes x.body ≤ 4611686018427387904 := by omega
    refine Tr.skip <| Tr.seq <| Tr.block <| Tr.drawn mixed (fun k => k ∈ ([] : List Nat)) <| WA.run (fuel := 3) [0, 1, 2, 3, 4, 5, 6, 7, 8, 9, 10, 11, 12, 13, 14, 15, 16, 17, 18, 19, 20, 21, 22] (by kernel_rfl) ((fun _ _ _ h => h)) (by kernel_rfl) <| rV rfl rfl (oM rfl) <| rV rfl rfl (oFe rfl tF25_1) <| rV rfl rfl (oLe Tryz.underlying23 rfl rfl) <| rV rfl rfl (oM rfl) <| rV rfl rfl (ok_index_seq rfl rfl rfl Tryz.underlying23 hi tS51 rfl (by rfl)) <| rV rfl rfl (oFe rfl tF51_0) <| rV rfl rfl (oLe Tryz.underlying9 rfl rfl) ?_
    refine rV rfl rfl (ok_len_str rfl rfl Tryz.underlying9) <| rV rfl rfl (oB rfl rfl (i64_add rfl (by omega))) <| rV rfl rfl (oFe rfl tF25_1) <| rV rfl rfl (oLe Tryz.underlying23 rfl rfl) <| rV rfl rfl (oM rfl) <| rV rfl rfl (ok_index_seq rfl rfl rfl Tryz.underlying23 hi tS51 rfl (by rfl)) <| rV rfl rfl (oFe rfl tF51_3) <| rV rfl rfl (oLe Tryz.underlying35 rfl rfl) <| rV rfl rfl (oSm Tryz.underlying35 rfl) <| rV rfl rfl (oB rfl rfl (i64_add rfl (by omega))) <| rV rfl rfl (oFe rfl tF25_1) <| rV rfl rfl (oLe Tryz.underlying23 rfl rfl) ?_
    refine rV rfl rfl (oM rfl) <| rV rfl rfl (ok_index_seq rfl rfl rfl Tryz.underlying23 hi tS51 rfl (by rfl)) <| rV rfl rfl (oFe rfl tF51_4) <| rV rfl rfl (oLe Tryz.underlying43 rfl rfl) <| WR.nil <| WA.one (i := 23) (by kernel_rfl) <| WI.op rfl rfl rfl (by intro t h; cases h <;> rfl) (fun k (h : _) => h.elim) (fun _ h1 h2 => absurd h1 h2) (fun ρ w => ok_callq (sc_r8nodes _ hbn) ent18 rfl rfl (Subs.refl _ _) rfl) <| WA.run (fuel := 0) [24, 25] (by kernel_rfl) ((fun _ _ _ h => h)) (by kernel_rfl) <| rV rfl rfl (oB rfl rfl (i64_add rfl (by omega))) <| rV rfl rfl (oA rfl) <| WR.nil <| WA.done (by kernel_rfl) ?_
    refine Tr.region rfl <| cV rfl (oM rfl) <| cV rfl (oB rfl rfl (i64_add rfl (by omega))) <| cV rfl (oA rfl) <| WL.nil ?_
    refine ⟨_, _, ?_, Sub.of (fr' := [(5, iInt (k + 1)), (3, iInt (acc + x.name.size + x.types.length + r8nodes x.body)), (1, .pv (.ept [arrs u.arrays, flws u.flows] 0))]) ⟨rfl, congrArg (fun z => some (iInt z)) (by rfl), rfl, trivial⟩, (k + 1), (acc + x.name.size + x.types.length + r8nodes x.body), ?_, ?_, rfl, rfl, rfl⟩
    all_goals omega
  refine Tr.exit <| Tr.seq <| Tr.region rfl <| cV rfl (oM rfl) <| cV rfl (oA rfl) <| WL.nil <| Tr.ret ?_
  refine ret_ok rfl ?_ no_post
  rw [List.drop_eq_nil_of_le (by simpa using hc33)] at hJ1
  simp only [wtF, Nat.add_zero] at hJ1
  rw [← hJ1]
def mainName : ByteArray := ⟨#[109, 97, 105, 110]⟩
def gArr (u : Un) (a : Ar) (i : Int) : Bool := isName a.name && !decide (a.size < 1) && !decide (a.size > 1000) && (r8Array a.name u.arrays 0 == i) && !decide (r8Place a.name u.flows 0 ≥ 0)
def r8gA (u : Un) : List Ar → Int → Bool
  | [], _ => true
  | a :: r, i => gArr u a i && r8gA u r (i + 1)
def gFlw (u : Un) (f : Fl) (i : Int) : Bool := isName f.name && (r8Place f.name u.flows 0 == i) && (f.ty == 1 || f.ty == 2) && !decide (f.params < 0) && !decide (f.params > f.types.length)
def r8gF (u : Un) : List Fl → Int → Bool
  | [], _ => true
  | f :: r, i => gFlw u f i && r8gF u r (i + 1)
def flDef : Fl := ⟨⟨#[]⟩, 0, 0, [], []⟩
def r8main (u : Un) : Bool := decide (r8Place mainName u.flows 0 ≥ 0) && (u.flows.getD (r8Place mainName u.flows 0).toNat flDef).ty == 1 && (u.flows.getD (r8Place mainName u.flows 0).toNat flDef).params == 0
def r8globals (u : Un) : Bool := r8gA u u.arrays 0 && r8gF u u.flows 0 && r8main u
theorem r8gF_all {u : Un} : ∀ {l : List Fl} {i : Int}, r8gF u l i = true → ∀ g ∈ l, 0 ≤ g.params ∧ g.params ≤ g.types.length
  | [], _, _, g, hg => by simp at hg
  | f :: r, i, h, g, hg => by
    simp only [r8gF, Bool.and_eq_true] at h
    rcases List.mem_cons.1 hg with rfl | hg
    · have := h.1
      simp only [gFlw, Bool.and_eq_true, Bool.not_eq_true', decide_eq_false_iff_not] at this
      omega
    · exact r8gF_all h.2 g hg
theorem r8globals_params {u : Un} (h : r8globals u = true) : ∀ g ∈ u.flows, 0 ≤ g.params ∧ g.params ≤ g.types.length := by
  simp only [r8globals, Bool.and_eq_true] at h
  exact r8gF_all h.1.2
def r8where0 : Wh := ⟨false, false, [], [], []⟩
def iota (n : Nat) : List Int := (List.range n).map fun (i : Nat) => (i : Int)
def firsts (k n : Nat) : List Bool := List.replicate k true ++ List.replicate (n - k) false
def r8Flow (u : Un) (f : Fl) : Bool := !decide (f.params < 0) && !decide (f.params > 8) && !decide (f.params > f.types.length) && !decide ((f.types.length : Int) > 20000) && f.types.all (fun t => t == 1 || t == 2) &&
  (r8list u f 1 r8where0 (iota f.params.toNat) (firsts f.params.toNat f.types.length) f.body).1
theorem iota_snoc (n : Nat) : iota n ++ [(n : Int)] = iota (n + 1) := by simp [iota, List.range_succ]
theorem iota_length (n : Nat) : (iota n).length = n := by simp [iota]
theorem firsts_length {k n : Nat} (h : k ≤ n) : (firsts k n).length = n := by simp [firsts]; omega
theorem firsts_set {k n : Nat} (h : k < n) : (firsts k n).set k true = firsts (k + 1) n := by
  unfold firsts
  rw [List.set_append_right _ _ (by simp), List.length_replicate, Nat.sub_self]
  have : n - k = (n - (k + 1)) + 1 := by omega
  rw [this, List.replicate_succ, List.set_cons_zero, List.replicate_succ', List.append_assoc]
  rfl
def r8flows (u : Un) : List Fl → Int → Int × Int
  | [], _ => (0, 0)
  | f :: r, i => if r8Flow u f then r8flows u r (i + 1) else (80, i)
def r8Check (u : Un) : Int × Int := if r8globals u then r8flows u u.flows 0 else (1, 0)
mutual
theorem ndW_le : ∀ x : Nd, ndW x ≤ 1 + wtN x
  | .mk k o n s a t p ks => by
    have := kdW_le ks
    simp only [ndW, wtN]
    omega
theorem lsW_le : ∀ l : List Nd, lsW l ≤ l.length + wtL l
  | [] => by simp [lsW]
  | x :: r => by
    have h1 := ndW_le x
    have h2 := lsW_le r
    simp only [lsW, wtL, List.length_cons]
    omega
theorem kdW_le : ∀ l : List (List Nd), kdW l ≤ wtK l
  | [] => by simp [kdW]
  | x :: r => by
    have h1 := lsW_le x
    have h2 := kdW_le r
    simp only [kdW, wtK]
    omega
end
theorem wtF_mem : ∀ {l : List Fl} {f : Fl}, f ∈ l → r8nodes f.body ≤ wtF l
  | g :: r, f, h => by
    rcases List.mem_cons.1 h with rfl | h
    · simp only [wtF]; omega
    · have := wtF_mem h; simp only [wtF]; omega
theorem flow_le {u : Un} (h : r8Weight u ≤ 536870912) {f : Fl} (hf : f ∈ u.flows) : lsW f.body ≤ 536870912 := by
  have h1 := wtF_mem hf
  have h2 := lsW_le f.body
  unfold r8Weight r8nodes at *
  omega
set_option maxRecDepth 8000 in
set_option maxHeartbeats 2000000 in
theorem sc_r8Flow (u : Un) (f : Fl) (hg : ∀ g ∈ u.flows, 0 ≤ g.params ∧ g.params ≤ g.types.length) (hb : lsW f.body ≤ 536870912) : SC Tryz.prog 33 [.pv u.enc, .pv (.agg f.enc)] [] (fun _ => False) (iBool (r8Flow u f)) [] := by
  refine SC.of Tryz.func33 rfl (lb rfl) fun F ρ w => ?_
  refine Tr.seq <| Tr.region rfl <| WL.cons rfl rfl rfl (ok_box rfl rfl) <| WL.cons rfl rfl rfl (ok_box rfl rfl) <| cV rfl (oA rfl) <| WL.nil <| Tr.seq <| Tr.seq <| Tr.region rfl <| cV rfl (oFe rfl tF51_2) <| cV rfl (oLe Tryz.underlying3 rfl rfl) <| cV rfl (oB rfl rfl rfl) ?_
  refine cV rfl (oM rfl) ?_
  refine WL.split (t := 12) rfl (fun hb12 => ?_) (fun hb12 => ?_)
  · refine nV rfl rfl <| nV rfl rfl <| nV rfl rfl <| cV rfl (oT rfl rfl) <| cV rfl (oM rfl) <| nV rfl rfl <| nV rfl rfl <| nV rfl rfl <| nV rfl rfl <| nV rfl rfl <| nV rfl rfl <| cV rfl (oT rfl rfl) ?_
    refine cV rfl (oM rfl) <| nV rfl rfl <| nV rfl rfl <| nV rfl rfl <| nV rfl rfl <| cV rfl (oT rfl rfl) <| WL.nil <| Tr.condT rfl <| Tr.seq <| Tr.region rfl <| cV rfl (oA rfl) <| WL.nil ?_
    refine Tr.ret ?_
    refine ret_ok rfl ?_ no_post
    refine congrArg (fun b => iBool b) ?_
    have hno : (!decide (f.params < 0) && !decide (f.params > 8) && !decide (f.params > f.types.length) && !decide ((f.types.length : Int) > 20000)) = false := by
      simp_all
    simp only [r8Flow, hno, Bool.false_and]
  refine yV rfl rfl (oFe rfl tF51_2) <| yV rfl rfl (oLe Tryz.underlying3 rfl rfl) <| yV rfl rfl (oB rfl rfl rfl) <| cV rfl (oF rfl rfl) <| cV rfl (oM rfl) ?_
  refine WL.split (t := 17) rfl (fun hb17 => ?_) (fun hb17 => ?_)
  · refine nV rfl rfl <| nV rfl rfl <| nV rfl rfl <| nV rfl rfl <| nV rfl rfl <| nV rfl rfl <| cV rfl (oT rfl rfl) <| cV rfl (oM rfl) <| nV rfl rfl <| nV rfl rfl <| nV rfl rfl <| nV rfl rfl ?_
    refine cV rfl (oT rfl rfl) <| WL.nil <| Tr.condT rfl <| Tr.seq <| Tr.region rfl <| cV rfl (oA rfl) <| WL.nil <| Tr.ret ?_
    refine ret_ok rfl ?_ no_post
    refine congrArg (fun b => iBool b) ?_
    have hno : (!decide (f.params < 0) && !decide (f.params > 8) && !decide (f.params > f.types.length) && !decide ((f.types.length : Int) > 20000)) = false := by
      simp_all
    simp only [r8Flow, hno, Bool.false_and]
  refine yV rfl rfl (oFe rfl tF51_2) <| yV rfl rfl (oLe Tryz.underlying3 rfl rfl) <| yV rfl rfl (oFe rfl tF51_3) <| yV rfl rfl (oLe Tryz.underlying35 rfl rfl) <| yV rfl rfl (oSm Tryz.underlying35 rfl) <| yV rfl rfl (oB rfl rfl rfl) <| cV rfl (oF rfl rfl) <| cV rfl (oM rfl) ?_
  refine WL.split (t := 25) rfl (fun hb25 => ?_) (fun hb25 => ?_)
  · refine nV rfl rfl <| nV rfl rfl <| nV rfl rfl <| nV rfl rfl <| cV rfl (oT rfl rfl) <| WL.nil <| Tr.condT rfl <| Tr.seq <| Tr.region rfl <| cV rfl (oA rfl) <| WL.nil <| Tr.ret ?_
    refine ret_ok rfl ?_ no_post
    refine congrArg (fun b => iBool b) ?_
    have hno : (!decide (f.params < 0) && !decide (f.params > 8) && !decide (f.params > f.types.length) && !decide ((f.types.length : Int) > 20000)) = false := by
      simp_all
    simp only [r8Flow, hno, Bool.false_and]
  · refine yV rfl rfl (oFe rfl tF51_3) <| yV rfl rfl (oLe Tryz.underlying35 rfl rfl) <| yV rfl rfl (oSm Tryz.underlying35 rfl) <| yV rfl rfl (oB rfl rfl rfl) <| cV rfl (oF rfl rfl) <| WL.nil ?_
    refine Tr.cond rfl (fun hc30 => ?_) (fun hc30 => ?_)
    · refine Tr.seq <| Tr.region rfl <| cV rfl (oA rfl) <| WL.nil <| Tr.ret ?_
      refine ret_ok rfl ?_ no_post
      refine congrArg (fun b => iBool b) ?_
      have hno : (!decide (f.params < 0) && !decide (f.params > 8) && !decide (f.params > f.types.length) && !decide ((f.types.length : Int) > 20000)) = false := by
        simp_all
      simp only [r8Flow, hno, Bool.false_and]
    · have hpar : 0 ≤ f.params ∧ f.params ≤ 8 ∧ f.params ≤ f.types.length ∧ f.types.length ≤ 20000 := by
        (simp_all <;> omega)
      refine Tr.skip <| Tr.seq <| Tr.seq <| Tr.region rfl <| cV rfl (oA rfl) <| WL.nil <| Tr.block <| Tr.sub (Sub.of (fr' := [(5, iInt 0), (2, .pv (.ept [arrs u.arrays, flws u.flows] 0)), (3, .pv (.ept [vStr f.name, vInt f.ty, vInt f.params, ints f.types, nodes f.body] 0))]) ⟨rfl, rfl, rfl, trivial⟩) ?_
      refine Tr.loop (fun fr σ m => ∃ (k : Nat), (k ≤ f.types.length) ∧ (f.types.all (fun t => t == 1 || t == 2) = (f.types.drop k).all (fun t => t == 1 || t == 2)) ∧ fr = [(5, iInt k), (2, .pv (.ept [arrs u.arrays, flws u.flows] 0)), (3, .pv (.ept [vStr f.name, vInt f.ty, vInt f.params, ints f.types, nodes f.body] 0))] ∧ σ = look [] ∧ m = f.types.length - k) (n := f.types.length - 0) ?_ ?_
      · exact ⟨0, Nat.zero_le _, rfl, rfl, rfl, rfl⟩
      rintro fr σ m ⟨k, hI0, hI1, rfl, rfl, rfl⟩
      refine Tr.seq <| Tr.seq <| Tr.region rfl <| cV rfl (oM rfl) <| cV rfl (oFe rfl tF51_3) <| cV rfl (oLe Tryz.underlying35 rfl rfl) <| cV rfl (oSm Tryz.underlying35 rfl) <| cV rfl (oB rfl rfl rfl) <| WL.nil ?_
      refine Tr.cond rfl (fun hc35 => ?_) (fun hc35 => ?_)
      · have hlt : k < f.types.length := by simpa using hc35
        have hd := List.drop_eq_getElem_cons hlt
        have hm := List.getElem_mem hlt
        have hi := map_get (f := eInt) (List.getElem?_eq_getElem hlt)
        generalize f.types[k] = x at hd hm hi
        refine Tr.skip <| Tr.seq <| Tr.block <| Tr.seq <| Tr.region rfl <| cV rfl (oFe rfl tF51_3) <| cV rfl (oLe Tryz.underlying35 rfl rfl) <| cV rfl (oM rfl) <| cV rfl (ok_index_seq rfl rfl rfl Tryz.underlying35 hi tS3 rfl (by rfl)) <| cV rfl (oLe Tryz.underlying3 rfl rfl) <| cV rfl (oB rfl rfl rfl) <| cV rfl (oM rfl) ?_
        refine WL.split (t := 44) rfl (fun hb44 => ?_) (fun hb44 => ?_)
        · refine yV rfl rfl (oFe rfl tF51_3) <| yV rfl rfl (oLe Tryz.underlying35 rfl rfl) <| yV rfl rfl (oM rfl) <| yV rfl rfl (ok_index_seq rfl rfl rfl Tryz.underlying35 hi tS3 rfl (by rfl)) <| yV rfl rfl (oLe Tryz.underlying3 rfl rfl) <| yV rfl rfl (oB rfl rfl rfl) <| cV rfl (oT rfl rfl) <| WL.nil ?_
          refine Tr.cond rfl (fun hc51 => ?_) (fun hc51 => ?_)
          · refine Tr.seq <| Tr.region rfl <| cV rfl (oA rfl) <| WL.nil <| Tr.ret ?_
            refine ret_ok rfl ?_ no_post
            have hx : (x == 1 || x == 2) = false := by
              clear hd hm hi hI1
              simp_all
            have hty : f.types.all (fun t => t == 1 || t == 2) = false := by rw [hI1, hd]; simp only [List.all_cons, hx, Bool.false_and]
            simp only [r8Flow, hty, Bool.and_false, Bool.false_and]
          refine Tr.skip <| Tr.region rfl <| cV rfl (oM rfl) <| cV rfl (oB rfl rfl (i64_add rfl (by omega))) <| cV rfl (oA rfl) <| WL.nil ?_
          refine ⟨_, _, ?_, Sub.of (fr' := [(5, iInt (k + 1)), (2, .pv (.ept [arrs u.arrays, flws u.flows] 0)), (3, .pv (.ept [vStr f.name, vInt f.ty, vInt f.params, ints f.types, nodes f.body] 0))]) ⟨rfl, rfl, rfl, trivial⟩, (k + 1), ?_, ?_, rfl, rfl, rfl⟩
          · omega
          · omega
          rw [hI1, hd]
          have hx : (x == 1 || x == 2) = true := by
            clear hd hm hi hI1
            simp_all
          simp only [List.all_cons, hx, Bool.true_and]
        refine nV rfl rfl <| nV rfl rfl <| nV rfl rfl <| nV rfl rfl <| nV rfl rfl <| nV rfl rfl <| cV rfl (oF rfl rfl) <| WL.nil <| Tr.condF rfl <| Tr.skip <| Tr.region rfl <| cV rfl (oM rfl) ?_
        refine cV rfl (oB rfl rfl (i64_add rfl (by omega))) <| cV rfl (oA rfl) <| WL.nil ?_
        refine ⟨_, _, ?_, Sub.of (fr' := [(5, iInt (k + 1)), (2, .pv (.ept [arrs u.arrays, flws u.flows] 0)), (3, .pv (.ept [vStr f.name, vInt f.ty, vInt f.params, ints f.types, nodes f.body] 0))]) ⟨rfl, rfl, rfl, trivial⟩, (k + 1), ?_, ?_, rfl, rfl, rfl⟩
        · omega
        · omega
        rw [hI1, hd]
        have hx : (x == 1 || x == 2) = true := by
          clear hd hm hi hI1
          simp_all
        simp only [List.all_cons, hx, Bool.true_and]
      refine Tr.exit <| Tr.seq ?_
      have hty : f.types.all (fun t => t == 1 || t == 2) = true := by
        rw [hI1, List.drop_eq_nil_of_le (by simpa using hc35)]; rfl
      have hpt : f.params.toNat ≤ f.types.length := by omega
      have hpi : f.params = (f.params.toNat : Int) := by omega
      refine Tr.drawn mixed (fun k => k < 3) <| WA.run (fuel := 4) [0, 1, 2, 3, 4] (by kernel_rfl) ((fun _ _ _ h => h)) (by kernel_rfl) <| rV rfl rfl (ok_load_ept_agg rfl rfl Tryz.underlying25 rfl tS25 (Nat.le_of_ble_eq_true rfl)) <| rV rfl rfl (ok_load_ept_agg rfl rfl Tryz.underlying51 rfl tS51 (Nat.le_of_ble_eq_true rfl)) <| rV rfl rfl (oFe rfl tF51_3) <| rV rfl rfl (oLe Tryz.underlying35 rfl rfl) <| rV rfl rfl (oSm Tryz.underlying35 rfl) <| WR.nil <| WA.one (i := 5) (by kernel_rfl) <| WI.op rfl rfl rfl (by intro t h; cases h <;> rfl) (fun k (h : _) => h.elim) (new_one rfl) (fun ρ w => ok_makeSlice (k := 4) (s := ⟨4, 1⟩) rfl rfl rfl Tryz.underlying83 tZ4 tC4 rfl (by decide) (by omega) (by omega) rfl rfl rfl rfl) <| WA.run (fuel := 2) [6] (by kernel_rfl) ((fun _ _ _ h => h)) (by kernel_rfl) <| rV rfl rfl (by exact ok_build rfl rfl tZ85 tP85 rfl (firmHp_ok (by (simp [firmHp, firm1, look, PV.one]; exact ⟨_, _, ⟨rfl, rfl⟩, by simp⟩)))) ?_
      refine WR.nil <| WA.one (i := 7) (by kernel_rfl) <| WI.op rfl rfl rfl (by intro t h; cases h <;> rfl) (fun k (h : _) => h.elim) (new_one rfl) (fun ρ w => ok_boxOwn (k := 3) rfl rfl rfl rfl rfl rfl rfl) <| WA.run (fuel := 0) [8] (by kernel_rfl) ((fun _ _ _ h => h)) (by kernel_rfl) <| rV rfl rfl (oA rfl) <| WR.nil <| WA.done (by kernel_rfl) <| Tr.seq <| Tr.region rfl <| cV rfl (oA rfl) <| WL.nil <| Tr.seq ?_
      refine Tr.seq <| Tr.grow (t := 7) (k := 107) ⟨3, 1⟩ rfl rfl rfl rfl rfl <| Tr.region rfl <| cV rfl (oA rfl) <| WL.nil <| Tr.block <| Tr.sub (Sub.of (fr' := [(8, iInt 0), (7, .sl 107 (iota 0).length), (6, .ptr 3 0), (2, .pv (.ept [arrs u.arrays, flws u.flows] 0)), (3, .pv (.ept [vStr f.name, vInt f.ty, vInt f.params, ints f.types, nodes f.body] 0))]) ⟨rfl, rfl, rfl, rfl, rfl, trivial⟩) ?_
      refine Tr.heap (σ' := look ((107, some (.row ⟨3, 1⟩ ((iota 0).map eInt))) :: up (ckHp u f 4 (firsts 0 f.types.length)))) (fun k => by
  rw [show (firsts 0 f.types.length) = List.replicate f.types.length false by simp [firsts]]
  simp only [ckHp, up, List.map_cons, List.map_nil, look, List.length_map, List.length_replicate, List.map_replicate, iota, List.range_zero]
  by_cases h3 : 3 = k
  · subst h3; rfl
  · by_cases h4 : 4 = k
    · subst h4; rfl
    · simp [beq_ne h3, beq_ne h4]) ?_
      refine Tr.loop (fun fr σ m => ∃ (k : Nat), (k ≤ f.params.toNat) ∧ fr = [(8, iInt k), (7, .sl 107 (iota k).length), (6, .ptr 3 0), (2, .pv (.ept [arrs u.arrays, flws u.flows] 0)), (3, .pv (.ept [vStr f.name, vInt f.ty, vInt f.params, ints f.types, nodes f.body] 0))] ∧ σ = look ((107, some (.row ⟨3, 1⟩ ((iota k).map eInt))) :: up (ckHp u f 4 (firsts k f.types.length))) ∧ m = f.params.toNat - k) (n := f.params.toNat - 0) ?_ ?_
      · exact ⟨0, Nat.zero_le _, rfl, rfl, rfl⟩
      rintro fr σ m ⟨k, hJ0, rfl, rfl, rfl⟩
      refine Tr.seq <| Tr.seq <| Tr.region rfl <| cV rfl (oM rfl) <| cV rfl (oFe rfl tF51_2) <| cV rfl (oLe Tryz.underlying3 rfl rfl) <| cV rfl (oB rfl rfl rfl) <| WL.nil ?_
      refine Tr.cond rfl (fun hc63 => ?_) (fun hc63 => ?_)
      · have hkp : k < f.params.toNat := by simp at hc63; omega
        have hkt : k < f.types.length := by omega
        have hil := iota_length k
        have hst : ((firsts k f.types.length).map eBool)[k]? = some [vBool false] := by
          rw [List.getElem?_map]
          simp only [firsts]
          rw [List.getElem?_append_right (by simp)]
          simp [List.getElem?_replicate, eBool]
          omega
        have hstl : k < ((firsts k f.types.length).map eBool).length := by rw [List.length_map, firsts_length (by omega)]; exact hkt
        refine Tr.skip <| Tr.seq <| Tr.block <| Tr.seq <| Tr.region rfl <| cV rfl (oM rfl) <| cV rfl (ok_nilCheck rfl rfl rfl) <| cV rfl (oFp rfl rfl tF85_2) <| cV rfl (oLb Tryz.underlying83 rfl rfl rfl trivial) <| cV rfl (oM rfl) <| cV rfl (ok_index_row rfl rfl rfl rfl rfl Tryz.underlying83 tS4 (by assumption) (by rfl)) ?_
        refine WL.cons0 rfl rfl ((ok_store_row rfl rfl rfl rfl rfl (Nat.add_zero _).symm (by assumption) (by simp) tS4 rfl ((fun h => h)))) ?_
        refine WL.nil <| Tr.region rfl <| cV rfl (oM rfl) <| cV rfl (oM rfl) <| WL.cons rfl rfl rfl (ok_buildSlice rfl rfl Tryz.underlying35 tZ3 tS3 rfl rfl rfl rfl (firmB_ok rfl) rfl) ?_
        refine WL.cons rfl rfl rfl (ok_append rfl rfl rfl rfl (by (simp; done)) ((fun h => h)) Tryz.underlying35 tB3 (by decide) (by (simp [chunks]; done)) (by (simp [chunks, PV.one]; rfl)) (by simp [maxLen, chunks]; omega) (by simp [chunks]; omega)) ?_
        refine cV rfl (oA rfl) <| WL.nil <| Tr.region rfl <| cV rfl (oM rfl) <| cV rfl (oB rfl rfl (i64_add rfl (by omega))) <| cV rfl (oA rfl) <| WL.nil ?_
        refine ⟨_, _, ?_, Sub.of (fr' := [(8, iInt (k + 1)), (7, .sl 107 (iota (k + 1)).length), (6, .ptr 3 0), (2, .pv (.ept [arrs u.arrays, flws u.flows] 0)), (3, .pv (.ept [vStr f.name, vInt f.ty, vInt f.params, ints f.types, nodes f.body] 0))]) ⟨rfl, congrArg (fun z => some (IV.sl 107 z)) (by (simp [iota_length, chunks]; done)), rfl, rfl, rfl, trivial⟩, (k + 1), ?_, rfl, (funext fun j => by
  rw [← firsts_set hkt, ← iota_snoc, List.map_append]
  simp only [ckHp, up, List.map_cons, List.map_nil, look, List.length_map, List.length_set]
  by_cases h7 : 107 = j
  · subst h7; rfl
  · by_cases h4 : 4 = j
    · subst h4; simp [List.map_set, eBool, show Nat.beq 3 4 = false from rfl, show Nat.beq 107 4 = false from rfl]
    · by_cases h3 : 3 = j
      · subst h3; simp [show Nat.beq 4 3 = false from rfl, show Nat.beq 107 3 = false from rfl]
      · simp [beq_ne h3, beq_ne h4, beq_ne h7]), rfl⟩
        all_goals omega
      refine Tr.exit <| Tr.seq ?_
      have hkp : k = f.params.toNat := by simp at hc63; omega
      subst hkp
      have hbl : (iota f.params.toNat).length + lsW f.body ≤ 1073741824 := by rw [iota_length]; omega
      refine Tr.region rfl <| cV rfl (oM rfl) <| cV rfl (oFe rfl tF51_4) <| cV rfl (oLe Tryz.underlying43 rfl rfl) <| cV rfl (oM rfl) <| cV rfl (ok_build_pure rfl rfl tZ87 tP87 rfl (firmB_ok rfl) rfl) <| WL.cons rfl rfl rfl (ok_lend (fun k => k = 107) (sc_r8list u f hg f.body 1 r8where0 (iota f.params.toNat) (firsts f.params.toNat f.types.length) ⟨by omega, by omega⟩ (firsts_length hpt) hbl) ent48 rfl rfl (Subs.same rfl (Subs.same rfl (Subs.same rfl (Subs.cons (fun _ _ _ _ h => sub_pv (q := whv r8where0) (PSub.agg (ps := [vBool false, vBool false, .val (.slice none 0 0), .val (.slice none 0 0), .val (.slice none 0 0)]) (And.intro (PSub.refl _) (And.intro (PSub.refl _) (And.intro PSub.nil (And.intro PSub.nil (And.intro PSub.nil trivial)))))) h) (Subs.same rfl Subs.nil))))) (And.intro LendOf.same (And.intro LendOf.same (And.intro (LendOf.row rfl rfl (by (simp; done)) (by rfl)) (And.intro LendOf.same (And.intro LendOf.same (trivial)))))) (fun k h => by subst h; rfl) (po2 rfl rfl) rfl (fun k (h : _) => (show False from h).elim) ⟨_, rfl⟩ (ck_lend (r8list_length ..))) <| cV rfl (oA rfl) <| WL.nil <| Tr.ret ?_
      refine ret_ok rfl ?_ no_post
      have hno : (!decide (f.params < 0) && !decide (f.params > 8) && !decide (f.params > f.types.length) && !decide ((f.types.length : Int) > 20000)) = true := by
        simp
        omega
      simp only [r8Flow, hno, hty, Bool.true_and]
set_option maxRecDepth 8000 in
set_option maxHeartbeats 2000000 in
theorem sc_r8globals (u : Un) : SC Tryz.prog 32 [.pv u.enc] [] (fun _ => False) (iBool (r8globals u)) [] := by
  refine SC.of Tryz.func32 rfl (lb rfl) fun F ρ w => ?_
  refine Tr.seq <| Tr.region rfl <| WL.cons rfl rfl rfl (ok_box rfl rfl) <| cV rfl (oA rfl) <| WL.nil <| Tr.seq <| Tr.seq <| Tr.region rfl <| cV rfl (oA rfl) <| WL.nil <| Tr.block <| Tr.sub (Sub.of (fr' := [(3, iInt 0), (1, .pv (.ept [arrs u.arrays, flws u.flows] 0))]) ⟨rfl, rfl, trivial⟩) ?_
  refine Tr.loop (fun fr σ m => ∃ (k : Nat), (k ≤ u.arrays.length) ∧ (r8gA u u.arrays 0 = r8gA u (u.arrays.drop k) k) ∧ fr = [(3, iInt k), (1, .pv (.ept [arrs u.arrays, flws u.flows] 0))] ∧ σ = look [] ∧ m = u.arrays.length - k) (n := u.arrays.length - 0) ?_ ?_
  · exact ⟨0, Nat.zero_le _, rfl, rfl, rfl, rfl⟩
  rintro fr σ m ⟨k, hI0, hI1, rfl, rfl, rfl⟩
  refine Tr.seq <| Tr.seq <| Tr.region rfl <| cV rfl (oM rfl) <| cV rfl (oFe rfl tF25_0) <| cV rfl (oLe Tryz.underlying22 rfl rfl) ?_
  refine WL.lenOf (t := 10) rfl (fun hl1 => ?_)
  simp only [List.length_map] at hl1
  refine cV rfl (oSm Tryz.underlying22 rfl) <| cV rfl (oB rfl rfl rfl) <| WL.nil ?_
  refine Tr.cond rfl (fun hc12 => ?_) (fun hc12 => ?_)
  · have hlt : k < u.arrays.length := by simpa using hc12
    have hd := List.drop_eq_getElem_cons hlt
    have hm := List.getElem_mem hlt
    have hi := map_get (f := Ar.enc) (List.getElem?_eq_getElem hlt)
    generalize u.arrays[k] = x at hd hm hi
    refine Tr.skip <| Tr.seq <| Tr.block <| Tr.seq <| Tr.region rfl <| cV rfl (oFe rfl tF25_0) <| cV rfl (oLe Tryz.underlying22 rfl rfl) <| cV rfl (oM rfl) <| cV rfl (ok_index_seq rfl rfl rfl Tryz.underlying22 hi tS49 rfl (by rfl)) <| cV rfl (ok_load_ept_agg rfl rfl Tryz.underlying49 rfl tS49 (Nat.le_of_ble_eq_true rfl)) <| WL.cons rfl rfl rfl (ok_alloc (k := 104) rfl tZ49 rfl rfl rfl rfl) <| WL.cons0 rfl rfl (ok_store_box_agg rfl rfl rfl rfl rfl ((fun h => h)) tS49 (firmL_ok rfl) (lb rfl)) ?_
    refine WL.nil <| Tr.seq <| Tr.freezeBox (t := 4) (k := 104) rfl rfl rfl <| Tr.heap (σ' := look []) (fun k => by simp only [look]; cases Nat.beq 104 k <;> rfl) <| Tr.region rfl <| cV rfl (oFe rfl tF49_0) <| cV rfl (oLe Tryz.underlying9 rfl rfl) <| WL.cons rfl rfl rfl (ok_callq (sc_r2Name _) ent46 rfl rfl (Subs.refl _ _) rfl) <| cV rfl (oN rfl) <| cV rfl (oM rfl) ?_
    refine WL.split (t := 24) rfl (fun hb24 => ?_) (fun hb24 => ?_)
    · refine nV rfl rfl <| nV rfl rfl <| nV rfl rfl <| cV rfl (oT rfl rfl) <| cV rfl (oM rfl) <| nV rfl rfl <| nV rfl rfl <| nV rfl rfl <| cV rfl (oT rfl rfl) <| cV rfl (oM rfl) <| nV rfl rfl <| nV rfl rfl ?_
      refine nV rfl rfl <| nV rfl rfl <| nV rfl rfl <| nV rfl rfl <| cV rfl (oT rfl rfl) <| cV rfl (oM rfl) <| nV rfl rfl <| nV rfl rfl <| nV rfl rfl <| nV rfl rfl <| nV rfl rfl <| cV rfl (oT rfl rfl) ?_
      refine WL.nil <| Tr.condT rfl <| Tr.seq <| Tr.region rfl <| cV rfl (oA rfl) <| WL.nil <| Tr.ret ?_
      refine ret_ok rfl ?_ no_post
      have hx : gArr u x k = false := by
        clear hd hm hi hI1
        simp_all [gArr]
      have hA : r8gA u u.arrays 0 = false := by rw [hI1, hd]; simp only [r8gA, hx, Bool.false_and]
      simp only [r8globals, hA, Bool.false_and]
    refine yV rfl rfl (oFe rfl tF49_1) <| yV rfl rfl (oLe Tryz.underlying3 rfl rfl) <| yV rfl rfl (oB rfl rfl rfl) <| cV rfl (oF rfl rfl) <| cV rfl (oM rfl) ?_
    refine WL.split (t := 29) rfl (fun hb29 => ?_) (fun hb29 => ?_)
    · refine nV rfl rfl <| nV rfl rfl <| nV rfl rfl <| cV rfl (oT rfl rfl) <| cV rfl (oM rfl) <| nV rfl rfl <| nV rfl rfl <| nV rfl rfl <| nV rfl rfl <| nV rfl rfl <| nV rfl rfl <| cV rfl (oT rfl rfl) ?_
      refine cV rfl (oM rfl) <| nV rfl rfl <| nV rfl rfl <| nV rfl rfl <| nV rfl rfl <| nV rfl rfl <| cV rfl (oT rfl rfl) <| WL.nil <| Tr.condT rfl <| Tr.seq <| Tr.region rfl <| cV rfl (oA rfl) ?_
      refine WL.nil <| Tr.ret ?_
      refine ret_ok rfl ?_ no_post
      have hx : gArr u x k = false := by
        clear hd hm hi hI1
        simp_all [gArr]
      have hA : r8gA u u.arrays 0 = false := by rw [hI1, hd]; simp only [r8gA, hx, Bool.false_and]
      simp only [r8globals, hA, Bool.false_and]
    refine yV rfl rfl (oFe rfl tF49_1) <| yV rfl rfl (oLe Tryz.underlying3 rfl rfl) <| yV rfl rfl (oB rfl rfl rfl) <| cV rfl (oF rfl rfl) <| cV rfl (oM rfl) ?_
    refine WL.split (t := 34) rfl (fun hb34 => ?_) (fun hb34 => ?_)
    · refine nV rfl rfl <| nV rfl rfl <| nV rfl rfl <| nV rfl rfl <| nV rfl rfl <| nV rfl rfl <| cV rfl (oT rfl rfl) <| cV rfl (oM rfl) <| nV rfl rfl <| nV rfl rfl <| nV rfl rfl <| nV rfl rfl ?_
      refine nV rfl rfl <| cV rfl (oT rfl rfl) <| WL.nil <| Tr.condT rfl <| Tr.seq <| Tr.region rfl <| cV rfl (oA rfl) <| WL.nil <| Tr.ret ?_
      refine ret_ok rfl ?_ no_post
      have hx : gArr u x k = false := by
        clear hd hm hi hI1
        simp_all [gArr]
      have hA : r8gA u u.arrays 0 = false := by rw [hI1, hd]; simp only [r8gA, hx, Bool.false_and]
      simp only [r8globals, hA, Bool.false_and]
    refine yV rfl rfl (ok_load_ept_agg rfl rfl Tryz.underlying25 rfl tS25 (Nat.le_of_ble_eq_true rfl)) <| yV rfl rfl (oFe rfl tF49_0) <| yV rfl rfl (oLe Tryz.underlying9 rfl rfl) <| WL.yes rfl rfl rfl rfl rfl rfl (ok_callq (sc_r8Array _ _) ent47 rfl rfl (Subs.refl _ _) rfl) <| yV rfl rfl (oM rfl) <| yV rfl rfl (oB rfl rfl rfl) <| cV rfl (oF rfl rfl) <| cV rfl (oM rfl) ?_
    refine WL.split (t := 42) rfl (fun hb42 => ?_) (fun hb42 => ?_)
    · refine nV rfl rfl <| nV rfl rfl <| nV rfl rfl <| nV rfl rfl <| nV rfl rfl <| cV rfl (oT rfl rfl) <| WL.nil <| Tr.condT rfl <| Tr.seq <| Tr.region rfl <| cV rfl (oA rfl) <| WL.nil ?_
      refine Tr.ret ?_
      refine ret_ok rfl ?_ no_post
      have hx : gArr u x k = false := by
        clear hd hm hi hI1
        simp_all [gArr]
      have hA : r8gA u u.arrays 0 = false := by rw [hI1, hd]; simp only [r8gA, hx, Bool.false_and]
      simp only [r8globals, hA, Bool.false_and]
    refine yV rfl rfl (ok_load_ept_agg rfl rfl Tryz.underlying25 rfl tS25 (Nat.le_of_ble_eq_true rfl)) <| yV rfl rfl (oFe rfl tF49_0) <| yV rfl rfl (oLe Tryz.underlying9 rfl rfl) <| WL.yes rfl rfl rfl rfl rfl rfl (ok_callq (sc_r8Place _ _) ent30 rfl rfl (Subs.refl _ _) rfl) <| yV rfl rfl (oB rfl rfl rfl) <| cV rfl (oF rfl rfl) <| WL.nil ?_
    refine Tr.cond rfl (fun hc48 => ?_) (fun hc48 => ?_)
    · refine Tr.seq <| Tr.region rfl <| cV rfl (oA rfl) <| WL.nil <| Tr.ret ?_
      refine ret_ok rfl ?_ no_post
      have hx : gArr u x k = false := by
        clear hd hm hi hI1
        simp_all [gArr]
      have hA : r8gA u u.arrays 0 = false := by rw [hI1, hd]; simp only [r8gA, hx, Bool.false_and]
      simp only [r8globals, hA, Bool.false_and]
    refine Tr.skip <| Tr.region rfl <| cV rfl (oM rfl) <| cV rfl (oB rfl rfl (i64_add rfl (by omega))) <| cV rfl (oA rfl) <| WL.nil ?_
    refine ⟨_, _, ?_, Sub.of (fr' := [(3, iInt (k + 1)), (1, .pv (.ept [arrs u.arrays, flws u.flows] 0))]) ⟨rfl, rfl, trivial⟩, (k + 1), ?_, ?_, rfl, rfl, rfl⟩
    · omega
    · omega
    rw [hI1, hd]
    have hx : gArr u x k = true := by
      clear hd hm hi hI1
      simp_all [gArr]
    simp only [r8gA, hx, Bool.true_and]
    rfl
  refine Tr.exit <| Tr.seq <| Tr.seq ?_
  have hA : r8gA u u.arrays 0 = true := by
    rw [hI1, List.drop_eq_nil_of_le (by simpa using hc12)]; rfl
  refine Tr.region rfl <| cV rfl (oA rfl) <| WL.nil <| Tr.block <| Tr.sub (Sub.of (fr' := [(5, iInt 0), (1, .pv (.ept [arrs u.arrays, flws u.flows] 0))]) ⟨rfl, rfl, trivial⟩) ?_
  refine Tr.loop (fun fr σ m => ∃ (k : Nat), (k ≤ u.flows.length) ∧ (r8gF u u.flows 0 = r8gF u (u.flows.drop k) k) ∧ fr = [(5, iInt k), (1, .pv (.ept [arrs u.arrays, flws u.flows] 0))] ∧ σ = look [] ∧ m = u.flows.length - k) (n := u.flows.length - 0) ?_ ?_
  · exact ⟨0, Nat.zero_le _, rfl, rfl, rfl, rfl⟩
  rintro fr σ m ⟨k, hJ0, hJ1, rfl, rfl, rfl⟩
  refine Tr.seq <| Tr.seq <| Tr.region rfl <| cV rfl (oM rfl) <| cV rfl (oFe rfl tF25_1) <| cV rfl (oLe Tryz.underlying23 rfl rfl) ?_
  refine WL.lenOf (t := 51) rfl (fun hl2 => ?_)
  simp only [List.length_map] at hl2
  refine cV rfl (oSm Tryz.underlying23 rfl) <| cV rfl (oB rfl rfl rfl) <| WL.nil ?_
  refine Tr.cond rfl (fun hc53 => ?_) (fun hc53 => ?_)
  · have hlt : k < u.flows.length := by simpa using hc53
    have hd := List.drop_eq_getElem_cons hlt
    have hm := List.getElem_mem hlt
    have hi := map_get (f := Fl.enc) (List.getElem?_eq_getElem hlt)
    generalize u.flows[k] = x at hd hm hi
    refine Tr.skip <| Tr.seq <| Tr.block <| Tr.seq <| Tr.region rfl <| cV rfl (oFe rfl tF25_1) <| cV rfl (oLe Tryz.underlying23 rfl rfl) <| cV rfl (oM rfl) <| cV rfl (ok_index_seq rfl rfl rfl Tryz.underlying23 hi tS51 rfl (by rfl)) <| cV rfl (ok_load_ept_agg rfl rfl Tryz.underlying51 rfl tS51 (Nat.le_of_ble_eq_true rfl)) <| WL.cons rfl rfl rfl (ok_alloc (k := 106) rfl tZ51 rfl rfl rfl rfl) <| WL.cons0 rfl rfl (ok_store_box_agg rfl rfl rfl rfl rfl ((fun h => h)) tS51 (firmL_ok rfl) (lb rfl)) ?_
    refine WL.nil <| Tr.seq <| Tr.freezeBox (t := 6) (k := 106) rfl rfl rfl <| Tr.heap (σ' := look []) (fun k => by simp only [look]; cases Nat.beq 106 k <;> rfl) <| Tr.region rfl <| cV rfl (oFe rfl tF51_0) <| cV rfl (oLe Tryz.underlying9 rfl rfl) <| WL.cons rfl rfl rfl (ok_callq (sc_r2Name _) ent46 rfl rfl (Subs.refl _ _) rfl) <| cV rfl (oN rfl) <| cV rfl (oM rfl) ?_
    refine WL.split (t := 65) rfl (fun hb65 => ?_) (fun hb65 => ?_)
    · refine nV rfl rfl <| nV rfl rfl <| nV rfl rfl <| nV rfl rfl <| nV rfl rfl <| nV rfl rfl <| cV rfl (oT rfl rfl) <| cV rfl (oM rfl) <| nV rfl rfl <| nV rfl rfl <| nV rfl rfl <| nV rfl rfl ?_
      refine WL.noU rfl rfl rfl rfl rfl rfl <| WL.noU rfl rfl rfl rfl rfl rfl <| WL.noU rfl rfl rfl rfl rfl rfl <| nV rfl rfl <| cV rfl (oT rfl rfl) <| cV rfl (oM rfl) <| nV rfl rfl <| nV rfl rfl <| nV rfl rfl <| cV rfl (oT rfl rfl) <| cV rfl (oM rfl) <| nV rfl rfl ?_
      refine nV rfl rfl <| nV rfl rfl <| nV rfl rfl <| nV rfl rfl <| nV rfl rfl <| cV rfl (oT rfl rfl) <| WL.nil <| Tr.condT rfl <| Tr.seq <| Tr.region rfl <| cV rfl (oA rfl) <| WL.nil ?_
      refine Tr.ret ?_
      refine ret_ok rfl ?_ no_post
      have hx : gFlw u x k = false := by
        clear hd hm hi hJ1
        simp_all [gFlw]
      have hF : r8gF u u.flows 0 = false := by rw [hJ1, hd]; simp only [r8gF, hx, Bool.false_and]
      simp only [r8globals, hF, Bool.false_and, Bool.and_false]
    refine yV rfl rfl (ok_load_ept_agg rfl rfl Tryz.underlying25 rfl tS25 (Nat.le_of_ble_eq_true rfl)) <| yV rfl rfl (oFe rfl tF51_0) <| yV rfl rfl (oLe Tryz.underlying9 rfl rfl) <| WL.yes rfl rfl rfl rfl rfl rfl (ok_callq (sc_r8Place _ _) ent30 rfl rfl (Subs.refl _ _) rfl) <| yV rfl rfl (oM rfl) <| yV rfl rfl (oB rfl rfl rfl) <| cV rfl (oF rfl rfl) <| cV rfl (oM rfl) ?_
    refine WL.split (t := 73) rfl (fun hb73 => ?_) (fun hb73 => ?_)
    · refine nV rfl rfl <| nV rfl rfl <| nV rfl rfl <| nV rfl rfl <| WL.noU rfl rfl rfl rfl rfl rfl <| WL.noU rfl rfl rfl rfl rfl rfl <| WL.noU rfl rfl rfl rfl rfl rfl <| nV rfl rfl <| cV rfl (oT rfl rfl) <| cV rfl (oM rfl) <| nV rfl rfl <| nV rfl rfl ?_
      refine nV rfl rfl <| cV rfl (oT rfl rfl) <| cV rfl (oM rfl) <| nV rfl rfl <| nV rfl rfl <| nV rfl rfl <| nV rfl rfl <| nV rfl rfl <| nV rfl rfl <| cV rfl (oT rfl rfl) <| WL.nil <| Tr.condT rfl ?_
      refine Tr.seq <| Tr.region rfl <| cV rfl (oA rfl) <| WL.nil <| Tr.ret ?_
      refine ret_ok rfl ?_ no_post
      have hx : gFlw u x k = false := by
        clear hd hm hi hJ1
        simp_all [gFlw]
      have hF : r8gF u u.flows 0 = false := by rw [hJ1, hd]; simp only [r8gF, hx, Bool.false_and]
      simp only [r8globals, hF, Bool.false_and, Bool.and_false]
    refine yV rfl rfl (oFe rfl tF51_1) <| yV rfl rfl (oLe Tryz.underlying3 rfl rfl) <| yV rfl rfl (oB rfl rfl rfl) <| yV rfl rfl (oM rfl) ?_
    refine WL.split (t := 77) rfl (fun hb77 => ?_) (fun hb77 => ?_)
    · refine yV rfl rfl (oFe rfl tF51_1) <| yV rfl rfl (oLe Tryz.underlying3 rfl rfl) <| yV rfl rfl (oB rfl rfl rfl) <| yV rfl rfl (oT rfl rfl) <| cV rfl (oF rfl rfl) <| cV rfl (oM rfl) ?_
      refine WL.split (t := 83) rfl (fun hb83 => ?_) (fun hb83 => ?_)
      · refine nV rfl rfl <| nV rfl rfl <| nV rfl rfl <| cV rfl (oT rfl rfl) <| cV rfl (oM rfl) <| nV rfl rfl <| nV rfl rfl <| nV rfl rfl <| nV rfl rfl <| nV rfl rfl <| nV rfl rfl <| cV rfl (oT rfl rfl) ?_
        refine WL.nil <| Tr.condT rfl <| Tr.seq <| Tr.region rfl <| cV rfl (oA rfl) <| WL.nil <| Tr.ret ?_
        refine ret_ok rfl ?_ no_post
        have hx : gFlw u x k = false := by
          clear hd hm hi hJ1
          simp_all [gFlw]
        have hF : r8gF u u.flows 0 = false := by rw [hJ1, hd]; simp only [r8gF, hx, Bool.false_and]
        simp only [r8globals, hF, Bool.false_and, Bool.and_false]
      refine yV rfl rfl (oFe rfl tF51_2) <| yV rfl rfl (oLe Tryz.underlying3 rfl rfl) <| yV rfl rfl (oB rfl rfl rfl) <| cV rfl (oF rfl rfl) <| cV rfl (oM rfl) ?_
      refine WL.split (t := 88) rfl (fun hb88 => ?_) (fun hb88 => ?_)
      · refine nV rfl rfl <| nV rfl rfl <| nV rfl rfl <| nV rfl rfl <| nV rfl rfl <| nV rfl rfl <| cV rfl (oT rfl rfl) <| WL.nil <| Tr.condT rfl <| Tr.seq <| Tr.region rfl <| cV rfl (oA rfl) ?_
        refine WL.nil <| Tr.ret ?_
        refine ret_ok rfl ?_ no_post
        have hx : gFlw u x k = false := by
          clear hd hm hi hJ1
          simp_all [gFlw]
        have hF : r8gF u u.flows 0 = false := by rw [hJ1, hd]; simp only [r8gF, hx, Bool.false_and]
        simp only [r8globals, hF, Bool.false_and, Bool.and_false]
      refine yV rfl rfl (oFe rfl tF51_2) <| yV rfl rfl (oLe Tryz.underlying3 rfl rfl) <| yV rfl rfl (oFe rfl tF51_3) <| yV rfl rfl (oLe Tryz.underlying35 rfl rfl) <| yV rfl rfl (oSm Tryz.underlying35 rfl) <| yV rfl rfl (oB rfl rfl rfl) <| cV rfl (oF rfl rfl) <| WL.nil ?_
      refine Tr.cond rfl (fun hc95 => ?_) (fun hc95 => ?_)
      · refine Tr.seq <| Tr.region rfl <| cV rfl (oA rfl) <| WL.nil <| Tr.ret ?_
        refine ret_ok rfl ?_ no_post
        have hx : gFlw u x k = false := by
          clear hd hm hi hJ1
          simp_all [gFlw]
        have hF : r8gF u u.flows 0 = false := by rw [hJ1, hd]; simp only [r8gF, hx, Bool.false_and]
        simp only [r8globals, hF, Bool.false_and, Bool.and_false]
      refine Tr.skip <| Tr.region rfl <| cV rfl (oM rfl) <| cV rfl (oB rfl rfl (i64_add rfl (by omega))) <| cV rfl (oA rfl) <| WL.nil ?_
      refine ⟨_, _, ?_, Sub.of (fr' := [(5, iInt (k + 1)), (1, .pv (.ept [arrs u.arrays, flws u.flows] 0))]) ⟨rfl, rfl, trivial⟩, (k + 1), ?_, ?_, rfl, rfl, rfl⟩
      · omega
      · omega
      rw [hJ1, hd]
      have hx : gFlw u x k = true := by
        clear hd hm hi hJ1
        simp_all [gFlw]
      simp only [r8gF, hx, Bool.true_and]
      rfl
    refine nV rfl rfl <| nV rfl rfl <| nV rfl rfl <| yV rfl rfl (oF rfl rfl) <| cV rfl (oF rfl rfl) <| cV rfl (oM rfl) <| yV rfl rfl (oFe rfl tF51_2) <| yV rfl rfl (oLe Tryz.underlying3 rfl rfl) <| yV rfl rfl (oB rfl rfl rfl) <| cV rfl (oF rfl rfl) <| cV rfl (oM rfl) ?_
    refine WL.split (t := 88) rfl (fun hb88 => ?_) (fun hb88 => ?_)
    · refine nV rfl rfl <| nV rfl rfl <| nV rfl rfl <| nV rfl rfl <| nV rfl rfl <| nV rfl rfl <| cV rfl (oT rfl rfl) <| WL.nil <| Tr.condT rfl <| Tr.seq <| Tr.region rfl <| cV rfl (oA rfl) ?_
      refine WL.nil <| Tr.ret ?_
      refine ret_ok rfl ?_ no_post
      have hx : gFlw u x k = false := by
        clear hd hm hi hJ1
        simp_all [gFlw]
      have hF : r8gF u u.flows 0 = false := by rw [hJ1, hd]; simp only [r8gF, hx, Bool.false_and]
      simp only [r8globals, hF, Bool.false_and, Bool.and_false]
    refine yV rfl rfl (oFe rfl tF51_2) <| yV rfl rfl (oLe Tryz.underlying3 rfl rfl) <| yV rfl rfl (oFe rfl tF51_3) <| yV rfl rfl (oLe Tryz.underlying35 rfl rfl) <| yV rfl rfl (oSm Tryz.underlying35 rfl) <| yV rfl rfl (oB rfl rfl rfl) <| cV rfl (oF rfl rfl) <| WL.nil ?_
    refine Tr.cond rfl (fun hc95 => ?_) (fun hc95 => ?_)
    · refine Tr.seq <| Tr.region rfl <| cV rfl (oA rfl) <| WL.nil <| Tr.ret ?_
      refine ret_ok rfl ?_ no_post
      have hx : gFlw u x k = false := by
        clear hd hm hi hJ1
        simp_all [gFlw]
      have hF : r8gF u u.flows 0 = false := by rw [hJ1, hd]; simp only [r8gF, hx, Bool.false_and]
      simp only [r8globals, hF, Bool.false_and, Bool.and_false]
    refine Tr.skip <| Tr.region rfl <| cV rfl (oM rfl) <| cV rfl (oB rfl rfl (i64_add rfl (by omega))) <| cV rfl (oA rfl) <| WL.nil ?_
    refine ⟨_, _, ?_, Sub.of (fr' := [(5, iInt (k + 1)), (1, .pv (.ept [arrs u.arrays, flws u.flows] 0))]) ⟨rfl, rfl, trivial⟩, (k + 1), ?_, ?_, rfl, rfl, rfl⟩
    · omega
    · omega
    rw [hJ1, hd]
    have hx : gFlw u x k = true := by
      clear hd hm hi hJ1
      simp_all [gFlw]
    simp only [r8gF, hx, Bool.true_and]
    rfl
  refine Tr.exit <| Tr.seq ?_
  have hF : r8gF u u.flows 0 = true := by
    rw [hJ1, List.drop_eq_nil_of_le (by simpa using hc53)]; rfl
  refine Tr.region rfl <| cV rfl (ok_load_ept_agg rfl rfl Tryz.underlying25 rfl tS25 (Nat.le_of_ble_eq_true rfl)) <| WL.cons rfl rfl rfl (ok_callq (sc_r8Place _ mainName) ent30 rfl rfl (Subs.refl _ _) rfl) <| cV rfl (oA rfl) <| WL.nil <| Tr.seq <| Tr.region rfl <| cV rfl (oM rfl) <| cV rfl (oB rfl rfl rfl) <| cV rfl (oM rfl) ?_
  refine WL.split (t := 100) rfl (fun hb100 => ?_) (fun hb100 => ?_)
  · have hk0 : r8Place mainName u.flows 0 ≥ 0 := by simpa using hb100
    obtain ⟨g, hgk, _⟩ := r8Place_at hk0
    have hgi : (u.flows.map Fl.enc)[(r8Place mainName u.flows 0).toNat]? = some g.enc := map_get hgk
    have hgd : u.flows.getD (r8Place mainName u.flows 0).toNat flDef = g := by simp [List.getD, hgk]
    refine yV rfl rfl (oFe rfl tF25_1) <| yV rfl rfl (oLe Tryz.underlying23 rfl rfl) <| yV rfl rfl (oM rfl) <| yV rfl rfl (ok_index_seq rfl rfl rfl Tryz.underlying23 hgi tS51 rfl (by omega)) <| yV rfl rfl (oFe rfl tF51_1) <| yV rfl rfl (oLe Tryz.underlying3 rfl rfl) <| yV rfl rfl (oB rfl rfl rfl) <| cV rfl (oT rfl rfl) <| cV rfl (oM rfl) ?_
    refine WL.split (t := 109) rfl (fun hb109 => ?_) (fun hb109 => ?_)
    · refine yV rfl rfl (oFe rfl tF25_1) <| yV rfl rfl (oLe Tryz.underlying23 rfl rfl) <| yV rfl rfl (oM rfl) <| yV rfl rfl (ok_index_seq rfl rfl rfl Tryz.underlying23 hgi tS51 rfl (by omega)) <| yV rfl rfl (oFe rfl tF51_2) <| yV rfl rfl (oLe Tryz.underlying3 rfl rfl) <| yV rfl rfl (oB rfl rfl rfl) <| cV rfl (oT rfl rfl) <| cV rfl (oA rfl) <| WL.nil <| Tr.ret ?_
      refine ret_ok rfl ?_ no_post
      refine congrArg (fun b => iBool b) ?_
      simp only [r8globals, hA, hF, r8main, Bool.true_and]
      simp_all
    refine nV rfl rfl <| nV rfl rfl <| nV rfl rfl <| nV rfl rfl <| nV rfl rfl <| nV rfl rfl <| nV rfl rfl <| cV rfl (oF rfl rfl) <| cV rfl (oA rfl) <| WL.nil <| Tr.ret ?_
    refine ret_ok rfl ?_ no_post
    refine congrArg (fun b => iBool b) ?_
    simp only [r8globals, hA, hF, r8main, Bool.true_and]
    simp_all
  refine nV rfl rfl <| nV rfl rfl <| nV rfl rfl <| nV rfl rfl <| nV rfl rfl <| nV rfl rfl <| nV rfl rfl <| cV rfl (oF rfl rfl) <| cV rfl (oM rfl) <| nV rfl rfl <| nV rfl rfl <| nV rfl rfl ?_
  refine nV rfl rfl <| nV rfl rfl <| nV rfl rfl <| nV rfl rfl <| cV rfl (oF rfl rfl) <| cV rfl (oA rfl) <| WL.nil <| Tr.ret ?_
  refine ret_ok rfl ?_ no_post
  refine congrArg (fun b => iBool b) ?_
  simp only [r8globals, hA, hF, r8main, Bool.true_and]
  (simp_all; intro h; omega)
set_option maxRecDepth 8000 in
set_option maxHeartbeats 2000000 in
theorem sc_r8Check (u : Un) (hW : r8Weight u ≤ 536870912) : SC Tryz.prog 19 [.pv u.enc] [] (fun _ => False) (.tup [iInt (r8Check u).1, iInt (r8Check u).2]) [] := by
  refine SC.of Tryz.func19 rfl (lb rfl) fun F ρ w => ?_
  refine Tr.seq <| Tr.region rfl <| WL.cons rfl rfl rfl (ok_box rfl rfl) <| cV rfl (oA rfl) <| cV rfl (oA rfl) <| WL.nil <| Tr.seq <| Tr.seq <| Tr.region rfl <| cV rfl (ok_load_ept_agg rfl rfl Tryz.underlying25 rfl tS25 (Nat.le_of_ble_eq_true rfl)) <| WL.cons rfl rfl rfl (ok_callq (sc_r8globals u) ent32 rfl rfl (Subs.refl _ _) rfl) <| cV rfl (oN rfl) ?_
  refine WL.nil ?_
  refine Tr.cond rfl (fun hc7 => ?_) (fun hc7 => ?_)
  · refine Tr.seq <| Tr.region rfl <| cV rfl (oA rfl) <| cV rfl (oA rfl) <| WL.nil <| Tr.ret ?_
    refine ret_ok rfl ?_ no_post
    have hg : r8globals u = false := by simpa using hc7
    simp [r8Check, hg]
  have hg : r8globals u = true := by simpa using hc7
  refine Tr.skip <| Tr.seq <| Tr.seq <| Tr.region rfl <| cV rfl (oA rfl) <| WL.nil <| Tr.block <| Tr.sub (Sub.of (fr' := [(4, iInt 0), (1, .pv (.ept [arrs u.arrays, flws u.flows] 0))]) ⟨rfl, rfl, trivial⟩) ?_
  refine Tr.loop (fun fr σ m => ∃ (k : Nat), (k ≤ u.flows.length) ∧ (r8flows u u.flows 0 = r8flows u (u.flows.drop k) k) ∧ fr = [(4, iInt k), (1, .pv (.ept [arrs u.arrays, flws u.flows] 0))] ∧ σ = look [] ∧ m = u.flows.length - k) (n := u.flows.length - 0) ?_ ?_
  · exact ⟨0, Nat.zero_le _, rfl, rfl, rfl, rfl⟩
  rintro fr σ m ⟨k, hI0, hI1, rfl, rfl, rfl⟩
  refine Tr.seq <| Tr.seq <| Tr.region rfl <| cV rfl (oM rfl) <| cV rfl (oFe rfl tF25_1) <| cV rfl (oLe Tryz.underlying23 rfl rfl) ?_
  refine WL.lenOf (t := 10) rfl (fun hl1 => ?_)
  simp only [List.length_map] at hl1
  refine cV rfl (oSm Tryz.underlying23 rfl) <| cV rfl (oB rfl rfl rfl) <| WL.nil ?_
  refine Tr.cond rfl (fun hc12 => ?_) (fun hc12 => ?_)
  · have hlt : k < u.flows.length := by simpa using hc12
    have hd := List.drop_eq_getElem_cons hlt
    have hm := List.getElem_mem hlt
    have hi := map_get (f := Fl.enc) (List.getElem?_eq_getElem hlt)
    generalize u.flows[k] = x at hd hm hi
    refine Tr.skip <| Tr.seq <| Tr.block <| Tr.seq <| Tr.drawn mixed (fun k => k ∈ ([] : List Nat)) <| WA.run (fuel := 2) [0, 1, 2, 3, 4, 5] (by kernel_rfl) ((fun _ _ _ h => h)) (by kernel_rfl) <| rV rfl rfl (ok_load_ept_agg rfl rfl Tryz.underlying25 rfl tS25 (Nat.le_of_ble_eq_true rfl)) <| rV rfl rfl (oFe rfl tF25_1) <| rV rfl rfl (oLe Tryz.underlying23 rfl rfl) <| rV rfl rfl (oM rfl) <| rV rfl rfl (ok_index_seq rfl rfl rfl Tryz.underlying23 hi tS51 rfl (by rfl)) <| rV rfl rfl (ok_load_ept_agg rfl rfl Tryz.underlying51 rfl tS51 (Nat.le_of_ble_eq_true rfl)) ?_
    refine WR.nil <| WA.one (i := 6) (by kernel_rfl) <| WI.op rfl rfl rfl (by intro t h; cases h <;> rfl) (fun k (h : _) => h.elim) (fun _ h1 h2 => absurd h1 h2) (fun ρ w => ok_callq (sc_r8Flow u x (r8globals_params hg) (flow_le hW hm)) ent33 rfl rfl (Subs.refl _ _) rfl) <| WA.run (fuel := 0) [7] (by kernel_rfl) ((fun _ _ _ h => h)) (by kernel_rfl) <| rV rfl rfl (oN rfl) <| WR.nil <| WA.done (by kernel_rfl) ?_
    refine Tr.cond rfl (fun hc22 => ?_) (fun hc22 => ?_)
    · refine Tr.seq <| Tr.region rfl <| cV rfl (oM rfl) <| cV rfl (oA rfl) <| cV rfl (oA rfl) <| WL.nil <| Tr.ret ?_
      refine ret_ok rfl ?_ no_post
      have hx : r8Flow u x = false := by simpa using hc22
      simp only [r8Check, hg, if_true, hI1, hd, r8flows, hx, Bool.false_eq_true, if_false]
    refine Tr.skip <| Tr.region rfl <| cV rfl (oM rfl) <| cV rfl (oB rfl rfl (i64_add rfl (by omega))) <| cV rfl (oA rfl) <| WL.nil ?_
    refine ⟨_, _, ?_, Sub.of (fr' := [(4, iInt (k + 1)), (1, .pv (.ept [arrs u.arrays, flws u.flows] 0))]) ⟨rfl, rfl, trivial⟩, (k + 1), ?_, ?_, rfl, rfl, rfl⟩
    · omega
    · omega
    rw [hI1, hd]
    have hx : r8Flow u x = true := by simpa using hc22
    simp only [r8flows, hx, if_true]
    rfl
  refine Tr.exit <| Tr.seq <| Tr.region rfl <| cV rfl (oA rfl) <| cV rfl (oA rfl) <| WL.nil <| Tr.ret ?_
  refine ret_ok rfl ?_ no_post
  have hge : u.flows.length ≤ k := by simpa using hc12
  simp only [r8Check, hg, if_true, hI1, List.drop_eq_nil_of_le hge, r8flows]
section
variable {P : Program} {c : Cx} {R1 : Nat → Prop} {o : Oper} {fr : Fr} {hp : Hp}
/-- A value of one cell that is kept where nobody writes it. -/
theorem ok_box1 {t : TypeId} {x : Operand} {p : PV} {σ : Heap'} (ho : o.op = .box t x) (hx : fr.ev x = some (.pv p)) (h1 : p.one = true) : Ok P c o fr σ (.pv (.ept [p] 0)) σ := by
  intro ρ w a K Q h hK
  have hr := h.ev hx
  have hone := RepI.one hr (show (IV.pv p).firm σ from h1)
  generalize hv : a.eval x = v at hr hone
  cases hr with
  | pv _ _ hr =>
    have hcells : v.cells = #[v] := by cases v <;> first | rfl | cases hone
    have hrun : (execOp a.eval o).run P w = .ok (.value (.pointer (some ⟨w.heap.size, 0, none⟩))) (w.alloc (.cells #[v] t)) := by
      have hn : (newVar t v).run P w = .ok ⟨w.heap.size, 0, none⟩ (w.alloc (.cells v.cells t)) := rfl
      rw [hcells] at hn
      simp only [execOp, ho, hv, Instr.box, Sem.run_bind, hn, Result.andThen_ok]
      rfl
    unfold Oper.wp
    rw [hrun]
    obtain ⟨h3, keep⟩ := h.push (.cells #[v] t)
    refine hK ρ _ _ h3 (.pv _ _ (.ept [p] 0 w.heap.size 0 (fun _ => v) ⟨h.fresh, by simp⟩ (fun j z hj => ?_) fun j z hj => ?_))
    · have h0 : j = 0 := by have := (List.getElem?_eq_some_iff.1 hj).1; simp at this; exact this
      subst h0
      rw [cell_at (heap_new w _)]; rfl
    have h0 : j = 0 := by have := (List.getElem?_eq_some_iff.1 hj).1; simp at this; exact this
    subst h0
    simp only [List.getElem?_cons_zero, Option.some.injEq] at hj
    subst hj
    exact keep _ _ hr
/-- A handle that is kept in a new variable of the call's own. -/
theorem ok_boxOwn1 {t : TypeId} {x : Operand} {k : Nat} {z : IV} (ho : o.op = .box t x) (hx : fr.ev x = some z) (hz : z.firm (look hp)) (hσ : look hp k = none) (hc : c.σ k = none) (hfr : nmFr k fr = false) (hhp : nmHp k hp = false) (hcs : nm k z = false) :
    Ok P c o fr (look hp) (.ptr k 0) (look ((k, some (.box [z])) :: hp)) := by
  intro ρ w a K Q h hK
  have hr := h.ev hx
  have hone := RepI.one hr hz
  generalize hv : a.eval x = v at hr hone
  have hcells : v.cells = #[v] := by cases v <;> first | rfl | cases hone
  have hrun : (execOp a.eval o).run P w = .ok (.value (.pointer (some ⟨w.heap.size, 0, none⟩))) (w.alloc (.cells #[v] t)) := by
    have hn : (newVar t v).run P w = .ok ⟨w.heap.size, 0, none⟩ (w.alloc (.cells v.cells t)) := rfl
    rw [hcells] at hn
    simp only [execOp, ho, hv, Instr.box, Sem.run_bind, hn, Result.andThen_ok]
    rfl
  unfold Oper.wp
  rw [hrun]
  refine hK (locUpd ρ k (some (w.heap.size, 1))) _ _ (h.alloc hσ hc hfr hhp 1 _ _ fun keep _ => ?_) (.ptr _ _ _ fun cs' _ => ⟨w.heap.size, 1, locUpd_same, rfl⟩)
  refine .box _ t #[v] (fun _ => v) (heap_new w _) rfl (fun j x hj => ?_) fun j x hj => ?_
  · have h0 : j = 0 := by have := (List.getElem?_eq_some_iff.1 hj).1; simp at this; exact this
    subst h0; rfl
  have h0 : j = 0 := by have := (List.getElem?_eq_some_iff.1 hj).1; simp at this; exact this
  subst h0
  simp only [List.getElem?_cons_zero, Option.some.injEq] at hj
  subst hj
  exact keep _ _ hr hcs
theorem look_app {l r : Hp} {k : Nat} : look (l ++ r) k = if k ∈ l.map (·.1) then look l k else look r k := by
  induction l with
  | nil => simp
  | cons a l ih =>
    obtain ⟨j, q⟩ := a
    simp only [List.cons_append, look, ih]
    by_cases e : j = k
    · subst e; simp
    have : (k ∈ List.map (fun (x : Nat × Option HO) => x.1) ((j, q) :: l)) ↔ k ∈ List.map (fun (x : Nat × Option HO) => x.1) l := by simp [Ne.symm e]
    simp only [beq_ne e, cond_false, this]
theorem look_none {l : Hp} {k : Nat} (h : k ∉ l.map (·.1)) : look l k = none := by
  induction l with
  | nil => rfl
  | cons a l ih =>
    obtain ⟨j, q⟩ := a
    simp only [List.map_cons, List.mem_cons, not_or] at h
    simp only [look, beq_ne (Ne.symm h.1), cond_false]
    exact ih h.2
theorem look_app_same {l r : List (Nat × HO)} (h : l.map (·.1) = r.map (·.1)) : look (up l ++ up r) = look (up l) := by
  have hu : ∀ l : List (Nat × HO), (up l).map (·.1) = l.map (·.1) := fun l => by simp [up]
  funext k
  rw [look_app]
  split
  · rfl
  rename_i hk
  rw [look_none (by rw [hu, ← h, ← hu]; exact hk), look_none hk]
theorem post_same {l r : List (Nat × HO)} (h : l.map (·.1) = r.map (·.1)) (k : Nat) (o : HO) (hk : look (up l) k = some o) : look (up l ++ up r) k = some o := by
  rw [look_app_same h]; exact hk
/-- An element of an array of the call's own. -/
theorem ok_index_box {t e : TypeId} {x y : Operand} {k off n s i : Nat} {m : Int} {cs : List IV} {kk : IntKind} (ho : o.op = .indexAddr t x y) (hx : fr.ev x = some (.ptr k off)) (hy : fr.ev y = some (.pv (.val (.int kk m)))) (hk : look hp k = some (.box cs))
    (hu : P.underlying t = some (.array n e)) (hs : (P.info? e).map (·.size) = some s) (hm : m = i) (hi : i < n) : OkV P c R1 o fr (look hp) (.ptr k (off + i * s)) := by
  subst hm
  intro ρ w a h
  obtain ⟨b, cc, e', r, u, hv, hρ, h3, h4, h5, h6⟩ := h.box hx hk
  refine ⟨.pointer (some ⟨b, off + i * s, none⟩), fun w2 _ => ?_, .ptr _ _ _ fun cs' _ => ⟨b, cc, hρ, rfl⟩⟩
  have hs' := run_sizeOf hs w2
  have h0 : (0 : Int) ≤ i ∧ (i : Int) < n := by omega
  simp [execOp, ho, hv, ev_val h hy, Instr.indexAt, Sem.run_bind, asIntOf, run_underlying hu, Instr.sureAddr, h0, hi, hs', Addr.add]
/-- An array is put together. -/
theorem ok_build_arr {t e : TypeId} {n s : Nat} {parts : Array (Nat × Operand)} {xs : List (Nat × IV)} {z : Value} {out : List IV} {σ : Heap'} (ho : o.op = .build t parts) (hx : evParts fr parts.toList = some xs)
    (hz : ((P.info? t).bind (·.zero)) = some z) (hu : P.underlying t = some (.array n e)) (hs : (P.info? e).map (·.size) = some s) (hf : fillIV (fun i => some (i * s, s)) (zerosIV z) xs = some out) (hfirm : firmParts σ xs) : OkV P c R1 o fr σ (.agg out) := by
  intro ρ w a h
  have hzv : ∀ w, (zeroValue t).run P w = .ok z w := fun w => by
    cases hq : P.info? t with
    | none => simp [hq] at hz
    | some i => simp [hq] at hz; simp [zeroValue, typeInfo, hq, hz]
  obtain ⟨hl, hv⟩ := evParts_rep h hx
  obtain ⟨vs, h1, h2⟩ := fill_rep (zeros_rep c.F ρ σ w z) hl (fun j i x hj => by
    obtain ⟨v, h3, h4⟩ := hv j i x hj
    exact ⟨v, h3, h4, hfirm _ (List.mem_of_getElem? hj)⟩) hf
  have hparts : (parts.map fun (i, x) => (i, a.eval x)).toList = parts.toList.map fun p => (p.1, a.eval p.2) := by simp
  refine ⟨.agg vs, fun w2 _ => ?_, .agg _ _ (fun j => vs.getD j undef) h2.1 (fun j x hj => ?_) fun j x hj => ?_⟩
  · have hso := run_sizeOf hs w2
    simp only [execOp, ho, Instr.build, Sem.run_bind, hzv, run_underlying hu, hso, Result.andThen_ok, hparts, h1]
    rfl
  · obtain ⟨v, h3, _⟩ := h2.2 j x hj
    simp [h3, Array.getD_eq_getD_getElem?]
  obtain ⟨v, h3, h4⟩ := h2.2 j x hj
  simp only [Array.getD_eq_getD_getElem?, h3, Option.getD_some]
  exact h4
end
def idxP {α : Type} (p : α → Bool) : List α → Int → Int
  | [], _ => -1
  | x :: r, i => if p x then i else idxP p r (i + 1)
theorem idxP_any {α : Type} (p : α → Bool) : ∀ (l : List α) (i : Int), 0 ≤ i → decide (idxP p l i ≥ 0) = l.any p
  | [], _, _ => rfl
  | x :: r, i, hi => by
    unfold idxP
    cases hx : p x with
    | true => simp [hx, hi]
    | false => simp [hx, idxP_any p r (i + 1) (by omega)]
def eqGo {S : Type} (p : S → Int → Int → Bool × S) : S → List Int → List Int → Bool × S
  | s, x :: a, y :: b => if (p s x y).1 then eqGo p (p s x y).2 a b else (false, (p s x y).2)
  | s, _, _ => (true, s)
def eqf {S : Type} (p : S → Int → Int → Bool × S) (s : S) (a b : List Int) : Bool × S := if (a.length : Int) = b.length then eqGo p s a b else (false, s)
set_option maxRecDepth 8000 in
set_option maxHeartbeats 2000000 in
theorem sc_idx_int (fq : FuncId) (ws : List IV) (pre : List (Nat × HO)) (hon : onlyHp (pre.map (·.1)) pre = true) (hent : enters Tryz.prog fq) (p : Int → Bool) (l : List Int) (h : ∀ x ∈ l, SC Tryz.prog fq ((iInt x) :: ws) pre (fun _ => True) (iBool (p x)) pre) : SC Tryz.prog 82 [.pv (ints l), .fn (.func fq) [] ws] pre (fun _ => True) (iInt (idxP p l 0)) pre := by
  refine SC.of Tryz.func82 rfl (lb rfl) fun F ρ w => ?_
  refine Tr.lenOf (t := 0) rfl (fun hl => ?_)
  simp only [List.length_map] at hl
  refine Tr.seq <| Tr.region rfl <| cV rfl (oA rfl) <| WL.nil <| Tr.seq <| Tr.seq <| Tr.region rfl <| cV rfl (oM rfl) <| cV rfl (oSm Tryz.underlying35 rfl) <| cV rfl (oM rfl) <| WL.nil <| Tr.block ?_
  refine Tr.sub (Sub.of (fr' := [(8, iInt 0), (7, iInt l.length), (0, .pv (ints l)), (1, .fn (.func fq) [] ws)]) ⟨rfl, rfl, rfl, rfl, trivial⟩) ?_
  refine Tr.loop (fun fr σ m => ∃ (k : Nat), (k ≤ l.length) ∧ (idxP p l 0 = idxP p (l.drop k) k) ∧ fr = [(8, iInt k), (7, iInt l.length), (0, .pv (ints l)), (1, .fn (.func fq) [] ws)] ∧ σ = look (up pre) ∧ m = l.length - k) (n := l.length - 0) ?_ ?_
  · exact ⟨0, Nat.zero_le _, rfl, rfl, rfl, rfl⟩
  rintro fr σ m ⟨k, hI0, hI1, rfl, rfl, rfl⟩
  refine Tr.seq <| Tr.region rfl <| cV rfl (oB rfl rfl rfl) <| WL.nil <| Tr.seq ?_
  refine Tr.cond rfl (fun hc9 => ?_) (fun hc9 => ?_)
  · have hlt : k < l.length := by simpa using hc9
    have hd := List.drop_eq_getElem_cons hlt
    have hm := List.getElem_mem hlt
    have hi := map_get (f := eInt) (List.getElem?_eq_getElem hlt)
    generalize l[k] = x at hd hm hi
    refine Tr.skip <| Tr.seq <| Tr.block <| Tr.seq <| Tr.region rfl <| cV rfl (oM rfl) <| cV rfl (oA rfl) <| WL.nil <| Tr.seq <| Tr.region rfl <| cV rfl (oM rfl) <| cV rfl (oM rfl) ?_
    refine cV rfl (oM rfl) <| cV rfl (ok_index_seq rfl rfl rfl Tryz.underlying35 hi tS3 rfl (by rfl)) <| cV rfl (oLe Tryz.underlying3 rfl rfl) <| WL.cons rfl rfl rfl (ok_callv (h x hm) hent rfl rfl rfl (Subs.refl _ _) (fun _ _ h => h) (by rfl) (fun k (h : _) => trivial) rfl (by assumption)) <| WL.nil ?_
    refine Tr.cond rfl (fun hc16 => ?_) (fun hc16 => ?_)
    · refine Tr.seq <| Tr.region rfl <| cV rfl (oM rfl) <| cV rfl (oA rfl) <| WL.nil <| Tr.ret ?_
      refine ret_ok rfl ?_ (fun k o h => post_same rfl k o h)
      have hx : p x = true := by simpa using hc16
      rw [hI1, hd]
      simp only [idxP, hx, if_true]
    refine Tr.skip <| Tr.region rfl <| cV rfl (oB rfl rfl (i64_add rfl (by omega))) <| cV rfl (oM rfl) <| WL.nil ?_
    refine ⟨_, _, ?_, Sub.of (fr' := [(8, iInt (k + 1)), (7, iInt l.length), (0, .pv (ints l)), (1, .fn (.func fq) [] ws)]) ⟨rfl, rfl, rfl, rfl, trivial⟩, (k + 1), ?_, ?_, rfl, (look_app_same rfl), rfl⟩
    · omega
    · omega
    rw [hI1, hd]
    have hx : p x = false := by simpa using hc16
    simp only [idxP, hx, Bool.false_eq_true, if_false]
    rfl
  refine Tr.exit <| Tr.seq <| Tr.region rfl <| cV rfl (oA rfl) <| WL.nil <| Tr.ret ?_
  refine ret_ok rfl ?_ (fun _ _ h => h)
  have hge : l.length ≤ k := by simpa using hc9
  rw [hI1, List.drop_eq_nil_of_le hge]
  rfl
set_option maxRecDepth 8000 in
set_option maxHeartbeats 2000000 in
theorem sc_has_int (fq : FuncId) (ws : List IV) (pre : List (Nat × HO)) (hon : onlyHp (pre.map (·.1)) pre = true) (hent : enters Tryz.prog fq) (p : Int → Bool) (l : List Int) (h : ∀ x ∈ l, SC Tryz.prog fq ((iInt x) :: ws) pre (fun _ => True) (iBool (p x)) pre) : SC Tryz.prog 58 [.pv (ints l), .fn (.func fq) [] ws] pre (fun _ => True) (iBool (l.any p)) pre := by
  refine SC.of Tryz.func58 rfl (lb rfl) fun F ρ w => ?_
  refine Tr.seq <| Tr.region rfl <| cV rfl (oA rfl) <| WL.nil <| Tr.seq <| Tr.region rfl <| cV rfl (oM rfl) <| cV rfl (oM rfl) <| WL.cons rfl rfl rfl (ok_callr (sc_idx_int fq ws pre hon hent p l h) ent82 rfl rfl (Subs.refl _ _) (fun _ _ h => h) (by rfl) (fun k (h : _) => .inr trivial) rfl (by assumption)) <| cV rfl (oB rfl rfl rfl) <| cV rfl (oA rfl) <| WL.nil ?_
  refine Tr.ret ?_
  refine ret_ok rfl ?_ (fun k o h => post_same rfl k o h)
  exact congrArg (fun b => iBool b) (idxP_any p l 0 (Int.le_refl 0))
set_option maxRecDepth 8000 in
set_option maxHeartbeats 2000000 in
theorem sc_idx_node (fq : FuncId) (ws : List IV) (pre : List (Nat × HO)) (hon : onlyHp (pre.map (·.1)) pre = true) (hent : enters Tryz.prog fq) (p : Nd → Bool) (l : List Nd) (h : ∀ x ∈ l, SC Tryz.prog fq ((.pv (ndv x)) :: ws) pre (fun _ => True) (iBool (p x)) pre) : SC Tryz.prog 126 [.pv (nodes l), .fn (.func fq) [] ws] pre (fun _ => True) (iInt (idxP p l 0)) pre := by
  refine SC.of Tryz.func126 rfl (lb rfl) fun F ρ w => ?_
  refine Tr.lenOf (t := 0) rfl (fun hl => ?_)
  simp only [List.length_map] at hl
  refine Tr.seq <| Tr.region rfl <| cV rfl (oA rfl) <| WL.nil <| Tr.seq <| Tr.seq <| Tr.region rfl <| cV rfl (oM rfl) <| cV rfl (oSm Tryz.underlying43 rfl) <| cV rfl (oM rfl) <| WL.nil <| Tr.block ?_
  refine Tr.sub (Sub.of (fr' := [(8, iInt 0), (7, iInt l.length), (0, .pv (nodes l)), (1, .fn (.func fq) [] ws)]) ⟨rfl, rfl, rfl, rfl, trivial⟩) ?_
  refine Tr.loop (fun fr σ m => ∃ (k : Nat), (k ≤ l.length) ∧ (idxP p l 0 = idxP p (l.drop k) k) ∧ fr = [(8, iInt k), (7, iInt l.length), (0, .pv (nodes l)), (1, .fn (.func fq) [] ws)] ∧ σ = look (up pre) ∧ m = l.length - k) (n := l.length - 0) ?_ ?_
  · exact ⟨0, Nat.zero_le _, rfl, rfl, rfl, rfl⟩
  rintro fr σ m ⟨k, hI0, hI1, rfl, rfl, rfl⟩
  refine Tr.seq <| Tr.region rfl <| cV rfl (oB rfl rfl rfl) <| WL.nil <| Tr.seq ?_
  refine Tr.cond rfl (fun hc9 => ?_) (fun hc9 => ?_)
  · have hlt : k < l.length := by simpa using hc9
    have hd := List.drop_eq_getElem_cons hlt
    have hm := List.getElem_mem hlt
    have hi := nodes_get (List.getElem?_eq_getElem hlt)
    generalize l[k] = x at hd hm hi
    refine Tr.skip <| Tr.seq <| Tr.block <| Tr.seq <| Tr.region rfl <| cV rfl (oM rfl) <| cV rfl (oA rfl) <| WL.nil <| Tr.seq <| Tr.region rfl <| cV rfl (oM rfl) <| cV rfl (oM rfl) ?_
    refine cV rfl (oM rfl) <| cV rfl (ok_index_seq rfl rfl rfl Tryz.underlying43 hi tS42 rfl (by rfl)) <| cV rfl (ok_load_ept_agg rfl rfl Tryz.underlying42 rfl tS42 (Nat.le_of_ble_eq_true rfl)) <| WL.cons rfl rfl rfl (ok_callv (h x hm) hent rfl rfl rfl (Subs.refl _ _) (fun _ _ h => h) (by rfl) (fun k (h : _) => trivial) rfl (by assumption)) <| WL.nil ?_
    refine Tr.cond rfl (fun hc16 => ?_) (fun hc16 => ?_)
    · refine Tr.seq <| Tr.region rfl <| cV rfl (oM rfl) <| cV rfl (oA rfl) <| WL.nil <| Tr.ret ?_
      refine ret_ok rfl ?_ (fun k o h => post_same rfl k o h)
      have hx : p x = true := by simpa using hc16
      rw [hI1, hd]
      simp only [idxP, hx, if_true]
    refine Tr.skip <| Tr.region rfl <| cV rfl (oB rfl rfl (i64_add rfl (by omega))) <| cV rfl (oM rfl) <| WL.nil ?_
    refine ⟨_, _, ?_, Sub.of (fr' := [(8, iInt (k + 1)), (7, iInt l.length), (0, .pv (nodes l)), (1, .fn (.func fq) [] ws)]) ⟨rfl, rfl, rfl, rfl, trivial⟩, (k + 1), ?_, ?_, rfl, (look_app_same rfl), rfl⟩
    · omega
    · omega
    rw [hI1, hd]
    have hx : p x = false := by simpa using hc16
    simp only [idxP, hx, Bool.false_eq_true, if_false]
    rfl
  refine Tr.exit <| Tr.seq <| Tr.region rfl <| cV rfl (oA rfl) <| WL.nil <| Tr.ret ?_
  refine ret_ok rfl ?_ (fun _ _ h => h)
  have hge : l.length ≤ k := by simpa using hc9
  rw [hI1, List.drop_eq_nil_of_le hge]
  rfl
set_option maxRecDepth 8000 in
set_option maxHeartbeats 2000000 in
theorem sc_has_node (fq : FuncId) (ws : List IV) (pre : List (Nat × HO)) (hon : onlyHp (pre.map (·.1)) pre = true) (hent : enters Tryz.prog fq) (p : Nd → Bool) (l : List Nd) (h : ∀ x ∈ l, SC Tryz.prog fq ((.pv (ndv x)) :: ws) pre (fun _ => True) (iBool (p x)) pre) : SC Tryz.prog 115 [.pv (nodes l), .fn (.func fq) [] ws] pre (fun _ => True) (iBool (l.any p)) pre := by
  refine SC.of Tryz.func115 rfl (lb rfl) fun F ρ w => ?_
  refine Tr.seq <| Tr.region rfl <| cV rfl (oA rfl) <| WL.nil <| Tr.seq <| Tr.region rfl <| cV rfl (oM rfl) <| cV rfl (oM rfl) <| WL.cons rfl rfl rfl (ok_callr (sc_idx_node fq ws pre hon hent p l h) ent126 rfl rfl (Subs.refl _ _) (fun _ _ h => h) (by rfl) (fun k (h : _) => .inr trivial) rfl (by assumption)) <| cV rfl (oB rfl rfl rfl) <| cV rfl (oA rfl) <| WL.nil ?_
  refine Tr.ret ?_
  refine ret_ok rfl ?_ (fun k o h => post_same rfl k o h)
  exact congrArg (fun b => iBool b) (idxP_any p l 0 (Int.le_refl 0))
set_option maxRecDepth 8000 in
set_option maxHeartbeats 2000000 in
theorem sc_idx_kid (fq : FuncId) (ws : List IV) (pre : List (Nat × HO)) (hon : onlyHp (pre.map (·.1)) pre = true) (hent : enters Tryz.prog fq) (p : (List Nd) → Bool) (l : List (List Nd)) (h : ∀ x ∈ l, SC Tryz.prog fq ((.pv (nodes x)) :: ws) pre (fun _ => True) (iBool (p x)) pre) : SC Tryz.prog 127 [.pv (kids l), .fn (.func fq) [] ws] pre (fun _ => True) (iInt (idxP p l 0)) pre := by
  refine SC.of Tryz.func127 rfl (lb rfl) fun F ρ w => ?_
  refine Tr.lenOf (t := 0) rfl (fun hl => ?_)
  simp only [List.length_map] at hl
  refine Tr.seq <| Tr.region rfl <| cV rfl (oA rfl) <| WL.nil <| Tr.seq <| Tr.seq <| Tr.region rfl <| cV rfl (oM rfl) <| cV rfl (oSm Tryz.underlying40 rfl) <| cV rfl (oM rfl) <| WL.nil <| Tr.block ?_
  refine Tr.sub (Sub.of (fr' := [(8, iInt 0), (7, iInt l.length), (0, .pv (kids l)), (1, .fn (.func fq) [] ws)]) ⟨rfl, rfl, rfl, rfl, trivial⟩) ?_
  refine Tr.loop (fun fr σ m => ∃ (k : Nat), (k ≤ l.length) ∧ (idxP p l 0 = idxP p (l.drop k) k) ∧ fr = [(8, iInt k), (7, iInt l.length), (0, .pv (kids l)), (1, .fn (.func fq) [] ws)] ∧ σ = look (up pre) ∧ m = l.length - k) (n := l.length - 0) ?_ ?_
  · exact ⟨0, Nat.zero_le _, rfl, rfl, rfl, rfl⟩
  rintro fr σ m ⟨k, hI0, hI1, rfl, rfl, rfl⟩
  refine Tr.seq <| Tr.region rfl <| cV rfl (oB rfl rfl rfl) <| WL.nil <| Tr.seq ?_
  refine Tr.cond rfl (fun hc9 => ?_) (fun hc9 => ?_)
  · have hlt : k < l.length := by simpa using hc9
    have hd := List.drop_eq_getElem_cons hlt
    have hm := List.getElem_mem hlt
    have hi := map_get (f := eKid) (List.getElem?_eq_getElem hlt)
    generalize l[k] = x at hd hm hi
    refine Tr.skip <| Tr.seq <| Tr.block <| Tr.seq <| Tr.region rfl <| cV rfl (oM rfl) <| cV rfl (oA rfl) <| WL.nil <| Tr.seq <| Tr.region rfl <| cV rfl (oM rfl) <| cV rfl (oM rfl) ?_
    refine cV rfl (oM rfl) <| cV rfl (ok_index_seq rfl rfl rfl Tryz.underlying40 hi tS43 rfl (by rfl)) <| cV rfl (oLe Tryz.underlying43 rfl rfl) <| WL.cons rfl rfl rfl (ok_callv (h x hm) hent rfl rfl rfl (Subs.refl _ _) (fun _ _ h => h) (by rfl) (fun k (h : _) => trivial) rfl (by assumption)) <| WL.nil ?_
    refine Tr.cond rfl (fun hc16 => ?_) (fun hc16 => ?_)
    · refine Tr.seq <| Tr.region rfl <| cV rfl (oM rfl) <| cV rfl (oA rfl) <| WL.nil <| Tr.ret ?_
      refine ret_ok rfl ?_ (fun k o h => post_same rfl k o h)
      have hx : p x = true := by simpa using hc16
      rw [hI1, hd]
      simp only [idxP, hx, if_true]
    refine Tr.skip <| Tr.region rfl <| cV rfl (oB rfl rfl (i64_add rfl (by omega))) <| cV rfl (oM rfl) <| WL.nil ?_
    refine ⟨_, _, ?_, Sub.of (fr' := [(8, iInt (k + 1)), (7, iInt l.length), (0, .pv (kids l)), (1, .fn (.func fq) [] ws)]) ⟨rfl, rfl, rfl, rfl, trivial⟩, (k + 1), ?_, ?_, rfl, (look_app_same rfl), rfl⟩
    · omega
    · omega
    rw [hI1, hd]
    have hx : p x = false := by simpa using hc16
    simp only [idxP, hx, Bool.false_eq_true, if_false]
    rfl
  refine Tr.exit <| Tr.seq <| Tr.region rfl <| cV rfl (oA rfl) <| WL.nil <| Tr.ret ?_
  refine ret_ok rfl ?_ (fun _ _ h => h)
  have hge : l.length ≤ k := by simpa using hc9
  rw [hI1, List.drop_eq_nil_of_le hge]
  rfl
set_option maxRecDepth 8000 in
set_option maxHeartbeats 2000000 in
theorem sc_has_kid (fq : FuncId) (ws : List IV) (pre : List (Nat × HO)) (hon : onlyHp (pre.map (·.1)) pre = true) (hent : enters Tryz.prog fq) (p : (List Nd) → Bool) (l : List (List Nd)) (h : ∀ x ∈ l, SC Tryz.prog fq ((.pv (nodes x)) :: ws) pre (fun _ => True) (iBool (p x)) pre) : SC Tryz.prog 117 [.pv (kids l), .fn (.func fq) [] ws] pre (fun _ => True) (iBool (l.any p)) pre := by
  refine SC.of Tryz.func117 rfl (lb rfl) fun F ρ w => ?_
  refine Tr.seq <| Tr.region rfl <| cV rfl (oA rfl) <| WL.nil <| Tr.seq <| Tr.region rfl <| cV rfl (oM rfl) <| cV rfl (oM rfl) <| WL.cons rfl rfl rfl (ok_callr (sc_idx_kid fq ws pre hon hent p l h) ent127 rfl rfl (Subs.refl _ _) (fun _ _ h => h) (by rfl) (fun k (h : _) => .inr trivial) rfl (by assumption)) <| cV rfl (oB rfl rfl rfl) <| cV rfl (oA rfl) <| WL.nil ?_
  refine Tr.ret ?_
  refine ret_ok rfl ?_ (fun k o h => post_same rfl k o h)
  exact congrArg (fun b => iBool b) (idxP_any p l 0 (Int.le_refl 0))
set_option maxRecDepth 8000 in
set_option maxHeartbeats 2000000 in
theorem sc_idx_arr (fq : FuncId) (ws : List IV) (pre : List (Nat × HO)) (hon : onlyHp (pre.map (·.1)) pre = true) (hent : enters Tryz.prog fq) (p : Ar → Bool) (l : List Ar) (h : ∀ x ∈ l, SC Tryz.prog fq ((.pv (.agg x.enc)) :: ws) pre (fun _ => True) (iBool (p x)) pre) : SC Tryz.prog 129 [.pv (arrs l), .fn (.func fq) [] ws] pre (fun _ => True) (iInt (idxP p l 0)) pre := by
  refine SC.of Tryz.func129 rfl (lb rfl) fun F ρ w => ?_
  refine Tr.lenOf (t := 0) rfl (fun hl => ?_)
  simp only [List.length_map] at hl
  refine Tr.seq <| Tr.region rfl <| cV rfl (oA rfl) <| WL.nil <| Tr.seq <| Tr.seq <| Tr.region rfl <| cV rfl (oM rfl) <| cV rfl (oSm Tryz.underlying22 rfl) <| cV rfl (oM rfl) <| WL.nil <| Tr.block ?_
  refine Tr.sub (Sub.of (fr' := [(8, iInt 0), (7, iInt l.length), (0, .pv (arrs l)), (1, .fn (.func fq) [] ws)]) ⟨rfl, rfl, rfl, rfl, trivial⟩) ?_
  refine Tr.loop (fun fr σ m => ∃ (k : Nat), (k ≤ l.length) ∧ (idxP p l 0 = idxP p (l.drop k) k) ∧ fr = [(8, iInt k), (7, iInt l.length), (0, .pv (arrs l)), (1, .fn (.func fq) [] ws)] ∧ σ = look (up pre) ∧ m = l.length - k) (n := l.length - 0) ?_ ?_
  · exact ⟨0, Nat.zero_le _, rfl, rfl, rfl, rfl⟩
  rintro fr σ m ⟨k, hI0, hI1, rfl, rfl, rfl⟩
  refine Tr.seq <| Tr.region rfl <| cV rfl (oB rfl rfl rfl) <| WL.nil <| Tr.seq ?_
  refine Tr.cond rfl (fun hc9 => ?_) (fun hc9 => ?_)
  · have hlt : k < l.length := by simpa using hc9
    have hd := List.drop_eq_getElem_cons hlt
    have hm := List.getElem_mem hlt
    have hi := map_get (f := Ar.enc) (List.getElem?_eq_getElem hlt)
    generalize l[k] = x at hd hm hi
    refine Tr.skip <| Tr.seq <| Tr.block <| Tr.seq <| Tr.region rfl <| cV rfl (oM rfl) <| cV rfl (oA rfl) <| WL.nil <| Tr.seq <| Tr.region rfl <| cV rfl (oM rfl) <| cV rfl (oM rfl) ?_
    refine cV rfl (oM rfl) <| cV rfl (ok_index_seq rfl rfl rfl Tryz.underlying22 hi tS49 rfl (by rfl)) <| cV rfl (ok_load_ept_agg rfl rfl Tryz.underlying49 rfl tS49 (Nat.le_of_ble_eq_true rfl)) <| WL.cons rfl rfl rfl (ok_callv (h x hm) hent rfl rfl rfl (Subs.refl _ _) (fun _ _ h => h) (by rfl) (fun k (h : _) => trivial) rfl (by assumption)) <| WL.nil ?_
    refine Tr.cond rfl (fun hc16 => ?_) (fun hc16 => ?_)
    · refine Tr.seq <| Tr.region rfl <| cV rfl (oM rfl) <| cV rfl (oA rfl) <| WL.nil <| Tr.ret ?_
      refine ret_ok rfl ?_ (fun k o h => post_same rfl k o h)
      have hx : p x = true := by simpa using hc16
      rw [hI1, hd]
      simp only [idxP, hx, if_true]
    refine Tr.skip <| Tr.region rfl <| cV rfl (oB rfl rfl (i64_add rfl (by omega))) <| cV rfl (oM rfl) <| WL.nil ?_
    refine ⟨_, _, ?_, Sub.of (fr' := [(8, iInt (k + 1)), (7, iInt l.length), (0, .pv (arrs l)), (1, .fn (.func fq) [] ws)]) ⟨rfl, rfl, rfl, rfl, trivial⟩, (k + 1), ?_, ?_, rfl, (look_app_same rfl), rfl⟩
    · omega
    · omega
    rw [hI1, hd]
    have hx : p x = false := by simpa using hc16
    simp only [idxP, hx, Bool.false_eq_true, if_false]
    rfl
  refine Tr.exit <| Tr.seq <| Tr.region rfl <| cV rfl (oA rfl) <| WL.nil <| Tr.ret ?_
  refine ret_ok rfl ?_ (fun _ _ h => h)
  have hge : l.length ≤ k := by simpa using hc9
  rw [hI1, List.drop_eq_nil_of_le hge]
  rfl
set_option maxRecDepth 8000 in
set_option maxHeartbeats 2000000 in
theorem sc_has_arr (fq : FuncId) (ws : List IV) (pre : List (Nat × HO)) (hon : onlyHp (pre.map (·.1)) pre = true) (hent : enters Tryz.prog fq) (p : Ar → Bool) (l : List Ar) (h : ∀ x ∈ l, SC Tryz.prog fq ((.pv (.agg x.enc)) :: ws) pre (fun _ => True) (iBool (p x)) pre) : SC Tryz.prog 124 [.pv (arrs l), .fn (.func fq) [] ws] pre (fun _ => True) (iBool (l.any p)) pre := by
  refine SC.of Tryz.func124 rfl (lb rfl) fun F ρ w => ?_
  refine Tr.seq <| Tr.region rfl <| cV rfl (oA rfl) <| WL.nil <| Tr.seq <| Tr.region rfl <| cV rfl (oM rfl) <| cV rfl (oM rfl) <| WL.cons rfl rfl rfl (ok_callr (sc_idx_arr fq ws pre hon hent p l h) ent129 rfl rfl (Subs.refl _ _) (fun _ _ h => h) (by rfl) (fun k (h : _) => .inr trivial) rfl (by assumption)) <| cV rfl (oB rfl rfl rfl) <| cV rfl (oA rfl) <| WL.nil ?_
  refine Tr.ret ?_
  refine ret_ok rfl ?_ (fun k o h => post_same rfl k o h)
  exact congrArg (fun b => iBool b) (idxP_any p l 0 (Int.le_refl 0))
set_option maxRecDepth 8000 in
set_option maxHeartbeats 2000000 in
theorem sc_idx_flow (fq : FuncId) (ws : List IV) (pre : List (Nat × HO)) (hon : onlyHp (pre.map (·.1)) pre = true) (hent : enters Tryz.prog fq) (p : Fl → Bool) (l : List Fl) (h : ∀ x ∈ l, SC Tryz.prog fq ((.pv (.agg x.enc)) :: ws) pre (fun _ => True) (iBool (p x)) pre) : SC Tryz.prog 80 [.pv (flws l), .fn (.func fq) [] ws] pre (fun _ => True) (iInt (idxP p l 0)) pre := by
  refine SC.of Tryz.func80 rfl (lb rfl) fun F ρ w => ?_
  refine Tr.lenOf (t := 0) rfl (fun hl => ?_)
  simp only [List.length_map] at hl
  refine Tr.seq <| Tr.region rfl <| cV rfl (oA rfl) <| WL.nil <| Tr.seq <| Tr.seq <| Tr.region rfl <| cV rfl (oM rfl) <| cV rfl (oSm Tryz.underlying23 rfl) <| cV rfl (oM rfl) <| WL.nil <| Tr.block ?_
  refine Tr.sub (Sub.of (fr' := [(8, iInt 0), (7, iInt l.length), (0, .pv (flws l)), (1, .fn (.func fq) [] ws)]) ⟨rfl, rfl, rfl, rfl, trivial⟩) ?_
  refine Tr.loop (fun fr σ m => ∃ (k : Nat), (k ≤ l.length) ∧ (idxP p l 0 = idxP p (l.drop k) k) ∧ fr = [(8, iInt k), (7, iInt l.length), (0, .pv (flws l)), (1, .fn (.func fq) [] ws)] ∧ σ = look (up pre) ∧ m = l.length - k) (n := l.length - 0) ?_ ?_
  · exact ⟨0, Nat.zero_le _, rfl, rfl, rfl, rfl⟩
  rintro fr σ m ⟨k, hI0, hI1, rfl, rfl, rfl⟩
  refine Tr.seq <| Tr.region rfl <| cV rfl (oB rfl rfl rfl) <| WL.nil <| Tr.seq ?_
  refine Tr.cond rfl (fun hc9 => ?_) (fun hc9 => ?_)
  · have hlt : k < l.length := by simpa using hc9
    have hd := List.drop_eq_getElem_cons hlt
    have hm := List.getElem_mem hlt
    have hi := map_get (f := Fl.enc) (List.getElem?_eq_getElem hlt)
    generalize l[k] = x at hd hm hi
    refine Tr.skip <| Tr.seq <| Tr.block <| Tr.seq <| Tr.region rfl <| cV rfl (oM rfl) <| cV rfl (oA rfl) <| WL.nil <| Tr.seq <| Tr.region rfl <| cV rfl (oM rfl) <| cV rfl (oM rfl) ?_
    refine cV rfl (oM rfl) <| cV rfl (ok_index_seq rfl rfl rfl Tryz.underlying23 hi tS51 rfl (by rfl)) <| cV rfl (ok_load_ept_agg rfl rfl Tryz.underlying51 rfl tS51 (Nat.le_of_ble_eq_true rfl)) <| WL.cons rfl rfl rfl (ok_callv (h x hm) hent rfl rfl rfl (Subs.refl _ _) (fun _ _ h => h) (by rfl) (fun k (h : _) => trivial) rfl (by assumption)) <| WL.nil ?_
    refine Tr.cond rfl (fun hc16 => ?_) (fun hc16 => ?_)
    · refine Tr.seq <| Tr.region rfl <| cV rfl (oM rfl) <| cV rfl (oA rfl) <| WL.nil <| Tr.ret ?_
      refine ret_ok rfl ?_ (fun k o h => post_same rfl k o h)
      have hx : p x = true := by simpa using hc16
      rw [hI1, hd]
      simp only [idxP, hx, if_true]
    refine Tr.skip <| Tr.region rfl <| cV rfl (oB rfl rfl (i64_add rfl (by omega))) <| cV rfl (oM rfl) <| WL.nil ?_
    refine ⟨_, _, ?_, Sub.of (fr' := [(8, iInt (k + 1)), (7, iInt l.length), (0, .pv (flws l)), (1, .fn (.func fq) [] ws)]) ⟨rfl, rfl, rfl, rfl, trivial⟩, (k + 1), ?_, ?_, rfl, (look_app_same rfl), rfl⟩
    · omega
    · omega
    rw [hI1, hd]
    have hx : p x = false := by simpa using hc16
    simp only [idxP, hx, Bool.false_eq_true, if_false]
    rfl
  refine Tr.exit <| Tr.seq <| Tr.region rfl <| cV rfl (oA rfl) <| WL.nil <| Tr.ret ?_
  refine ret_ok rfl ?_ (fun _ _ h => h)
  have hge : l.length ≤ k := by simpa using hc9
  rw [hI1, List.drop_eq_nil_of_le hge]
  rfl
set_option maxRecDepth 8000 in
set_option maxHeartbeats 2000000 in
theorem sc_eqf (fq : FuncId) (ws : List IV) (S : Type) (H : S → List (Nat × HO)) (ks : List Nat) (hks : ∀ s, (H s).map (·.1) = ks) (hon : ∀ s, onlyHp ((H s).map (·.1)) (H s) = true) (hent : enters Tryz.prog fq) (p : S → Int → Int → Bool × S) (R : Nat → Prop) (G : S → Prop) (hG : ∀ s x y, G s → G (p s x y).2) (h : ∀ s x y, G s → SC Tryz.prog fq (iInt x :: iInt y :: ws) (H s) R (iBool (p s x y).1) (H (p s x y).2)) (s : S) (hs : G s) (a b : List Int) : SC Tryz.prog 119 [.pv (ints a), .pv (ints b), .fn (.func fq) [] ws] (H s) (R) (iBool (eqf p s a b).1) (H (eqf p s a b).2) := by
  refine SC.of Tryz.func119 rfl (lb rfl) fun F ρ w => ?_
  refine Tr.lenOf (t := 0) rfl (fun hl => ?_)
  simp only [List.length_map] at hl
  refine Tr.lenOf (t := 1) rfl (fun hl2 => ?_)
  simp only [List.length_map] at hl2
  refine Tr.seq <| Tr.region rfl <| cV rfl (oA rfl) <| WL.nil <| Tr.seq <| Tr.seq <| Tr.region rfl <| cV rfl (oM rfl) <| cV rfl (oSm Tryz.underlying35 rfl) <| cV rfl (oM rfl) <| cV rfl (oSm Tryz.underlying35 rfl) <| cV rfl (oB rfl rfl rfl) ?_
  refine WL.nil ?_
  refine Tr.cond rfl (fun hc14 => ?_) (fun hc14 => ?_)
  · refine Tr.seq <| Tr.region rfl <| cV rfl (oA rfl) <| WL.nil <| Tr.ret ?_
    have hne : ¬ (a.length : Int) = b.length := by simpa using hc14
    have he : eqf p s a b = (false, s) := by simp only [eqf, hne, if_false]
    rw [he]
    exact ret_ok rfl rfl (fun _ _ h => h)
  have hlen : a.length = b.length := by simp at hc14; omega
  have hlz : (a.length : Int) = b.length := by omega
  refine Tr.skip <| Tr.seq <| Tr.seq <| Tr.region rfl <| cV rfl (oM rfl) <| cV rfl (oSm Tryz.underlying35 rfl) <| cV rfl (oM rfl) <| WL.nil <| Tr.block <| Tr.sub (Sub.of (fr' := [(17, iInt 0), (16, iInt a.length), (15, .pv (ints a)), (0, .pv (ints a)), (1, .pv (ints b)), (2, .fn (.func fq) [] ws)]) ⟨rfl, rfl, rfl, rfl, rfl, rfl, trivial⟩) ?_
  refine Tr.loop (fun fr σ m => ∃ (k : Nat) (st : S), (k ≤ a.length) ∧ (eqGo p s a b = eqGo p st (a.drop k) (b.drop k)) ∧ (G st) ∧ fr = [(17, iInt k), (16, iInt a.length), (15, .pv (ints a)), (0, .pv (ints a)), (1, .pv (ints b)), (2, .fn (.func fq) [] ws)] ∧ σ = look (up (H st)) ∧ m = a.length - k) (n := a.length - 0) ?_ ?_
  · exact ⟨0, s, Nat.zero_le _, rfl, hs, rfl, rfl, rfl⟩
  rintro fr σ m ⟨k, st, hI0, hI1, hI2, rfl, rfl, rfl⟩
  refine Tr.seq <| Tr.region rfl <| cV rfl (oB rfl rfl rfl) <| WL.nil <| Tr.seq ?_
  refine Tr.cond rfl (fun hc18 => ?_) (fun hc18 => ?_)
  · have hlt : k < a.length := by simpa using hc18
    have hd := List.drop_eq_getElem_cons hlt
    have hm := List.getElem_mem hlt
    have hi := map_get (f := eInt) (List.getElem?_eq_getElem hlt)
    generalize a[k] = x at hd hm hi
    have hltw : k < b.length := by omega
    have hdw := List.drop_eq_getElem_cons hltw
    have hw := map_get (f := eInt) (List.getElem?_eq_getElem hltw)
    generalize b[k] = y at hdw hw
    have hdom := (hks st).trans (hks (p st x y).2).symm
    have hon2 := hon (p st x y).2
    refine Tr.skip <| Tr.seq <| Tr.block <| Tr.seq <| Tr.region rfl <| cV rfl (oM rfl) <| cV rfl (ok_index_seq rfl rfl rfl Tryz.underlying35 hi tS3 rfl (by rfl)) <| cV rfl (oLe Tryz.underlying3 rfl rfl) <| cV rfl (oA rfl) <| cV rfl (oA rfl) <| WL.nil <| Tr.seq ?_
    refine Tr.region rfl <| cV rfl (oM rfl) <| cV rfl (oM rfl) <| cV rfl (ok_index_seq rfl rfl rfl Tryz.underlying35 hw tS3 rfl (by rfl)) <| cV rfl (oLe Tryz.underlying3 rfl rfl) <| cV rfl (oA rfl) <| WL.nil <| Tr.seq <| Tr.region rfl <| cV rfl (oM rfl) <| cV rfl (oM rfl) <| cV rfl (oM rfl) ?_
    refine WL.cons rfl rfl rfl (ok_callv (h st x y hI2) hent rfl rfl rfl (Subs.refl _ _) (fun _ _ h => h) (by assumption) (fun k (h : _) => h) rfl (by assumption)) <| cV rfl (oN rfl) <| WL.nil ?_
    refine Tr.cond rfl (fun hc30 => ?_) (fun hc30 => ?_)
    · refine Tr.seq <| Tr.region rfl <| cV rfl (oA rfl) <| WL.nil <| Tr.ret ?_
      have hx : (p st x y).1 = false := by simpa using hc30
      have he : eqf p s a b = (false, (p st x y).2) := by simp only [eqf, hlz, if_true, hI1, hd, hdw, eqGo, hx, Bool.false_eq_true, if_false]
      rw [he]
      exact ret_ok rfl rfl (fun k o h => post_same ((hks _).trans (hks _).symm) k o h)
    refine Tr.skip <| Tr.region rfl <| cV rfl (oB rfl rfl (i64_add rfl (by omega))) <| cV rfl (oM rfl) <| WL.nil ?_
    refine ⟨_, _, ?_, Sub.of (fr' := [(17, iInt (k + 1)), (16, iInt a.length), (15, .pv (ints a)), (0, .pv (ints a)), (1, .pv (ints b)), (2, .fn (.func fq) [] ws)]) ⟨rfl, rfl, rfl, rfl, rfl, rfl, trivial⟩, (k + 1), (p st x y).2, ?_, ?_, ?_, rfl, (look_app_same ((hks _).trans (hks _).symm)), rfl⟩
    · omega
    · omega
    · rw [hI1, hd, hdw]
      have hx : (p st x y).1 = true := by simpa using hc30
      simp only [eqGo, hx, if_true]
    exact hG _ _ _ hI2
  refine Tr.exit <| Tr.seq <| Tr.region rfl <| cV rfl (oA rfl) <| WL.nil <| Tr.ret ?_
  have hge : a.length ≤ k := by simpa using hc18
  have he : eqf p s a b = (true, st) := by simp only [eqf, hlz, if_true, hI1, List.drop_eq_nil_of_le hge, eqGo]
  rw [he]
  exact ret_ok rfl rfl (fun _ _ h => h)
theorem r8Leaves_any : ∀ l : List Nd, r8Leaves l = l.any r8LeavesN
  | [] => rfl
  | x :: r => by simp [r8Leaves, r8Leaves_any r]
theorem r8LeavesK_any : ∀ l : List (List Nd), r8LeavesK l = l.any r8Leaves
  | [] => rfl
  | x :: r => by simp [r8LeavesK, r8LeavesK_any r]
def shYields (l : List Nd) : Bool := match l.getLast? with
  | some x => x.kind == 12
  | none => false
theorem shYields_eq (l : List Nd) : (r8last l != 12) = !shYields l := by
  unfold r8last shYields
  cases l.getLast? with
  | none => rfl
  | some x =>
    simp only [r8Ender]
    by_cases h : x.kind = 12
    · simp [h]
    have hb : (x.kind == 12) = false := by simpa using h
    by_cases h2 : (decide (x.kind ≥ 12) && decide (x.kind ≤ 15)) = true
    · simp only [h2, if_true, bne, hb]
    simp [h2, h]
theorem idxP_place (name : ByteArray) : ∀ (l : List Fl) (i : Int), idxP (fun f : Fl => f.name.toList == name.toList) l i = r8Place name l i
  | [], _ => rfl
  | f :: r, i => by
    unfold idxP r8Place eqS
    rw [idxP_place name r]
theorem r8Array_any (name : ByteArray) : ∀ (l : List Ar) (i : Int), 0 ≤ i → decide (r8Array name l i ≥ 0) = l.any (fun a : Ar => a.name.toList == name.toList)
  | [], _, _ => rfl
  | f :: r, i, hi => by
    have ih := r8Array_any name r (i + 1) (by omega)
    rw [List.any_cons, ← ih]
    rw [show r8Array name (f :: r) i = if (f.name.toList == name.toList) = true then i else r8Array name r (i + 1) from rfl]
    by_cases h : (f.name.toList == name.toList) = true
    · rw [if_pos h, h]; simp [hi]
    rw [if_neg h, (by simpa using h : (f.name.toList == name.toList) = false)]; simp
def isTy (t : Int) : Bool := t == 1 || t == 2
def shOperand (op : Int) : Int × Int :=
  if op == 22 then (2, 2) else if op == 16 || op == 17 then (0, 2) else if decide (op ≥ 12) && decide (op ≤ 15) then (1, 2) else (1, 1)
def wSigns : List ByteArray := [⟨#[]⟩, ⟨#[43]⟩, ⟨#[45]⟩, ⟨#[42]⟩, ⟨#[47]⟩, ⟨#[37]⟩, ⟨#[38]⟩, ⟨#[124]⟩, ⟨#[94]⟩, ⟨#[60, 60]⟩, ⟨#[62, 62]⟩, ⟨#[62, 62, 62]⟩, ⟨#[60]⟩, ⟨#[60, 61]⟩, ⟨#[62]⟩, ⟨#[62, 61]⟩, ⟨#[61, 61]⟩, ⟨#[33, 61]⟩, ⟨#[38, 38]⟩, ⟨#[124, 124]⟩, ⟨#[45]⟩, ⟨#[126]⟩, ⟨#[33]⟩, ⟨#[105, 56]⟩, ⟨#[105, 49, 54]⟩, ⟨#[105, 51, 50]⟩, ⟨#[117, 56]⟩, ⟨#[117, 49, 54]⟩, ⟨#[117, 51, 50]⟩]
def wSign (op : Int) : ByteArray := if op < 0 || op ≥ 29 then ⟨#[]⟩ else wSigns.getD op.toNat ⟨#[]⟩
def levelTab : List Int := [0, 9, 9, 10, 10, 10, 5, 3, 4, 8, 8, 8, 7, 7, 7, 7, 6, 6, 2, 1, 0, 0, 0, 0, 0, 0, 0, 0, 0]
def wLevel (op : Int) : Int := if op < 0 || op ≥ 29 then 0 else levelTab.getD op.toNat 0
theorem below29 {op : Int} (h0 : 0 ≤ op) (h1 : op < 29) : op = 0 ∨ op = 1 ∨ op = 2 ∨ op = 3 ∨ op = 4 ∨ op = 5 ∨ op = 6 ∨ op = 7 ∨ op = 8 ∨ op = 9 ∨ op = 10 ∨ op = 11 ∨ op = 12 ∨ op = 13 ∨ op = 14 ∨ op = 15 ∨ op = 16 ∨ op = 17 ∨ op = 18 ∨ op = 19 ∨ op = 20 ∨ op = 21 ∨ op = 22 ∨ op = 23 ∨ op = 24 ∨ op = 25 ∨ op = 26 ∨ op = 27 ∨ op = 28 := by omega
def ckS (u : Un) (f : Fl) (it : TypeId) (st : List Int) : List (Nat × HO) := [(3, .box (ckBox u f (st.map eInt).length)), (4, .row ⟨it, 1⟩ (st.map eInt))]
def shVal (tys : List Int) (v t : Int) : Bool := decide (0 ≤ v) && decide (v < tys.length) && (t == 0 || tys.getD v.toNat 0 == t)
def shUse (tys : List Int) (st : List Int) (v t : Int) : Bool × List Int := (shVal tys v t && st.getD v.toNat 0 == 1, st)
def shSet1 (tys : List Int) (st : List Int) (v t : Int) : Bool × List Int := if shVal tys v t && st.getD v.toNat 0 == 0 then (true, st.set v.toNat 1) else (false, st)
def shUses (tys st l want : List Int) : Bool := (eqf (shUse tys) st l want).1
def shSets (tys st l want : List Int) : Bool × List Int := eqf (shSet1 tys) st l want
def shHide (st l : List Int) : List Int := l.foldl (fun s v => s.set v.toNat 2) st
theorem shUse_snd (tys : List Int) : ∀ (a b st : List Int), (eqGo (shUse tys) st a b).2 = st
  | [], _, st => by simp [eqGo]
  | _ :: _, [], st => by simp [eqGo]
  | x :: a, y :: b, st => by
    simp only [eqGo]
    split
    · exact shUse_snd tys a b st
    rfl
theorem shUses_snd (tys st a b : List Int) : (eqf (shUse tys) st a b).2 = st := by
  unfold eqf
  split
  · exact shUse_snd tys a b st
  rfl
theorem shSet1_length (tys st : List Int) (v t : Int) : (shSet1 tys st v t).2.length = st.length := by
  unfold shSet1; split <;> simp
theorem shSetGo_length (tys : List Int) : ∀ (a b st : List Int), (eqGo (shSet1 tys) st a b).2.length = st.length
  | [], _, st => by simp [eqGo]
  | _ :: _, [], st => by simp [eqGo]
  | x :: a, y :: b, st => by
    simp only [eqGo]
    split
    · rw [shSetGo_length tys a b, shSet1_length]
    exact shSet1_length ..
theorem shSets_length (tys st a b : List Int) : (shSets tys st a b).2.length = st.length := by
  unfold shSets eqf
  split
  · exact shSetGo_length ..
  rfl
theorem shHide_length : ∀ (l st : List Int), (shHide st l).length = st.length
  | [], st => rfl
  | v :: r, st => by
    have := shHide_length r (st.set v.toNat 2)
    simpa [shHide] using this
theorem shSetGo_in (tys : List Int) : ∀ (a b st : List Int), a.length = b.length → (eqGo (shSet1 tys) st a b).1 = true → ∀ v ∈ a, 0 ≤ v ∧ v < tys.length
  | [], _, st, _, _, v, hv => by simp at hv
  | _ :: _, [], _, hl, _, _, _ => by simp at hl
  | x :: a, y :: b, st, hl, h, v, hv => by
    simp only [eqGo] at h
    split at h
    · rename_i h1
      rcases List.mem_cons.1 hv with rfl | hv
      · unfold shSet1 at h1
        split at h1
        · rename_i h2
          simp only [shVal, Bool.and_eq_true, decide_eq_true_eq] at h2
          exact ⟨h2.1.1.1, h2.1.1.2⟩
        cases h1
      exact shSetGo_in tys a b _ (by simpa using hl) h v hv
    cases h
theorem shSets_in {tys st a b : List Int} (h : (shSets tys st a b).1 = true) : ∀ v ∈ a, 0 ≤ v ∧ v < tys.length := by
  unfold shSets eqf at h
  split at h
  · exact shSetGo_in tys a b st (by omega) h
  cases h
def ckSp (u : Un) (f : Fl) (it : TypeId) (q : Nat) (st : List Int) : List (Nat × HO) := (q, .box [.ptr 3 0]) :: ckS u f it st
theorem ckS_set {u : Un} {f : Fl} {it : TypeId} {st : List Int} {i : Nat} {z : Int} : ∀ k, look ((4, some (.row ⟨it, 1⟩ ((st.map eInt).set i [vInt z]))) :: up (ckS u f it st)) k = look (up (ckS u f it (st.set i z))) k := by
  intro k
  simp only [ckS, up, List.map_cons, List.map_nil, look, List.length_map, List.length_set]
  by_cases h4 : 4 = k
  · subst h4
    simp [List.map_set, eInt, show Nat.beq 3 4 = false from rfl]
  by_cases h3 : 3 = k
  · subst h3; simp [show Nat.beq 4 3 = false from rfl]
  simp [beq_ne h3, beq_ne h4]
theorem ckS_lend {u : Un} {f : Fl} {it : TypeId} {st st' : List Int} (h : st'.length = st.length) : ∀ k ob, look (up (ckS u f it st')) k = some ob → plainO ob = true ∨ (k = 3 ∧ look (up (ckS u f it st)) k = some ob) := by
  intro k ob hk
  have hm := look_up_mem hk
  simp only [ckS, List.mem_cons, List.not_mem_nil, or_false, Prod.mk.injEq] at hm
  rcases hm with ⟨rfl, rfl⟩ | ⟨rfl, rfl⟩
  · exact .inr ⟨rfl, by simp [ckS, up, look, h]⟩
  refine .inl ?_
  simp [plainO, eInt, plainP]
theorem set3 {u : Un} {f : Fl} {st : List Int} {i : Nat} {z : Int} {x : Option HO} (h : x = some (.box (ckBox u f (st.map eInt).length))) : x = some (.box (ckBox u f ((st.set i z).map eInt).length)) := by
  rw [h, show ((st.set i z).map eInt).length = (st.map eInt).length by simp]
theorem set4 {it : TypeId} {st : List Int} {i : Nat} {z : Int} {x : Option HO} (h : x = some (.row ⟨it, 1⟩ ((st.map eInt).set i [vInt z]))) : x = some (.row ⟨it, 1⟩ ((st.set i z).map eInt)) := by
  rw [h, List.map_set]; rfl
set_option maxRecDepth 8000 in
set_option maxHeartbeats 2000000 in
theorem sc_isTy (t : Int) : SC Tryz.prog 56 [iInt t] [] (fun _ => False) (iBool (isTy t)) [] := by
  refine SC.of Tryz.func56 rfl (lb rfl) fun F ρ w => ?_
  refine Tr.seq <| Tr.region rfl <| cV rfl (oA rfl) <| WL.nil <| Tr.seq <| Tr.region rfl <| cV rfl (oM rfl) <| cV rfl (oB rfl rfl rfl) <| cV rfl (oM rfl) ?_
  refine WL.split (t := 5) rfl (fun hb5 => ?_) (fun hb5 => ?_)
  · refine nV rfl rfl <| nV rfl rfl <| cV rfl (oT rfl rfl) <| cV rfl (oA rfl) <| WL.nil <| Tr.ret ?_
    refine ret_ok rfl ?_ no_post
    simp_all [isTy]
  refine yV rfl rfl (oM rfl) <| yV rfl rfl (oB rfl rfl rfl) <| cV rfl (oF rfl rfl) <| cV rfl (oA rfl) <| WL.nil <| Tr.ret ?_
  refine ret_ok rfl ?_ no_post
  simp_all [isTy]
set_option maxRecDepth 8000 in
set_option maxHeartbeats 2000000 in
theorem sc_flow1 (t : Int) : SC Tryz.prog 59 [iInt t] [] (fun _ => False) (iBool (!isTy t)) [] := by
  refine SC.of Tryz.func59 rfl (lb rfl) fun F ρ w => ?_
  refine Tr.seq <| Tr.region rfl <| cV rfl (oA rfl) <| WL.nil <| Tr.seq <| Tr.region rfl <| cV rfl (oM rfl) <| WL.cons rfl rfl rfl (ok_callq (sc_isTy _) ent56 rfl rfl (Subs.refl _ _) rfl) <| cV rfl (oN rfl) <| cV rfl (oA rfl) <| WL.nil <| Tr.ret ?_
  refine ret_ok rfl ?_ no_post
  rfl
set_option maxRecDepth 8000 in
set_option maxHeartbeats 2000000 in
theorem sc_shEnds (x : Nd) : SC Tryz.prog 99 [.pv (ndv x)] [] (fun _ => False) (iBool (r8Ender x.kind)) [] := by
  refine SC.of Tryz.func99 rfl (lb rfl) fun F ρ w => ?_
  refine Tr.seq <| Tr.region rfl <| WL.cons rfl rfl rfl ((ok_box rfl rfl)) <| cV rfl (oA rfl) <| WL.nil <| Tr.seq <| Tr.region rfl <| cV rfl (oFe rfl tF42_0) <| cV rfl (oLe Tryz.underlying3 rfl rfl) <| cV rfl (oB rfl rfl rfl) <| cV rfl (oM rfl) ?_
  refine WL.split (t := 6) rfl (fun hb6 => ?_) (fun hb6 => ?_)
  · refine yV rfl rfl (oFe rfl tF42_0) <| yV rfl rfl (oLe Tryz.underlying3 rfl rfl) <| yV rfl rfl (oB rfl rfl rfl) <| cV rfl (oT rfl rfl) <| cV rfl (oA rfl) <| WL.nil <| Tr.ret ?_
    refine ret_ok rfl ?_ no_post
    unfold r8Ender
    simp_all <;> omega
  refine nV rfl rfl <| nV rfl rfl <| nV rfl rfl <| cV rfl (oF rfl rfl) <| cV rfl (oA rfl) <| WL.nil <| Tr.ret ?_
  refine ret_ok rfl ?_ no_post
  unfold r8Ender
  simp_all <;> omega
set_option maxRecDepth 8000 in
set_option maxHeartbeats 2000000 in
theorem sc_shYields (l : List Nd) : SC Tryz.prog 102 [.pv (nodes l)] [] (fun _ => False) (iBool (shYields l)) [] := by
  refine SC.of Tryz.func102 rfl (lb rfl) fun F ρ w => ?_
  refine Tr.lenOf (t := 0) rfl (fun hl => ?_)
  simp only [List.length_map] at hl
  refine Tr.seq <| Tr.region rfl <| cV rfl (oA rfl) <| WL.nil <| Tr.seq <| Tr.region rfl <| cV rfl (oM rfl) <| cV rfl (oSm Tryz.underlying43 rfl) <| cV rfl (oB rfl rfl rfl) <| cV rfl (oM rfl) ?_
  refine WL.split (t := 6) rfl (fun hb6 => ?_) (fun hb6 => ?_)
  · have hpos : 0 < l.length := by simp at hb6; omega
    have hlt : l.length - 1 < l.length := by omega
    have hi := nodes_get (List.getElem?_eq_getElem hlt)
    have hlast : l.getLast? = some l[l.length - 1] := by rw [List.getLast?_eq_getElem?]; exact List.getElem?_eq_getElem hlt
    generalize l[l.length - 1] = x at hi hlast
    have hsub : (l.length : Int) - 1 = ((l.length - 1 : Nat) : Int) := by omega
    refine yV rfl rfl (oM rfl) <| yV rfl rfl (oM rfl) <| yV rfl rfl (oSm Tryz.underlying43 rfl) <| yV rfl rfl (oB rfl rfl (i64_sub rfl (by omega))) <| WL.sub (Sub.of (fr' := [(10, iInt ((l.length - 1 : Nat) : Int)), (7, .pv (nodes l)), (6, iBool true)]) ⟨by rw [← hsub]; rfl, rfl, rfl, trivial⟩) <| yV rfl rfl (ok_index_seq rfl rfl rfl Tryz.underlying43 (by assumption) tS42 rfl (by rfl)) <| yV rfl rfl (oFe rfl tF42_0) <| yV rfl rfl (oLe Tryz.underlying3 rfl rfl) <| yV rfl rfl (oB rfl rfl rfl) <| cV rfl (oT rfl rfl) <| cV rfl (oA rfl) <| WL.nil ?_
    refine Tr.ret ?_
    refine ret_ok rfl ?_ no_post
    refine congrArg (fun b => iBool b) ?_
    simp [shYields, hlast]
  refine nV rfl rfl <| nV rfl rfl <| nV rfl rfl <| nV rfl rfl <| nV rfl rfl <| nV rfl rfl <| nV rfl rfl <| nV rfl rfl <| cV rfl (oF rfl rfl) <| cV rfl (oA rfl) <| WL.nil <| Tr.ret ?_
  refine ret_ok rfl ?_ no_post
  refine congrArg (fun b => iBool b) ?_
  (have h0 : l = [] := by cases l <;> simp_all <;> omega
   subst h0; rfl)
set_option maxRecDepth 8000 in
set_option maxHeartbeats 2000000 in
theorem sc_shOperand (op : Int) : SC Tryz.prog 122 [iInt op] [] (fun _ => False) (.tup [iInt (shOperand op).1, iInt (shOperand op).2]) [] := by
  refine SC.of Tryz.func122 rfl (lb rfl) fun F ρ w => ?_
  refine Tr.seq <| Tr.region rfl <| cV rfl (oA rfl) <| cV rfl (oA rfl) <| WL.nil <| Tr.seq <| Tr.seq <| Tr.region rfl <| cV rfl (oM rfl) <| WL.nil <| Tr.block <| Tr.seq ?_
  refine Tr.region rfl <| cV rfl (oB rfl rfl rfl) <| cV rfl (oA rfl) <| WL.nil ?_
  refine Tr.cond rfl (fun hc5 => ?_) (fun hc5 => ?_)
  · refine Tr.seq <| Tr.region rfl <| cV rfl (oA rfl) <| cV rfl (oA rfl) <| WL.nil <| Tr.ret ?_
    refine ret_ok rfl ?_ no_post
    first | (simp_all [shOperand]; done) | (simp_all [shOperand]; split <;> first | omega | (simp; done))
  refine Tr.seq <| Tr.seq <| Tr.region rfl <| cV rfl (oB rfl rfl rfl) <| cV rfl (oA rfl) <| WL.nil ?_
  refine Tr.cond rfl (fun hc7 => ?_) (fun hc7 => ?_)
  · refine Tr.skip ?_
    refine Tr.cond rfl (fun hc7 => ?_) (fun hc7 => ?_)
    · refine Tr.seq <| Tr.region rfl <| cV rfl (oA rfl) <| cV rfl (oA rfl) <| WL.nil <| Tr.ret ?_
      refine ret_ok rfl ?_ no_post
      first | (simp_all [shOperand]; done) | (simp_all [shOperand]; split <;> first | omega | (simp; done))
    refine Tr.seq <| Tr.seq <| Tr.region rfl <| cV rfl (oB rfl rfl rfl) <| cV rfl (oA rfl) <| WL.nil ?_
    refine Tr.cond rfl (fun hc10 => ?_) (fun hc10 => ?_)
    · refine Tr.skip ?_
      refine Tr.cond rfl (fun hc10 => ?_) (fun hc10 => ?_)
      · refine Tr.seq <| Tr.region rfl <| cV rfl (oA rfl) <| cV rfl (oA rfl) <| WL.nil <| Tr.ret ?_
        refine ret_ok rfl ?_ no_post
        first | (simp_all [shOperand]; done) | (simp_all [shOperand]; split <;> first | omega | (simp; done))
      refine Tr.skip <| Tr.seq <| Tr.region rfl <| cV rfl (oA rfl) <| cV rfl (oA rfl) <| WL.nil <| Tr.ret ?_
      refine ret_ok rfl ?_ no_post
      first | (simp_all [shOperand]; done) | (simp_all [shOperand]; split <;> first | omega | (simp; done))
    refine Tr.seq <| Tr.region rfl <| cV rfl (oB rfl rfl rfl) <| cV rfl (oA rfl) <| WL.nil ?_
    refine Tr.cond rfl (fun hc10 => ?_) (fun hc10 => ?_)
    · refine Tr.skip ?_
      refine Tr.cond rfl (fun hc10 => ?_) (fun hc10 => ?_)
      · refine Tr.seq <| Tr.region rfl <| cV rfl (oA rfl) <| cV rfl (oA rfl) <| WL.nil <| Tr.ret ?_
        refine ret_ok rfl ?_ no_post
        first | (simp_all [shOperand]; done) | (simp_all [shOperand]; split <;> first | omega | (simp; done))
      refine Tr.skip <| Tr.seq <| Tr.region rfl <| cV rfl (oA rfl) <| cV rfl (oA rfl) <| WL.nil <| Tr.ret ?_
      refine ret_ok rfl ?_ no_post
      first | (simp_all [shOperand]; done) | (simp_all [shOperand]; split <;> first | omega | (simp; done))
    refine Tr.seq <| Tr.region rfl <| cV rfl (oB rfl rfl rfl) <| cV rfl (oA rfl) <| WL.nil ?_
    refine Tr.cond rfl (fun hc10 => ?_) (fun hc10 => ?_)
    · refine Tr.skip ?_
      refine Tr.cond rfl (fun hc10 => ?_) (fun hc10 => ?_)
      · refine Tr.seq <| Tr.region rfl <| cV rfl (oA rfl) <| cV rfl (oA rfl) <| WL.nil <| Tr.ret ?_
        refine ret_ok rfl ?_ no_post
        first | (simp_all [shOperand]; done) | (simp_all [shOperand]; split <;> first | omega | (simp; done))
      refine Tr.skip <| Tr.seq <| Tr.region rfl <| cV rfl (oA rfl) <| cV rfl (oA rfl) <| WL.nil <| Tr.ret ?_
      refine ret_ok rfl ?_ no_post
      first | (simp_all [shOperand]; done) | (simp_all [shOperand]; split <;> first | omega | (simp; done))
    refine Tr.region rfl <| cV rfl (oB rfl rfl rfl) <| cV rfl (oA rfl) <| WL.nil ?_
    refine Tr.cond rfl (fun hc10 => ?_) (fun hc10 => ?_)
    · refine Tr.seq <| Tr.region rfl <| cV rfl (oA rfl) <| cV rfl (oA rfl) <| WL.nil <| Tr.ret ?_
      refine ret_ok rfl ?_ no_post
      first | (simp_all [shOperand]; done) | (simp_all [shOperand]; split <;> first | omega | (simp; done))
    refine Tr.skip <| Tr.seq <| Tr.region rfl <| cV rfl (oA rfl) <| cV rfl (oA rfl) <| WL.nil <| Tr.ret ?_
    refine ret_ok rfl ?_ no_post
    first | (simp_all [shOperand]; done) | (simp_all [shOperand]; split <;> first | omega | (simp; done))
  refine Tr.region rfl <| cV rfl (oB rfl rfl rfl) <| cV rfl (oA rfl) <| WL.nil ?_
  refine Tr.cond rfl (fun hc7 => ?_) (fun hc7 => ?_)
  · refine Tr.seq <| Tr.region rfl <| cV rfl (oA rfl) <| cV rfl (oA rfl) <| WL.nil <| Tr.ret ?_
    refine ret_ok rfl ?_ no_post
    first | (simp_all [shOperand]; done) | (simp_all [shOperand]; split <;> first | omega | (simp; done))
  refine Tr.seq <| Tr.seq <| Tr.region rfl <| cV rfl (oB rfl rfl rfl) <| cV rfl (oA rfl) <| WL.nil ?_
  refine Tr.cond rfl (fun hc10 => ?_) (fun hc10 => ?_)
  · refine Tr.skip ?_
    refine Tr.cond rfl (fun hc10 => ?_) (fun hc10 => ?_)
    · refine Tr.seq <| Tr.region rfl <| cV rfl (oA rfl) <| cV rfl (oA rfl) <| WL.nil <| Tr.ret ?_
      refine ret_ok rfl ?_ no_post
      first | (simp_all [shOperand]; done) | (simp_all [shOperand]; split <;> first | omega | (simp; done))
    refine Tr.skip <| Tr.seq <| Tr.region rfl <| cV rfl (oA rfl) <| cV rfl (oA rfl) <| WL.nil <| Tr.ret ?_
    refine ret_ok rfl ?_ no_post
    first | (simp_all [shOperand]; done) | (simp_all [shOperand]; split <;> first | omega | (simp; done))
  refine Tr.seq <| Tr.region rfl <| cV rfl (oB rfl rfl rfl) <| cV rfl (oA rfl) <| WL.nil ?_
  refine Tr.cond rfl (fun hc10 => ?_) (fun hc10 => ?_)
  · refine Tr.skip ?_
    refine Tr.cond rfl (fun hc10 => ?_) (fun hc10 => ?_)
    · refine Tr.seq <| Tr.region rfl <| cV rfl (oA rfl) <| cV rfl (oA rfl) <| WL.nil <| Tr.ret ?_
      refine ret_ok rfl ?_ no_post
      first | (simp_all [shOperand]; done) | (simp_all [shOperand]; split <;> first | omega | (simp; done))
    refine Tr.skip <| Tr.seq <| Tr.region rfl <| cV rfl (oA rfl) <| cV rfl (oA rfl) <| WL.nil <| Tr.ret ?_
    refine ret_ok rfl ?_ no_post
    first | (simp_all [shOperand]; done) | (simp_all [shOperand]; split <;> first | omega | (simp; done))
  refine Tr.seq <| Tr.region rfl <| cV rfl (oB rfl rfl rfl) <| cV rfl (oA rfl) <| WL.nil ?_
  refine Tr.cond rfl (fun hc10 => ?_) (fun hc10 => ?_)
  · refine Tr.skip ?_
    refine Tr.cond rfl (fun hc10 => ?_) (fun hc10 => ?_)
    · refine Tr.seq <| Tr.region rfl <| cV rfl (oA rfl) <| cV rfl (oA rfl) <| WL.nil <| Tr.ret ?_
      refine ret_ok rfl ?_ no_post
      first | (simp_all [shOperand]; done) | (simp_all [shOperand]; split <;> first | omega | (simp; done))
    refine Tr.skip <| Tr.seq <| Tr.region rfl <| cV rfl (oA rfl) <| cV rfl (oA rfl) <| WL.nil <| Tr.ret ?_
    refine ret_ok rfl ?_ no_post
    first | (simp_all [shOperand]; done) | (simp_all [shOperand]; split <;> first | omega | (simp; done))
  refine Tr.region rfl <| cV rfl (oB rfl rfl rfl) <| cV rfl (oA rfl) <| WL.nil ?_
  refine Tr.cond rfl (fun hc10 => ?_) (fun hc10 => ?_)
  · refine Tr.seq <| Tr.region rfl <| cV rfl (oA rfl) <| cV rfl (oA rfl) <| WL.nil <| Tr.ret ?_
    refine ret_ok rfl ?_ no_post
    first | (simp_all [shOperand]; done) | (simp_all [shOperand]; split <;> first | omega | (simp; done))
  refine Tr.skip <| Tr.seq <| Tr.region rfl <| cV rfl (oA rfl) <| cV rfl (oA rfl) <| WL.nil <| Tr.ret ?_
  refine ret_ok rfl ?_ no_post
  first | (simp_all [shOperand]; done) | (simp_all [shOperand]; split <;> first | omega | (simp; done))
set_option maxRecDepth 8000 in
set_option maxHeartbeats 2000000 in
theorem sc_shLeaves1 (x : Nd) (ih : ∀ q ∈ x.kids, SC Tryz.prog 103 [.pv (nodes q)] [] (fun _ => False) (iBool (r8Leaves q)) []) : SC Tryz.prog 116 [.pv (ndv x)] [] (fun _ => False) (iBool (r8LeavesN x)) [] := by
  refine SC.of Tryz.func116 rfl (lb rfl) fun F ρ w => ?_
  refine Tr.seq <| Tr.region rfl <| WL.cons rfl rfl rfl ((ok_box rfl rfl)) <| cV rfl (oA rfl) <| WL.nil <| Tr.seq <| Tr.region rfl <| cV rfl (oFe rfl tF42_0) <| cV rfl (oLe Tryz.underlying3 rfl rfl) <| cV rfl (oB rfl rfl rfl) <| cV rfl (oM rfl) ?_
  refine WL.split (t := 6) rfl (fun hb6 => ?_) (fun hb6 => ?_)
  · refine nV rfl rfl <| nV rfl rfl <| nV rfl rfl <| nV rfl rfl <| WL.noU rfl rfl rfl rfl rfl rfl <| WL.noU rfl rfl rfl rfl rfl rfl <| WL.noU rfl rfl rfl rfl rfl rfl <| nV rfl rfl <| cV rfl (oT rfl rfl) <| cV rfl (oA rfl) <| WL.nil <| Tr.ret ?_
    refine ret_ok rfl ?_ no_post
    rw [r8LeavesN_eq, r8LeavesK_any]
    simp_all
  refine yV rfl rfl (oFe rfl tF42_0) <| yV rfl rfl (oLe Tryz.underlying3 rfl rfl) <| yV rfl rfl (oB rfl rfl rfl) <| yV rfl rfl (oM rfl) ?_
  refine WL.split (t := 10) rfl (fun hb10 => ?_) (fun hb10 => ?_)
  · refine yV rfl rfl (oFe rfl tF42_7) <| yV rfl rfl (oLe Tryz.underlying40 rfl rfl) <| WL.yes rfl rfl rfl rfl rfl rfl (ok_callq (sc_has_kid 103 [] [] rfl ent103 r8Leaves x.kids (fun q hq => (ih q hq).anyR)) ent117 rfl rfl (Subs.same rfl (Subs.cons (fun _ _ _ _ h => sub_func h) Subs.nil)) rfl) <| yV rfl rfl (oT rfl rfl) <| cV rfl (oF rfl rfl) <| cV rfl (oA rfl) <| WL.nil <| Tr.ret ?_
    refine ret_ok rfl ?_ no_post
    rw [r8LeavesN_eq, r8LeavesK_any]
    simp_all
  refine nV rfl rfl <| nV rfl rfl <| nV rfl rfl <| yV rfl rfl (oF rfl rfl) <| cV rfl (oF rfl rfl) <| cV rfl (oA rfl) <| WL.nil <| Tr.ret ?_
  refine ret_ok rfl ?_ no_post
  rw [r8LeavesN_eq, r8LeavesK_any]
  simp_all
set_option maxRecDepth 8000 in
set_option maxHeartbeats 2000000 in
theorem sc_shLeaves_aux (N : Nat) : ∀ (l : List Nd), SizeOf.sizeOf l < N → SC Tryz.prog 103 [.pv (nodes l)] [] (fun _ => False) (iBool (r8Leaves l)) [] := by
  induction N with
  | zero => intro l hN; exact absurd hN (Nat.not_lt_zero _)
  | succ N ih =>
    intro l hN
    refine SC.of Tryz.func103 rfl (lb rfl) fun F ρ w => ?_
    refine Tr.seq <| Tr.region rfl <| cV rfl (oA rfl) <| WL.nil <| Tr.seq <| Tr.region rfl <| cV rfl (oM rfl) <| WL.cons rfl rfl rfl (ok_callq (sc_has_node 116 [] [] rfl ent116 r8LeavesN l (fun x hm => (sc_shLeaves1 x (fun q hq => ih q (Nat.lt_of_lt_of_le (kid_lt hm rfl hq) (Nat.le_of_lt_succ hN)))).anyR)) ent115 rfl rfl (Subs.same rfl (Subs.cons (fun _ _ _ _ h => sub_func h) Subs.nil)) rfl) <| cV rfl (oA rfl) <| WL.nil <| Tr.ret ?_
    refine ret_ok rfl ?_ no_post
    rw [r8Leaves_any]
theorem sc_shLeaves (l : List Nd) : SC Tryz.prog 103 [.pv (nodes l)] [] (fun _ => False) (iBool (r8Leaves l)) [] := sc_shLeaves_aux _ l (Nat.lt_succ_self _)
set_option maxRecDepth 8000 in
set_option maxHeartbeats 2000000 in
theorem sc_shClosed (x : Nd) : SC Tryz.prog 84 [.pv (ndv x)] [] (fun _ => False) (iBool (r8Closed x)) [] := by
  refine SC.of Tryz.func84 rfl (lb rfl) fun F ρ w => ?_
  refine Tr.seq <| Tr.region rfl <| WL.cons rfl rfl rfl ((ok_box rfl rfl)) <| cV rfl (oA rfl) <| WL.nil <| Tr.seq <| Tr.block <| Tr.seq <| Tr.region rfl <| cV rfl (oFe rfl tF42_0) <| cV rfl (oLe Tryz.underlying3 rfl rfl) <| cV rfl (oB rfl rfl rfl) ?_
  refine cV rfl (oM rfl) ?_
  refine WL.split (t := 7) rfl (fun hb7 => ?_) (fun hb7 => ?_)
  · refine yV rfl rfl (oFe rfl tF42_7) <| yV rfl rfl (oLe Tryz.underlying40 rfl rfl) <| yV rfl rfl (oSm Tryz.underlying40 rfl) <| yV rfl rfl (oB rfl rfl rfl) <| cV rfl (oT rfl rfl) <| cV rfl (oA rfl) <| WL.nil ?_
    refine Tr.cond rfl (fun hc3 => ?_) (fun hc3 => ?_)
    · have hl : x.kids.length = 2 := by first | (simp_all; done) | (simp_all; omega)
      have h10 : x.kind = 10 := by simp_all
      have hi0 : (x.kids.map eKid)[0]? = some [nodes (kid0 x.kids)] := by rw [List.getElem?_map]; simp [kid0, eKid, hl]
      have hi1 : (x.kids.map eKid)[1]? = some [nodes (kid1 x.kids)] := by rw [List.getElem?_map]; simp [kid1, eKid, hl]
      refine Tr.seq <| Tr.region rfl <| cV rfl (oFe rfl tF42_7) <| cV rfl (oLe Tryz.underlying40 rfl rfl) <| cV rfl (ok_index_seq rfl rfl rfl Tryz.underlying40 hi0 tS43 rfl (by rfl)) <| cV rfl (oLe Tryz.underlying43 rfl rfl) <| WL.cons rfl rfl rfl (ok_callq (sc_shYields _) ent102 rfl rfl (Subs.refl _ _) rfl) <| cV rfl (oN rfl) <| cV rfl (oM rfl) ?_
      refine WL.split (t := 19) rfl (fun hb19 => ?_) (fun hb19 => ?_)
      · refine yV rfl rfl (oFe rfl tF42_7) <| yV rfl rfl (oLe Tryz.underlying40 rfl rfl) <| yV rfl rfl (ok_index_seq rfl rfl rfl Tryz.underlying40 hi1 tS43 rfl (by rfl)) <| yV rfl rfl (oLe Tryz.underlying43 rfl rfl) <| WL.yes rfl rfl rfl rfl rfl rfl (ok_callq (sc_shYields _) ent102 rfl rfl (Subs.refl _ _) rfl) <| yV rfl rfl (oN rfl) <| cV rfl (oT rfl rfl) <| cV rfl (oA rfl) <| WL.nil <| Tr.ret ?_
        refine ret_ok rfl ?_ no_post
        simp_all [r8Closed, shYields_eq]
      refine nV rfl rfl <| nV rfl rfl <| nV rfl rfl <| nV rfl rfl <| nV rfl rfl <| nV rfl rfl <| cV rfl (oF rfl rfl) <| cV rfl (oA rfl) <| WL.nil <| Tr.ret ?_
      refine ret_ok rfl ?_ no_post
      simp_all [r8Closed, shYields_eq]
    refine Tr.seq <| Tr.region rfl <| cV rfl (oFe rfl tF42_0) <| cV rfl (oLe Tryz.underlying3 rfl rfl) <| cV rfl (oB rfl rfl rfl) <| cV rfl (oM rfl) ?_
    refine WL.split (t := 31) rfl (fun hb31 => ?_) (fun hb31 => ?_)
    · refine yV rfl rfl (oFe rfl tF42_7) <| yV rfl rfl (oLe Tryz.underlying40 rfl rfl) <| yV rfl rfl (oSm Tryz.underlying40 rfl) <| yV rfl rfl (oB rfl rfl rfl) <| cV rfl (oT rfl rfl) <| cV rfl (oA rfl) <| WL.nil ?_
      refine Tr.cond rfl (fun hc27 => ?_) (fun hc27 => ?_)
      · have hl : x.kids.length = 1 := by first | (simp_all; done) | (simp_all; omega)
        have h11 : x.kind = 11 := by simp_all
        have hi0 : (x.kids.map eKid)[0]? = some [nodes (kid0 x.kids)] := by rw [List.getElem?_map]; simp [kid0, eKid, hl]
        refine Tr.seq <| Tr.region rfl <| cV rfl (oFe rfl tF42_7) <| cV rfl (oLe Tryz.underlying40 rfl rfl) <| cV rfl (ok_index_seq rfl rfl rfl Tryz.underlying40 hi0 tS43 rfl (by rfl)) <| cV rfl (oLe Tryz.underlying43 rfl rfl) <| WL.cons rfl rfl rfl (ok_callq (sc_shLeaves _) ent103 rfl rfl (Subs.refl _ _) rfl) <| cV rfl (oN rfl) <| cV rfl (oA rfl) <| WL.nil <| Tr.ret ?_
        refine ret_ok rfl ?_ no_post
        simp_all [r8Closed, shYields_eq]
      refine Tr.skip <| Tr.seq <| Tr.region rfl <| cV rfl (ok_load_ept_agg rfl rfl Tryz.underlying42 rfl tS42 (Nat.le_of_ble_eq_true rfl)) <| WL.cons rfl rfl rfl (ok_callq (sc_shEnds x) ent99 rfl rfl (Subs.refl _ _) rfl) <| cV rfl (oA rfl) <| WL.nil <| Tr.ret ?_
      refine ret_ok rfl ?_ no_post
      simp_all [r8Closed, shYields_eq]
    refine nV rfl rfl <| nV rfl rfl <| nV rfl rfl <| nV rfl rfl <| cV rfl (oF rfl rfl) <| cV rfl (oA rfl) <| WL.nil <| Tr.condF rfl <| Tr.skip <| Tr.seq <| Tr.region rfl <| cV rfl (ok_load_ept_agg rfl rfl Tryz.underlying42 rfl tS42 (Nat.le_of_ble_eq_true rfl)) ?_
    refine WL.cons rfl rfl rfl (ok_callq (sc_shEnds x) ent99 rfl rfl (Subs.refl _ _) rfl) <| cV rfl (oA rfl) <| WL.nil <| Tr.ret ?_
    refine ret_ok rfl ?_ no_post
    simp_all [r8Closed, shYields_eq]
  refine nV rfl rfl <| nV rfl rfl <| nV rfl rfl <| nV rfl rfl <| cV rfl (oF rfl rfl) <| cV rfl (oA rfl) <| WL.nil <| Tr.condF rfl <| Tr.seq <| Tr.region rfl <| cV rfl (oFe rfl tF42_0) <| cV rfl (oLe Tryz.underlying3 rfl rfl) ?_
  refine cV rfl (oB rfl rfl rfl) <| cV rfl (oM rfl) ?_
  refine WL.split (t := 31) rfl (fun hb31 => ?_) (fun hb31 => ?_)
  · refine yV rfl rfl (oFe rfl tF42_7) <| yV rfl rfl (oLe Tryz.underlying40 rfl rfl) <| yV rfl rfl (oSm Tryz.underlying40 rfl) <| yV rfl rfl (oB rfl rfl rfl) <| cV rfl (oT rfl rfl) <| cV rfl (oA rfl) <| WL.nil ?_
    refine Tr.cond rfl (fun hc27 => ?_) (fun hc27 => ?_)
    · have hl : x.kids.length = 1 := by first | (simp_all; done) | (simp_all; omega)
      have h11 : x.kind = 11 := by simp_all
      have hi0 : (x.kids.map eKid)[0]? = some [nodes (kid0 x.kids)] := by rw [List.getElem?_map]; simp [kid0, eKid, hl]
      refine Tr.seq <| Tr.region rfl <| cV rfl (oFe rfl tF42_7) <| cV rfl (oLe Tryz.underlying40 rfl rfl) <| cV rfl (ok_index_seq rfl rfl rfl Tryz.underlying40 hi0 tS43 rfl (by rfl)) <| cV rfl (oLe Tryz.underlying43 rfl rfl) <| WL.cons rfl rfl rfl (ok_callq (sc_shLeaves _) ent103 rfl rfl (Subs.refl _ _) rfl) <| cV rfl (oN rfl) <| cV rfl (oA rfl) <| WL.nil <| Tr.ret ?_
      refine ret_ok rfl ?_ no_post
      simp_all [r8Closed, shYields_eq]
    refine Tr.skip <| Tr.seq <| Tr.region rfl <| cV rfl (ok_load_ept_agg rfl rfl Tryz.underlying42 rfl tS42 (Nat.le_of_ble_eq_true rfl)) <| WL.cons rfl rfl rfl (ok_callq (sc_shEnds x) ent99 rfl rfl (Subs.refl _ _) rfl) <| cV rfl (oA rfl) <| WL.nil <| Tr.ret ?_
    refine ret_ok rfl ?_ no_post
    simp_all [r8Closed, shYields_eq]
  refine nV rfl rfl <| nV rfl rfl <| nV rfl rfl <| nV rfl rfl <| cV rfl (oF rfl rfl) <| cV rfl (oA rfl) <| WL.nil <| Tr.condF rfl <| Tr.skip <| Tr.seq <| Tr.region rfl <| cV rfl (ok_load_ept_agg rfl rfl Tryz.underlying42 rfl tS42 (Nat.le_of_ble_eq_true rfl)) ?_
  refine WL.cons rfl rfl rfl (ok_callq (sc_shEnds x) ent99 rfl rfl (Subs.refl _ _) rfl) <| cV rfl (oA rfl) <| WL.nil <| Tr.ret ?_
  refine ret_ok rfl ?_ no_post
  simp_all [r8Closed, shYields_eq]
set_option maxRecDepth 8000 in
set_option maxHeartbeats 2000000 in
theorem sc_shPlace1 (x : Fl) (s : ByteArray) : SC Tryz.prog 81 [.pv (.agg x.enc), .pv (.ept [vStr s] 0)] [] (fun _ => False) (iBool (x.name.toList == s.toList)) [] := by
  refine SC.of Tryz.func81 rfl (lb rfl) fun F ρ w => ?_
  refine Tr.seq <| Tr.region rfl <| WL.cons rfl rfl rfl ((ok_box rfl rfl)) <| cV rfl (oA rfl) <| WL.nil <| Tr.seq <| Tr.region rfl <| cV rfl (oFe rfl tF51_0) <| cV rfl (oLe Tryz.underlying9 rfl rfl) <| cV rfl (oLe Tryz.underlying9 rfl rfl) <| cV rfl (ok_bin_str rfl rfl rfl rfl) <| cV rfl (oA rfl) ?_
  refine WL.nil <| Tr.ret ?_
  refine ret_ok rfl ?_ no_post
  rfl
set_option maxRecDepth 8000 in
set_option maxHeartbeats 2000000 in
theorem sc_shPlace (u : Un) (s : ByteArray) : SC Tryz.prog 57 [.pv u.enc, iStr s] [] (fun _ => False) (iInt (r8Place s u.flows 0)) [] := by
  refine SC.of Tryz.func57 rfl (lb rfl) fun F ρ w => ?_
  refine Tr.seq <| Tr.region rfl <| WL.cons rfl rfl rfl ((ok_box rfl rfl)) <| WL.cons rfl rfl rfl ((ok_box1 rfl rfl rfl)) <| cV rfl (oA rfl) <| WL.nil <| Tr.seq <| Tr.region rfl <| cV rfl (oFe rfl tF25_1) <| cV rfl (oLe Tryz.underlying23 rfl rfl) <| cV rfl (ok_makeFunc rfl rfl rfl) <| WL.cons rfl rfl rfl (ok_callq (sc_idx_flow 81 [.pv (.ept [vStr s] 0)] [] rfl ent81 (fun f : Fl => f.name.toList == s.toList) u.flows (fun x hm => (sc_shPlace1 x s).anyR)) ent80 rfl rfl (Subs.refl _ _) rfl) ?_
  refine cV rfl (oA rfl) <| WL.nil <| Tr.ret ?_
  refine ret_ok rfl ?_ no_post
  rw [idxP_place]
set_option maxRecDepth 8000 in
set_option maxHeartbeats 2000000 in
theorem sc_shHas1 (x : Ar) (s : ByteArray) : SC Tryz.prog 125 [.pv (.agg x.enc), .pv (.ept [vStr s] 0)] [] (fun _ => False) (iBool (x.name.toList == s.toList)) [] := by
  refine SC.of Tryz.func125 rfl (lb rfl) fun F ρ w => ?_
  refine Tr.seq <| Tr.region rfl <| WL.cons rfl rfl rfl ((ok_box rfl rfl)) <| cV rfl (oA rfl) <| WL.nil <| Tr.seq <| Tr.region rfl <| cV rfl (oFe rfl tF49_0) <| cV rfl (oLe Tryz.underlying9 rfl rfl) <| cV rfl (oLe Tryz.underlying9 rfl rfl) <| cV rfl (ok_bin_str rfl rfl rfl rfl) <| cV rfl (oA rfl) ?_
  refine WL.nil <| Tr.ret ?_
  refine ret_ok rfl ?_ no_post
  rfl
set_option maxRecDepth 8000 in
set_option maxHeartbeats 2000000 in
theorem sc_shHas (u : Un) (s : ByteArray) : SC Tryz.prog 114 [.pv u.enc, iStr s] [] (fun _ => False) (iBool (decide (r8Array s u.arrays 0 ≥ 0))) [] := by
  refine SC.of Tryz.func114 rfl (lb rfl) fun F ρ w => ?_
  refine Tr.seq <| Tr.region rfl <| WL.cons rfl rfl rfl ((ok_box rfl rfl)) <| WL.cons rfl rfl rfl ((ok_box1 rfl rfl rfl)) <| cV rfl (oA rfl) <| WL.nil <| Tr.seq <| Tr.region rfl <| cV rfl (oFe rfl tF25_0) <| cV rfl (oLe Tryz.underlying22 rfl rfl) <| cV rfl (ok_makeFunc rfl rfl rfl) <| WL.cons rfl rfl rfl (ok_callq (sc_has_arr 125 [.pv (.ept [vStr s] 0)] [] rfl ent125 (fun f : Ar => f.name.toList == s.toList) u.arrays (fun x hm => (sc_shHas1 x s).anyR)) ent124 rfl rfl (Subs.refl _ _) rfl) ?_
  refine cV rfl (oA rfl) <| WL.nil <| Tr.ret ?_
  refine ret_ok rfl ?_ no_post
  rw [r8Array_any _ _ _ (Int.le_refl 0)]
set_option maxRecDepth 8000 in
set_option maxHeartbeats 2000000 in
theorem sc_shVal (u : Un) (f : Fl) (st : List Int) (v t : Int) : SC Tryz.prog 118 [.ptr 3 0, iInt v, iInt t] (ckS u f 3 st) (fun _ => True) (iBool (shVal f.types v t)) (ckS u f 3 st) := by
  refine SC.of Tryz.func118 rfl (lb rfl) fun F ρ w => ?_
  refine Tr.seq <| Tr.region rfl <| cV rfl (oA rfl) <| WL.nil <| Tr.seq <| Tr.region rfl <| cV rfl (oM rfl) <| cV rfl (oB rfl rfl rfl) <| cV rfl (oM rfl) ?_
  refine WL.split (t := 9) rfl (fun hb9 => ?_) (fun hb9 => ?_)
  · refine yV rfl rfl (oM rfl) <| yV rfl rfl (oM rfl) <| yV rfl rfl (ok_nilCheck rfl rfl rfl) <| yV rfl rfl (oFp rfl rfl tF97_1) <| yV rfl rfl (oFp rfl rfl tF51_3) <| yV rfl rfl (oLb Tryz.underlying35 rfl rfl rfl trivial) <| yV rfl rfl (oSm Tryz.underlying35 rfl) <| yV rfl rfl (oB rfl rfl rfl) <| cV rfl (oT rfl rfl) <| cV rfl (oM rfl) ?_
    refine WL.split (t := 19) rfl (fun hb19 => ?_) (fun hb19 => ?_)
    · refine yV rfl rfl (oM rfl) <| yV rfl rfl (oB rfl rfl rfl) <| yV rfl rfl (oM rfl) ?_
      refine WL.split (t := 22) rfl (fun hb22 => ?_) (fun hb22 => ?_)
      · refine nV rfl rfl <| nV rfl rfl <| nV rfl rfl <| nV rfl rfl <| nV rfl rfl <| nV rfl rfl <| nV rfl rfl <| nV rfl rfl <| nV rfl rfl <| nV rfl rfl <| yV rfl rfl (oT rfl rfl) <| cV rfl (oT rfl rfl) ?_
        refine cV rfl (oA rfl) <| WL.nil <| Tr.ret ?_
        refine ret_ok rfl ?_ (fun _ _ h => h)
        refine congrArg (fun b => iBool b) ?_
        try clear hvx
        simp_all [shVal]
      have hv0 : v.toNat < f.types.length := by simp at hb9 hb19; omega
      have hvx : v = ((v.toNat : Nat) : Int) := by simp at hb9; omega
      have hty : (f.types.map eInt)[v.toNat]? = some [vInt (f.types.getD v.toNat 0)] := by rw [List.getElem?_map]; simp [eInt, List.getD, hv0]
      refine yV rfl rfl (oM rfl) <| yV rfl rfl (ok_nilCheck rfl rfl rfl) <| yV rfl rfl (oFp rfl rfl tF97_1) <| yV rfl rfl (oFp rfl rfl tF51_3) <| yV rfl rfl (oLb Tryz.underlying35 rfl rfl rfl trivial) <| yV rfl rfl (oM rfl) <| yV rfl rfl (ok_index_seq rfl rfl rfl Tryz.underlying35 hty tS3 rfl (by omega)) <| yV rfl rfl (oLe Tryz.underlying3 rfl rfl) <| yV rfl rfl (oM rfl) <| yV rfl rfl (oB rfl rfl rfl) <| yV rfl rfl (oF rfl rfl) <| cV rfl (oT rfl rfl) ?_
      refine cV rfl (oA rfl) <| WL.nil <| Tr.ret ?_
      refine ret_ok rfl ?_ (fun _ _ h => h)
      refine congrArg (fun b => iBool b) ?_
      try clear hvx
      simp_all [shVal]
    refine nV rfl rfl <| nV rfl rfl <| nV rfl rfl <| WL.noU rfl rfl rfl rfl rfl rfl <| WL.noU rfl rfl rfl rfl rfl rfl <| WL.noU rfl rfl rfl rfl rfl rfl <| WL.noU rfl rfl rfl rfl rfl rfl <| WL.noU rfl rfl rfl rfl rfl rfl <| WL.noU rfl rfl rfl rfl rfl rfl <| WL.noU rfl rfl rfl rfl rfl rfl <| WL.noU rfl rfl rfl rfl rfl rfl <| WL.noU rfl rfl rfl rfl rfl rfl ?_
    refine WL.noU rfl rfl rfl rfl rfl rfl <| nV rfl rfl <| cV rfl (oF rfl rfl) <| cV rfl (oA rfl) <| WL.nil <| Tr.ret ?_
    refine ret_ok rfl ?_ (fun _ _ h => h)
    refine congrArg (fun b => iBool b) ?_
    try clear hvx
    (simp_all [shVal] <;> omega)
  refine nV rfl rfl <| nV rfl rfl <| nV rfl rfl <| nV rfl rfl <| nV rfl rfl <| nV rfl rfl <| nV rfl rfl <| nV rfl rfl <| cV rfl (oF rfl rfl) <| cV rfl (oM rfl) <| nV rfl rfl <| nV rfl rfl ?_
  refine nV rfl rfl <| WL.noU rfl rfl rfl rfl rfl rfl <| WL.noU rfl rfl rfl rfl rfl rfl <| WL.noU rfl rfl rfl rfl rfl rfl <| WL.noU rfl rfl rfl rfl rfl rfl <| WL.noU rfl rfl rfl rfl rfl rfl <| WL.noU rfl rfl rfl rfl rfl rfl <| WL.noU rfl rfl rfl rfl rfl rfl <| WL.noU rfl rfl rfl rfl rfl rfl <| WL.noU rfl rfl rfl rfl rfl rfl <| WL.noU rfl rfl rfl rfl rfl rfl <| nV rfl rfl ?_
  refine cV rfl (oF rfl rfl) <| cV rfl (oA rfl) <| WL.nil <| Tr.ret ?_
  refine ret_ok rfl ?_ (fun _ _ h => h)
  refine congrArg (fun b => iBool b) ?_
  try clear hvx
  (simp_all [shVal] <;> omega)
set_option maxRecDepth 8000 in
set_option maxHeartbeats 2000000 in
theorem sc_shUse1 (u : Un) (f : Fl) (st : List Int) (hs : st.length = f.types.length) (v t : Int) : SC Tryz.prog 120 [iInt v, iInt t, .ptr 5 0] (ckSp u f 3 5 st) (fun _ => True) (iBool (shUse f.types st v t).1) (ckSp u f 3 5 st) := by
  refine SC.of Tryz.func120 rfl (lb rfl) fun F ρ w => ?_
  refine Tr.seq <| Tr.region rfl <| cV rfl (oA rfl) <| WL.nil <| Tr.seq <| Tr.region rfl <| cV rfl (oLb Tryz.underlying95 rfl rfl rfl trivial) <| cV rfl (oM rfl) <| cV rfl (oM rfl) <| WL.cons rfl rfl rfl (ok_callr (sc_shVal u f st v t) ent118 rfl rfl (Subs.refl _ _) (po2 rfl rfl) (by rfl) (fun k (h : _) => .inr trivial) rfl (by rfl)) <| cV rfl (oM rfl) ?_
  refine WL.split (t := 10) rfl (fun hb10 => ?_) (fun hb10 => ?_)
  · have hrg : 0 ≤ v ∧ v < f.types.length := by
      have hvv : shVal f.types v t = true := by simpa using hb10
      simp only [shVal, Bool.and_eq_true, decide_eq_true_eq] at hvv
      exact ⟨hvv.1.1, hvv.1.2⟩
    have hv0 : v.toNat < f.types.length := by omega
    have hvx : v = ((v.toNat : Nat) : Int) := by omega
    have hst : (st.map eInt)[v.toNat]? = some [vInt (st.getD v.toNat 0)] := by rw [List.getElem?_map]; simp [eInt, List.getD, hs, hv0]
    have hstl : v.toNat < (st.map eInt).length := by simpa [hs] using hv0
    refine yV rfl rfl (oLb Tryz.underlying95 rfl rfl rfl trivial) <| yV rfl rfl (ok_nilCheck rfl rfl rfl) <| yV rfl rfl (oFp rfl rfl tF97_2) <| yV rfl rfl (oLb Tryz.underlying35 rfl rfl rfl trivial) <| yV rfl rfl (oM rfl) <| yV rfl rfl (ok_index_row rfl rfl rfl rfl rfl Tryz.underlying35 tS3 (by assumption) (by omega)) <| yV rfl rfl (ok_load_row rfl rfl rfl rfl (Nat.add_zero _).symm (by assumption) rfl Tryz.underlying3 rfl trivial) <| yV rfl rfl (oB rfl rfl rfl) <| cV rfl (oT rfl rfl) <| cV rfl (oA rfl) <| WL.nil <| Tr.ret ?_
    refine ret_ok rfl ?_ (post_ok (And.intro rfl (And.intro rfl (And.intro rfl (trivial)))))
    refine congrArg (fun b => iBool b) ?_
    try clear hvx
    simp_all [shUse]
  refine nV rfl rfl <| nV rfl rfl <| nV rfl rfl <| nV rfl rfl <| nV rfl rfl <| nV rfl rfl <| nV rfl rfl <| nV rfl rfl <| cV rfl (oF rfl rfl) <| cV rfl (oA rfl) <| WL.nil <| Tr.ret ?_
  refine ret_ok rfl ?_ (post_ok (And.intro rfl (And.intro rfl (And.intro rfl (trivial)))))
  refine congrArg (fun b => iBool b) ?_
  try clear hvx
  simp_all [shUse]
set_option maxRecDepth 8000 in
set_option maxHeartbeats 2000000 in
theorem sc_shUses (u : Un) (f : Fl) (st : List Int) (hs : st.length = f.types.length) (l want : List Int) : SC Tryz.prog 110 [.ptr 3 0, .pv (ints l), .pv (ints want)] (ckS u f 3 st) (fun _ => True) (iBool (shUses f.types st l want)) (ckS u f 3 st) := by
  refine SC.of Tryz.func110 rfl (lb rfl) fun F ρ w => ?_
  refine Tr.seq <| Tr.region rfl <| WL.cons rfl rfl rfl (ok_boxOwn1 (k := 5) rfl rfl ⟨_, rfl⟩ rfl rfl rfl rfl rfl) <| cV rfl (oA rfl) <| WL.nil <| Tr.seq <| Tr.region rfl <| cV rfl (oM rfl) <| cV rfl (oM rfl) <| cV rfl (ok_makeFunc rfl rfl rfl) <| WL.cons rfl rfl rfl (ok_callr (sc_eqf 120 [.ptr 5 0] (List Int) (fun s => ckSp u f 3 5 s) [5, 3, 4] (fun _ => rfl) (fun _ => rfl) ent120 (shUse f.types) (fun _ => True) (fun s => s.length = f.types.length) (fun s x y h => h) (fun s x y h => sc_shUse1 u f s h x y) st hs l want) ent119 rfl rfl (Subs.refl _ _) (po3 rfl rfl rfl) (by rfl) (fun k (h : _) => .inr trivial) rfl (by rfl)) <| cV rfl (oA rfl) ?_
  refine WL.nil <| Tr.ret ?_
  have h2 := shUses_snd f.types st l want
  rw [h2]
  exact ret_ok rfl rfl (po2 rfl rfl)
set_option maxRecDepth 8000 in
set_option maxHeartbeats 2000000 in
theorem sc_shSet1 (u : Un) (f : Fl) (st : List Int) (hs : st.length = f.types.length) (v t : Int) : SC Tryz.prog 121 [iInt v, iInt t, .ptr 5 0] (ckSp u f 3 5 st) (fun k => k = 3 ∨ k = 5) (iBool (shSet1 f.types st v t).1) (ckSp u f 3 5 (shSet1 f.types st v t).2) := by
  refine SC.of Tryz.func121 rfl (lb rfl) fun F ρ w => ?_
  refine Tr.seq <| Tr.region rfl <| cV rfl (oA rfl) <| WL.nil <| Tr.seq <| Tr.seq <| Tr.region rfl <| cV rfl (oLb Tryz.underlying95 rfl rfl rfl trivial) <| cV rfl (oM rfl) <| cV rfl (oM rfl) <| WL.cons rfl rfl rfl (ok_callr (sc_shVal u f st v t) ent118 rfl rfl (Subs.refl _ _) (po2 rfl rfl) (by rfl) (fun k (h : _) => .inr trivial) rfl (by rfl)) <| cV rfl (oN rfl) ?_
  refine cV rfl (oM rfl) ?_
  refine WL.split (t := 11) rfl (fun hb11 => ?_) (fun hb11 => ?_)
  · refine nV rfl rfl <| nV rfl rfl <| nV rfl rfl <| nV rfl rfl <| nV rfl rfl <| nV rfl rfl <| nV rfl rfl <| nV rfl rfl <| cV rfl (oT rfl rfl) <| WL.nil <| Tr.condT rfl <| Tr.seq ?_
    refine Tr.region rfl <| cV rfl (oA rfl) <| WL.nil <| Tr.ret ?_
    have h2 : shSet1 f.types st v t = (false, st) := by
      try clear hvx
      simp_all [shSet1]
    rw [h2]
    exact ret_ok rfl rfl (po3 rfl rfl rfl)
  have hrg : 0 ≤ v ∧ v < f.types.length := by
    have hvv : shVal f.types v t = true := by simpa using hb11
    simp only [shVal, Bool.and_eq_true, decide_eq_true_eq] at hvv
    exact ⟨hvv.1.1, hvv.1.2⟩
  have hv0 : v.toNat < f.types.length := by omega
  have hvx : v = ((v.toNat : Nat) : Int) := by omega
  have hst : (st.map eInt)[v.toNat]? = some [vInt (st.getD v.toNat 0)] := by rw [List.getElem?_map]; simp [eInt, List.getD, hs, hv0]
  have hstl : v.toNat < (st.map eInt).length := by simpa [hs] using hv0
  refine yV rfl rfl (oLb Tryz.underlying95 rfl rfl rfl trivial) <| yV rfl rfl (ok_nilCheck rfl rfl rfl) <| yV rfl rfl (oFp rfl rfl tF97_2) <| yV rfl rfl (oLb Tryz.underlying35 rfl rfl rfl trivial) <| yV rfl rfl (oM rfl) <| yV rfl rfl (ok_index_row rfl rfl rfl rfl rfl Tryz.underlying35 tS3 (by assumption) (by omega)) <| yV rfl rfl (ok_load_row rfl rfl rfl rfl (Nat.add_zero _).symm (by assumption) rfl Tryz.underlying3 rfl trivial) <| yV rfl rfl (oB rfl rfl rfl) <| cV rfl (oF rfl rfl) <| WL.nil ?_
  refine Tr.cond rfl (fun hc20 => ?_) (fun hc20 => ?_)
  · refine Tr.seq <| Tr.region rfl <| cV rfl (oA rfl) <| WL.nil <| Tr.ret ?_
    have h2 : shSet1 f.types st v t = (false, st) := by
      try clear hvx
      simp_all [shSet1]
    rw [h2]
    exact ret_ok rfl rfl (po3 rfl rfl rfl)
  refine Tr.skip <| Tr.seq <| Tr.region rfl <| cV rfl (oLb Tryz.underlying95 rfl rfl rfl trivial) <| cV rfl (ok_nilCheck rfl rfl rfl) <| cV rfl (oFp rfl rfl tF97_2) <| cV rfl (oLb Tryz.underlying35 rfl rfl rfl trivial) <| cV rfl (oM rfl) <| cV rfl (ok_index_row rfl rfl rfl rfl rfl Tryz.underlying35 tS3 (by assumption) (by omega)) ?_
  refine WL.cons0 rfl rfl ((ok_store_row rfl rfl rfl rfl rfl (Nat.add_zero _).symm (by assumption) (by simp) tS3 rfl (by simp))) ?_
  refine WL.nil <| Tr.seq <| Tr.region rfl <| cV rfl (oA rfl) <| WL.nil <| Tr.ret ?_
  have h2 : shSet1 f.types st v t = (true, st.set v.toNat 1) := by
    try clear hvx
    simp_all [shSet1]
  rw [h2]
  exact ret_ok rfl rfl (post_ok (And.intro rfl (And.intro (set3 rfl) (And.intro (set4 rfl) trivial))))
set_option maxRecDepth 8000 in
set_option maxHeartbeats 2000000 in
theorem sc_shSets (u : Un) (f : Fl) (st : List Int) (hs : st.length = f.types.length) (l want : List Int) : SC Tryz.prog 112 [.ptr 3 0, .pv (ints l), .pv (ints want)] (ckS u f 3 st) (fun k => k = 3) (iBool (shSets f.types st l want).1) (ckS u f 3 (shSets f.types st l want).2) := by
  refine SC.of Tryz.func112 rfl (lb rfl) fun F ρ w => ?_
  refine Tr.seq <| Tr.region rfl <| WL.cons rfl rfl rfl (ok_boxOwn1 (k := 5) rfl rfl ⟨_, rfl⟩ rfl rfl rfl rfl rfl) <| cV rfl (oA rfl) <| WL.nil <| Tr.seq <| Tr.region rfl <| cV rfl (oM rfl) <| cV rfl (oM rfl) <| cV rfl (ok_makeFunc rfl rfl rfl) <| WL.cons rfl rfl rfl (ok_callr (sc_eqf 121 [.ptr 5 0] (List Int) (fun s => ckSp u f 3 5 s) [5, 3, 4] (fun _ => rfl) (fun _ => rfl) ent121 (shSet1 f.types) (fun k => k = 3 ∨ k = 5) (fun s => s.length = f.types.length) (fun s x y h => (shSet1_length f.types s x y).trans h) (fun s x y h => sc_shSet1 u f s h x y) st hs l want) ent119 rfl rfl (Subs.refl _ _) (po3 rfl rfl rfl) (by rfl) (fun k (h : _) => by (subst h; first | exact .inl rfl | exact .inr rfl | exact .inr (by decide))) rfl (by rfl)) <| cV rfl (oA rfl) ?_
  refine WL.nil <| Tr.ret ?_
  refine ret_ok rfl ?_ (post_ok (And.intro rfl (And.intro rfl (trivial))))
  rfl
set_option maxRecDepth 8000 in
set_option maxHeartbeats 2000000 in
theorem sc_shAll (u : Un) (f : Fl) (st : List Int) (hs : st.length = f.types.length) (l : List Int) (hb : l.length ≤ 1073741824) : SC Tryz.prog 111 [.ptr 3 0, .pv (ints l)] (ckS u f 3 st) (fun k => k = 3) (iBool (shSets f.types st l (List.replicate l.length 0)).1) (ckS u f 3 (shSets f.types st l (List.replicate l.length 0)).2) := by
  refine SC.of Tryz.func111 rfl (lb rfl) fun F ρ w => ?_
  refine Tr.seq <| Tr.region rfl <| cV rfl (oA rfl) <| WL.nil <| Tr.seq <| Tr.region rfl <| cV rfl (oM rfl) <| cV rfl (oM rfl) <| cV rfl (oM rfl) <| cV rfl (oSm Tryz.underlying35 rfl) <| WL.cons rfl rfl rfl (ok_makeSlice (k := 109) (s := ⟨3, 1⟩) rfl rfl rfl Tryz.underlying35 tZ3 tC3 rfl (by decide) (by omega) (by omega) rfl rfl rfl rfl) <| WL.cons rfl rfl rfl (ok_lend (fun k => k = 109) (sc_shSets u f st hs l (List.replicate l.length 0)) ent112 rfl rfl (Subs.refl _ _) (And.intro LendOf.same (And.intro LendOf.same (And.intro (LendOf.row rfl rfl (by (simp; done)) (by (simp only [List.map_replicate]; rfl))) (trivial)))) (fun k h => by subst h; rfl) (po2 rfl rfl) rfl (fun k (h : _) => .inr h) ⟨_, rfl⟩ (ckS_lend (shSets_length ..))) ?_
  refine cV rfl (oA rfl) <| WL.nil <| Tr.ret ?_
  refine ret_ok rfl ?_ (post_ok (And.intro rfl (And.intro rfl (trivial))))
  rfl
set_option maxRecDepth 8000 in
set_option maxHeartbeats 2000000 in
theorem sc_shHide (u : Un) (f : Fl) (st : List Int) (hs : st.length = f.types.length) (l : List Int) (hin : ∀ v ∈ l, 0 ≤ v ∧ v < f.types.length) : SC Tryz.prog 85 [.ptr 3 0, .pv (ints l)] (ckS u f 3 st) (fun k => k = 3) (.tup []) (ckS u f 3 (shHide st l)) := by
  refine SC.of Tryz.func85 rfl (lb rfl) fun F ρ w => ?_
  refine Tr.lenOf (t := 1) rfl (fun hl => ?_)
  simp only [List.length_map] at hl
  refine Tr.seq <| Tr.region rfl <| cV rfl (oM rfl) <| cV rfl (oSm Tryz.underlying35 rfl) <| cV rfl (oM rfl) <| WL.nil <| Tr.block <| Tr.sub (Sub.of (fr' := [(8, iInt 0), (7, iInt l.length), (6, .pv (ints l)), (0, .ptr 3 0)]) ⟨rfl, rfl, rfl, rfl, trivial⟩) ?_
  refine Tr.loop (fun fr σ m => ∃ (k : Nat) (s : List Int), (k ≤ l.length) ∧ (shHide st l = shHide s (l.drop k)) ∧ (s.length = f.types.length) ∧ fr = [(8, iInt k), (7, iInt l.length), (6, .pv (ints l)), (0, .ptr 3 0)] ∧ σ = look (up (ckS u f 3 s)) ∧ m = l.length - k) (n := l.length - 0) ?_ ?_
  · exact ⟨0, st, Nat.zero_le _, rfl, hs, rfl, rfl, rfl⟩
  rintro fr σ m ⟨k, s, hI0, hI1, hI2, rfl, rfl, rfl⟩
  refine Tr.seq <| Tr.region rfl <| cV rfl (oB rfl rfl rfl) <| WL.nil <| Tr.seq ?_
  refine Tr.cond rfl (fun hc9 => ?_) (fun hc9 => ?_)
  · have hlt : k < l.length := by simpa using hc9
    have hd := List.drop_eq_getElem_cons hlt
    have hm := List.getElem_mem hlt
    have hi := map_get (f := eInt) (List.getElem?_eq_getElem hlt)
    generalize l[k] = x at hd hm hi
    obtain ⟨hx0, hx1⟩ := hin x hm
    have hv0 : x.toNat < f.types.length := by omega
    have hvx : x = ((x.toNat : Nat) : Int) := by omega
    have hst : (s.map eInt)[x.toNat]? = some [vInt (s.getD x.toNat 0)] := by rw [List.getElem?_map]; simp [eInt, List.getD, hI2, hv0]
    have hstl : x.toNat < (s.map eInt).length := by simpa [hI2] using hv0
    refine Tr.skip <| Tr.seq <| Tr.block <| Tr.seq <| Tr.region rfl <| cV rfl (ok_index_seq rfl rfl rfl Tryz.underlying35 hi tS3 rfl (by rfl)) <| cV rfl (oLe Tryz.underlying3 rfl rfl) <| cV rfl (oA rfl) <| WL.nil <| Tr.region rfl <| cV rfl (oM rfl) <| cV rfl (ok_nilCheck rfl rfl rfl) ?_
    refine cV rfl (oFp rfl rfl tF97_2) <| cV rfl (oLb Tryz.underlying35 rfl rfl rfl trivial) <| cV rfl (oM rfl) <| cV rfl (ok_index_row rfl rfl rfl rfl rfl Tryz.underlying35 tS3 (by assumption) (by omega)) ?_
    refine WL.cons0 rfl rfl ((ok_store_row rfl rfl rfl rfl rfl (Nat.add_zero _).symm (by assumption) (by simp) tS3 rfl (by simp))) ?_
    refine WL.nil <| Tr.region rfl <| cV rfl (oB rfl rfl (i64_add rfl (by omega))) <| cV rfl (oM rfl) <| WL.nil ?_
    refine ⟨_, _, ?_, Sub.of (fr' := [(8, iInt (k + 1)), (7, iInt l.length), (6, .pv (ints l)), (0, .ptr 3 0)]) ⟨rfl, rfl, rfl, rfl, trivial⟩, (k + 1), (s.set x.toNat 2), ?_, ?_, ?_, rfl, (funext ckS_set), rfl⟩
    · omega
    · omega
    · rw [hI1, hd]; rfl
    simpa using hI2
  refine Tr.exit ?_
  have hge : l.length ≤ k := by simpa using hc9
  have h2 : shHide st l = s := by rw [hI1, List.drop_eq_nil_of_le hge]; rfl
  rw [h2]
  exact end_ok rfl rfl (fun _ _ h => h)
section
variable {P : Program} {c : Cx} {R1 : Nat → Prop} {o : Oper} {fr : Fr} {hp : Hp}
/-- What a variable holds at the end. -/
def ResC (P : Program) (fr : Fr) (σ : Heap') (a : Tmp) (t : TypeId) (x : IV) : Prop := ∀ (c : Cx) (o : Oper), o.op = .load t (.tmp a) → OkV P c (fun _ => True) o fr σ x
theorem resC_ok {ρ : Loc} {σ : Heap'} {w : World} {a : Act} {q : Tmp} {t : TypeId} {x : IV} (h : All c ρ σ w fr a) (hr : ResC P fr σ q t x) : ∃ v ad, (asAddr ((a.tmps[q]?).getD undef)).run P w = .ok ad w ∧ (loadVar t ad).run P w = .ok v w ∧ RepI c.F ρ σ w x v := by
  obtain ⟨v, h1, h2⟩ := hr c { (default : Oper) with op := .load t (.tmp q) } rfl ρ w a h
  have h3 := h1 w (SameFor.refl _ _ _ _)
  simp only [execOp, Instr.loadAt, Sem.run_bind] at h3
  have hev : a.eval (.tmp q) = (a.tmps[q]?).getD undef := by simp [Act.eval]
  rw [hev] at h3
  generalize (a.tmps[q]?).getD undef = p at h3 ⊢
  cases p with
  | pointer ad =>
    cases ad with
    | none => simp [Instr.sureAddr] at h3
    | some ad =>
      refine ⟨v, ad, rfl, ?_, h2⟩
      simp only [Instr.sureAddr, Sem.run_bind, Sem.run_pure, Result.andThen_ok] at h3
      generalize (loadVar t ad).run P w = res at h3 ⊢
      cases res with
      | ok v' w' => simpa [Result.andThen] using h3
      | _ => simp [Result.andThen] at h3
  | _ => simp [Instr.sureAddr] at h3
theorem look_row_snoc2 {α : Type} {k : Nat} {s : RT} {f : α → List PV} {l : List α} {x : α} {q : Option HO} {pre : List (Nat × HO)} :
    look ((k, some (.row s (l.map f ++ [f x]))) :: (up pre ++ ((k, q) :: up pre))) = look ((k, some (.row s ((l ++ [x]).map f))) :: up pre) := by
  funext j
  simp only [look, List.map_append, List.map_cons, List.map_nil]
  by_cases e : k = j
  · subst e; simp
  simp only [beq_ne e, cond_false]
  rw [look_app]
  split
  · rfl
  simp only [look, beq_ne e, cond_false]
/-- A struct that is kept in a new variable, to be written. -/
theorem ok_boxOwnP {t : TypeId} {x : Operand} {k : Nat} {ps : List PV} (ho : o.op = .box t x) (hx : fr.ev x = some (.pv (.agg ps))) (hσ : look hp k = none) (hc : c.σ k = none) (hfr : nmFr k fr = false) (hhp : nmHp k hp = false) :
    Ok P c o fr (look hp) (.ptr k 0) (look ((k, some (.box (ps.map .pv))) :: hp)) := by
  intro ρ w a K Q h hK
  have hr := h.ev hx
  generalize hv : a.eval x = v at hr
  cases hr with
  | pv _ _ hr =>
    cases hr with
    | agg _ vs u hl hvu hr =>
      have hrun : (execOp a.eval o).run P w = .ok (.value (.pointer (some ⟨w.heap.size, 0, none⟩))) (w.alloc (.cells vs t)) := by
        have hn : (newVar t (.agg vs)).run P w = .ok ⟨w.heap.size, 0, none⟩ (w.alloc (.cells vs t)) := rfl
        simp only [execOp, ho, hv, Instr.box, Sem.run_bind, hn, Result.andThen_ok]
        rfl
      unfold Oper.wp
      rw [hrun]
      refine hK (locUpd ρ k (some (w.heap.size, 1))) _ _ (h.alloc hσ hc hfr hhp 1 _ _ fun keep keepP => ?_) (.ptr _ _ _ fun cs' _ => ⟨w.heap.size, 1, locUpd_same, rfl⟩)
      refine .box _ t vs u (heap_new w _) (by simpa using hl) (fun j x hj => ?_) fun j x hj => ?_
      · rw [List.getElem?_map] at hj
        obtain ⟨p, hp, rfl⟩ := Option.map_eq_some_iff.1 hj
        exact hvu j p hp
      rw [List.getElem?_map] at hj
      obtain ⟨p, hp, rfl⟩ := Option.map_eq_some_iff.1 hj
      exact .pv _ _ (keepP _ _ (hr j p hp))
/-- A field of a struct that is at hand. -/
theorem ok_field_pure {t : TypeId} {x : Operand} {f : Nat} {ps : List PV} {p : PV} {fs : Array Field} {fd : Field} {d : TypeDesc} {σ : Heap'} (ho : o.op = .field t x f) (hx : fr.ev x = some (.pv (.agg ps)))
    (hu : P.underlying t = some (.struct fs)) (hf : fs[f]? = some fd) (hd : P.underlying fd.type = some d) (hrow : d.isRow = false) (hp : ps[fd.offset]? = some p) : OkV P c R1 o fr σ (.pv p) := by
  intro ρ w a h
  have hr := h.ev hx
  generalize hv : a.eval x = v at hr
  cases hr with
  | pv _ _ hr =>
    cases hr with
    | agg _ vs u hl hvu hr =>
      refine ⟨u fd.offset, fun w2 _ => ?_, .pv _ _ (hr _ _ hp)⟩
      simp [execOp, ho, hv, Instr.field, Sem.run_bind, run_underlying hu, hf, part, asAgg, run_isAgg hd, hrow, hvu _ _ hp]
/-- How the body of a function has to end that hands back a variable (and one value more). -/
def retC (P : Program) (a : Tmp) (t : TypeId) (r : IV) (post : List (Nat × HO)) : Exit → Fr → Heap' → Prop
  | .ret, fr, σ | .normal, fr, σ => (∃ x, ResC P fr σ a t x ∧ ∀ F ρ w v, RepI F ρ σ w x v → RepI F ρ σ w r v) ∧ ∀ k o, look (up post) k = some o → σ k = some o
  | _, _, _ => False
def retC2 (P : Program) (a : Tmp) (t : TypeId) (b : Tmp) (r : IV) (post : List (Nat × HO)) : Exit → Fr → Heap' → Prop
  | .ret, fr, σ | .normal, fr, σ => (∃ x y, ResC P fr σ a t x ∧ fr.get b = some y ∧ ∀ F ρ w v, RepI F ρ σ w (.tup [x, y]) v → RepI F ρ σ w r v) ∧ ∀ k o, look (up post) k = some o → σ k = some o
  | _, _, _ => False
theorem SC.start {f : FuncId} {fn : Func} {code : Code} {args : List IV} {pre post : List (Nat × HO)} {R : Nat → Prop} {r : IV} {Q : Exit → Fr → Heap' → Prop} (hf : P.funcs[f]? = some fn) (hb : fn.body = some code) (hn : args.length ≤ fn.ntmps)
    (hQ : ∀ (c : Cx) (e : Exit) (fr : Fr) (σ : Heap'), Q e fr σ → (e = .ret ∨ e = .normal) ∧ (∀ k o, look (up post) k = some o → σ k = some o) ∧ ∀ ρ w a, All c ρ σ w fr a → ∃ v, (results fn a.tmps).run P w = .ok v w ∧ RepI c.F ρ σ w r v)
    (h : ∀ F ρ w, Tr P ⟨F, R, ρ, look (up pre), w, fn.ntmps⟩ code (frOf 0 args) (look (up pre)) Q) : SC P f args pre R r post := by
  intro F ρ w vs hrel hargs
  refine calls_of_wp hf hb ?_
  have ha : All ⟨F, R, ρ, look (up pre), w, fn.ntmps⟩ ρ (look (up pre)) w (frOf 0 args) { tmps := vs.toArray ++ Array.replicate (fn.ntmps - vs.toArray.size) undef, defers := [] } := by
    refine ⟨hrel, fun t x hx => ?_, .refl _ _ _ _ _, rfl, ?_⟩
    · obtain ⟨v, hv, hr⟩ := hargs.2 t x (by simpa using (frOf_get hx).2)
      refine ⟨v, ?_, hr⟩
      rw [Array.getElem?_append_left (by simpa using (List.getElem?_eq_some_iff.1 hv).1)]
      simpa using hv
    have := hargs.1
    simp; omega
  refine wp_mono (h F ρ w ρ w _ ha) fun e a' w' hq => ?_
  obtain ⟨ρ', σ', fr', ha', hq⟩ := hq
  obtain ⟨he, hσ, hres⟩ := hQ ⟨F, R, ρ, look (up pre), w, fn.ntmps⟩ e fr' σ' hq
  obtain ⟨v, hv, h1⟩ := hres ρ' w' a' ha'
  obtain ⟨ρ'', ha'', keep⟩ := ha'.restrict hσ
  rcases he with rfl | rfl
  · exact ⟨ha'.df, v, hv, ρ'', v, rfl, keep _ _ h1, ha''.rel, ha''.tr⟩
  exact ⟨ha'.df, v, hv, ρ'', v, rfl, keep _ _ h1, ha''.rel, ha''.tr⟩
theorem SC.ofC {f : FuncId} {fn : Func} {code : Code} {args : List IV} {pre post : List (Nat × HO)} {R : Nat → Prop} {r : IV} {q : Tmp} {t : TypeId} (hf : P.funcs[f]? = some fn) (hb : fn.body = some code) (hn : args.length ≤ fn.ntmps) (hrs : fn.results = #[.cell q t])
    (h : ∀ F ρ w, Tr P ⟨F, R, ρ, look (up pre), w, fn.ntmps⟩ code (frOf 0 args) (look (up pre)) (retC P q t r post)) : SC P f args pre R r post := by
  refine SC.start hf hb hn (fun c e fr σ hq => ?_) h
  have key : (∃ x, ResC P fr σ q t x ∧ ∀ F ρ w v, RepI F ρ σ w x v → RepI F ρ σ w r v) → ∀ ρ w a, All c ρ σ w fr a → ∃ v, (results fn a.tmps).run P w = .ok v w ∧ RepI c.F ρ σ w r v := by
    rintro ⟨x, hx, hs⟩ ρ w a ha
    obtain ⟨v, ad, hv, hv2, h1⟩ := resC_ok ha hx
    refine ⟨v, ?_, hs _ _ _ _ h1⟩
    simp [results, hrs, hv, hv2, Sem.run_bind]
  cases e with
  | ret => exact ⟨.inl rfl, hq.2, key hq.1⟩
  | normal => exact ⟨.inr rfl, hq.2, key hq.1⟩
  | _ => exact hq.elim
theorem SC.ofC2 {f : FuncId} {fn : Func} {code : Code} {args : List IV} {pre post : List (Nat × HO)} {R : Nat → Prop} {r : IV} {q b : Tmp} {t : TypeId} (hf : P.funcs[f]? = some fn) (hb : fn.body = some code) (hn : args.length ≤ fn.ntmps) (hrs : fn.results = #[.cell q t, .tmp b])
    (h : ∀ F ρ w, Tr P ⟨F, R, ρ, look (up pre), w, fn.ntmps⟩ code (frOf 0 args) (look (up pre)) (retC2 P q t b r post)) : SC P f args pre R r post := by
  refine SC.start hf hb hn (fun c e fr σ hq => ?_) h
  have key : (∃ x y, ResC P fr σ q t x ∧ fr.get b = some y ∧ ∀ F ρ w v, RepI F ρ σ w (.tup [x, y]) v → RepI F ρ σ w r v) → ∀ ρ w a, All c ρ σ w fr a → ∃ v, (results fn a.tmps).run P w = .ok v w ∧ RepI c.F ρ σ w r v := by
    rintro ⟨x, y, hx, hy, hs⟩ ρ w a ha
    obtain ⟨v, ad, hv, hv2, h1⟩ := resC_ok ha hx
    obtain ⟨v', hv', h1'⟩ := ha.fr b y hy
    refine ⟨.tuple #[v, v'], ?_, hs _ _ _ _ (tup_two h1 h1')⟩
    simp [results, hrs, hv, hv2, hv', Sem.run_bind]
  cases e with
  | ret => exact ⟨.inl rfl, hq.2, key hq.1⟩
  | normal => exact ⟨.inr rfl, hq.2, key hq.1⟩
  | _ => exact hq.elim
theorem retC_ok {q : Tmp} {t : TypeId} {x r : IV} {post : List (Nat × HO)} {σ : Heap'} {e : Exit} (he : e = .ret ∨ e = .normal) (hx : ResC P fr σ q t x) (hr : x = r) (hσ : ∀ k o, look (up post) k = some o → σ k = some o) : retC P q t r post e fr σ := by
  rcases he with rfl | rfl <;> exact ⟨⟨x, hx, fun _ _ _ _ h => hr ▸ h⟩, hσ⟩
theorem retC2_ok {q b : Tmp} {t : TypeId} {x y r : IV} {post : List (Nat × HO)} {σ : Heap'} {e : Exit} (he : e = .ret ∨ e = .normal) (hx : ResC P fr σ q t x) (hy : fr.get b = some y) (hr : .tup [x, y] = r) (hσ : ∀ k o, look (up post) k = some o → σ k = some o) : retC2 P q t b r post e fr σ := by
  rcases he with rfl | rfl <;> exact ⟨⟨x, y, hx, hy, fun _ _ _ _ h => hr ▸ h⟩, hσ⟩
end
theorem tZ147 : ((Tryz.prog.info? 147).bind (·.zero)) = some (.agg #[.string ⟨#[]⟩, .int .i64 0, .string ⟨#[]⟩, .int .i64 0, .string ⟨#[]⟩, .int .i64 0, .string ⟨#[]⟩, .int .i64 0, .string ⟨#[]⟩, .int .i64 0, .string ⟨#[]⟩, .int .i64 0, .string ⟨#[]⟩, .int .i64 0, .string ⟨#[]⟩, .int .i64 0, .string ⟨#[]⟩, .int .i64 0, .string ⟨#[]⟩, .int .i64 0, .string ⟨#[]⟩, .int .i64 0, .string ⟨#[]⟩, .int .i64 0, .string ⟨#[]⟩, .int .i64 0, .string ⟨#[]⟩, .int .i64 0, .string ⟨#[]⟩, .int .i64 0, .string ⟨#[]⟩, .int .i64 0, .string ⟨#[]⟩, .int .i64 0, .string ⟨#[]⟩, .int .i64 0, .string ⟨#[]⟩, .int .i64 0, .string ⟨#[]⟩, .int .i64 0, .string ⟨#[]⟩, .int .i64 0, .string ⟨#[]⟩, .int .i64 0, .string ⟨#[]⟩, .int .i64 0, .string ⟨#[]⟩, .int .i64 0, .string ⟨#[]⟩, .int .i64 0, .string ⟨#[]⟩, .int .i64 0, .string ⟨#[]⟩, .int .i64 0, .string ⟨#[]⟩, .int .i64 0, .string ⟨#[]⟩, .int .i64 0]) := by kernel_rfl
theorem tS147 : (Tryz.prog.info? 147).map (·.size) = some 58 := by kernel_rfl
set_option maxRecDepth 8000 in
set_option maxHeartbeats 2000000 in
theorem sc_rowOf (op : Int) : SC Tryz.prog 128 [iInt op] [] (fun _ => False) (.pv (.agg [vStr (wSign op), vInt (wLevel op)])) [] := by
  refine SC.ofC Tryz.func128 rfl (lb rfl) rfl fun F ρ w => ?_
  refine Tr.seq ?_
  refine Tr.region rfl ?_
  refine WL.cons rfl rfl rfl (ok_alloc (k := 102) rfl tZ144 rfl rfl rfl rfl) ?_
  refine WL.nil ?_
  refine Tr.seq ?_
  refine Tr.region rfl ?_
  refine cV rfl (ok_build_pure rfl rfl tZ144 tP144 rfl (firmB_ok rfl) rfl) ?_
  refine cV rfl (ok_build_pure rfl rfl tZ144 tP144 rfl (firmB_ok rfl) rfl) ?_
  refine cV rfl (ok_build_pure rfl rfl tZ144 tP144 rfl (firmB_ok rfl) rfl) ?_
  refine cV rfl (ok_build_pure rfl rfl tZ144 tP144 rfl (firmB_ok rfl) rfl) ?_
  refine cV rfl (ok_build_pure rfl rfl tZ144 tP144 rfl (firmB_ok rfl) rfl) ?_
  refine cV rfl (ok_build_pure rfl rfl tZ144 tP144 rfl (firmB_ok rfl) rfl) ?_
  refine cV rfl (ok_build_pure rfl rfl tZ144 tP144 rfl (firmB_ok rfl) rfl) ?_
  refine cV rfl (ok_build_pure rfl rfl tZ144 tP144 rfl (firmB_ok rfl) rfl) ?_
  refine cV rfl (ok_build_pure rfl rfl tZ144 tP144 rfl (firmB_ok rfl) rfl) ?_
  refine cV rfl (ok_build_pure rfl rfl tZ144 tP144 rfl (firmB_ok rfl) rfl) ?_
  refine cV rfl (ok_build_pure rfl rfl tZ144 tP144 rfl (firmB_ok rfl) rfl) ?_
  refine cV rfl (ok_build_pure rfl rfl tZ144 tP144 rfl (firmB_ok rfl) rfl) ?_
  refine cV rfl (ok_build_pure rfl rfl tZ144 tP144 rfl (firmB_ok rfl) rfl) ?_
  refine cV rfl (ok_build_pure rfl rfl tZ144 tP144 rfl (firmB_ok rfl) rfl) ?_
  refine cV rfl (ok_build_pure rfl rfl tZ144 tP144 rfl (firmB_ok rfl) rfl) ?_
  refine cV rfl (ok_build_pure rfl rfl tZ144 tP144 rfl (firmB_ok rfl) rfl) ?_
  refine cV rfl (ok_build_pure rfl rfl tZ144 tP144 rfl (firmB_ok rfl) rfl) ?_
  refine cV rfl (ok_build_pure rfl rfl tZ144 tP144 rfl (firmB_ok rfl) rfl) ?_
  refine cV rfl (ok_build_pure rfl rfl tZ144 tP144 rfl (firmB_ok rfl) rfl) ?_
  refine cV rfl (ok_build_pure rfl rfl tZ144 tP144 rfl (firmB_ok rfl) rfl) ?_
  refine cV rfl (ok_build_pure rfl rfl tZ144 tP144 rfl (firmB_ok rfl) rfl) ?_
  refine cV rfl (ok_build_pure rfl rfl tZ144 tP144 rfl (firmB_ok rfl) rfl) ?_
  refine cV rfl (ok_build_pure rfl rfl tZ144 tP144 rfl (firmB_ok rfl) rfl) ?_
  refine cV rfl (ok_build_pure rfl rfl tZ144 tP144 rfl (firmB_ok rfl) rfl) ?_
  refine cV rfl (ok_build_pure rfl rfl tZ144 tP144 rfl (firmB_ok rfl) rfl) ?_
  refine cV rfl (ok_build_pure rfl rfl tZ144 tP144 rfl (firmB_ok rfl) rfl) ?_
  refine cV rfl (ok_build_pure rfl rfl tZ144 tP144 rfl (firmB_ok rfl) rfl) ?_
  refine cV rfl (ok_build_pure rfl rfl tZ144 tP144 rfl (firmB_ok rfl) rfl) ?_
  refine cV rfl (ok_build_arr rfl rfl tZ147 Tryz.underlying147 tS144 rfl (firmB_ok rfl)) ?_
  refine WL.cons rfl rfl rfl (ok_alloc (k := 103) rfl tZ147 rfl rfl rfl rfl) ?_
  refine WL.cons0 rfl rfl (ok_store_box_agg rfl rfl rfl rfl rfl ((fun h => h)) tS147 (firmL_ok rfl) (lb rfl)) ?_
  refine WL.nil ?_
  refine Tr.seq ?_
  refine Tr.seq ?_
  refine Tr.region rfl ?_
  refine cV rfl (oM rfl) ?_
  refine cV rfl (oB rfl rfl rfl) ?_
  refine cV rfl (oM rfl) ?_
  refine WL.split (t := 35) rfl (fun hb35 => ?_) (fun hb35 => ?_)
  · refine nV rfl rfl ?_
    refine nV rfl rfl ?_
    refine cV rfl (oT rfl rfl) ?_
    refine WL.nil ?_
    refine Tr.condT rfl ?_
    refine Tr.seq ?_
    refine Tr.region rfl ?_
    refine cV rfl (ok_build_pure rfl rfl tZ144 tP144 rfl (firmB_ok rfl) rfl) ?_
    refine WL.cons0 rfl rfl (ok_store_box_agg rfl rfl rfl rfl rfl ((fun h => h)) tS144 (firmL_ok rfl) (lb rfl)) ?_
    refine WL.nil ?_
    refine Tr.ret ?_
    have hop : op < 0 ∨ op ≥ 29 := by
      simp_all
    refine retC_ok (.inl rfl) (fun _ _ ho => ok_load_box_pure ho rfl rfl Tryz.underlying144 rfl tS144 (lb rfl) rfl trivial) ?_ no_post
    rcases hop with h | h <;> simp [wSign, wLevel, h] <;> rfl
  refine yV rfl rfl (oM rfl) ?_
  refine yV rfl rfl (oB rfl rfl rfl) ?_
  refine cV rfl (oF rfl rfl) ?_
  refine WL.nil ?_
  refine Tr.cond rfl (fun hc38 => ?_) (fun hc38 => ?_)
  · refine Tr.seq ?_
    refine Tr.region rfl ?_
    refine cV rfl (ok_build_pure rfl rfl tZ144 tP144 rfl (firmB_ok rfl) rfl) ?_
    refine WL.cons0 rfl rfl (ok_store_box_agg rfl rfl rfl rfl rfl ((fun h => h)) tS144 (firmL_ok rfl) (lb rfl)) ?_
    refine WL.nil ?_
    refine Tr.ret ?_
    have hop : op < 0 ∨ op ≥ 29 := by
      simp_all
    refine retC_ok (.inl rfl) (fun _ _ ho => ok_load_box_pure ho rfl rfl Tryz.underlying144 rfl tS144 (lb rfl) rfl trivial) ?_ no_post
    rcases hop with h | h <;> simp [wSign, wLevel, h] <;> rfl
  refine Tr.skip ?_
  refine Tr.seq ?_
  have hop : 0 ≤ op ∧ op < 29 := by
    simp_all
  rcases below29 hop.1 hop.2 with rfl | rfl | rfl | rfl | rfl | rfl | rfl | rfl | rfl | rfl | rfl | rfl | rfl | rfl | rfl | rfl | rfl | rfl | rfl | rfl | rfl | rfl | rfl | rfl | rfl | rfl | rfl | rfl | rfl
  all_goals
    refine Tr.region rfl ?_
    refine cV rfl (oM rfl) ?_
    refine cV rfl (ok_index_box rfl rfl rfl rfl Tryz.underlying147 tS144 (by rfl) (by decide)) ?_
    refine cV rfl (ok_load_box_pure rfl rfl rfl Tryz.underlying144 rfl tS144 (Nat.le_of_ble_eq_true rfl) rfl trivial) ?_
    refine WL.cons0 rfl rfl (ok_store_box_agg rfl rfl rfl rfl rfl ((fun h => h)) tS144 (firmL_ok rfl) (lb rfl)) ?_
    refine WL.nil ?_
    refine Tr.ret ?_
    refine retC_ok (.inl rfl) (fun _ _ ho => ok_load_box_pure ho rfl rfl Tryz.underlying144 rfl tS144 (lb rfl) rfl trivial) ?_ no_post
    rfl
set_option maxRecDepth 8000 in
set_option maxHeartbeats 2000000 in
theorem sc_wLevel (op : Int) : SC Tryz.prog 123 [iInt op] [] (fun _ => False) (iInt (wLevel op)) [] := by
  refine SC.of Tryz.func123 rfl (lb rfl) fun F ρ w => ?_
  refine Tr.seq ?_
  refine Tr.region rfl ?_
  refine cV rfl (oA rfl) ?_
  refine WL.nil ?_
  refine Tr.seq ?_
  refine Tr.region rfl ?_
  refine cV rfl (oM rfl) ?_
  refine WL.cons rfl rfl rfl (ok_callq (sc_rowOf op) ent128 rfl rfl (Subs.refl _ _) rfl) ?_
  refine cV rfl (ok_field_pure rfl rfl Tryz.underlying144 rfl Tryz.underlying3 rfl rfl) ?_
  refine cV rfl (oA rfl) ?_
  refine WL.nil ?_
  refine Tr.ret ?_
  refine ret_ok rfl ?_ no_post
  rfl
section
variable {P : Program} {c : Cx} {R1 : Nat → Prop} {o : Oper} {fr : Fr} {hp : Hp} {σ : Heap'} {Q : Exit → Fr → Heap' → Prop}
theorem RepP.keepIt {own : Nat → Prop} {w w' : World} {b0 : Nat} {p : PV} {v : Value} (h : RepP own w p v) (hs : w.heap.size ≤ w'.heap.size) (h0 : ∀ off sp, w.cell? ⟨b0, off, sp⟩ = none)
    (hk : ∀ b, b ≠ b0 → w'.heap[b]? = w.heap[b]?) : RepP own w' p v := by
  have key : ∀ (b off : Nat) (x : Value), w.cell? ⟨b, off, none⟩ = some x → w'.cell? ⟨b, off, none⟩ = some x := by
    intro b off x hx
    by_cases e : b = b0
    · subst e; rw [h0] at hx; cases hx
    rw [← hx]; exact World.cell?_of_block (a := ⟨b, off, none⟩) (hk b e)
  induction h with
  | val v => exact .val v
  | seq els a cap b off u ha hb hl hm hc _ ih => exact .seq els a cap b off u ha (fun hne => ⟨(hb hne).1, Nat.lt_of_lt_of_le (hb hne).2 hs⟩) hl hm (fun i el hi j c hj => key _ _ _ (hc i el hi j c hj)) ih
  | agg cs vs u hl hv _ ih => exact .agg cs vs u hl hv ih
  | ept cs off b o u hb hc _ ih => exact .ept cs off b o u ⟨hb.1, Nat.lt_of_lt_of_le hb.2 hs⟩ (fun j c hj => key _ _ _ (hc j c hj)) ih
theorem RepI.mapP {F : Nat → Prop} {ρ : Loc} {w w' : World} {x : IV} {v : Value} (hk : ∀ p v, RepP (owned F ρ) w p v → RepP (owned F ρ) w' p v) (h : RepI F ρ σ w x v) : RepI F ρ σ w' x v := by
  induction h with
  | pv p v h => exact .pv p v (hk _ _ h)
  | ptr k off v h => exact .ptr k off v h
  | sl k len v h => exact .sl k len v h
  | rpt k len off v h => exact .rpt k len off v h
  | mp k v h => exact .mp k v h
  | agg cs vs u hl hv _ ih => exact .agg cs vs u hl hv ih
  | tup cs vs u hl hv _ ih => exact .tup cs vs u hl hv ih
  | fn f xs ys vs ws u t hl hv _ hl' hv' _ ih ih' => exact .fn f xs ys vs ws u t hl hv ih hl' hv' ih'
theorem RepO.mapP {F : Nat → Prop} {ρ : Loc} {w w' : World} {b cc : Nat} {o : HO} (hb : w'.heap[b]? = w.heap[b]?) (hk : ∀ p v, RepP (owned F ρ) w p v → RepP (owned F ρ) w' p v) (h : RepO F ρ σ w b cc o) : RepO F ρ σ w' b cc o := by
  cases h with
  | box cs e a u h hl hv hr => exact .box cs e a u (hb.trans h) hl hv fun j x hj => (hr j x hj).mapP hk
  | row s els a u h hs hl hm hw hv hr => exact .row s els a u (hb.trans h) hs hl hm hw hv fun i el hi j x hj => hk _ _ (hr i el hi j x hj)
  | map es a t u h hl hv hr => exact .map es a t u (hb.trans h) hl hv fun i k p hi => hk _ _ (hr i k p hi)
theorem stringIter_nocell {w : World} {b0 : Nat} {s : ByteArray} {k : Nat} (h : w.heap[b0]? = some (.stringIter s k)) : ∀ off sp, w.cell? ⟨b0, off, sp⟩ = none := by
  intro off sp
  simp [World.cell?, h]
/-- The letters' clock goes on: nothing else turns. -/
theorem All.iterSet {ρ : Loc} {w : World} {a : Act} {b0 k k' : Nat} {s : ByteArray} (h : All c ρ σ w fr a) (hit : w.heap[b0]? = some (.stringIter s k)) (hge : c.w.heap.size ≤ b0) (hun : ∀ j cc, ρ j ≠ some (b0, cc)) :
    All c ρ σ { w with heap := w.heap.setIfInBounds b0 (.stringIter s k') } fr a := by
  have hlt : b0 < w.heap.size := (Array.getElem?_eq_some_iff.1 hit).1
  have hoth : ∀ b, b ≠ b0 → (w.heap.setIfInBounds b0 (Obj.stringIter s k'))[b]? = w.heap[b]? := fun b hb => by simp [Ne.symm hb]
  have hP : ∀ p v, RepP (owned c.F ρ) w p v → RepP (owned c.F ρ) { w with heap := w.heap.setIfInBounds b0 (.stringIter s k') } p v := fun p v hp => hp.keepIt (by simp) (stringIter_nocell hit) hoth
  refine ⟨⟨h.rel.inj, h.rel.apart, fun b hb => by simpa using h.rel.old b hb, fun j b cc hj => ?_, h.rel.real⟩, fun t x hx => ?_, ?_, h.df, h.sz⟩
  · obtain ⟨o, h1, h2⟩ := h.rel.obj j b cc hj
    exact ⟨o, h1, h2.mapP (hoth b fun e => hun j cc (e ▸ hj)) hP⟩
  · obtain ⟨v, hv, hr⟩ := h.fr t x hx
    exact ⟨v, hv, hr.mapP hP⟩
  have t := h.tr
  exact { t with
    size := by simpa using t.size
    blk := fun b hb hall => (hoth b (by omega)).trans (t.blk b hb hall) }
/-- Where a walk begins anew. -/
theorem All.rebase {ρ : Loc} {w : World} {a : Act} (h : All c ρ σ w fr a) : All ⟨c.F, c.R, ρ, σ, w, c.n⟩ ρ σ w fr a := ⟨h.rel, h.fr, .refl _ _ _ _ _, h.df, h.sz⟩
theorem All.unbase {ρ ρ' : Loc} {σ' : Heap'} {w w' : World} {fr' : Fr} {a a' : Act} (h : All c ρ σ w fr a) (h' : All ⟨c.F, c.R, ρ, σ, w, c.n⟩ ρ' σ' w' fr' a') (hc : ∀ k, σ k = none → c.σ k = none) : All c ρ' σ' w' fr' a' :=
  ⟨h'.rel, h'.fr, h.tr.trans h'.tr (fun _ h => h) (fun k h1 _ => hc k h1), h'.df, h'.sz⟩
abbrev itv (b0 : Nat) : IV := .pv (.val (.pointer (some ⟨b0, 0, none⟩)))
theorem decode_pos (s : ByteArray) (i : Nat) : 1 ≤ (Utf8.decode s i).2 := by
  unfold Utf8.decode
  simp only
  repeat' split
  all_goals simp
def itPos (w : World) (b0 : Nat) : Nat := match w.heap[b0]? with
  | some (.stringIter _ k) => k
  | _ => 0
theorem Sub.cons {fr' : Fr} {d : Nat} {x : IV} (h : Sub σ fr fr') : Sub σ ((d, x) :: fr) ((d, x) :: fr') := by
  intro t y hy
  simp only [Fr.get] at hy ⊢
  cases hb : Nat.beq d t with
  | true => rw [hb] at hy; cases hy; exact ⟨_, rfl, fun _ _ _ _ h => h⟩
  | false => rw [hb] at hy; exact h t y hy
theorem Tr.strRange {id1 i2 bid : Nat} {ops1 ops2 : Array Oper} {rest : Code} {m g nx ex : Oper} {d0 d1 e1 e2 : Nat} {x0 : Operand} {ty : TypeId} {s : ByteArray}
    (h1 : ops1.toList = [m, g]) (hmo : m.op = .move x0) (hmd : m.dst = some d0) (hmg : m.guard = none) (hgo : g.op = .range ty (.tmp d0)) (hgd : g.dst = some d1) (hgg : g.guard = none)
    (hx0 : fr.ev x0 = some (iStr s)) (hty : P.underlying ty = some .string)
    (h2 : ops2.toList = [nx, ex]) (hno : nx.op = .next (.tmp d1) true) (hnd : nx.dst = some e1) (hng : nx.guard = none) (heo : ex.op = .extract (.tmp e1) 0) (hed : ex.dst = some e2) (heg : ex.guard = none)
    (hb0 : Nat.blt d0 c.n = true) (hb1 : Nat.blt d1 c.n = true) (hb2 : Nat.blt e1 c.n = true) (hb3 : Nat.blt e2 c.n = true)
    (hcσ : ∀ k, σ k = none → c.σ k = none)
    (I : Nat → Fr → Prop) (h0 : ∃ fr0, Sub σ ((d0, iStr s) :: fr) fr0 ∧ I 0 fr0)
    (hdone : ∀ b0 k fr', s.size ≤ k → I k fr' → Q .normal ((e2, iBool false) :: (e1, .tup [iBool false]) :: (d1, itv b0) :: fr') σ)
    (round : ∀ (ρ2 : Loc) (w2 : World) (b0 k : Nat) (fr' : Fr), k < s.size → I k fr' →
      Tr P ⟨c.F, c.R, ρ2, σ, w2, c.n⟩ rest ((e2, iBool true) :: (e1, .tup [iBool true, iInt k, .pv (.val (.int .i32 (Utf8.decode s k).1))]) :: (d1, itv b0) :: fr') σ (fun e fr1 σ1 => match e with
        | .normal => σ1 = σ ∧ ∃ fr'', Sub σ fr1 ((d1, itv b0) :: fr'') ∧ I (k + (Utf8.decode s k).2) fr''
        | .exit _ => False
        | e => Q e fr1 σ1)) :
    Tr P c (.seq (.region id1 ops1 false) (.block bid (.loop (.seq (.region i2 ops2 false) (.seq (.cond (.tmp e2) .skip (.exit bid)) rest))))) fr σ Q := by
  obtain ⟨fr0, hs0, hI0⟩ := h0
  intro ρ w a ha
  refine wp_seq (wp_region_list ?_)
  rw [h1]
  refine wpList_plain hmg fun K hK => ?_
  obtain ⟨v1, hr1, hv1⟩ := (ok_move (R1 := fun _ => True) hmo hx0) ρ w a ha
  unfold Oper.wp
  rw [hr1 w (.refl _ _ _ _), Oper.upon_value]
  refine hK _ _ ?_
  clear hK K
  have ha2 : All c ρ σ w ((d0, iStr s) :: fr) (a.put m.dst v1) := by
    have := ha.put (d := m.dst) hv1 (by rw [hmd]; intro t ht; cases ht; simpa using hb0)
    rwa [hmd] at this ⊢
  generalize a.put m.dst v1 = a2 at ha2 ⊢
  refine wpList_plain hgg fun K2 hK2 => ?_
  have hevs : a2.eval (.tmp d0) = .string s := ev_val ha2 (show Fr.ev ((d0, iStr s) :: fr) (.tmp d0) = _ by simp [Fr.ev, Fr.get])
  have hrun : (execOp a2.eval g).run P w = .ok (.value (.pointer (some ⟨w.heap.size, 0, none⟩))) (w.iter s 0) := by
    simp [execOp, hgo, hevs, Sem.run_bind, run_range_string w ty s hty]
  unfold Oper.wp
  rw [hrun, Oper.upon_value]
  refine hK2 _ _ ?_
  obtain ⟨ha3, _⟩ := ha2.push (.stringIter s 0)
  have hfresh := ha2.fresh
  have ha4 : All c ρ σ (w.iter s 0) ((d1, itv w.heap.size) :: (d0, iStr s) :: fr) (a2.put g.dst (.pointer (some ⟨w.heap.size, 0, none⟩))) := by
    have := ha3.put (d := g.dst) (mkVal (.pointer (some ⟨w.heap.size, 0, none⟩))) (by rw [hgd]; intro t ht; cases ht; simpa using hb1)
    rwa [hgd] at this ⊢
  have hge : c.w.heap.size ≤ w.heap.size := ha2.tr.size
  generalize hb : w.heap.size = b0 at *
  generalize a2.put g.dst (.pointer (some ⟨b0, 0, none⟩)) = a4 at ha4 ⊢
  show (Code.block _ _).wp P _ a4 (w.iter s 0)
  refine wp_block <| wp_loop (fun a' w' => ∃ k ρ' fr', All c ρ' σ w' ((d1, itv b0) :: fr') a' ∧ I k fr' ∧ w'.heap[b0]? = some (.stringIter s k) ∧ ∀ j cc, ρ' j ≠ some (b0, cc)) (fun _ w' => s.size - itPos w' b0) ⟨0, ρ, fr0, ha4.sub (hs0.cons), hI0, by rw [← hb]; exact World.iter_heap w s 0, fun j cc hj => by first | exact hfresh (.inr ⟨j, cc, hj⟩) | exact hfresh (by rw [hb]; exact .inr ⟨j, cc, hj⟩)⟩ ?_
  rintro a5 w5 ⟨k, ρ5, fr', ha5, hI, hit, hun⟩
  refine wp_seq (wp_region_list ?_)
  rw [h2]
  have hevp : a5.eval (.tmp d1) = .pointer (some ⟨b0, 0, none⟩) := ev_val ha5 (show Fr.ev ((d1, itv b0) :: fr') (.tmp d1) = _ by simp [Fr.ev, Fr.get])
  have hpos : itPos w5 b0 = k := by simp [itPos, hit]
  have hlt0 : b0 < w5.heap.size := (Array.getElem?_eq_some_iff.1 hit).1
  by_cases hk : k < s.size
  · have hrun5 : (execOp a5.eval nx).run P w5 = .ok (.value (.tuple #[.bool true, .int .i64 k, .int .i32 (Utf8.decode s k).1])) { w5 with heap := w5.heap.setIfInBounds b0 (.stringIter s (k + (Utf8.decode s k).2)) } := by
      simp [execOp, hno, hevp, Instr.next, getObj, setObj, Sem.run_bind, Sem.run, hit, hk, goInt, Result.andThen]
    refine wpList_plain hng fun K3 hK3 => ?_
    unfold Oper.wp
    rw [hrun5, Oper.upon_value]
    refine hK3 _ _ ?_
    have ha6 := ha5.iterSet (k' := k + (Utf8.decode s k).2) hit (by rw [← hb] at hge ⊢; exact hge) hun
    have htup : RepI c.F ρ5 σ { w5 with heap := w5.heap.setIfInBounds b0 (.stringIter s (k + (Utf8.decode s k).2)) } (.tup [iBool true, iInt k, .pv (.val (.int .i32 (Utf8.decode s k).1))]) (.tuple #[.bool true, .int .i64 k, .int .i32 (Utf8.decode s k).1]) := tup_three (mkVal _) (mkVal _) (mkVal _)
    have ha7 : All c ρ5 σ { w5 with heap := w5.heap.setIfInBounds b0 (.stringIter s (k + (Utf8.decode s k).2)) } ((e1, .tup [iBool true, iInt k, .pv (.val (.int .i32 (Utf8.decode s k).1))]) :: (d1, itv b0) :: fr') (a5.put nx.dst (.tuple #[.bool true, .int .i64 k, .int .i32 (Utf8.decode s k).1])) := by
      have := ha6.put (d := nx.dst) htup (by rw [hnd]; intro t ht; cases ht; simpa using hb2)
      rwa [hnd] at this ⊢
    generalize a5.put nx.dst (.tuple #[.bool true, .int .i64 k, .int .i32 (Utf8.decode s k).1]) = a7 at ha7 ⊢
    generalize hw7 : ({ w5 with heap := w5.heap.setIfInBounds b0 (.stringIter s (k + (Utf8.decode s k).2)) } : World) = w7 at ha7 ⊢
    have hit7 : w7.heap[b0]? = some (.stringIter s (k + (Utf8.decode s k).2)) := by rw [← hw7]; simp [hlt0]
    refine wpList_plain heg fun K4 hK4 => ?_
    obtain ⟨v8, hr8, hv8⟩ := (ok_extract (R1 := fun _ => True) (vs := [iBool true, iInt k, .pv (.val (.int .i32 (Utf8.decode s k).1))]) (z := iBool true) heo (show Fr.ev ((e1, _) :: _) (.tmp e1) = _ by simp [Fr.ev, Fr.get]) rfl) ρ5 w7 a7 ha7
    unfold Oper.wp
    rw [hr8 w7 (.refl _ _ _ _), Oper.upon_value]
    refine hK4 _ _ ?_
    have ha8 : All c ρ5 σ w7 ((e2, iBool true) :: (e1, .tup [iBool true, iInt k, .pv (.val (.int .i32 (Utf8.decode s k).1))]) :: (d1, itv b0) :: fr') (a7.put ex.dst v8) := by
      have := ha7.put (d := ex.dst) hv8 (by rw [hed]; intro t ht; cases ht; simpa using hb3)
      rwa [hed] at this ⊢
    generalize a7.put ex.dst v8 = a8 at ha8 ⊢
    show (Code.seq _ _).wp P _ a8 w7
    refine wp_seq <| wp_cond (t := true) (ev_val ha8 (show Fr.ev ((e2, iBool true) :: _) (.tmp e2) = _ by simp [Fr.ev, Fr.get])) ?_
    rw [if_pos rfl]
    refine wp_skip ?_
    show rest.wp P _ a8 w7
    refine wp_mono (round ρ5 w7 b0 k fr' hk hI ρ5 w7 a8 ha8.rebase) ?_
    rintro e a9 w9 ⟨ρ9, σ9, fr9, ha9, hq⟩
    have hlt7 : b0 < w7.heap.size := (Array.getElem?_eq_some_iff.1 hit7).1
    cases e with
    | normal =>
      obtain ⟨rfl, fr2, hsub, hI2⟩ := hq
      have hit9 : w9.heap[b0]? = some (.stringIter s (k + (Utf8.decode s k).2)) := (ha9.tr.blk b0 hlt7 fun j cc hj => absurd hj (hun j cc)).trans hit7
      refine ⟨⟨_, ρ9, fr2, (ha8.unbase ha9 hcσ).sub hsub, hI2, hit9, fun j cc hj => hun j cc (ha9.tr.own j b0 cc hj hlt7)⟩, ?_⟩
      have := decode_pos s k
      rw [hpos]
      simp only [itPos, hit9]
      omega
    | exit id => exact hq.elim
    | _ => exact ⟨ρ9, σ9, fr9, ha8.unbase ha9 hcσ, hq⟩
  have hrun5 : (execOp a5.eval nx).run P w5 = .ok (.value (.tuple #[.bool false])) w5 := by
    simp [execOp, hno, hevp, Instr.next, getObj, Sem.run_bind, Sem.run, hit, hk, Result.andThen]
  refine wpList_plain hng fun K3 hK3 => ?_
  unfold Oper.wp
  rw [hrun5, Oper.upon_value]
  refine hK3 _ _ ?_
  have htup : RepI c.F ρ5 σ w5 (.tup [iBool false]) (.tuple #[.bool false]) := .tup _ _ (fun _ => .bool false) rfl (fun j x hj => by
    match j, hj with
    | 0, _ => rfl
    | j + 1, hj => simp at hj) fun j x hj => by
    match j, hj with
    | 0, hj => cases hj; exact mkVal _
    | j + 1, hj => simp at hj
  have ha7 : All c ρ5 σ w5 ((e1, .tup [iBool false]) :: (d1, itv b0) :: fr') (a5.put nx.dst (.tuple #[.bool false])) := by
    have := ha5.put (d := nx.dst) htup (by rw [hnd]; intro t ht; cases ht; simpa using hb2)
    rwa [hnd] at this ⊢
  generalize a5.put nx.dst (.tuple #[.bool false]) = a7 at ha7 ⊢
  refine wpList_plain heg fun K4 hK4 => ?_
  obtain ⟨v8, hr8, hv8⟩ := (ok_extract (R1 := fun _ => True) (vs := [iBool false]) (z := iBool false) heo (show Fr.ev ((e1, _) :: _) (.tmp e1) = _ by simp [Fr.ev, Fr.get]) rfl) ρ5 w5 a7 ha7
  unfold Oper.wp
  rw [hr8 w5 (.refl _ _ _ _), Oper.upon_value]
  refine hK4 _ _ ?_
  have ha8 : All c ρ5 σ w5 ((e2, iBool false) :: (e1, .tup [iBool false]) :: (d1, itv b0) :: fr') (a7.put ex.dst v8) := by
    have := ha7.put (d := ex.dst) hv8 (by rw [hed]; intro t ht; cases ht; simpa using hb3)
    rwa [hed] at this ⊢
  generalize a7.put ex.dst v8 = a8 at ha8 ⊢
  show (Code.seq _ _).wp P _ a8 w5
  refine wp_seq <| wp_cond (t := false) (ev_val ha8 (show Fr.ev ((e2, iBool false) :: _) (.tmp e2) = _ by simp [Fr.ev, Fr.get])) ?_
  rw [if_neg (by simp)]
  refine wp_exit ?_
  show (if bid = bid then _ else _)
  rw [if_pos rfl]
  exact ⟨ρ5, σ, _, ha8, hdone b0 k fr' (by omega) hI⟩
end
end Go.Proofs.YtfaeemilgahcpaaGreat
