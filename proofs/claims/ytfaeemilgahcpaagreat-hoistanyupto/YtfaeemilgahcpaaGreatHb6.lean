/- Whether any unit is refused by hoist is what the document says; else what comes out may be, and has its arrays and flow heads. Conditions: none beyond those of the given statement. -/
import Derived.Test.YtfaeemilgahcpaaGreatHb5
set_option linter.unusedSimpArgs false
set_option linter.unusedVariables false
namespace Go.Proofs.YtfaeemilgahcpaaGreat
open Go
set_option maxRecDepth 8000 in
set_option maxHeartbeats 2000000 in
theorem sc_mFlag (b : Bool) : SC Tryz.prog 104 [iBool b] [] (fun _ => False) (iInt (mFlag b)) [] := by
  refine SC.of Tryz.func104 rfl (lb rfl) fun F ρ w => ?_
  refine Tr.seq <| Tr.region rfl <| cV rfl (oA rfl) <| WL.nil <| Tr.seq <| Tr.seq <| Tr.region rfl <| cV rfl (oM rfl) <| WL.nil ?_
  refine Tr.cond rfl (fun hc3 => ?_) (fun hc3 => ?_)
  · refine Tr.seq <| Tr.region rfl <| cV rfl (oA rfl) <| WL.nil <| Tr.ret ?_
    refine ret_ok rfl ?_ no_post
    cases b <;> first | rfl | (simp_all; done)
  refine Tr.skip <| Tr.seq <| Tr.region rfl <| cV rfl (oA rfl) <| WL.nil <| Tr.ret ?_
  refine ret_ok rfl ?_ no_post
  cases b <;> first | rfl | (simp_all; done)
set_option maxRecDepth 8000 in
set_option maxHeartbeats 2000000 in
theorem sc_mOne (op a : Int) : SC Tryz.prog 87 [iInt op, iInt a] [] (fun _ => False) (iInt (mOne op a)) [] := by
  refine SC.of Tryz.func87 rfl (lb rfl) fun F ρ w => ?_
  refine Tr.seq <| Tr.region rfl <| cV rfl (oA rfl) <| WL.nil <| Tr.seq <| Tr.seq <| Tr.region rfl <| cV rfl (oM rfl) <| WL.nil <| Tr.block <| Tr.seq <| Tr.region rfl ?_
  refine cV rfl (oB rfl rfl rfl) <| cV rfl (oA rfl) <| WL.nil ?_
  refine Tr.cond rfl (fun hc6 => ?_) (fun hc6 => ?_)
  · refine Tr.seq <| Tr.region rfl <| cV rfl (oM rfl) <| cV rfl (oB rfl rfl rfl) <| cV rfl (oA rfl) <| WL.nil <| Tr.ret ?_
    refine ret_ok rfl ?_ no_post
    (simp only [mOne, *, if_true, Bool.false_eq_true, if_false, Bool.or_true, Bool.true_or, Bool.or_false] <;> rfl)
  refine Tr.seq <| Tr.region rfl <| cV rfl (oB rfl rfl rfl) <| cV rfl (oA rfl) <| WL.nil ?_
  refine Tr.cond rfl (fun hc10 => ?_) (fun hc10 => ?_)
  · refine Tr.seq <| Tr.region rfl <| cV rfl (oM rfl) <| cV rfl (oB rfl rfl rfl) <| cV rfl (oA rfl) <| WL.nil <| Tr.ret ?_
    refine ret_ok rfl ?_ no_post
    (simp only [mOne, *, if_true, Bool.false_eq_true, if_false, Bool.or_true, Bool.true_or, Bool.or_false] <;> rfl)
  refine Tr.seq <| Tr.region rfl <| cV rfl (oB rfl rfl rfl) <| cV rfl (oA rfl) <| WL.nil ?_
  refine Tr.cond rfl (fun hc14 => ?_) (fun hc14 => ?_)
  · refine Tr.seq <| Tr.region rfl <| cV rfl (oM rfl) <| cV rfl (oB rfl rfl rfl) <| WL.cons rfl rfl rfl (ok_callq (sc_mFlag _) ent104 rfl rfl (Subs.refl _ _) rfl) <| cV rfl (oA rfl) <| WL.nil <| Tr.ret ?_
    refine ret_ok rfl ?_ no_post
    (simp only [mOne, *, if_true, Bool.false_eq_true, if_false, Bool.or_true, Bool.true_or, Bool.or_false] <;> rfl)
  refine Tr.seq <| Tr.region rfl <| cV rfl (oB rfl rfl rfl) <| cV rfl (oA rfl) <| WL.nil ?_
  refine Tr.cond rfl (fun hc19 => ?_) (fun hc19 => ?_)
  · refine Tr.seq <| Tr.region rfl <| cV rfl (oM rfl) <| cV rfl (oB rfl rfl rfl) <| cV rfl (oA rfl) <| WL.nil <| Tr.ret ?_
    refine ret_ok rfl ?_ no_post
    (simp only [mOne, *, if_true, Bool.false_eq_true, if_false, Bool.or_true, Bool.true_or, Bool.or_false] <;> rfl)
  refine Tr.seq <| Tr.region rfl <| cV rfl (oB rfl rfl rfl) <| cV rfl (oA rfl) <| WL.nil ?_
  refine Tr.cond rfl (fun hc23 => ?_) (fun hc23 => ?_)
  · refine Tr.seq <| Tr.region rfl <| cV rfl (oM rfl) <| cV rfl (oB rfl rfl rfl) <| cV rfl (oA rfl) <| WL.nil <| Tr.ret ?_
    refine ret_ok rfl ?_ no_post
    (simp only [mOne, *, if_true, Bool.false_eq_true, if_false, Bool.or_true, Bool.true_or, Bool.or_false] <;> rfl)
  refine Tr.seq <| Tr.region rfl <| cV rfl (oB rfl rfl rfl) <| cV rfl (oA rfl) <| WL.nil ?_
  refine Tr.cond rfl (fun hc27 => ?_) (fun hc27 => ?_)
  · refine Tr.seq <| Tr.region rfl <| cV rfl (oM rfl) <| cV rfl (oB rfl rfl rfl) <| cV rfl (oA rfl) <| WL.nil <| Tr.ret ?_
    refine ret_ok rfl ?_ no_post
    (simp only [mOne, *, if_true, Bool.false_eq_true, if_false, Bool.or_true, Bool.true_or, Bool.or_false] <;> rfl)
  refine Tr.seq <| Tr.region rfl <| cV rfl (oB rfl rfl rfl) <| cV rfl (oA rfl) <| WL.nil ?_
  refine Tr.cond rfl (fun hc31 => ?_) (fun hc31 => ?_)
  · refine Tr.seq <| Tr.region rfl <| cV rfl (oM rfl) <| cV rfl (oB rfl rfl rfl) <| cV rfl (oB rfl rfl rfl) <| cV rfl (oB rfl rfl rfl) <| cV rfl (oA rfl) <| WL.nil <| Tr.ret ?_
    refine ret_ok rfl ?_ no_post
    (simp only [mOne, *, if_true, Bool.false_eq_true, if_false, Bool.or_true, Bool.true_or, Bool.or_false] <;> rfl)
  refine Tr.seq <| Tr.region rfl <| cV rfl (oB rfl rfl rfl) <| cV rfl (oA rfl) <| WL.nil ?_
  refine Tr.cond rfl (fun hc37 => ?_) (fun hc37 => ?_)
  · refine Tr.seq <| Tr.region rfl <| cV rfl (oM rfl) <| cV rfl (oB rfl rfl rfl) <| cV rfl (oB rfl rfl rfl) <| cV rfl (oB rfl rfl rfl) <| cV rfl (oA rfl) <| WL.nil <| Tr.ret ?_
    refine ret_ok rfl ?_ no_post
    (simp only [mOne, *, if_true, Bool.false_eq_true, if_false, Bool.or_true, Bool.true_or, Bool.or_false] <;> rfl)
  refine Tr.seq <| Tr.region rfl <| cV rfl (oB rfl rfl rfl) <| cV rfl (oA rfl) <| WL.nil ?_
  refine Tr.cond rfl (fun hc43 => ?_) (fun hc43 => ?_)
  · refine Tr.seq <| Tr.region rfl <| cV rfl (oM rfl) <| cV rfl (oB rfl rfl rfl) <| cV rfl (oB rfl rfl rfl) <| cV rfl (oB rfl rfl rfl) <| cV rfl (oA rfl) <| WL.nil <| Tr.ret ?_
    refine ret_ok rfl ?_ no_post
    (simp only [mOne, *, if_true, Bool.false_eq_true, if_false, Bool.or_true, Bool.true_or, Bool.or_false] <;> rfl)
  refine Tr.skip <| Tr.seq <| Tr.region rfl <| cV rfl (oA rfl) <| WL.nil <| Tr.ret ?_
  refine ret_ok rfl ?_ no_post
  (simp only [mOne, *, if_true, Bool.false_eq_true, if_false, Bool.or_true, Bool.true_or, Bool.or_false] <;> rfl)
set_option maxRecDepth 8000 in
set_option maxHeartbeats 2000000 in
theorem sc_mTwo (op a b : Int) : SC Tryz.prog 88 [iInt op, iInt a, iInt b] [] (fun _ => False) (.tup [iInt (mTwo op a b).1, iBool (mTwo op a b).2]) [] := by
  refine SC.of Tryz.func88 rfl (lb rfl) fun F ρ w => ?_
  refine Tr.seq <| Tr.region rfl <| cV rfl (oA rfl) <| cV rfl (oA rfl) <| WL.nil <| Tr.seq <| Tr.seq <| Tr.region rfl <| cV rfl (oM rfl) <| WL.nil <| Tr.block <| Tr.seq ?_
  refine Tr.region rfl <| cV rfl (oB rfl rfl rfl) <| cV rfl (oA rfl) <| WL.nil ?_
  refine Tr.cond rfl (fun hc9 => ?_) (fun hc9 => ?_)
  · refine Tr.seq <| Tr.region rfl <| cV rfl (oM rfl) <| cV rfl (oM rfl) <| cV rfl (oB rfl rfl rfl) <| cV rfl (oA rfl) <| cV rfl (oA rfl) <| WL.nil <| Tr.ret ?_
    refine ret_ok rfl ?_ no_post
    (simp only [mTwo, *, if_true, Bool.false_eq_true, if_false, Bool.or_true, Bool.true_or, Bool.or_false] <;> rfl)
  refine Tr.seq <| Tr.region rfl <| cV rfl (oB rfl rfl rfl) <| cV rfl (oA rfl) <| WL.nil ?_
  refine Tr.cond rfl (fun hc14 => ?_) (fun hc14 => ?_)
  · refine Tr.seq <| Tr.region rfl <| cV rfl (oM rfl) <| cV rfl (oM rfl) <| cV rfl (oB rfl rfl rfl) <| cV rfl (oA rfl) <| cV rfl (oA rfl) <| WL.nil <| Tr.ret ?_
    refine ret_ok rfl ?_ no_post
    (simp only [mTwo, *, if_true, Bool.false_eq_true, if_false, Bool.or_true, Bool.true_or, Bool.or_false] <;> rfl)
  refine Tr.seq <| Tr.region rfl <| cV rfl (oB rfl rfl rfl) <| cV rfl (oA rfl) <| WL.nil ?_
  refine Tr.cond rfl (fun hc19 => ?_) (fun hc19 => ?_)
  · refine Tr.seq <| Tr.region rfl <| cV rfl (oM rfl) <| cV rfl (oM rfl) <| cV rfl (oB rfl rfl rfl) <| cV rfl (oA rfl) <| cV rfl (oA rfl) <| WL.nil <| Tr.ret ?_
    refine ret_ok rfl ?_ no_post
    (simp only [mTwo, *, if_true, Bool.false_eq_true, if_false, Bool.or_true, Bool.true_or, Bool.or_false] <;> rfl)
  refine Tr.seq <| Tr.seq <| Tr.region rfl <| cV rfl (oB rfl rfl rfl) <| cV rfl (oA rfl) <| WL.nil ?_
  refine Tr.cond rfl (fun hc24 => ?_) (fun hc24 => ?_)
  · refine Tr.skip ?_
    refine Tr.cond rfl (fun hc24 => ?_) (fun hc24 => ?_)
    · refine Tr.seq <| Tr.seq <| Tr.region rfl <| cV rfl (oM rfl) <| cV rfl (oB rfl rfl rfl) <| WL.nil ?_
      refine Tr.cond rfl (fun hc28 => ?_) (fun hc28 => ?_)
      · refine Tr.seq <| Tr.region rfl <| cV rfl (oA rfl) <| cV rfl (oA rfl) <| WL.nil <| Tr.ret ?_
        refine ret_ok rfl ?_ no_post
        (simp only [mTwo, *, if_true, Bool.false_eq_true, if_false, Bool.or_true, Bool.true_or, Bool.or_false] <;> rfl)
      refine Tr.skip <| Tr.seq <| Tr.seq <| Tr.region rfl <| cV rfl (oM rfl) <| cV rfl (oB rfl rfl rfl) <| WL.nil ?_
      refine Tr.cond rfl (fun hc30 => ?_) (fun hc30 => ?_)
      · refine Tr.seq <| Tr.region rfl <| cV rfl (oM rfl) <| cV rfl (oM rfl) <| cV rfl (oB rfl rfl (show intBin .quo .i64 a b = some (.int .i64 (w64 (a.tdiv b))) by simp [intBin, w64, show ¬ b = 0 by simpa using hc28])) <| cV rfl (oA rfl) <| cV rfl (oA rfl) <| WL.nil <| Tr.ret ?_
        refine ret_ok rfl ?_ no_post
        (simp only [mTwo, *, if_true, Bool.false_eq_true, if_false, Bool.or_true, Bool.true_or, Bool.or_false] <;> rfl)
      refine Tr.skip <| Tr.seq <| Tr.region rfl <| cV rfl (oM rfl) <| cV rfl (oM rfl) <| cV rfl (oB rfl rfl (show intBin .rem .i64 a b = some (.int .i64 (a.tmod b)) by simp [intBin, show ¬ b = 0 by simpa using hc28])) <| cV rfl (oA rfl) <| cV rfl (oA rfl) <| WL.nil <| Tr.ret ?_
      refine ret_ok rfl ?_ no_post
      (exfalso; simp_all; done)
    refine Tr.seq <| Tr.region rfl <| cV rfl (oB rfl rfl rfl) <| cV rfl (oA rfl) <| WL.nil ?_
    refine Tr.cond rfl (fun hc37 => ?_) (fun hc37 => ?_)
    · refine Tr.seq <| Tr.region rfl <| cV rfl (oM rfl) <| cV rfl (oM rfl) <| cV rfl (oB rfl rfl rfl) <| cV rfl (oA rfl) <| cV rfl (oA rfl) <| WL.nil <| Tr.ret ?_
      refine ret_ok rfl ?_ no_post
      (exfalso; simp_all; done)
    refine Tr.seq <| Tr.region rfl <| cV rfl (oB rfl rfl rfl) <| cV rfl (oA rfl) <| WL.nil ?_
    refine Tr.cond rfl (fun hc42 => ?_) (fun hc42 => ?_)
    · refine Tr.seq <| Tr.region rfl <| cV rfl (oM rfl) <| cV rfl (oM rfl) <| cV rfl (oB rfl rfl rfl) <| cV rfl (oA rfl) <| cV rfl (oA rfl) <| WL.nil <| Tr.ret ?_
      refine ret_ok rfl ?_ no_post
      (exfalso; simp_all; done)
    refine Tr.seq <| Tr.region rfl <| cV rfl (oB rfl rfl rfl) <| cV rfl (oA rfl) <| WL.nil ?_
    refine Tr.cond rfl (fun hc47 => ?_) (fun hc47 => ?_)
    · refine Tr.seq <| Tr.region rfl <| cV rfl (oM rfl) <| cV rfl (oM rfl) <| cV rfl (oB rfl rfl rfl) <| cV rfl (oA rfl) <| cV rfl (oA rfl) <| WL.nil <| Tr.ret ?_
      refine ret_ok rfl ?_ no_post
      (exfalso; simp_all; done)
    refine Tr.seq <| Tr.region rfl <| cV rfl (oB rfl rfl rfl) <| cV rfl (oA rfl) <| WL.nil ?_
    refine Tr.cond rfl (fun hc52 => ?_) (fun hc52 => ?_)
    · refine Tr.seq <| Tr.region rfl <| cV rfl (oM rfl) <| cV rfl (oM rfl) <| cV rfl (oB rfl rfl rfl) <| cV rfl (ok_shl rfl rfl rfl (and63 b)) <| cV rfl (oA rfl) <| cV rfl (oA rfl) <| WL.nil <| Tr.ret ?_
      refine ret_ok rfl ?_ no_post
      (exfalso; simp_all; done)
    refine Tr.seq <| Tr.region rfl <| cV rfl (oB rfl rfl rfl) <| cV rfl (oA rfl) <| WL.nil ?_
    refine Tr.cond rfl (fun hc58 => ?_) (fun hc58 => ?_)
    · refine Tr.seq <| Tr.region rfl <| cV rfl (oM rfl) <| cV rfl (oM rfl) <| cV rfl (oB rfl rfl rfl) <| cV rfl (ok_shr rfl rfl rfl (and63 b)) <| cV rfl (oA rfl) <| cV rfl (oA rfl) <| WL.nil <| Tr.ret ?_
      refine ret_ok rfl ?_ no_post
      (exfalso; simp_all; done)
    refine Tr.seq <| Tr.region rfl <| cV rfl (oB rfl rfl rfl) <| cV rfl (oA rfl) <| WL.nil ?_
    refine Tr.cond rfl (fun hc64 => ?_) (fun hc64 => ?_)
    · refine Tr.seq <| Tr.region rfl <| cV rfl (oM rfl) <| cV rfl (ok_conv_int rfl rfl ⟨_, Tryz.underlying3⟩ Tryz.underlying128) <| cV rfl (oM rfl) <| cV rfl (oB rfl rfl rfl) <| cV rfl (ok_shr rfl rfl rfl (and63 b)) <| cV rfl (ok_conv_int rfl rfl ⟨_, Tryz.underlying128⟩ Tryz.underlying3) <| cV rfl (oA rfl) <| cV rfl (oA rfl) <| WL.nil <| Tr.ret ?_
      refine ret_ok rfl ?_ no_post
      (exfalso; simp_all; done)
    refine Tr.seq <| Tr.region rfl <| cV rfl (oB rfl rfl rfl) <| cV rfl (oA rfl) <| WL.nil ?_
    refine Tr.cond rfl (fun hc72 => ?_) (fun hc72 => ?_)
    · refine Tr.seq <| Tr.region rfl <| cV rfl (oM rfl) <| cV rfl (oM rfl) <| cV rfl (oB rfl rfl rfl) <| WL.cons rfl rfl rfl (ok_callq (sc_mFlag _) ent104 rfl rfl (Subs.refl _ _) rfl) <| cV rfl (oA rfl) <| cV rfl (oA rfl) <| WL.nil <| Tr.ret ?_
      refine ret_ok rfl ?_ no_post
      (exfalso; simp_all; done)
    refine Tr.seq <| Tr.region rfl <| cV rfl (oB rfl rfl rfl) <| cV rfl (oA rfl) <| WL.nil ?_
    refine Tr.cond rfl (fun hc78 => ?_) (fun hc78 => ?_)
    · refine Tr.seq <| Tr.region rfl <| cV rfl (oM rfl) <| cV rfl (oM rfl) <| cV rfl (oB rfl rfl rfl) <| WL.cons rfl rfl rfl (ok_callq (sc_mFlag _) ent104 rfl rfl (Subs.refl _ _) rfl) <| cV rfl (oA rfl) <| cV rfl (oA rfl) <| WL.nil <| Tr.ret ?_
      refine ret_ok rfl ?_ no_post
      (exfalso; simp_all; done)
    refine Tr.seq <| Tr.region rfl <| cV rfl (oB rfl rfl rfl) <| cV rfl (oA rfl) <| WL.nil ?_
    refine Tr.cond rfl (fun hc84 => ?_) (fun hc84 => ?_)
    · refine Tr.seq <| Tr.region rfl <| cV rfl (oM rfl) <| cV rfl (oM rfl) <| cV rfl (oB rfl rfl rfl) <| WL.cons rfl rfl rfl (ok_callq (sc_mFlag _) ent104 rfl rfl (Subs.refl _ _) rfl) <| cV rfl (oA rfl) <| cV rfl (oA rfl) <| WL.nil <| Tr.ret ?_
      refine ret_ok rfl ?_ no_post
      (exfalso; simp_all; done)
    refine Tr.seq <| Tr.region rfl <| cV rfl (oB rfl rfl rfl) <| cV rfl (oA rfl) <| WL.nil ?_
    refine Tr.cond rfl (fun hc90 => ?_) (fun hc90 => ?_)
    · refine Tr.seq <| Tr.region rfl <| cV rfl (oM rfl) <| cV rfl (oM rfl) <| cV rfl (oB rfl rfl rfl) <| WL.cons rfl rfl rfl (ok_callq (sc_mFlag _) ent104 rfl rfl (Subs.refl _ _) rfl) <| cV rfl (oA rfl) <| cV rfl (oA rfl) <| WL.nil <| Tr.ret ?_
      refine ret_ok rfl ?_ no_post
      (exfalso; simp_all; done)
    refine Tr.seq <| Tr.region rfl <| cV rfl (oB rfl rfl rfl) <| cV rfl (oA rfl) <| WL.nil ?_
    refine Tr.cond rfl (fun hc96 => ?_) (fun hc96 => ?_)
    · refine Tr.seq <| Tr.region rfl <| cV rfl (oM rfl) <| cV rfl (oM rfl) <| cV rfl (oB rfl rfl rfl) <| WL.cons rfl rfl rfl (ok_callq (sc_mFlag _) ent104 rfl rfl (Subs.refl _ _) rfl) <| cV rfl (oA rfl) <| cV rfl (oA rfl) <| WL.nil <| Tr.ret ?_
      refine ret_ok rfl ?_ no_post
      (exfalso; simp_all; done)
    refine Tr.seq <| Tr.region rfl <| cV rfl (oB rfl rfl rfl) <| cV rfl (oA rfl) <| WL.nil ?_
    refine Tr.cond rfl (fun hc102 => ?_) (fun hc102 => ?_)
    · refine Tr.seq <| Tr.region rfl <| cV rfl (oM rfl) <| cV rfl (oM rfl) <| cV rfl (oB rfl rfl rfl) <| WL.cons rfl rfl rfl (ok_callq (sc_mFlag _) ent104 rfl rfl (Subs.refl _ _) rfl) <| cV rfl (oA rfl) <| cV rfl (oA rfl) <| WL.nil <| Tr.ret ?_
      refine ret_ok rfl ?_ no_post
      (exfalso; simp_all; done)
    refine Tr.skip <| Tr.seq <| Tr.region rfl <| cV rfl (oA rfl) <| cV rfl (oA rfl) <| WL.nil <| Tr.ret ?_
    refine ret_ok rfl ?_ no_post
    (exfalso; simp_all; done)
  refine Tr.region rfl <| cV rfl (oB rfl rfl rfl) <| cV rfl (oA rfl) <| WL.nil ?_
  refine Tr.cond rfl (fun hc24 => ?_) (fun hc24 => ?_)
  · refine Tr.seq <| Tr.seq <| Tr.region rfl <| cV rfl (oM rfl) <| cV rfl (oB rfl rfl rfl) <| WL.nil ?_
    refine Tr.cond rfl (fun hc28 => ?_) (fun hc28 => ?_)
    · refine Tr.seq <| Tr.region rfl <| cV rfl (oA rfl) <| cV rfl (oA rfl) <| WL.nil <| Tr.ret ?_
      refine ret_ok rfl ?_ no_post
      (simp only [mTwo, *, if_true, Bool.false_eq_true, if_false, Bool.or_true, Bool.true_or, Bool.or_false] <;> rfl)
    refine Tr.skip <| Tr.seq <| Tr.seq <| Tr.region rfl <| cV rfl (oM rfl) <| cV rfl (oB rfl rfl rfl) <| WL.nil ?_
    refine Tr.cond rfl (fun hc30 => ?_) (fun hc30 => ?_)
    · refine Tr.seq <| Tr.region rfl <| cV rfl (oM rfl) <| cV rfl (oM rfl) <| cV rfl (oB rfl rfl (show intBin .quo .i64 a b = some (.int .i64 (w64 (a.tdiv b))) by simp [intBin, w64, show ¬ b = 0 by simpa using hc28])) <| cV rfl (oA rfl) <| cV rfl (oA rfl) <| WL.nil <| Tr.ret ?_
      refine ret_ok rfl ?_ no_post
      (exfalso; simp_all; done)
    refine Tr.skip <| Tr.seq <| Tr.region rfl <| cV rfl (oM rfl) <| cV rfl (oM rfl) <| cV rfl (oB rfl rfl (show intBin .rem .i64 a b = some (.int .i64 (a.tmod b)) by simp [intBin, show ¬ b = 0 by simpa using hc28])) <| cV rfl (oA rfl) <| cV rfl (oA rfl) <| WL.nil <| Tr.ret ?_
    refine ret_ok rfl ?_ no_post
    (simp only [mTwo, *, if_true, Bool.false_eq_true, if_false, Bool.or_true, Bool.true_or, Bool.or_false] <;> rfl)
  refine Tr.seq <| Tr.region rfl <| cV rfl (oB rfl rfl rfl) <| cV rfl (oA rfl) <| WL.nil ?_
  refine Tr.cond rfl (fun hc37 => ?_) (fun hc37 => ?_)
  · refine Tr.seq <| Tr.region rfl <| cV rfl (oM rfl) <| cV rfl (oM rfl) <| cV rfl (oB rfl rfl rfl) <| cV rfl (oA rfl) <| cV rfl (oA rfl) <| WL.nil <| Tr.ret ?_
    refine ret_ok rfl ?_ no_post
    (simp only [mTwo, *, if_true, Bool.false_eq_true, if_false, Bool.or_true, Bool.true_or, Bool.or_false] <;> rfl)
  refine Tr.seq <| Tr.region rfl <| cV rfl (oB rfl rfl rfl) <| cV rfl (oA rfl) <| WL.nil ?_
  refine Tr.cond rfl (fun hc42 => ?_) (fun hc42 => ?_)
  · refine Tr.seq <| Tr.region rfl <| cV rfl (oM rfl) <| cV rfl (oM rfl) <| cV rfl (oB rfl rfl rfl) <| cV rfl (oA rfl) <| cV rfl (oA rfl) <| WL.nil <| Tr.ret ?_
    refine ret_ok rfl ?_ no_post
    (simp only [mTwo, *, if_true, Bool.false_eq_true, if_false, Bool.or_true, Bool.true_or, Bool.or_false] <;> rfl)
  refine Tr.seq <| Tr.region rfl <| cV rfl (oB rfl rfl rfl) <| cV rfl (oA rfl) <| WL.nil ?_
  refine Tr.cond rfl (fun hc47 => ?_) (fun hc47 => ?_)
  · refine Tr.seq <| Tr.region rfl <| cV rfl (oM rfl) <| cV rfl (oM rfl) <| cV rfl (oB rfl rfl rfl) <| cV rfl (oA rfl) <| cV rfl (oA rfl) <| WL.nil <| Tr.ret ?_
    refine ret_ok rfl ?_ no_post
    (simp only [mTwo, *, if_true, Bool.false_eq_true, if_false, Bool.or_true, Bool.true_or, Bool.or_false] <;> rfl)
  refine Tr.seq <| Tr.region rfl <| cV rfl (oB rfl rfl rfl) <| cV rfl (oA rfl) <| WL.nil ?_
  refine Tr.cond rfl (fun hc52 => ?_) (fun hc52 => ?_)
  · refine Tr.seq <| Tr.region rfl <| cV rfl (oM rfl) <| cV rfl (oM rfl) <| cV rfl (oB rfl rfl rfl) <| cV rfl (ok_shl rfl rfl rfl (and63 b)) <| cV rfl (oA rfl) <| cV rfl (oA rfl) <| WL.nil <| Tr.ret ?_
    refine ret_ok rfl ?_ no_post
    (simp only [mTwo, *, if_true, Bool.false_eq_true, if_false, Bool.or_true, Bool.true_or, Bool.or_false] <;> rfl)
  refine Tr.seq <| Tr.region rfl <| cV rfl (oB rfl rfl rfl) <| cV rfl (oA rfl) <| WL.nil ?_
  refine Tr.cond rfl (fun hc58 => ?_) (fun hc58 => ?_)
  · refine Tr.seq <| Tr.region rfl <| cV rfl (oM rfl) <| cV rfl (oM rfl) <| cV rfl (oB rfl rfl rfl) <| cV rfl (ok_shr rfl rfl rfl (and63 b)) <| cV rfl (oA rfl) <| cV rfl (oA rfl) <| WL.nil <| Tr.ret ?_
    refine ret_ok rfl ?_ no_post
    (simp only [mTwo, *, if_true, Bool.false_eq_true, if_false, Bool.or_true, Bool.true_or, Bool.or_false] <;> rfl)
  refine Tr.seq <| Tr.region rfl <| cV rfl (oB rfl rfl rfl) <| cV rfl (oA rfl) <| WL.nil ?_
  refine Tr.cond rfl (fun hc64 => ?_) (fun hc64 => ?_)
  · refine Tr.seq <| Tr.region rfl <| cV rfl (oM rfl) <| cV rfl (ok_conv_int rfl rfl ⟨_, Tryz.underlying3⟩ Tryz.underlying128) <| cV rfl (oM rfl) <| cV rfl (oB rfl rfl rfl) <| cV rfl (ok_shr rfl rfl rfl (and63 b)) <| cV rfl (ok_conv_int rfl rfl ⟨_, Tryz.underlying128⟩ Tryz.underlying3) <| cV rfl (oA rfl) <| cV rfl (oA rfl) <| WL.nil <| Tr.ret ?_
    refine ret_ok rfl ?_ no_post
    (simp only [mTwo, *, if_true, Bool.false_eq_true, if_false, Bool.or_true, Bool.true_or, Bool.or_false] <;> rfl)
  refine Tr.seq <| Tr.region rfl <| cV rfl (oB rfl rfl rfl) <| cV rfl (oA rfl) <| WL.nil ?_
  refine Tr.cond rfl (fun hc72 => ?_) (fun hc72 => ?_)
  · refine Tr.seq <| Tr.region rfl <| cV rfl (oM rfl) <| cV rfl (oM rfl) <| cV rfl (oB rfl rfl rfl) <| WL.cons rfl rfl rfl (ok_callq (sc_mFlag _) ent104 rfl rfl (Subs.refl _ _) rfl) <| cV rfl (oA rfl) <| cV rfl (oA rfl) <| WL.nil <| Tr.ret ?_
    refine ret_ok rfl ?_ no_post
    (simp only [mTwo, *, if_true, Bool.false_eq_true, if_false, Bool.or_true, Bool.true_or, Bool.or_false] <;> rfl)
  refine Tr.seq <| Tr.region rfl <| cV rfl (oB rfl rfl rfl) <| cV rfl (oA rfl) <| WL.nil ?_
  refine Tr.cond rfl (fun hc78 => ?_) (fun hc78 => ?_)
  · refine Tr.seq <| Tr.region rfl <| cV rfl (oM rfl) <| cV rfl (oM rfl) <| cV rfl (oB rfl rfl rfl) <| WL.cons rfl rfl rfl (ok_callq (sc_mFlag _) ent104 rfl rfl (Subs.refl _ _) rfl) <| cV rfl (oA rfl) <| cV rfl (oA rfl) <| WL.nil <| Tr.ret ?_
    refine ret_ok rfl ?_ no_post
    (simp only [mTwo, *, if_true, Bool.false_eq_true, if_false, Bool.or_true, Bool.true_or, Bool.or_false] <;> rfl)
  refine Tr.seq <| Tr.region rfl <| cV rfl (oB rfl rfl rfl) <| cV rfl (oA rfl) <| WL.nil ?_
  refine Tr.cond rfl (fun hc84 => ?_) (fun hc84 => ?_)
  · refine Tr.seq <| Tr.region rfl <| cV rfl (oM rfl) <| cV rfl (oM rfl) <| cV rfl (oB rfl rfl rfl) <| WL.cons rfl rfl rfl (ok_callq (sc_mFlag _) ent104 rfl rfl (Subs.refl _ _) rfl) <| cV rfl (oA rfl) <| cV rfl (oA rfl) <| WL.nil <| Tr.ret ?_
    refine ret_ok rfl ?_ no_post
    (simp only [mTwo, *, if_true, Bool.false_eq_true, if_false, Bool.or_true, Bool.true_or, Bool.or_false] <;> rfl)
  refine Tr.seq <| Tr.region rfl <| cV rfl (oB rfl rfl rfl) <| cV rfl (oA rfl) <| WL.nil ?_
  refine Tr.cond rfl (fun hc90 => ?_) (fun hc90 => ?_)
  · refine Tr.seq <| Tr.region rfl <| cV rfl (oM rfl) <| cV rfl (oM rfl) <| cV rfl (oB rfl rfl rfl) <| WL.cons rfl rfl rfl (ok_callq (sc_mFlag _) ent104 rfl rfl (Subs.refl _ _) rfl) <| cV rfl (oA rfl) <| cV rfl (oA rfl) <| WL.nil <| Tr.ret ?_
    refine ret_ok rfl ?_ no_post
    (simp only [mTwo, *, if_true, Bool.false_eq_true, if_false, Bool.or_true, Bool.true_or, Bool.or_false] <;> rfl)
  refine Tr.seq <| Tr.region rfl <| cV rfl (oB rfl rfl rfl) <| cV rfl (oA rfl) <| WL.nil ?_
  refine Tr.cond rfl (fun hc96 => ?_) (fun hc96 => ?_)
  · refine Tr.seq <| Tr.region rfl <| cV rfl (oM rfl) <| cV rfl (oM rfl) <| cV rfl (oB rfl rfl rfl) <| WL.cons rfl rfl rfl (ok_callq (sc_mFlag _) ent104 rfl rfl (Subs.refl _ _) rfl) <| cV rfl (oA rfl) <| cV rfl (oA rfl) <| WL.nil <| Tr.ret ?_
    refine ret_ok rfl ?_ no_post
    (simp only [mTwo, *, if_true, Bool.false_eq_true, if_false, Bool.or_true, Bool.true_or, Bool.or_false] <;> rfl)
  refine Tr.seq <| Tr.region rfl <| cV rfl (oB rfl rfl rfl) <| cV rfl (oA rfl) <| WL.nil ?_
  refine Tr.cond rfl (fun hc102 => ?_) (fun hc102 => ?_)
  · refine Tr.seq <| Tr.region rfl <| cV rfl (oM rfl) <| cV rfl (oM rfl) <| cV rfl (oB rfl rfl rfl) <| WL.cons rfl rfl rfl (ok_callq (sc_mFlag _) ent104 rfl rfl (Subs.refl _ _) rfl) <| cV rfl (oA rfl) <| cV rfl (oA rfl) <| WL.nil <| Tr.ret ?_
    refine ret_ok rfl ?_ no_post
    (simp only [mTwo, *, if_true, Bool.false_eq_true, if_false, Bool.or_true, Bool.true_or, Bool.or_false] <;> rfl)
  refine Tr.skip <| Tr.seq <| Tr.region rfl <| cV rfl (oA rfl) <| cV rfl (oA rfl) <| WL.nil <| Tr.ret ?_
  refine ret_ok rfl ?_ no_post
  (simp only [mTwo, *, if_true, Bool.false_eq_true, if_false, Bool.or_true, Bool.true_or, Bool.or_false] <;> rfl)
theorem getV_some {v : List Int} {x y : Int} (h : getV v x = some y) : 0 ≤ x ∧ x.toNat < (v.map eInt).length ∧ (v.map eInt)[x.toNat]? = some [vInt y] := by
  unfold getV at h
  split at h
  · rename_i hx
    exact ⟨hx, by simpa using (List.getElem?_eq_some_iff.1 h).1, map_get h⟩
  · cases h
theorem setV_some {v v' : List Int} {x y : Int} (h : setV v x y = some v') : 0 ≤ x ∧ x.toNat < (v.map eInt).length ∧ v' = v.set x.toNat y := by
  unfold setV at h
  split at h
  · rename_i hx
    exact ⟨hx.1, by simpa using hx.2, by cases h; rfl⟩
  · cases h
theorem row_at {v : List Int} {i : Nat} (h : i < (v.map eInt).length) : ∃ z, (v.map eInt)[i]? = some [vInt z] := by
  rw [List.length_map] at h
  exact ⟨v[i], map_get (f := eInt) (List.getElem?_eq_getElem h)⟩
theorem set_row (v : List Int) (i : Nat) (y : Int) (el : List PV) (hel : (v.map eInt)[i]? = some el) : (v.map eInt).set i (el.set 0 (vInt y)) = (v.set i y).map eInt := by
  rw [List.map_set]
  have h2 := hel
  rw [List.getElem?_map, Option.map_eq_some_iff] at h2
  obtain ⟨z, _, rfl⟩ := h2
  rfl
theorem mOf_step {v : List Int} {x : Int} {r acc o : List Int} (h : (mOf v (x :: r)).map (acc ++ ·) = some o) : ∃ y, getV v x = some y ∧ (mOf v r).map ((acc ++ [y]) ++ ·) = some o := by
  simp only [mOf, Option.map_eq_some_iff, Option.bind_eq_some_iff] at h
  obtain ⟨_, ⟨y, hy, z, hz, rfl⟩, rfl⟩ := h
  exact ⟨y, hy, by rw [hz]; simp⟩
theorem mSet_step {v v' : List Int} {x : Int} {r n : List Int} (h : mSet v (x :: r) n = some v') : ∃ y n' v1, n = y :: n' ∧ setV v x y = some v1 ∧ mSet v1 r n' = some v' := by
  cases n with
  | nil => cases h
  | cons y n' =>
    simp only [mSet, Option.bind_eq_some_iff] at h
    obtain ⟨v1, h1, h2⟩ := h
    exact ⟨y, n', v1, rfl, h1, h2⟩
set_option maxRecDepth 8000 in
set_option maxHeartbeats 2000000 in
theorem sc_over (u : Un) (s : Rs) : SC Tryz.prog 31 [.ptr 1001 0] (runH u s) (fun _ => True) (iBool (mOver s)) (runH u s) := by
  refine SC.of Tryz.func31 rfl (lb rfl) fun F ρ w => ?_
  refine Tr.seq <| Tr.region rfl <| cV rfl (oA rfl) <| WL.nil <| Tr.seq <| Tr.region rfl <| cV rfl (oM rfl) <| cV rfl (ok_nilCheck rfl rfl rfl) <| cV rfl (oFp rfl rfl tF67_4) <| cV rfl (oLb Tryz.underlying4 rfl rfl rfl trivial) <| cV rfl (oM rfl) ?_
  refine WL.split (t := 7) rfl (fun hb7 => ?_) (fun hb7 => ?_)
  · refine nV rfl rfl <| nV rfl rfl <| nV rfl rfl <| nV rfl rfl <| nV rfl rfl <| nV rfl rfl <| cV rfl (oT rfl rfl) <| cV rfl (oA rfl) <| WL.nil <| Tr.ret ?_
    refine ret_ok rfl ?_ (fun _ _ h => h)
    cases hsp : s.spent <;> simp_all [mOver, iBool]
  refine yV rfl rfl (oM rfl) <| yV rfl rfl (ok_nilCheck rfl rfl rfl) <| yV rfl rfl (oFp rfl rfl tF67_3) <| yV rfl rfl (oFp rfl rfl tF46_0) <| yV rfl rfl (oLb Tryz.underlying3 rfl rfl rfl trivial) <| yV rfl rfl (oB rfl rfl rfl) <| cV rfl (oF rfl rfl) <| cV rfl (oA rfl) <| WL.nil <| Tr.ret ?_
  refine ret_ok rfl ?_ (fun _ _ h => h)
  cases hsp : s.spent <;> simp_all [mOver, iBool]
set_option maxRecDepth 8000 in
set_option maxHeartbeats 2000000 in
theorem sc_step (u : Un) (s : Rs) : SC Tryz.prog 64 [.ptr 1001 0] (runH u s) (fun _ => False) (iBool (mStep s).1) (runH u (mStep s).2) := by
  refine SC.of Tryz.func64 rfl (lb rfl) fun F ρ w => ?_
  refine Tr.seq <| Tr.region rfl <| cV rfl (oA rfl) <| WL.nil <| Tr.seq <| Tr.seq <| Tr.region rfl <| cV rfl (oM rfl) <| WL.cons rfl rfl rfl (ok_callr (sc_over u s) ent31 rfl rfl (Subs.refl _ _) (fun _ _ h => h) (by rfl) (fun k (h : _) => .inr trivial) rfl (by rfl)) <| WL.nil ?_
  refine Tr.cond rfl (fun hc4 => ?_) (fun hc4 => ?_)
  · refine Tr.seq <| Tr.region rfl <| cV rfl (oA rfl) <| WL.nil <| Tr.ret ?_
    have e : mStep s = (false, s) := by simp [mStep, hc4]
    rw [e]
    refine ret_ok rfl rfl (po2 rfl rfl)
  refine Tr.skip <| Tr.seq <| Tr.seq <| Tr.region rfl <| cV rfl (oM rfl) <| cV rfl (ok_nilCheck rfl rfl rfl) <| cV rfl (oFp rfl rfl tF67_3) <| cV rfl (oFp rfl rfl tF46_4) <| cV rfl (oLb Tryz.underlying3 rfl rfl rfl trivial) <| cV rfl (oB rfl rfl rfl) <| WL.nil ?_
  refine Tr.cond rfl (fun hc10 => ?_) (fun hc10 => ?_)
  · refine Tr.seq <| Tr.region rfl <| cV rfl (oM rfl) <| cV rfl (ok_nilCheck rfl rfl rfl) <| cV rfl (oFp rfl rfl tF67_4) <| WL.cons0 rfl rfl ((ok_store_box rfl rfl rfl rfl ((fun h => h)) tS4 (rfl) (lb rfl))) <| WL.nil <| Tr.seq <| Tr.region rfl <| cV rfl (oA rfl) <| WL.nil <| Tr.ret ?_
    have e : mStep s = (false, { s with spent := true }) := by
      have h1 : s.fuel < 1 := by simpa using hc10
      simp [mStep, hc4, h1]
    rw [e]
    refine ret_ok rfl rfl (po2 rfl rfl)
  refine Tr.skip <| Tr.seq <| Tr.region rfl <| cV rfl (oM rfl) <| cV rfl (oM rfl) <| cV rfl (ok_nilCheck rfl rfl rfl) <| cV rfl (oFp rfl rfl tF67_3) <| cV rfl (oFp rfl rfl tF46_4) <| cV rfl (oLb Tryz.underlying3 rfl rfl rfl trivial) <| cV rfl (oB rfl rfl rfl) <| cV rfl (ok_nilCheck rfl rfl rfl) <| cV rfl (oFp rfl rfl tF67_3) ?_
  refine cV rfl (oFp rfl rfl tF46_4) <| WL.cons0 rfl rfl ((ok_store_box rfl rfl rfl rfl ((fun h => h)) tS3 (rfl) (lb rfl))) <| WL.nil <| Tr.seq <| Tr.region rfl <| cV rfl (oA rfl) <| WL.nil <| Tr.ret ?_
  have e : mStep s = (true, { s with fuel := w64 (s.fuel - 1) }) := by
    have h1 : ¬ s.fuel < 1 := by simpa using hc10
    simp [mStep, hc4, h1]
  rw [e]
  refine ret_ok rfl rfl (po2 rfl rfl)
set_option maxRecDepth 8000 in
set_option maxHeartbeats 2000000 in
theorem sc_of (v l o : List Int) (h : mOf v l = some o) (hb : l.length ≤ 1073741824) : SC Tryz.prog 65 [.sl 510 (v.map eInt).length, .pv (ints l)] [(510, rowI v)] (fun k => k = 510) (.pv (ints o)) [(510, rowI v)] := by
  refine SC.of Tryz.func65 rfl (lb rfl) fun F ρ w => ?_
  refine Tr.lenOf (t := 1) rfl (fun hl => ?_)
  simp only [List.length_map] at hl
  refine Tr.seq <| Tr.region rfl <| cV rfl (oA rfl) <| WL.nil <| Tr.seq <| Tr.region rfl <| cV rfl (oA rfl) <| WL.nil <| Tr.seq <| Tr.seq <| Tr.grow (t := 5) (k := 105) ⟨3, 1⟩ rfl rfl rfl rfl rfl <| Tr.region rfl ?_
  refine cV rfl (oA rfl) <| WL.nil <| Tr.block <| Tr.sub (Sub.of (fr' := [(6, iInt 0), (5, .sl 105 (([] : List Int).map eInt).length), (0, .sl 510 (v.map eInt).length), (1, .pv (ints l))]) ⟨rfl, rfl, rfl, rfl, trivial⟩) ?_
  refine Tr.heap (σ' := look [(105, some (rowI ([] : List Int))), (510, some (rowI v))]) (by
  intro j
  simp only [look]
  by_cases h1 : 105 = j
  · subst h1; rfl
  · simp [look, up, beq_ne h1]) ?_
  refine Tr.loop (fun fr σ m => ∃ (k : Nat) (acc : List Int), (k ≤ l.length) ∧ ((mOf v (l.drop k)).map (acc ++ ·) = some o) ∧ (acc.length = k) ∧ fr = [(6, iInt k), (5, .sl 105 (acc.map eInt).length), (0, .sl 510 (v.map eInt).length), (1, .pv (ints l))] ∧ σ = look [(105, some (rowI acc)), (510, some (rowI v))] ∧ m = l.length - k) (n := l.length - 0) ?_ ?_
  · exact ⟨0, ([] : List Int), Nat.zero_le _, (by rw [List.drop_zero, h]; rfl), rfl, rfl, rfl, rfl⟩
  rintro fr σ m ⟨k, acc, hI0, hI1, hI2, rfl, rfl, rfl⟩
  refine Tr.seq <| Tr.seq <| Tr.region rfl <| cV rfl (oM rfl) <| cV rfl (oM rfl) <| cV rfl (oSm Tryz.underlying35 rfl) <| cV rfl (oB rfl rfl rfl) <| WL.nil ?_
  refine Tr.cond rfl (fun hc10 => ?_) (fun hc10 => ?_)
  · have hlt : k < l.length := by simpa using hc10
    have hd := List.drop_eq_getElem_cons hlt
    have hm := List.getElem_mem hlt
    have hi := map_get (f := eInt) (List.getElem?_eq_getElem hlt)
    generalize l[k] = x at hd hm hi
    rw [hd] at hI1
    obtain ⟨y, hy, hO⟩ := mOf_step hI1
    obtain ⟨hx0, hxl, hxg⟩ := getV_some hy
    have hal : (acc.map eInt).length = acc.length := by simp
    refine Tr.skip <| Tr.seq <| Tr.block <| Tr.region rfl <| cV rfl (oM rfl) <| cV rfl (oM rfl) <| cV rfl (oM rfl) <| cV rfl (oM rfl) <| cV rfl (ok_index_seq rfl rfl rfl Tryz.underlying35 hi tS3 rfl (by rfl)) <| cV rfl (oLe Tryz.underlying3 rfl rfl) <| cV rfl (ok_index_row rfl rfl rfl rfl rfl Tryz.underlying35 tS3 hxl (by omega)) <| cV rfl (ok_load_row rfl rfl rfl rfl (Nat.add_zero _).symm hxg rfl Tryz.underlying3 rfl trivial) ?_
    refine WL.cons rfl rfl rfl (ok_buildSlice rfl rfl Tryz.underlying35 tZ3 tS3 rfl rfl rfl rfl (firmB_ok rfl) rfl) ?_
    refine WL.cons rfl rfl rfl (ok_append rfl rfl rfl rfl (by rfl) (by simp) Tryz.underlying35 tB3 (by decide) (by (simp [chunks]; done)) (by (simp [chunks, PV.one]; rfl)) (by simp [maxLen, chunks]; omega) (by simp [chunks]; omega)) ?_
    refine cV rfl (oA rfl) <| WL.nil <| Tr.region rfl <| cV rfl (oM rfl) <| cV rfl (oB rfl rfl (i64_add rfl (by omega))) <| cV rfl (oA rfl) <| WL.nil ?_
    refine ⟨_, _, ?_, Sub.of (fr' := [(6, iInt (k + 1)), (5, .sl 105 ((acc ++ [y]).map eInt).length), (0, .sl 510 (v.map eInt).length), (1, .pv (ints l))]) ⟨rfl, congrArg (fun z => some (IV.sl _ z)) (by simp [chunks, eInt]), rfl, rfl, trivial⟩, (k + 1), (acc ++ [y]), ?_, ?_, ?_, rfl, (funext (by
  intro j
  simp only [look]
  by_cases h1 : 105 = j
  · subst h1; exact congrArg (fun z => some (HO.row _ z)) (by simp [chunks, eInt])
  · simp [look, beq_ne h1])), rfl⟩
    · omega
    · omega
    · exact hO
    simp [hI2]
  refine Tr.exit <| Tr.seq ?_
  refine Tr.freeze (t := 5) (k := 105) rfl rfl (by simp) ?_
  refine Tr.region rfl <| cV rfl (oM rfl) <| cV rfl (oA rfl) <| WL.nil <| Tr.ret ?_
  refine ret_ok rfl ?_ (po1 rfl)
  have hge : l.length ≤ k := by simpa using hc10
  rw [List.drop_eq_nil_of_le hge] at hI1
  have : acc = o := by simpa [mOf] using hI1
  rw [this]
  rfl
set_option maxRecDepth 8000 in
set_option maxHeartbeats 2000000 in
theorem sc_set (v l n v' : List Int) (h : mSet v l n = some v') : SC Tryz.prog 66 [.sl 510 (v.map eInt).length, .pv (ints l), .pv (ints n)] [(510, rowI v)] (fun _ => False) (.tup []) [(510, rowI v')] := by
  refine SC.of Tryz.func66 rfl (lb rfl) fun F ρ w => ?_
  refine Tr.lenOf (t := 1) rfl (fun hl => ?_)
  simp only [List.length_map] at hl
  refine Tr.lenOf (t := 2) rfl (fun hl2 => ?_)
  simp only [List.length_map] at hl2
  refine Tr.seq <| Tr.region rfl <| cV rfl (oA rfl) <| WL.nil <| Tr.block <| Tr.sub (Sub.of (fr' := [(6, iInt 0), (0, .sl 510 (v.map eInt).length), (1, .pv (ints l)), (2, .pv (ints n))]) ⟨rfl, rfl, rfl, rfl, trivial⟩) ?_
  refine Tr.loop (fun fr σ m => ∃ (k : Nat) (w1 : List Int) (m1 : List Int), (k ≤ l.length) ∧ (mSet w1 (l.drop k) m1 = some v') ∧ (w1.length = v.length) ∧ (m1 = n.drop k) ∧ fr = [(6, iInt k), (0, .sl 510 (v.map eInt).length), (1, .pv (ints l)), (2, .pv (ints n))] ∧ σ = look [(510, some (rowI w1))] ∧ m = l.length - k) (n := l.length - 0) ?_ ?_
  · exact ⟨0, v, n, Nat.zero_le _, h, rfl, rfl, rfl, rfl, rfl⟩
  rintro fr σ m ⟨k, w1, m1, hI0, hI1, hI2, hI3, rfl, rfl, rfl⟩
  refine Tr.seq <| Tr.seq <| Tr.region rfl <| cV rfl (oM rfl) <| cV rfl (oM rfl) <| cV rfl (oSm Tryz.underlying35 rfl) <| cV rfl (oB rfl rfl rfl) <| WL.nil ?_
  refine Tr.cond rfl (fun hc10 => ?_) (fun hc10 => ?_)
  · have hlt : k < l.length := by simpa using hc10
    have hd := List.drop_eq_getElem_cons hlt
    have hm := List.getElem_mem hlt
    have hi := map_get (f := eInt) (List.getElem?_eq_getElem hlt)
    generalize l[k] = x at hd hm hi
    rw [hd] at hI1
    obtain ⟨y, m2, w2, hm1, hs, hO⟩ := mSet_step hI1
    obtain ⟨hx0, hxl, hw2⟩ := setV_some hs
    obtain ⟨z0, hxg⟩ := row_at hxl
    have hwn : (w1.map eInt).length = (v.map eInt).length := by simp [hI2]
    have hxl2 : x.toNat < (v.map eInt).length := by rw [← hwn]; exact hxl
    have hnk : n[k]? = some y := by
      have h0 := List.getElem?_drop (xs := n) (i := k) (j := 0)
      rw [← hI3, hm1] at h0
      simpa using h0.symm
    have hi2 := map_get (f := eInt) hnk
    refine Tr.skip <| Tr.seq <| Tr.block <| Tr.drawn mixed (fun k => k ∈ ([] : List Nat)) <| WA.run (fuel := 1) [0, 1, 2, 3, 4, 5, 6, 7, 8, 9] (by kernel_rfl) ((fun _ _ _ h => h)) (by kernel_rfl) <| rV rfl rfl (oM rfl) <| rV rfl rfl (oM rfl) <| rV rfl rfl (oM rfl) <| rV rfl rfl (ok_index_seq rfl rfl rfl Tryz.underlying35 hi tS3 rfl (by rfl)) <| rV rfl rfl (oLe Tryz.underlying3 rfl rfl) <| rV rfl rfl (oM rfl) <| rV rfl rfl (oM rfl) ?_
    refine rV rfl rfl (ok_index_seq rfl rfl rfl Tryz.underlying35 hi2 tS3 rfl (by rfl)) <| rV rfl rfl (oLe Tryz.underlying3 rfl rfl) <| rV rfl rfl (ok_index_row rfl rfl rfl rfl hwn Tryz.underlying35 tS3 hxl2 (by omega)) <| WR.nil <| WA.one (i := 10) (by kernel_rfl) ?_
    refine WI.op rfl rfl rfl (by intro t h; cases h <;> rfl) (fun k (h : _) => h.elim) (new_old rfl) (fun ρ w => ok_store_row rfl rfl rfl rfl hwn (Nat.add_zero _).symm hxg (by simp) tS3 rfl (by simp)) ?_
    refine WA.done (by kernel_rfl) <| Tr.region rfl <| cV rfl (oM rfl) <| cV rfl (oB rfl rfl (i64_add rfl (by omega))) <| cV rfl (oA rfl) <| WL.nil ?_
    refine ⟨_, _, ?_, Sub.of (fr' := [(6, iInt (k + 1)), (0, .sl 510 (v.map eInt).length), (1, .pv (ints l)), (2, .pv (ints n))]) ⟨rfl, rfl, rfl, rfl, trivial⟩, (k + 1), w2, m2, ?_, ?_, ?_, ?_, rfl, (funext (by
  intro j
  simp only [look]
  by_cases h1 : 510 = j
  · subst h1; exact congrArg (fun z => some (HO.row _ z)) (by rw [hw2]; exact set_row _ _ _ _ hxg)
  · simp [look, beq_ne h1])), rfl⟩
    · omega
    · omega
    · exact hO
    · rw [hw2, List.length_set]; exact hI2
    rw [← List.drop_drop, ← hI3, hm1]; rfl
  refine Tr.exit ?_
  have hge : l.length ≤ k := by simpa using hc10
  rw [List.drop_eq_nil_of_le hge] at hI1
  have hw : w1 = v' := by simpa [mSet] using hI1
  subst hw
  refine end_ok rfl rfl (po1 rfl)
section
def mCost (s : Rs) : Rs := { s with cost := w64 (s.cost + 1) }
theorem setV_len {v v' : List Int} {x y : Int} (h : setV v x y = some v') : v'.length = v.length := by
  rw [(setV_some h).2.2, List.length_set]
theorem mSet_len : ∀ {l n v v' : List Int}, mSet v l n = some v' → v'.length = v.length
  | [], _, _, _, h => by cases h; rfl
  | _ :: _, _, _, _, h => by
    obtain ⟨y, n', v1, rfl, h1, h2⟩ := mSet_step h
    rw [mSet_len h2, setV_len h1]
theorem mNode_len {rec : List Nd → List Int → Rs → Option Rres} {recLoop : Nd → List Int → List Int → Rs → Option Rres} {recSum : Nd → List Int → Rs → Option (Int × Rs)} {x : Nd} {a v : List Int} {s : Rs} {r : Rres}
    (hr : ∀ q v s r, rec q v s = some r → r.2.1.length = v.length) (hl : ∀ x v a s r, recLoop x v a s = some r → r.2.1.length = v.length) (h : mNode rec recLoop recSum x a v s = some r) : r.2.1.length = v.length := by
  unfold mNode at h
  split at h
  · simp only [Option.bind_eq_some_iff, Option.map_eq_some_iff] at h
    obtain ⟨o, _, v', h1, rfl⟩ := h
    exact setV_len h1
  split at h
  · cases h; rfl
  split at h
  · simp only [Option.bind_eq_some_iff] at h
    obtain ⟨a0, _, q, _, r1, h1, h2⟩ := h
    have h3 := hr _ _ _ _ h1
    split at h2
    · simp only [Option.map_eq_some_iff] at h2
      obtain ⟨v', h4, rfl⟩ := h2
      exact (mSet_len h4).trans h3
    cases h2; exact h3
  split at h
  · exact hl _ _ _ _ _ h
  simp only [Option.bind_eq_some_iff] at h
  obtain ⟨r1, h1, h2⟩ := h
  split at h2
  · simp only [Option.bind_eq_some_iff, Option.map_eq_some_iff] at h2
    obtain ⟨o, _, v', h4, rfl⟩ := h2
    exact setV_len h4
  cases h2; rfl
theorem mLL_len (u : Un) : ∀ d, (∀ l v s r, mList u d l v s = some r → r.2.1.length = v.length) ∧ ∀ x v a s r, mLoop u d x v a s = some r → r.2.1.length = v.length
  | 0 => ⟨fun _ _ _ _ h => by simp [mList] at h, fun _ _ _ _ _ h => by simp [mLoop] at h⟩
  | d + 1 => by
    obtain ⟨i1, i2⟩ := mLL_len u d
    refine ⟨fun l v s r h => ?_, fun x v a s r h => ?_⟩
    · cases l with
      | nil => simp only [mList] at h; cases h; rfl
      | cons x l =>
        rw [mList] at h
        split at h
        · cases h; rfl
        simp only [Option.bind_eq_some_iff] at h
        obtain ⟨a, _, r1, h1, h2⟩ := h
        have h3 := mNode_len i1 i2 h1
        split at h2
        · cases h2; exact h3
        exact (i1 _ _ _ _ h2).trans h3
    rw [mLoop] at h
    simp only [Option.bind_eq_some_iff] at h
    obtain ⟨v1, hv1, q, _, r1, h1, h2⟩ := h
    have h3 := (i1 _ _ _ _ h1).trans (mSet_len hv1)
    split at h2
    · cases h2; exact h3
    split at h2
    · simp only [Option.map_eq_some_iff] at h2
      obtain ⟨v', h4, rfl⟩ := h2
      exact (mSet_len h4).trans h3
    exact (i2 _ _ _ _ _ h2).trans h3
theorem mList_len {u : Un} {d : Nat} {l : List Nd} {v : List Int} {s : Rs} {r : Rres} (h : mList u d l v s = some r) : r.2.1.length = v.length := (mLL_len u d).1 _ _ _ _ h
/-- A round of a loop. -/
theorem mLoop_step {u : Un} {d : Nat} {x : Nd} {v a : List Int} {s : Rs} {r : Rres} (h : mLoop u d x v a s = some r) : ∃ d1 v2 q r1, d = d1 + 1 ∧ mSet v x.params a = some v2 ∧ x.kids[0]? = some q ∧ mList u d1 q v2 s = some r1 ∧
    (if mOver r1.2.2 || r1.1.1 == 15 then some r1 else if r1.1.1 == 14 then (mSet r1.2.1 x.outs r1.1.2).map fun v => ((0, []), v, r1.2.2) else mLoop u d1 x r1.2.1 r1.1.2 r1.2.2) = some r := by
  cases d with
  | zero => simp [mLoop] at h
  | succ d =>
    rw [mLoop] at h
    simp only [Option.bind_eq_some_iff] at h
    obtain ⟨v2, h1, q, h2, r1, h3, h4⟩ := h
    exact ⟨d, v2, q, r1, rfl, h1, h2, h3, h4⟩
theorem mList_step {u : Un} {d : Nat} {x : Nd} {l : List Nd} {v : List Int} {s s2 : Rs} {r : Rres} (hs2 : (mStep s).2 = s2) (h : mList u d (x :: l) v s = some r) : ∃ d1, d = d1 + 1 ∧ (((mStep s).1 = false ∧ r = ((0, []), v, s2)) ∨
    ((mStep s).1 = true ∧ ∃ a r1, mOf v x.args = some a ∧ mNode (mList u d1) (mLoop u d1) (mSum u d1) x a v s2 = some r1 ∧ (if mOver r1.2.2 || r1.1.1 != 0 then some r1 else mList u d1 l r1.2.1 r1.2.2) = some r)) := by
  cases d with
  | zero => simp [mList] at h
  | succ d =>
    refine ⟨d, rfl, ?_⟩
    subst hs2
    rw [mList] at h
    split at h
    · rename_i s' e; cases h; exact .inl ⟨by rw [e], by rw [e]⟩
    rename_i s' e
    simp only [Option.bind_eq_some_iff] at h
    obtain ⟨a, h1, r1, h2, h3⟩ := h
    exact .inr ⟨by rw [e], a, r1, h1, by rw [e]; exact h2, h3⟩
section
variable {rec : List Nd → List Int → Rs → Option Rres} {recLoop : Nd → List Int → List Int → Rs → Option Rres} {recSum : Nd → List Int → Rs → Option (Int × Rs)} {x : Nd} {a v : List Int} {s : Rs} {r : Rres}
theorem mNode_set (h : mNode rec recLoop recSum x a v s = some r) (hk : (x.kind == 1 || x.kind == 2) = true) : ∃ o v2, x.outs[0]? = some o ∧ setV v o x.n = some v2 ∧ r = ((0, []), v2, s) := by
  unfold mNode at h
  rw [if_pos hk] at h
  simp only [Option.bind_eq_some_iff, Option.map_eq_some_iff] at h
  obtain ⟨o, h1, v2, h2, rfl⟩ := h
  exact ⟨o, v2, h1, h2, rfl⟩
theorem mNode_end (h : mNode rec recLoop recSum x a v s = some r) (hk : (x.kind == 12 || x.kind == 13 || x.kind == 14 || x.kind == 15) = true) : r = ((x.kind, a), v, s) := by
  unfold mNode at h
  rw [if_neg (by simp only [Bool.or_eq_true, beq_iff_eq] at hk ⊢; omega), if_pos hk] at h
  cases h; rfl
theorem mNode_if (h : mNode rec recLoop recSum x a v s = some r) (hk : (x.kind == 10) = true) : ∃ a0 q r1, a[0]? = some a0 ∧ x.kids[if a0 != 0 then 0 else 1]? = some q ∧ rec q v s = some r1 ∧
    (if !mOver r1.2.2 && r1.1.1 == 12 then (mSet r1.2.1 x.outs r1.1.2).map fun v' => ((0, []), v', r1.2.2) else some r1) = some r := by
  unfold mNode at h
  rw [if_neg (by simp only [Bool.or_eq_true, beq_iff_eq] at hk ⊢; omega), if_neg (by simp only [Bool.or_eq_true, beq_iff_eq] at hk ⊢; omega), if_pos hk] at h
  simp only [Option.bind_eq_some_iff] at h
  obtain ⟨a0, h1, q, h2, r1, h3, h4⟩ := h
  exact ⟨a0, q, r1, h1, h2, h3, h4⟩
theorem mNode_loop (h : mNode rec recLoop recSum x a v s = some r) (hk : (x.kind == 11) = true) : recLoop x v a s = some r := by
  unfold mNode at h
  rw [if_neg (by simp only [Bool.or_eq_true, beq_iff_eq] at hk ⊢; omega), if_neg (by simp only [Bool.or_eq_true, beq_iff_eq] at hk ⊢; omega), if_neg (by simp only [beq_iff_eq] at hk ⊢; omega), if_pos hk] at h
  exact h
theorem mNode_sum (h : mNode rec recLoop recSum x a v s = some r) (h1 : (x.kind == 1 || x.kind == 2) = false) (h2 : (x.kind == 12 || x.kind == 13 || x.kind == 14 || x.kind == 15) = false) (h3 : (x.kind == 10) = false) (h4 : (x.kind == 11) = false) : ∃ r1, recSum x a s = some r1 ∧
    (if !mOver r1.2 && decide (0 < x.outs.length) then (x.outs[0]?).bind fun o => (setV v o r1.1).map fun v' => ((0, []), v', r1.2) else some ((0, []), v, r1.2)) = some r := by
  unfold mNode at h
  rw [h1, h2, h3, h4] at h
  simp only [Bool.false_eq_true, if_false, Option.bind_eq_some_iff] at h
  exact h
end
theorem mCall_step {u : Un} {d : Nat} {k : Int} {a : List Int} {s : Rs} {r : Int × Rs} (h : mCall u d k a s = some r) : ∃ d1 f r1, d = d1 + 1 ∧ 0 ≤ k ∧ u.flows[k.toNat]? = some f ∧ a.length ≤ f.types.length ∧ f.types.length ≤ 1073741824 ∧
    mList u d1 f.body (a ++ List.replicate (f.types.length - a.length) 0) s = some r1 ∧ r = (if mOver r1.2.2 then 0 else r1.1.2.headD 0, r1.2.2) := by
  cases d with
  | zero => simp [mCall] at h
  | succ d =>
    rw [mCall] at h
    split at h
    · rename_i hk
      simp only [Option.bind_eq_some_iff] at h
      obtain ⟨f, hf, h⟩ := h
      split at h
      · rename_i hl
        simp only [Option.bind_eq_some_iff] at h
        obtain ⟨r1, h1, h2⟩ := h
        refine ⟨d, f, r1, rfl, hk, hf, hl.1, hl.2, h1, ?_⟩
        split at h2 <;> cases h2 <;> simp_all
      cases h
    cases h
variable {u : Un} {d : Nat} {x : Nd} {a : List Int} {s : Rs} {r : Int × Rs}
theorem mSum_pos (h : mSum u d x a s = some r) : ∃ d', d = d' + 1 := by
  cases d with
  | zero => simp [mSum] at h
  | succ d => exact ⟨d, rfl⟩
theorem mSum_one (h : mSum u (d + 1) x a s = some r) (hk : (x.kind == 3) = true) : ∃ a0, a[0]? = some a0 ∧ r = (mOne x.op a0, mCost s) := by
  simp only [mSum, hk, if_true, Option.map_eq_some_iff] at h
  obtain ⟨a0, h1, rfl⟩ := h
  exact ⟨a0, h1, rfl⟩
theorem mSum_two (h : mSum u (d + 1) x a s = some r) (hk : (x.kind == 4) = true) : ∃ a0 a1, a[0]? = some a0 ∧ a[1]? = some a1 ∧ r = ((mTwo x.op a0 a1).1, if (mTwo x.op a0 a1).2 then mCost s else { mCost s with st := 2 }) := by
  have h3 : (x.kind == 3) = false := by have := eq_of_beq hk; rw [this]; rfl
  simp only [mSum, h3, hk, if_true, Bool.false_eq_true, if_false, Option.map_eq_some_iff, Option.bind_eq_some_iff] at h
  obtain ⟨a0, h1, a1, h2, rfl⟩ := h
  exact ⟨a0, a1, h1, h2, rfl⟩
theorem mCell_neg {k n : Int} {q : Bool × Rs} (hk : k < 0) (h : mCell s k n = some q) : n < 0 ∧ q = (false, { s with st := 3 }) := by
  unfold mCell at h
  split at h
  · rename_i h1; cases h; exact ⟨h1, rfl⟩
  rw [if_neg (by omega)] at h; cases h
theorem mSum_load (hu : u.arrays = []) (h : mSum u (d + 1) x a s = some r) (hk : (x.kind == 5) = true) : ∃ a0, a[0]? = some a0 ∧ a0 < 0 ∧ r = (0, { mCost s with st := 3 }) := by
  have h3 : (x.kind == 3) = false := by have := eq_of_beq hk; rw [this]; rfl
  have h4 : (x.kind == 4) = false := by have := eq_of_beq hk; rw [this]; rfl
  simp only [mSum, h3, h4, hk, if_true, Bool.false_eq_true, if_false, Option.bind_eq_some_iff] at h
  obtain ⟨a0, h1, q, h2, h5⟩ := h
  rw [hu] at h2
  obtain ⟨h6, rfl⟩ := mCell_neg (by show (-1 : Int) < 0; decide) h2
  simp only [Bool.false_eq_true, if_false] at h5
  cases h5
  exact ⟨a0, h1, h6, rfl⟩
theorem mSum_store (hu : u.arrays = []) (h : mSum u (d + 1) x a s = some r) (hk : (x.kind == 6) = true) : ∃ a0, a[0]? = some a0 ∧ a0 < 0 ∧ r = (0, { mCost s with st := 3 }) := by
  have h3 : (x.kind == 3) = false := by have := eq_of_beq hk; rw [this]; rfl
  have h4 : (x.kind == 4) = false := by have := eq_of_beq hk; rw [this]; rfl
  have h5 : (x.kind == 5) = false := by have := eq_of_beq hk; rw [this]; rfl
  simp only [mSum, h3, h4, h5, hk, if_true, Bool.false_eq_true, if_false, Option.bind_eq_some_iff] at h
  obtain ⟨a0, h1, q, h2, h5⟩ := h
  rw [hu] at h2
  obtain ⟨h6, rfl⟩ := mCell_neg (by show (-1 : Int) < 0; decide) h2
  simp only [Bool.false_eq_true, if_false] at h5
  cases h5
  exact ⟨a0, h1, h6, rfl⟩
theorem mSum_call (h : mSum u (d + 1) x a s = some r) (hk : (x.kind == 7) = true) : mCall u d (r8Place x.name u.flows 0) a (mCost s) = some r := by
  have e := eq_of_beq hk
  simp only [mSum, e] at h
  exact h
theorem mSum_print (h : mSum u (d + 1) x a s = some r) (hk : (x.kind == 9) = true) : ∃ a0, a[0]? = some a0 ∧ s.out.length < 1073741824 ∧ r = (0, { mCost s with out := s.out ++ [a0] }) := by
  have e := eq_of_beq hk
  simp only [mSum, e] at h
  simp only [show ((9 : Int) == 3) = false from rfl, show ((9 : Int) == 4) = false from rfl, show ((9 : Int) == 5) = false from rfl, show ((9 : Int) == 6) = false from rfl, show ((9 : Int) == 7) = false from rfl, show ((9 : Int) == 9) = true from rfl, if_true, Bool.false_eq_true, if_false, Option.bind_eq_some_iff] at h
  obtain ⟨a0, h1, h2⟩ := h
  split at h2
  · rename_i h3; cases h2; exact ⟨a0, h1, h3, rfl⟩
  cases h2
theorem mSum_read (h : mSum u (d + 1) x a s = some r) (hk : (x.kind == 8) = true) : (s.ins = [] ∧ r = (0, { mCost s with st := 4 })) ∨ ∃ y q, s.ins = y :: q ∧ r = (y, { mCost s with ins := q }) := by
  have e := eq_of_beq hk
  simp only [mSum, e] at h
  simp only [show ((8 : Int) == 3) = false from rfl, show ((8 : Int) == 4) = false from rfl, show ((8 : Int) == 5) = false from rfl, show ((8 : Int) == 6) = false from rfl, show ((8 : Int) == 7) = false from rfl, show ((8 : Int) == 9) = false from rfl, show ((8 : Int) == 8) = true from rfl, if_true, Bool.false_eq_true, if_false] at h
  split at h
  · rename_i h1; cases h; exact .inl ⟨h1, rfl⟩
  rename_i y q h1; cases h; exact .inr ⟨y, q, h1, rfl⟩
theorem mSum_else (h : mSum u (d + 1) x a s = some r) (h3 : (x.kind == 3) = false) (h4 : (x.kind == 4) = false) (h5 : (x.kind == 5) = false) (h6 : (x.kind == 6) = false) (h7 : (x.kind == 7) = false) (h9 : (x.kind == 9) = false) (h8 : (x.kind == 8) = false) : r = (0, mCost s) := by
  simp only [mSum, h3, h4, h5, h6, h7, h8, h9, Bool.false_eq_true, if_false] at h
  cases h; rfl
end
set_option maxRecDepth 8000 in
set_option maxHeartbeats 2000000 in
theorem sc_cell0 (u : Un) (s : Rs) (k n : Int) (hn : n < 0) : SC Tryz.prog 89 [.ptr 1001 0, iInt k, iInt n] (runH u s) (fun _ => False) (iBool false) (runH u { s with st := 3 }) := by
  refine SC.of Tryz.func89 rfl (lb rfl) fun F ρ w => ?_
  refine Tr.seq <| Tr.region rfl <| cV rfl (oA rfl) <| WL.nil <| Tr.seq <| Tr.seq <| Tr.region rfl <| cV rfl (oM rfl) <| cV rfl (oB rfl rfl rfl) <| cV rfl (oM rfl) ?_
  refine WL.split (t := 9) rfl (fun hb9 => ?_) (fun hb9 => ?_)
  · refine nV rfl rfl <| nV rfl rfl <| nV rfl rfl <| nV rfl rfl <| nV rfl rfl <| nV rfl rfl <| nV rfl rfl <| nV rfl rfl <| nV rfl rfl <| nV rfl rfl <| cV rfl (oT rfl rfl) <| WL.nil ?_
    refine Tr.condT rfl <| Tr.seq <| Tr.region rfl <| cV rfl (oM rfl) <| cV rfl (ok_nilCheck rfl rfl rfl) <| cV rfl (oFp rfl rfl tF67_3) <| cV rfl (oFp rfl rfl tF46_0) <| WL.cons0 rfl rfl ((ok_store_box rfl rfl rfl rfl ((fun h => h)) tS3 (rfl) (lb rfl))) <| WL.nil <| Tr.seq <| Tr.region rfl <| cV rfl (oA rfl) ?_
    refine WL.nil <| Tr.ret ?_
    refine ret_ok rfl rfl (po2 rfl rfl)
  exact absurd hn (by simpa using hb9)
/-- Calls of what runs, up to a depth. -/
def SCC (u : Un) (D : Nat) : Prop := ∀ d, d < D → ∀ k a s r, mCall u d k a s = some r → SC Tryz.prog 29 [.ptr 1001 0, iInt k, .pv (ints a)] (runH u s) (fun _ => False) (iInt r.1) (runH u r.2)
/-- Lists. -/
def SCL (u : Un) (D : Nat) : Prop := ∀ d, d < D → ∀ l v s r, mList u d l v s = some r → lsW l ≤ 1073741824 → SC Tryz.prog 45 [.ptr 1001 0, .pv (nodes l), .sl 510 (v.map eInt).length] (runV u s v) (fun _ => False) (.pv (endv r.1)) (runV u r.2.2 r.2.1)
set_option maxRecDepth 8000 in
set_option maxHeartbeats 2000000 in
theorem sc_sum (u : Un) (hu : u.arrays = []) (D : Nat) (ihC : SCC u D) (d : Nat) (hd : d ≤ D) (x : Nd) (a : List Int) (s : Rs) (r : Int × Rs) (h : mSum u d x a s = some r) : SC Tryz.prog 68 [.ptr 1001 0, .pv (ndv x), .pv (ints a)] (runH u s) (fun _ => False) (iInt r.1) (runH u r.2) := by
  refine SC.of Tryz.func68 rfl (lb rfl) fun F ρ w => ?_
  obtain ⟨d, rfl⟩ := mSum_pos h
  refine Tr.lenOf (t := 2) rfl (fun hl => ?_)
  simp only [List.length_map] at hl
  refine Tr.seq <| Tr.region rfl <| WL.cons rfl rfl rfl ((ok_box rfl rfl)) <| cV rfl (oA rfl) <| WL.nil <| Tr.seq <| Tr.region rfl <| cV rfl (oM rfl) <| cV rfl (oM rfl) <| cV rfl (ok_nilCheck rfl rfl rfl) <| cV rfl (oFp rfl rfl tF67_3) <| cV rfl (oFp rfl rfl tF46_3) ?_
  refine cV rfl (oLb Tryz.underlying3 rfl rfl rfl trivial) <| cV rfl (oB rfl rfl rfl) <| cV rfl (ok_nilCheck rfl rfl rfl) <| cV rfl (oFp rfl rfl tF67_3) <| cV rfl (oFp rfl rfl tF46_3) <| WL.cons0 rfl rfl ((ok_store_box rfl rfl rfl rfl ((fun h => h)) tS3 (rfl) (lb rfl))) <| WL.nil <| Tr.seq ?_
  refine Tr.heap (σ' := look (up (runH u (mCost s)))) (by
    intro j
    by_cases h1001 : 1001 = j
    · subst h1001; rfl
    · by_cases h1002 : 1002 = j
      · subst h1002; rfl
      · simp [look, up, runV, runH, beq_ne h1001, beq_ne h1002]) ?_
  refine Tr.drawn mixed (fun k => k ∈ ([1001] : List Nat)) <| WA.run (fuel := 2) [0, 1, 2, 3, 4, 5] (by kernel_rfl) ((fun _ _ _ h => h)) (by kernel_rfl) <| rV rfl rfl (oM rfl) <| rV rfl rfl (ok_nilCheck rfl rfl rfl) <| rV rfl rfl (oFp rfl rfl tF67_0) <| rV rfl rfl (ok_load_box_pure rfl rfl rfl Tryz.underlying25 rfl tS25 (Nat.le_of_ble_eq_true rfl) rfl (by decide)) <| rV rfl rfl (oFe rfl tF42_3) <| rV rfl rfl (oLe Tryz.underlying9 rfl rfl) <| WR.nil <| WA.one (i := 6) (by kernel_rfl) <| WI.op rfl rfl rfl (by intro t h; cases h <;> rfl) (fun k (h : _) => h.elim) (fun _ h1 h2 => absurd h1 h2) (fun ρ w => ok_callq (sc_r8Array _ _) ent47 rfl rfl (Subs.refl _ _) rfl) <| WA.run (fuel := 0) [7] (by kernel_rfl) ((fun _ _ _ h => h)) (by kernel_rfl) ?_
  refine rV rfl rfl (oA rfl) <| WR.nil <| WA.done (by kernel_rfl) <| Tr.seq <| Tr.seq <| Tr.region rfl <| cV rfl (oFe rfl tF42_0) <| cV rfl (oLe Tryz.underlying3 rfl rfl) <| WL.nil <| Tr.block <| Tr.seq <| Tr.region rfl ?_
  refine cV rfl (oB rfl rfl rfl) <| cV rfl (oA rfl) <| WL.nil ?_
  refine Tr.cond rfl (fun hc30 => ?_) (fun hc30 => ?_)
  · obtain ⟨a0, h0, rfl⟩ := mSum_one h hc30
    have hi0 := map_get (f := eInt) h0
    refine Tr.seq <| Tr.drawn mixed (fun k => k ∈ ([] : List Nat)) <| WA.run (fuel := 2) [0, 1, 2, 3, 4] (by kernel_rfl) ((fun _ _ _ h => h)) (by kernel_rfl) <| rV rfl rfl (oFe rfl tF42_1) <| rV rfl rfl (oLe Tryz.underlying3 rfl rfl) <| rV rfl rfl (oM rfl) <| rV rfl rfl (ok_index_seq rfl rfl rfl Tryz.underlying35 hi0 tS3 rfl (by rfl)) <| rV rfl rfl (oLe Tryz.underlying3 rfl rfl) <| WR.nil <| WA.one (i := 5) (by kernel_rfl) <| WI.op rfl rfl rfl (by intro t h; cases h <;> rfl) (fun k (h : _) => h.elim) (fun _ h1 h2 => absurd h1 h2) (fun ρ w => ok_callq (sc_mOne _ _) ent87 rfl rfl (Subs.refl _ _) rfl) <| WA.run (fuel := 0) [6] (by kernel_rfl) ((fun _ _ _ h => h)) (by kernel_rfl) ?_
    refine rV rfl rfl (oA rfl) <| WR.nil <| WA.done (by kernel_rfl) <| Tr.ret ?_
    refine ret_ok rfl ?_ (po2 rfl rfl)
    rfl
  refine Tr.seq <| Tr.region rfl <| cV rfl (oB rfl rfl rfl) <| cV rfl (oA rfl) <| WL.nil ?_
  refine Tr.cond rfl (fun hc38 => ?_) (fun hc38 => ?_)
  · obtain ⟨a0, a1, h0, h1, rfl⟩ := mSum_two h hc38
    have hi0 := map_get (f := eInt) h0
    have hi1 := map_get (f := eInt) h1
    refine Tr.seq <| Tr.drawn mixed (fun k => k ∈ ([] : List Nat)) <| WA.run (fuel := 6) [0, 1, 2, 3, 4, 5, 6, 7] (by kernel_rfl) ((fun _ _ _ h => h)) (by kernel_rfl) <| rV rfl rfl (oFe rfl tF42_1) <| rV rfl rfl (oLe Tryz.underlying3 rfl rfl) <| rV rfl rfl (oM rfl) <| rV rfl rfl (ok_index_seq rfl rfl rfl Tryz.underlying35 hi0 tS3 rfl (by rfl)) <| rV rfl rfl (oLe Tryz.underlying3 rfl rfl) <| rV rfl rfl (oM rfl) <| rV rfl rfl (ok_index_seq rfl rfl rfl Tryz.underlying35 hi1 tS3 rfl (by rfl)) <| rV rfl rfl (oLe Tryz.underlying3 rfl rfl) <| WR.nil ?_
    refine WA.one (i := 8) (by kernel_rfl) <| WI.op rfl rfl rfl (by intro t h; cases h <;> rfl) (fun k (h : _) => h.elim) (fun _ h1 h2 => absurd h1 h2) (fun ρ w => ok_callq (sc_mTwo _ _ _) ent88 rfl rfl (Subs.refl _ _) rfl) <| WA.run (fuel := 0) [9, 10, 11, 12, 13] (by kernel_rfl) ((fun _ _ _ h => h)) (by kernel_rfl) <| rV rfl rfl (oM rfl) <| rV rfl rfl (ok_extract rfl rfl rfl) <| rV rfl rfl (ok_extract rfl rfl rfl) <| rV rfl rfl (oA rfl) <| rV rfl rfl (oA rfl) <| WR.nil <| WA.done (by kernel_rfl) <| Tr.seq <| Tr.seq ?_
    refine Tr.region rfl <| cV rfl (oM rfl) <| cV rfl (oN rfl) <| WL.nil ?_
    refine Tr.cond rfl (fun hc53 => ?_) (fun hc53 => ?_)
    · have hok : (mTwo x.op a0 a1).2 = false := by simpa using hc53
      refine Tr.region rfl <| cV rfl (oM rfl) <| cV rfl (ok_nilCheck rfl rfl rfl) <| cV rfl (oFp rfl rfl tF67_3) <| cV rfl (oFp rfl rfl tF46_0) <| WL.cons0 rfl rfl ((ok_store_box rfl rfl rfl rfl ((fun h => h)) tS3 (rfl) (lb rfl))) <| WL.nil <| Tr.seq <| Tr.region rfl <| cV rfl (oM rfl) <| cV rfl (oA rfl) <| WL.nil ?_
      refine Tr.ret ?_
      rw [hok]
      refine ret_ok rfl rfl (po2 rfl rfl)
    have hok : (mTwo x.op a0 a1).2 = true := by simpa using hc53
    refine Tr.skip <| Tr.seq <| Tr.region rfl <| cV rfl (oM rfl) <| cV rfl (oA rfl) <| WL.nil <| Tr.ret ?_
    rw [hok]
    refine ret_ok rfl rfl (po2 rfl rfl)
  refine Tr.seq <| Tr.region rfl <| cV rfl (oB rfl rfl rfl) <| cV rfl (oA rfl) <| WL.nil ?_
  refine Tr.cond rfl (fun hc59 => ?_) (fun hc59 => ?_)
  · obtain ⟨a0, h0, ha0, rfl⟩ := mSum_load hu h hc59
    have hi0 := map_get (f := eInt) h0
    refine Tr.seq <| Tr.region rfl <| cV rfl (oM rfl) <| cV rfl (oM rfl) <| cV rfl (oM rfl) <| cV rfl (ok_index_seq rfl rfl rfl Tryz.underlying35 hi0 tS3 rfl (by rfl)) <| cV rfl (oLe Tryz.underlying3 rfl rfl) <| WL.cons rfl rfl rfl (ok_callr (sc_cell0 u (mCost s) _ a0 ha0) ent89 rfl rfl (Subs.refl _ _) (fun _ _ h => h) (by rfl) (fun k (h : _) => .inr h) rfl (by rfl)) <| WL.nil ?_
    refine Tr.cond rfl (fun hc66 => ?_) (fun hc66 => ?_)
    · cases hc66
    refine Tr.skip <| Tr.seq <| Tr.region rfl <| cV rfl (oA rfl) <| WL.nil <| Tr.ret ?_
    exact ret_ok rfl rfl (po2 rfl rfl)
  refine Tr.seq <| Tr.region rfl <| cV rfl (oB rfl rfl rfl) <| cV rfl (oA rfl) <| WL.nil ?_
  refine Tr.cond rfl (fun hc79 => ?_) (fun hc79 => ?_)
  · obtain ⟨a0, h0, ha0, rfl⟩ := mSum_store hu h hc79
    have hi0 := map_get (f := eInt) h0
    refine Tr.seq <| Tr.region rfl <| cV rfl (oM rfl) <| cV rfl (oM rfl) <| cV rfl (oM rfl) <| cV rfl (ok_index_seq rfl rfl rfl Tryz.underlying35 hi0 tS3 rfl (by rfl)) <| cV rfl (oLe Tryz.underlying3 rfl rfl) <| WL.cons rfl rfl rfl (ok_callr (sc_cell0 u (mCost s) _ a0 ha0) ent89 rfl rfl (Subs.refl _ _) (fun _ _ h => h) (by rfl) (fun k (h : _) => .inr h) rfl (by rfl)) <| WL.nil ?_
    refine Tr.cond rfl (fun hc86 => ?_) (fun hc86 => ?_)
    · cases hc86
    refine Tr.skip <| Tr.seq <| Tr.region rfl <| cV rfl (oA rfl) <| WL.nil <| Tr.ret ?_
    exact ret_ok rfl rfl (po2 rfl rfl)
  refine Tr.seq <| Tr.region rfl <| cV rfl (oB rfl rfl rfl) <| cV rfl (oA rfl) <| WL.nil ?_
  refine Tr.cond rfl (fun hc101 => ?_) (fun hc101 => ?_)
  · have hcall := mSum_call h hc101
    refine Tr.seq <| Tr.drawn mixed (fun k => k ∈ ([] : List Nat)) <| WA.run (fuel := 4) [0, 1, 2, 3, 5, 6, 8] (by kernel_rfl) ((fun _ _ _ h => h)) (by kernel_rfl) <| rV rfl rfl (oM rfl) <| rV rfl rfl (oM rfl) <| rV rfl rfl (ok_nilCheck rfl rfl rfl) <| rV rfl rfl (oFp rfl rfl tF67_0) <| rV rfl rfl (oFe rfl tF42_3) <| rV rfl rfl (oLe Tryz.underlying9 rfl rfl) <| rV rfl rfl (oM rfl) <| WR.nil <| WA.one (i := 4) (by kernel_rfl) ?_
    refine WI.op rfl rfl rfl (by intro t h; cases h <;> rfl) (fun k (h : _) => h.elim) (fun _ h1 h2 => absurd h1 h2) (fun ρ w => OkV.ok (R1 := fun _ => True) ((ok_load_box_pure rfl rfl rfl Tryz.underlying25 rfl tS25 (lb rfl) rfl trivial))) <| WA.one (i := 7) (by kernel_rfl) <| WI.op rfl rfl rfl (by intro t h; cases h <;> rfl) (fun k (h : _) => h.elim) (fun _ h1 h2 => absurd h1 h2) (fun ρ w => ok_callq (sc_r8Place _ _) ent30 rfl rfl (Subs.refl _ _) rfl) <| WA.one (i := 9) (by kernel_rfl) <| WI.op rfl rfl rfl (by intro t h; cases h <;> rfl) (fun k (h : _) => h.elim) (new_app rfl) (fun ρ w => ok_callr (ihC d (by omega) _ a (mCost s) r hcall) ent29 rfl rfl (Subs.refl _ _) (fun _ _ h => h) (by rfl) (fun k (h : _) => absurd h List.not_mem_nil) rfl (by rfl)) <| WA.run (fuel := 0) [10] (by kernel_rfl) ((fun _ _ _ h => h)) (by kernel_rfl) <| rV rfl rfl (oA rfl) <| WR.nil <| WA.done (by kernel_rfl) <| Tr.ret ?_
    refine ret_ok rfl ?_ (po2 rfl rfl)
    rfl
  refine Tr.seq <| Tr.region rfl <| cV rfl (oB rfl rfl rfl) <| cV rfl (oA rfl) <| WL.nil ?_
  refine Tr.cond rfl (fun hc113 => ?_) (fun hc113 => ?_)
  · obtain ⟨a0, h0, hol, rfl⟩ := mSum_print h hc113
    have hi0 := map_get (f := eInt) h0
    have hol2 : (mCost s).out.length < 1073741824 := hol
    refine Tr.drawn mixed (fun k => k ∈ ([] : List Nat)) <| WA.run (fuel := 7) [0, 1, 2, 3, 4, 6, 7, 8] (by kernel_rfl) ((fun _ _ _ h => h)) (by kernel_rfl) <| rV rfl rfl (oM rfl) <| rV rfl rfl (oM rfl) <| rV rfl rfl (ok_nilCheck rfl rfl rfl) <| rV rfl rfl (oFp rfl rfl tF67_3) <| rV rfl rfl (oFp rfl rfl tF46_2) <| rV rfl rfl (oM rfl) <| rV rfl rfl (ok_index_seq rfl rfl rfl Tryz.underlying35 hi0 tS3 rfl (by rfl)) <| rV rfl rfl (oLe Tryz.underlying3 rfl rfl) <| WR.nil ?_
    refine WA.all (rs := [5, 9]) (by kernel_rfl) (by simp) ?_
    refine List.forall_mem_cons.2 ⟨?_, List.forall_mem_cons.2 ⟨?_, by simp⟩⟩
    · refine WI.op rfl rfl rfl (by intro t h; cases h <;> rfl) (fun k (h : _) => h.elim) (fun _ h1 h2 => absurd h1 h2) (fun ρ w => OkV.ok (R1 := fun _ => True) ((ok_load_box rfl rfl rfl Tryz.underlying35 rfl rfl trivial))) <| WA.one (i := 9) (by kernel_rfl) <| WI.op rfl rfl rfl (by intro t h; cases h <;> rfl) (fun k (h : _) => h.elim) (fun _ h1 h2 => absurd h1 h2) (fun ρ w => ok_buildSlice rfl rfl Tryz.underlying35 tZ3 tS3 rfl rfl rfl rfl (firmB_ok rfl) rfl) <| WA.one (i := 10) (by kernel_rfl) ?_
      refine WI.op rfl rfl rfl (by intro t h; cases h <;> rfl) (fun k (h : _) => h.elim) (new_old rfl) (fun ρ w => ok_append rfl rfl rfl rfl (by rfl) (by simp) Tryz.underlying35 tB3 (by decide) (by (simp [chunks]; done)) (by (simp [chunks, PV.one]; rfl)) (by simp [maxLen, chunks]; omega) (by simp [chunks]; omega)) ?_
      refine WA.run (fuel := 1) [11, 12, 13] (by kernel_rfl) ((fun _ _ _ h => h)) (by kernel_rfl) <| rV rfl rfl (ok_nilCheck rfl rfl rfl) <| rV rfl rfl (oFp rfl rfl tF67_3) <| rV rfl rfl (oFp rfl rfl tF46_2) <| WR.nil <| WA.one (i := 14) (by kernel_rfl) ?_
      refine WI.op rfl rfl rfl (by intro t h; cases h <;> rfl) (fun k (h : _) => h.elim) (new_old rfl) (fun ρ w => (ok_store_box rfl rfl rfl rfl (by simp) tS35 (⟨_, _, rfl, by simp⟩) (lb rfl))) ?_
      refine WA.done (by kernel_rfl) <| Tr.seq <| Tr.region rfl <| cV rfl (oA rfl) <| WL.nil <| Tr.ret ?_
      exact ret_ok rfl rfl (post_ok (And.intro (congrArg (fun z => some (HO.box z)) (by simp [chunks, eInt, mCost])) (And.intro (congrArg (fun z => some (HO.row _ z)) (by simp [chunks, eInt, mCost])) trivial)))
    refine WI.op rfl rfl rfl (by intro t h; cases h <;> rfl) (fun k (h : _) => h.elim) (fun _ h1 h2 => absurd h1 h2) (fun ρ w => ok_buildSlice rfl rfl Tryz.underlying35 tZ3 tS3 rfl rfl rfl rfl (firmB_ok rfl) rfl) <| WA.one (i := 5) (by kernel_rfl) <| WI.op rfl rfl rfl (by intro t h; cases h <;> rfl) (fun k (h : _) => h.elim) (fun _ h1 h2 => absurd h1 h2) (fun ρ w => OkV.ok (R1 := fun _ => True) ((ok_load_box rfl rfl rfl Tryz.underlying35 rfl rfl trivial))) <| WA.one (i := 10) (by kernel_rfl) ?_
    refine WI.op rfl rfl rfl (by intro t h; cases h <;> rfl) (fun k (h : _) => h.elim) (new_old rfl) (fun ρ w => ok_append rfl rfl rfl rfl (by rfl) (by simp) Tryz.underlying35 tB3 (by decide) (by (simp [chunks]; done)) (by (simp [chunks, PV.one]; rfl)) (by simp [maxLen, chunks]; omega) (by simp [chunks]; omega)) ?_
    refine WA.run (fuel := 1) [11, 12, 13] (by kernel_rfl) ((fun _ _ _ h => h)) (by kernel_rfl) <| rV rfl rfl (ok_nilCheck rfl rfl rfl) <| rV rfl rfl (oFp rfl rfl tF67_3) <| rV rfl rfl (oFp rfl rfl tF46_2) <| WR.nil <| WA.one (i := 14) (by kernel_rfl) ?_
    refine WI.op rfl rfl rfl (by intro t h; cases h <;> rfl) (fun k (h : _) => h.elim) (new_old rfl) (fun ρ w => (ok_store_box rfl rfl rfl rfl (by simp) tS35 (⟨_, _, rfl, by simp⟩) (lb rfl))) ?_
    refine WA.done (by kernel_rfl) <| Tr.seq <| Tr.region rfl <| cV rfl (oA rfl) <| WL.nil <| Tr.ret ?_
    exact ret_ok rfl rfl (post_ok (And.intro (congrArg (fun z => some (HO.box z)) (by simp [chunks, eInt, mCost])) (And.intro (congrArg (fun z => some (HO.row _ z)) (by simp [chunks, eInt, mCost])) trivial)))
  refine Tr.seq <| Tr.region rfl <| cV rfl (oB rfl rfl rfl) <| cV rfl (oA rfl) <| WL.nil ?_
  refine Tr.cond rfl (fun hc129 => ?_) (fun hc129 => ?_)
  · have hrd := mSum_read h hc129
    refine Tr.seq <| Tr.seq <| Tr.region rfl <| cV rfl (oM rfl) <| cV rfl (ok_nilCheck rfl rfl rfl) <| cV rfl (oFp rfl rfl tF67_1) <| cV rfl (oLb Tryz.underlying35 rfl rfl rfl trivial) <| cV rfl (oSm Tryz.underlying35 rfl) <| cV rfl (oB rfl rfl rfl) <| WL.nil ?_
    refine Tr.cond rfl (fun hc136 => ?_) (fun hc136 => ?_)
    · obtain ⟨hin, rfl⟩ : s.ins = [] ∧ r = (0, { mCost s with st := 4 }) := by
        rcases hrd with h1 | ⟨y, q, h1, _⟩
        · exact h1
        simp [mCost, h1] at hc136
        omega
      refine Tr.seq <| Tr.region rfl <| cV rfl (oM rfl) <| cV rfl (ok_nilCheck rfl rfl rfl) <| cV rfl (oFp rfl rfl tF67_3) <| cV rfl (oFp rfl rfl tF46_0) <| WL.cons0 rfl rfl ((ok_store_box rfl rfl rfl rfl ((fun h => h)) tS3 (rfl) (lb rfl))) <| WL.nil <| Tr.seq <| Tr.region rfl <| cV rfl (oA rfl) <| WL.nil ?_
      refine Tr.ret ?_
      refine ret_ok rfl ?_ (po2 rfl rfl)
      rfl
    obtain ⟨y, q, hin, rfl⟩ : ∃ y q, s.ins = y :: q ∧ r = (y, { mCost s with ins := q }) := by
      rcases hrd with ⟨h1, _⟩ | h1
      · simp [mCost, h1] at hc136
      exact h1
    have hil : (mCost s).ins = y :: q := hin
    have hi0 : ((mCost s).ins.map eInt)[0]? = some (eInt y) := by show (s.ins.map eInt)[0]? = _; rw [hin]; rfl
    refine Tr.skip <| Tr.seq <| Tr.region rfl <| cV rfl (oM rfl) <| cV rfl (ok_nilCheck rfl rfl rfl) <| cV rfl (oFp rfl rfl tF67_1) <| cV rfl (oLb Tryz.underlying35 rfl rfl rfl trivial) <| cV rfl (ok_index_seq rfl rfl rfl Tryz.underlying35 hi0 tS3 rfl (by rfl)) <| cV rfl (oLe Tryz.underlying3 rfl rfl) <| cV rfl (oA rfl) <| WL.nil <| Tr.seq ?_
    refine Tr.region rfl <| cV rfl (oM rfl) <| cV rfl (oM rfl) <| cV rfl (ok_nilCheck rfl rfl rfl) <| cV rfl (oFp rfl rfl tF67_1) <| cV rfl (oLb Tryz.underlying35 rfl rfl rfl trivial) ?_
    refine cV rfl (ok_slice_seq (i := 1) (j := (y :: q).length) rfl (show _ = some (IV.pv (ints (mCost s).ins)) from rfl) Tryz.underlying35 tS3 (.inr ⟨_, _, rfl, rfl⟩) (.inl ⟨rfl, by simp [hil]⟩) (by simp) (by simp [hil]) hw_int) ?_
    refine cV rfl (ok_nilCheck rfl rfl rfl) <| cV rfl (oFp rfl rfl tF67_1) <| WL.cons0 rfl rfl ((ok_store_box rfl rfl rfl rfl ((fun h => h)) tS35 (rfl) (lb rfl))) <| WL.nil <| Tr.seq <| Tr.region rfl <| cV rfl (oM rfl) <| cV rfl (oA rfl) <| WL.nil <| Tr.ret ?_
    refine ret_ok rfl rfl (post_ok (And.intro (congrArg (fun z => some (HO.box z)) (by (simp [hil, ints, List.take_of_length_le]; done))) (And.intro rfl trivial)))
  obtain rfl := mSum_else h hc30 hc38 hc59 hc79 hc101 hc113 hc129
  refine Tr.skip <| Tr.seq <| Tr.region rfl <| cV rfl (oA rfl) <| WL.nil <| Tr.ret ?_
  exact ret_ok rfl rfl (po2 rfl rfl)
theorem end_nil : PSub (.agg [vInt 0, .val (.slice none 0 0)]) (endv (0, [])) := PSub.agg (ps := [vInt 0, .val (.slice none 0 0)]) (qs := [vInt 0, .seq []]) (And.intro (PSub.refl _) (And.intro PSub.nil trivial))
set_option maxRecDepth 8000 in
set_option maxHeartbeats 2000000 in
theorem sc_loop (u : Un) (D : Nat) (ihL : SCL u D) (d : Nat) (hd : d ≤ D) (x : Nd) (hx : ndW x ≤ 1073741824) (v a : List Int) (s : Rs) (r : Rres) (h : mLoop u d x v a s = some r) : SC Tryz.prog 67 [.ptr 1001 0, .pv (ndv x), .sl 510 (v.map eInt).length, .pv (ints a)] (runV u s v) (fun _ => False) (.pv (endv r.1)) (runV u r.2.2 r.2.1) := by
  refine SC.ofC Tryz.func67 rfl (lb rfl) rfl fun F ρ w => ?_
  refine Tr.seq <| Tr.region rfl <| WL.cons rfl rfl rfl ((ok_box rfl rfl)) <| WL.cons rfl rfl rfl (ok_alloc (k := 108) rfl tZ79 rfl rfl rfl rfl) <| WL.nil <| Tr.block <| Tr.sub (Sub.of (fr' := [(8, .ptr 108 0), (5, .pv (.ept [vInt x.kind, vInt x.op, vInt x.n, vStr x.name, ints x.args, ints x.outs, ints x.params, kids x.kids] 0)), (0, .ptr 1001 0), (2, .sl 510 (v.map eInt).length), (3, .pv (ints a))]) ⟨rfl, rfl, rfl, rfl, rfl, trivial⟩) ?_
  refine Tr.heap (σ' := look [(108, some (.box [iInt 0, .pv (.val (.slice none 0 0))])), (1001, some (runBox u s)), (1002, some (rowI (s).out)), (510, some (rowI v))]) (by
  intro j
  by_cases h108 : 108 = j
  · subst h108; rfl
  · by_cases h1001 : 1001 = j
    · subst h1001; rfl
    · by_cases h1002 : 1002 = j
      · subst h1002; rfl
      · by_cases h510 : 510 = j
        · subst h510; rfl
        · simp [look, up, runV, runH, beq_ne h108, beq_ne h1001, beq_ne h1002, beq_ne h510]) ?_
  refine Tr.loop (fun fr σ m => ∃ (d0 : Nat) (v1 : List Int) (a1 : List Int) (s1 : Rs), (d0 ≤ d) ∧ (mLoop u d0 x v1 a1 s1 = some r) ∧ ((v1.map eInt).length = (v.map eInt).length) ∧ fr = [(8, .ptr 108 0), (5, .pv (.ept [vInt x.kind, vInt x.op, vInt x.n, vStr x.name, ints x.args, ints x.outs, ints x.params, kids x.kids] 0)), (0, .ptr 1001 0), (2, .sl 510 (v.map eInt).length), (3, .pv (ints a1))] ∧ σ = look [(108, some (.box [iInt 0, .pv (.val (.slice none 0 0))])), (1001, some (runBox u s1)), (1002, some (rowI (s1).out)), (510, some (rowI v1))] ∧ m = d0) (n := d) ?_ ?_
  · exact ⟨d, v, a, s, Nat.le_refl _, h, rfl, rfl, rfl, rfl⟩
  · rintro fr σ m ⟨d0, v1, a1, s1, hI0, hI1, hI2, rfl, rfl, rfl⟩
    obtain ⟨d1, v2, q, r1, rfl, hset, hq, hlist, hrest⟩ := mLoop_step hI1
    have hi0 := map_get (f := eKid) hq
    have hqb : lsW q ≤ 1073741824 := by have := kdW_mem (List.mem_of_getElem? hq); have := ndW_eq x; omega
    have hl2 : (v2.map eInt).length = (v.map eInt).length := by rw [← hI2]; simp [mSet_len hset]
    have hl3 : (r1.2.1.map eInt).length = (v.map eInt).length := by rw [← hl2]; simp [mList_len hlist]
    refine Tr.block <| Tr.seq <| Tr.region rfl <| cV rfl (oM rfl) <| cV rfl (oFe rfl tF42_6) <| cV rfl (oLe Tryz.underlying35 rfl rfl) <| cV rfl (oM rfl) <| WL.cons rfl rfl rfl (ok_callr (sc_set v1 x.params a1 v2 hset) ent66 rfl rfl (Subs.same (congrArg (fun n => IV.sl 510 n) hI2.symm) (Subs.refl _ _)) (po1 rfl) (by rfl) (fun k (h : _) => .inr h) rfl (by rfl)) <| WL.nil <| Tr.seq ?_
    refine Tr.heap (σ' := look [(108, some (.box [iInt 0, .pv (.val (.slice none 0 0))])), (1001, some (runBox u s1)), (1002, some (rowI (s1).out)), (510, some (rowI v2))]) (by
      intro j
      by_cases h108 : 108 = j
      · subst h108; rfl
      · by_cases h1001 : 1001 = j
        · subst h1001; rfl
        · by_cases h1002 : 1002 = j
          · subst h1002; rfl
          · by_cases h510 : 510 = j
            · subst h510; rfl
            · simp [look, up, runV, runH, beq_ne h108, beq_ne h1001, beq_ne h1002, beq_ne h510]) ?_
    refine Tr.region rfl <| cV rfl (oM rfl) <| cV rfl (oFe rfl tF42_7) <| cV rfl (oLe Tryz.underlying40 rfl rfl) <| cV rfl (ok_index_seq rfl rfl rfl Tryz.underlying40 hi0 tS43 rfl (by rfl)) <| cV rfl (oLe Tryz.underlying43 rfl rfl) <| cV rfl (oM rfl) <| WL.cons rfl rfl rfl (ok_callr (ihL d1 (by omega) q v2 s1 r1 hlist hqb) ent45 rfl rfl (Subs.same rfl (Subs.same rfl (Subs.same (congrArg (fun n => IV.sl 510 n) hl2.symm) Subs.nil))) (po3 rfl rfl rfl) (by rfl) (fun k (h : _) => .inr h) rfl (by rfl)) <| WL.cons rfl rfl rfl (ok_alloc (k := 109) rfl tZ79 rfl rfl rfl rfl) <| WL.cons0 rfl rfl (ok_store_box_agg rfl rfl rfl rfl rfl ((fun h => h)) tS79 (firmL_ok rfl) (lb rfl)) <| WL.nil <| Tr.seq ?_
    refine Tr.block <| Tr.seq <| Tr.freezeBox (t := 9) (k := 109) rfl rfl rfl ?_
    refine Tr.heap (σ' := look [(108, some (.box [iInt 0, .pv (.val (.slice none 0 0))])), (1001, some (runBox u r1.2.2)), (1002, some (rowI (r1.2.2).out)), (510, some (rowI r1.2.1))]) (by
      intro j
      by_cases h109 : 109 = j
      · subst h109; rfl
      · by_cases h108 : 108 = j
        · subst h108; rfl
        · by_cases h1001 : 1001 = j
          · subst h1001; rfl
          · by_cases h1002 : 1002 = j
            · subst h1002; rfl
            · by_cases h510 : 510 = j
              · subst h510; rfl
              · simp [look, up, runV, runH, beq_ne h109, beq_ne h108, beq_ne h1001, beq_ne h1002, beq_ne h510]) ?_
    refine Tr.region rfl <| cV rfl (oM rfl) <| WL.cons rfl rfl rfl (ok_callr (sc_over u r1.2.2) ent31 rfl rfl (Subs.refl _ _) (po2 rfl rfl) (by rfl) (fun k (h : _) => .inr trivial) rfl (by rfl)) <| cV rfl (oM rfl) ?_
    refine WL.split (t := 25) rfl (fun hb25 => ?_) (fun hb25 => ?_)
    · refine nV rfl rfl <| nV rfl rfl <| nV rfl rfl <| cV rfl (oT rfl rfl) <| cV rfl (oA rfl) <| WL.nil <| Tr.condT rfl <| Tr.seq <| Tr.region rfl <| cV rfl (ok_load_ept_agg rfl rfl Tryz.underlying79 rfl tS79 (Nat.le_of_ble_eq_true rfl)) <| WL.cons0 rfl rfl (ok_store_box_agg rfl rfl rfl rfl rfl ((fun h => h)) tS79 (firmL_ok rfl) (lb rfl)) <| WL.nil ?_
      refine Tr.ret ?_
      have hov : (mOver r1.2.2 || r1.1.1 == 15) = true := by first | (rw [hb25]; rfl) | (rw [hc22, Bool.or_true])
      rw [if_pos hov] at hrest
      obtain rfl : r1 = r := by injection hrest
      refine retC_ok (.inl rfl) (fun _ _ ho => ok_load_box_pure ho rfl rfl Tryz.underlying79 rfl tS79 (lb rfl) rfl trivial) rfl (po3 rfl rfl rfl)
    · refine yV rfl rfl (oFe rfl tF79_0) <| yV rfl rfl (oLe Tryz.underlying3 rfl rfl) <| yV rfl rfl (oB rfl rfl rfl) <| cV rfl (oF rfl rfl) <| cV rfl (oA rfl) <| WL.nil ?_
      refine Tr.cond rfl (fun hc22 => ?_) (fun hc22 => ?_)
      · refine Tr.seq <| Tr.region rfl <| cV rfl (ok_load_ept_agg rfl rfl Tryz.underlying79 rfl tS79 (Nat.le_of_ble_eq_true rfl)) <| WL.cons0 rfl rfl (ok_store_box_agg rfl rfl rfl rfl rfl ((fun h => h)) tS79 (firmL_ok rfl) (lb rfl)) <| WL.nil <| Tr.ret ?_
        have hov : (mOver r1.2.2 || r1.1.1 == 15) = true := by first | (rw [hb25]; rfl) | (rw [hc22, Bool.or_true])
        rw [if_pos hov] at hrest
        obtain rfl : r1 = r := by injection hrest
        refine retC_ok (.inl rfl) (fun _ _ ho => ok_load_box_pure ho rfl rfl Tryz.underlying79 rfl tS79 (lb rfl) rfl trivial) rfl (po3 rfl rfl rfl)
      · rw [if_neg (by rw [hb25, hc22]; decide)] at hrest
        refine Tr.seq <| Tr.region rfl <| cV rfl (oFe rfl tF79_0) <| cV rfl (oLe Tryz.underlying3 rfl rfl) <| cV rfl (oB rfl rfl rfl) <| cV rfl (oA rfl) <| WL.nil ?_
        refine Tr.cond rfl (fun hc31 => ?_) (fun hc31 => ?_)
        · rw [if_pos hc31, Option.map_eq_some_iff] at hrest
          obtain ⟨v3, hset2, rfl⟩ := hrest
          refine Tr.seq <| Tr.region rfl <| cV rfl (oM rfl) <| cV rfl (oFe rfl tF42_5) <| cV rfl (oLe Tryz.underlying35 rfl rfl) <| cV rfl (oFe rfl tF79_1) <| cV rfl (oLe Tryz.underlying35 rfl rfl) <| WL.cons rfl rfl rfl (ok_callr (sc_set r1.2.1 x.outs r1.1.2 v3 hset2) ent66 rfl rfl (Subs.same (congrArg (fun n => IV.sl 510 n) hl3.symm) (Subs.refl _ _)) (po1 rfl) (by rfl) (fun k (h : _) => .inr h) rfl (by rfl)) <| WL.nil <| Tr.seq <| Tr.region rfl <| cV rfl (ok_build_pure rfl rfl tZ79 tP79 rfl (firmB_ok rfl) rfl) ?_
          refine WL.sub (Sub.cons2 (fun _ _ _ _ h => sub_pv end_nil h) Sub.rfl') <| WL.cons0 rfl rfl (ok_store_box_agg rfl rfl rfl rfl rfl ((fun h => h)) tS79 (firmL_ok rfl) (lb rfl)) <| WL.nil <| Tr.ret ?_
          refine retC_ok (.inl rfl) (fun _ _ ho => ok_load_box_pure ho rfl rfl Tryz.underlying79 rfl tS79 (lb rfl) rfl trivial) rfl (po3 rfl rfl rfl)
        rw [if_neg (by rw [hc31]; decide)] at hrest
        have hrest3 := hrest
        refine Tr.skip <| Tr.region rfl <| cV rfl (oFe rfl tF79_1) <| cV rfl (oLe Tryz.underlying35 rfl rfl) <| cV rfl (oA rfl) <| WL.nil ?_
        refine ⟨_, _, ?_, Sub.of (fr' := [(8, .ptr 108 0), (5, .pv (.ept [vInt x.kind, vInt x.op, vInt x.n, vStr x.name, ints x.args, ints x.outs, ints x.params, kids x.kids] 0)), (0, .ptr 1001 0), (2, .sl 510 (v.map eInt).length), (3, .pv (ints r1.1.2))]) ⟨rfl, rfl, rfl, rfl, rfl, trivial⟩, d1, r1.2.1, r1.1.2, r1.2.2, ?_, ?_, ?_, rfl, (funext (by
  intro j
  by_cases h108 : 108 = j
  · subst h108; rfl
  · by_cases h1001 : 1001 = j
    · subst h1001; rfl
    · by_cases h1002 : 1002 = j
      · subst h1002; rfl
      · by_cases h510 : 510 = j
        · subst h510; rfl
        · simp [look, up, runV, runH, beq_ne h108, beq_ne h1001, beq_ne h1002, beq_ne h510])), rfl⟩
        · omega
        · omega
        · exact hrest3
        exact hl3
theorem mList_nil {u : Un} {d : Nat} {v : List Int} {s : Rs} {r : Rres} (h : mList u d [] v s = some r) : r = ((0, []), v, s) := by
  cases d with
  | zero => simp [mList] at h
  | succ d => simp only [mList] at h; cases h; rfl
set_option maxRecDepth 8000 in
set_option maxHeartbeats 2000000 in
theorem sc_list0 (u : Un) (hu : u.arrays = []) (D : Nat) (ihC : SCC u D) (ihL : SCL u D) (d : Nat) (hd : d ≤ D) (l : List Nd) (v : List Int) (s : Rs) (r : Rres) (h : mList u d l v s = some r) (hb : lsW l ≤ 1073741824) : SC Tryz.prog 45 [.ptr 1001 0, .pv (nodes l), .sl 510 (v.map eInt).length] (runV u s v) (fun _ => False) (.pv (endv r.1)) (runV u r.2.2 r.2.1) := by
  refine SC.ofC Tryz.func45 rfl (lb rfl) rfl fun F ρ w => ?_
  refine Tr.lenOf (t := 1) rfl (fun hl => ?_)
  simp only [List.length_map] at hl
  refine Tr.seq <| Tr.region rfl <| WL.cons rfl rfl rfl (ok_alloc (k := 106) rfl tZ79 rfl rfl rfl rfl) <| WL.nil <| Tr.seq <| Tr.seq <| Tr.subBox (k := 106) [.pv (vInt 0), .pv (ints [])] rfl ⟨ISub.refl _, ISub.pv PSub.nil, trivial⟩ (fun h => h) <| Tr.region rfl <| cV rfl (oA rfl) <| WL.nil <| Tr.block <| Tr.sub (Sub.of (fr' := [(7, iInt 0), (6, .ptr 106 0), (0, .ptr 1001 0), (1, .pv (nodes l)), (2, .sl 510 (v.map eInt).length)]) ⟨rfl, rfl, rfl, rfl, rfl, trivial⟩) ?_
  refine Tr.heap (σ' := look [(106, some (.box [.pv (vInt 0), .pv (ints [])])), (1001, some (runBox u s)), (1002, some (rowI (s).out)), (510, some (rowI v))]) (by
  intro j
  by_cases h106 : 106 = j
  · subst h106; rfl
  · by_cases h1001 : 1001 = j
    · subst h1001; rfl
    · by_cases h1002 : 1002 = j
      · subst h1002; rfl
      · by_cases h510 : 510 = j
        · subst h510; rfl
        · simp [look, up, runV, runH, beq_ne h106, beq_ne h1001, beq_ne h1002, beq_ne h510]) ?_
  refine Tr.loop (fun fr σ m => ∃ (k : Nat) (d0 : Nat) (v1 : List Int) (s1 : Rs), (k ≤ l.length) ∧ (d0 ≤ d) ∧ (mList u d0 (l.drop k) v1 s1 = some r) ∧ ((v1.map eInt).length = (v.map eInt).length) ∧ fr = [(7, iInt k), (6, .ptr 106 0), (0, .ptr 1001 0), (1, .pv (nodes l)), (2, .sl 510 (v.map eInt).length)] ∧ σ = look [(106, some (.box [.pv (vInt 0), .pv (ints [])])), (1001, some (runBox u s1)), (1002, some (rowI (s1).out)), (510, some (rowI v1))] ∧ m = l.length - k) (n := l.length - 0) ?_ ?_
  · exact ⟨0, d, v, s, Nat.zero_le _, Nat.le_refl _, h, rfl, rfl, rfl, rfl⟩
  · rintro fr σ m ⟨k, d0, v1, s1, hIk, hI1, hI2, hI3, rfl, rfl, rfl⟩
    refine Tr.seq <| Tr.seq <| Tr.region rfl <| cV rfl (oM rfl) <| cV rfl (oM rfl) <| cV rfl (oSm Tryz.underlying43 rfl) <| cV rfl (oB rfl rfl rfl) <| WL.nil ?_
    refine Tr.cond rfl (fun hc16 => ?_) (fun hc16 => ?_)
    · have hlt : k < l.length := by simpa using hc16
      have hd2 := List.drop_eq_getElem_cons hlt
      have hm := List.getElem_mem hlt
      have hi := nodes_get (List.getElem?_eq_getElem hlt)
      generalize l[k] = x at hd2 hm hi
      rw [hd2] at hI2
      obtain ⟨s2, hs2⟩ : ∃ s2, (mStep s1).2 = s2 := ⟨_, rfl⟩
      obtain ⟨d1, rfl, hst⟩ := mList_step hs2 hI2
      have hxb : ndW x ≤ 1073741824 := by have := ndW_mem hm; omega
      refine Tr.skip <| Tr.seq <| Tr.block <| Tr.seq <| Tr.region rfl <| cV rfl (oM rfl) <| cV rfl (oM rfl) <| cV rfl (ok_index_seq rfl rfl rfl Tryz.underlying43 hi tS42 rfl (by rfl)) <| cV rfl (ok_load_ept_agg rfl rfl Tryz.underlying42 rfl tS42 (Nat.le_of_ble_eq_true rfl)) <| WL.cons rfl rfl rfl (ok_alloc (k := 108) rfl tZ42 rfl rfl rfl rfl) <| WL.cons0 rfl rfl (ok_store_box_agg rfl rfl rfl rfl rfl ((fun h => h)) tS42 (firmL_ok rfl) (lb rfl)) <| WL.nil ?_
      refine Tr.seq <| Tr.seq <| Tr.freezeBox (t := 8) (k := 108) rfl rfl rfl ?_
      refine Tr.heap (σ' := look [(106, some (.box [.pv (vInt 0), .pv (ints [])])), (1001, some (runBox u s1)), (1002, some (rowI (s1).out)), (510, some (rowI v1))]) (by
        intro j
        by_cases h108 : 108 = j
        · subst h108; rfl
        · by_cases h106 : 106 = j
          · subst h106; rfl
          · by_cases h1001 : 1001 = j
            · subst h1001; rfl
            · by_cases h1002 : 1002 = j
              · subst h1002; rfl
              · by_cases h510 : 510 = j
                · subst h510; rfl
                · simp [look, up, runV, runH, beq_ne h108, beq_ne h106, beq_ne h1001, beq_ne h1002, beq_ne h510]) ?_
      refine Tr.region rfl <| cV rfl (oM rfl) <| WL.cons rfl rfl rfl (ok_callr (sc_step u s1) ent64 rfl rfl (Subs.refl _ _) (po2 rfl rfl) (by rfl) (fun k (h : _) => .inr h) rfl (by rfl)) ?_
      rw [hs2]
      refine cV rfl (oN rfl) <| WL.nil ?_
      refine Tr.cond rfl (fun hc25 => ?_) (fun hc25 => ?_)
      · refine Tr.seq <| Tr.region rfl <| cV rfl (ok_build_pure rfl rfl tZ79 tP79 rfl (firmB_ok rfl) rfl) <| WL.sub (Sub.cons2 (fun _ _ _ _ h => sub_pv end_nil h) Sub.rfl') <| WL.cons0 rfl rfl (ok_store_box_agg rfl rfl rfl rfl rfl ((fun h => h)) tS79 (firmL_ok rfl) (lb rfl)) <| WL.nil <| Tr.ret ?_
        obtain rfl : r = ((0, []), v1, s2) := by
          rcases hst with ⟨_, e⟩ | ⟨e, _⟩
          · exact e
          rw [e] at hc25; exact absurd hc25 (by decide)
        refine retC_ok (.inl rfl) (fun _ _ ho => ok_load_box_pure ho rfl rfl Tryz.underlying79 rfl tS79 (lb rfl) rfl trivial) rfl (po3 rfl rfl rfl)
      · obtain ⟨hst1, a, r1, hof, hnode, hrest⟩ := hst.resolve_left (fun hh => by rw [hh.1] at hc25; exact absurd hc25 (by decide))
        have hl1 : (r1.2.1.map eInt).length = (v.map eInt).length := by
          have := mNode_len (fun _ _ _ _ h => (mLL_len u d1).1 _ _ _ _ h) (fun _ _ _ _ _ h => (mLL_len u d1).2 _ _ _ _ _ h) hnode
          rw [← hI3, List.length_map, List.length_map, this]
        refine Tr.heap (σ' := look [(106, some (.box [.pv (vInt 0), .pv (ints [])])), (1001, some (runBox u s2)), (1002, some (rowI (s2).out)), (510, some (rowI v1))]) (by
          intro j
          by_cases h106 : 106 = j
          · subst h106; rfl
          · by_cases h1001 : 1001 = j
            · subst h1001; rfl
            · by_cases h1002 : 1002 = j
              · subst h1002; rfl
              · by_cases h510 : 510 = j
                · subst h510; rfl
                · simp [look, up, runV, runH, beq_ne h106, beq_ne h1001, beq_ne h1002, beq_ne h510]) ?_
        refine Tr.skip <| Tr.seq <| Tr.region rfl <| cV rfl (oM rfl) <| cV rfl (oFe rfl tF42_4) <| cV rfl (oLe Tryz.underlying35 rfl rfl) <| WL.cons rfl rfl rfl (ok_callr (sc_of v1 x.args a hof (by have := ndW_eq x; omega)) ent65 rfl rfl (Subs.same (congrArg (fun n => IV.sl 510 n) hI3.symm) (Subs.refl _ _)) (po1 rfl) (by rfl) (fun k (h : _) => (show False from h).elim) rfl (by rfl)) <| cV rfl (oA rfl) <| WL.nil <| Tr.seq <| Tr.region rfl <| WL.cons rfl rfl rfl (ok_alloc (k := 110) rfl tZ79 rfl rfl rfl rfl) ?_
        refine WL.nil <| Tr.seq <| Tr.seq <| Tr.subBox (k := 110) [.pv (vInt 0), .pv (ints [])] rfl ⟨ISub.refl _, ISub.pv PSub.nil, trivial⟩ (fun h => h) ?_
        refine Tr.heap (σ' := look [(110, some (.box [.pv (vInt (((0, []) : Rend)).1), .pv (ints (((0, []) : Rend)).2)])), (106, some (.box [.pv (vInt 0), .pv (ints [])])), (1001, some (runBox u s2)), (1002, some (rowI (s2).out)), (510, some (rowI v1))]) (by
          intro j
          by_cases h110 : 110 = j
          · subst h110; rfl
          · by_cases h106 : 106 = j
            · subst h106; rfl
            · by_cases h1001 : 1001 = j
              · subst h1001; rfl
              · by_cases h1002 : 1002 = j
                · subst h1002; rfl
                · by_cases h510 : 510 = j
                  · subst h510; rfl
                  · simp [look, up, runV, runH, beq_ne h110, beq_ne h106, beq_ne h1001, beq_ne h1002, beq_ne h510]) ?_
        refine Tr.region rfl <| cV rfl (oFe rfl tF42_0) <| cV rfl (oLe Tryz.underlying3 rfl rfl) <| WL.nil ?_
        refine Tr.cutR (fr' := [(10, .ptr 110 0), (7, iInt k), (6, .ptr 106 0), (0, .ptr 1001 0), (1, .pv (nodes l)), (2, .sl 510 (v.map eInt).length)]) (σ' := look [(110, some (.box [.pv (vInt (r1.1).1), .pv (ints (r1.1).2)])), (106, some (.box [.pv (vInt 0), .pv (ints [])])), (1001, some (runBox u r1.2.2)), (1002, some (rowI (r1.2.2).out)), (510, some (rowI r1.2.1))]) ?_ ?_
        · refine Tr.block <| Tr.seq <| Tr.seq <| Tr.region rfl <| cV rfl (oB rfl rfl rfl) <| cV rfl (oA rfl) <| WL.nil ?_
          refine Tr.cond rfl (fun hc53 => ?_) (fun hc53 => ?_)
          · refine Tr.skip ?_
            refine Tr.cond rfl (fun hd53 => ?_) (fun hd53 => ?_)
            · have hk : (x.kind == 1 || x.kind == 2) = true := by first | (rw [hc53]; rfl) | (rw [hc53, Bool.or_true])
              obtain ⟨o, v2, ho, hv0, rfl⟩ := mNode_set hnode hk
              obtain ⟨hx0, hxl, hv2⟩ := setV_some hv0
              obtain ⟨z0, hxg⟩ := row_at hxl
              have hi2 := map_get (f := eInt) ho
              have hxl2 : o.toNat < (v.map eInt).length := by rw [← hI3]; exact hxl
              refine Tr.drawn mixed (fun k => k ∈ ([] : List Nat)) <| WA.run (fuel := 1) [0, 1, 2, 3, 4, 5, 6, 7] (by kernel_rfl) ((fun _ _ _ h => h.elim (fun g => pn g.1) (fun g => g.2))) (by kernel_rfl) <| rV rfl rfl (oM rfl) <| rV rfl rfl (oFe rfl tF42_5) <| rV rfl rfl (oLe Tryz.underlying35 rfl rfl) <| rV rfl rfl (ok_index_seq rfl rfl rfl Tryz.underlying35 hi2 tS3 rfl (by rfl)) <| rV rfl rfl (oLe Tryz.underlying3 rfl rfl) <| rV rfl rfl (oFe rfl tF42_2) <| rV rfl rfl (oLe Tryz.underlying3 rfl rfl) <| rV rfl rfl (ok_index_row rfl rfl rfl rfl hI3 Tryz.underlying35 tS3 hxl2 (by omega)) <| WR.nil <| WA.one (i := 8) (by kernel_rfl) ?_
              refine WI.op rfl rfl rfl (by intro t h; cases h <;> rfl) (fun k (h : _) => h.elim) (new_old rfl) (fun ρ w => ok_store_row rfl rfl rfl rfl hI3 (Nat.add_zero _).symm hxg (by simp) tS3 rfl (by simp)) ?_
              refine WA.done (by kernel_rfl) <| Or.inl ?_
              refine ⟨rfl, Sub.of ⟨rfl, rfl, rfl, rfl, rfl, rfl, trivial⟩, funext (by
                intro j
                by_cases h110 : 110 = j
                · subst h110; rfl
                · by_cases h106 : 106 = j
                  · subst h106; rfl
                  · by_cases h1001 : 1001 = j
                    · subst h1001; rfl
                    · by_cases h1002 : 1002 = j
                      · subst h1002; rfl
                      · by_cases h510 : 510 = j
                        · subst h510; first | rfl | exact congrArg (fun z => some (HO.row _ z)) (by rw [hv2]; exact set_row _ _ _ _ hxg)
                        · simp [look, up, runV, runH, beq_ne h110, beq_ne h106, beq_ne h1001, beq_ne h1002, beq_ne h510])⟩
            exact absurd (hc53.symm.trans hd53) (by decide)
          have hk1 := hc53
          refine Tr.region rfl <| cV rfl (oB rfl rfl rfl) <| cV rfl (oA rfl) <| WL.nil ?_
          refine Tr.cond rfl (fun hc53 => ?_) (fun hc53 => ?_)
          · have hk : (x.kind == 1 || x.kind == 2) = true := by first | (rw [hc53]; rfl) | (rw [hc53, Bool.or_true])
            obtain ⟨o, v2, ho, hv0, rfl⟩ := mNode_set hnode hk
            obtain ⟨hx0, hxl, hv2⟩ := setV_some hv0
            obtain ⟨z0, hxg⟩ := row_at hxl
            have hi2 := map_get (f := eInt) ho
            have hxl2 : o.toNat < (v.map eInt).length := by rw [← hI3]; exact hxl
            refine Tr.drawn mixed (fun k => k ∈ ([] : List Nat)) <| WA.run (fuel := 1) [0, 1, 2, 3, 4, 5, 6, 7] (by kernel_rfl) ((fun _ _ _ h => h.elim (fun g => pn g.1) (fun g => g.2))) (by kernel_rfl) <| rV rfl rfl (oM rfl) <| rV rfl rfl (oFe rfl tF42_5) <| rV rfl rfl (oLe Tryz.underlying35 rfl rfl) <| rV rfl rfl (ok_index_seq rfl rfl rfl Tryz.underlying35 hi2 tS3 rfl (by rfl)) <| rV rfl rfl (oLe Tryz.underlying3 rfl rfl) <| rV rfl rfl (oFe rfl tF42_2) <| rV rfl rfl (oLe Tryz.underlying3 rfl rfl) <| rV rfl rfl (ok_index_row rfl rfl rfl rfl hI3 Tryz.underlying35 tS3 hxl2 (by omega)) <| WR.nil <| WA.one (i := 8) (by kernel_rfl) ?_
            refine WI.op rfl rfl rfl (by intro t h; cases h <;> rfl) (fun k (h : _) => h.elim) (new_old rfl) (fun ρ w => ok_store_row rfl rfl rfl rfl hI3 (Nat.add_zero _).symm hxg (by simp) tS3 rfl (by simp)) ?_
            refine WA.done (by kernel_rfl) <| Or.inl ?_
            refine ⟨rfl, Sub.of ⟨rfl, rfl, rfl, rfl, rfl, rfl, trivial⟩, funext (by
              intro j
              by_cases h110 : 110 = j
              · subst h110; rfl
              · by_cases h106 : 106 = j
                · subst h106; rfl
                · by_cases h1001 : 1001 = j
                  · subst h1001; rfl
                  · by_cases h1002 : 1002 = j
                    · subst h1002; rfl
                    · by_cases h510 : 510 = j
                      · subst h510; first | rfl | exact congrArg (fun z => some (HO.row _ z)) (by rw [hv2]; exact set_row _ _ _ _ hxg)
                      · simp [look, up, runV, runH, beq_ne h110, beq_ne h106, beq_ne h1001, beq_ne h1002, beq_ne h510])⟩
          refine Tr.seq <| Tr.seq ?_
          have hk12 : (x.kind == 1 || x.kind == 2) = false := by rw [hk1, hc53]; rfl
          refine Tr.region rfl <| cV rfl (oB rfl rfl rfl) <| cV rfl (oA rfl) <| WL.nil ?_
          refine Tr.cond rfl (fun hc64 => ?_) (fun hc64 => ?_)
          · refine Tr.skip ?_
            refine Tr.cond rfl (fun hd64 => ?_) (fun hd64 => ?_)
            · refine Tr.seq ?_
              have hke : (x.kind == 12 || x.kind == 13 || x.kind == 14 || x.kind == 15) = true := by simp only [hc64, Bool.or_true, Bool.true_or]
              obtain rfl := mNode_end hnode hke
              have hne : (x.kind != 0) = true := by rw [eq_of_beq hc64]; rfl
              simp only [hne, Bool.or_true, if_true] at hrest
              cases hrest
              refine Tr.region rfl <| cV rfl (oFe rfl tF42_0) <| cV rfl (oLe Tryz.underlying3 rfl rfl) <| cV rfl (oM rfl) <| cV rfl (ok_build_pure rfl rfl tZ79 tP79 rfl (firmB_ok rfl) rfl) <| WL.cons0 rfl rfl (ok_store_box_agg rfl rfl rfl rfl rfl ((fun h => h)) tS79 (firmL_ok rfl) (lb rfl)) <| WL.nil <| Tr.ret ?_
              refine Or.inr ⟨Exit.noConfusion, ?_⟩
              refine retC_ok (.inl rfl) (fun _ _ ho => ok_load_box_pure ho rfl rfl Tryz.underlying79 rfl tS79 (lb rfl) rfl trivial) rfl (po3 rfl rfl rfl)
            exact absurd (hc64.symm.trans hd64) (by decide)
          refine Tr.seq ?_
          have hk3 := hc64
          refine Tr.region rfl <| cV rfl (oB rfl rfl rfl) <| cV rfl (oA rfl) <| WL.nil ?_
          refine Tr.cond rfl (fun hc64 => ?_) (fun hc64 => ?_)
          · refine Tr.skip ?_
            refine Tr.cond rfl (fun hd64 => ?_) (fun hd64 => ?_)
            · refine Tr.seq ?_
              have hke : (x.kind == 12 || x.kind == 13 || x.kind == 14 || x.kind == 15) = true := by simp only [hc64, Bool.or_true, Bool.true_or]
              obtain rfl := mNode_end hnode hke
              have hne : (x.kind != 0) = true := by rw [eq_of_beq hc64]; rfl
              simp only [hne, Bool.or_true, if_true] at hrest
              cases hrest
              refine Tr.region rfl <| cV rfl (oFe rfl tF42_0) <| cV rfl (oLe Tryz.underlying3 rfl rfl) <| cV rfl (oM rfl) <| cV rfl (ok_build_pure rfl rfl tZ79 tP79 rfl (firmB_ok rfl) rfl) <| WL.cons0 rfl rfl (ok_store_box_agg rfl rfl rfl rfl rfl ((fun h => h)) tS79 (firmL_ok rfl) (lb rfl)) <| WL.nil <| Tr.ret ?_
              refine Or.inr ⟨Exit.noConfusion, ?_⟩
              refine retC_ok (.inl rfl) (fun _ _ ho => ok_load_box_pure ho rfl rfl Tryz.underlying79 rfl tS79 (lb rfl) rfl trivial) rfl (po3 rfl rfl rfl)
            exact absurd (hc64.symm.trans hd64) (by decide)
          refine Tr.seq ?_
          have hk4 := hc64
          refine Tr.region rfl <| cV rfl (oB rfl rfl rfl) <| cV rfl (oA rfl) <| WL.nil ?_
          refine Tr.cond rfl (fun hc64 => ?_) (fun hc64 => ?_)
          · refine Tr.skip ?_
            refine Tr.cond rfl (fun hd64 => ?_) (fun hd64 => ?_)
            · refine Tr.seq ?_
              have hke : (x.kind == 12 || x.kind == 13 || x.kind == 14 || x.kind == 15) = true := by simp only [hc64, Bool.or_true, Bool.true_or]
              obtain rfl := mNode_end hnode hke
              have hne : (x.kind != 0) = true := by rw [eq_of_beq hc64]; rfl
              simp only [hne, Bool.or_true, if_true] at hrest
              cases hrest
              refine Tr.region rfl <| cV rfl (oFe rfl tF42_0) <| cV rfl (oLe Tryz.underlying3 rfl rfl) <| cV rfl (oM rfl) <| cV rfl (ok_build_pure rfl rfl tZ79 tP79 rfl (firmB_ok rfl) rfl) <| WL.cons0 rfl rfl (ok_store_box_agg rfl rfl rfl rfl rfl ((fun h => h)) tS79 (firmL_ok rfl) (lb rfl)) <| WL.nil <| Tr.ret ?_
              refine Or.inr ⟨Exit.noConfusion, ?_⟩
              refine retC_ok (.inl rfl) (fun _ _ ho => ok_load_box_pure ho rfl rfl Tryz.underlying79 rfl tS79 (lb rfl) rfl trivial) rfl (po3 rfl rfl rfl)
            exact absurd (hc64.symm.trans hd64) (by decide)
          have hk5 := hc64
          refine Tr.region rfl <| cV rfl (oB rfl rfl rfl) <| cV rfl (oA rfl) <| WL.nil ?_
          refine Tr.cond rfl (fun hc64 => ?_) (fun hc64 => ?_)
          · refine Tr.seq ?_
            have hke : (x.kind == 12 || x.kind == 13 || x.kind == 14 || x.kind == 15) = true := by simp only [hc64, Bool.or_true, Bool.true_or]
            obtain rfl := mNode_end hnode hke
            have hne : (x.kind != 0) = true := by rw [eq_of_beq hc64]; rfl
            simp only [hne, Bool.or_true, if_true] at hrest
            cases hrest
            refine Tr.region rfl <| cV rfl (oFe rfl tF42_0) <| cV rfl (oLe Tryz.underlying3 rfl rfl) <| cV rfl (oM rfl) <| cV rfl (ok_build_pure rfl rfl tZ79 tP79 rfl (firmB_ok rfl) rfl) <| WL.cons0 rfl rfl (ok_store_box_agg rfl rfl rfl rfl rfl ((fun h => h)) tS79 (firmL_ok rfl) (lb rfl)) <| WL.nil <| Tr.ret ?_
            refine Or.inr ⟨Exit.noConfusion, ?_⟩
            refine retC_ok (.inl rfl) (fun _ _ ho => ok_load_box_pure ho rfl rfl Tryz.underlying79 rfl tS79 (lb rfl) rfl trivial) rfl (po3 rfl rfl rfl)
          refine Tr.seq ?_
          have hke : (x.kind == 12 || x.kind == 13 || x.kind == 14 || x.kind == 15) = false := by rw [hk3, hk4, hk5, hc64]; rfl
          refine Tr.region rfl <| cV rfl (oB rfl rfl rfl) <| cV rfl (oA rfl) <| WL.nil ?_
          refine Tr.cond rfl (fun hc73 => ?_) (fun hc73 => ?_)
          · refine Tr.seq ?_
            obtain ⟨a0, q, r2, ha0, hq, hlist, hcont⟩ := mNode_if hnode hc73
            have hi0 := map_get (f := eInt) ha0
            have hl2 : (r2.2.1.map eInt).length = (v.map eInt).length := by rw [← hI3]; simp [mList_len hlist]
            refine Tr.region rfl <| cV rfl (oA rfl) <| WL.nil <| Tr.seq <| Tr.seq <| Tr.region rfl <| cV rfl (oM rfl) <| cV rfl (ok_index_seq rfl rfl rfl Tryz.underlying35 hi0 tS3 rfl (by rfl)) <| cV rfl (oLe Tryz.underlying3 rfl rfl) <| cV rfl (oB rfl rfl rfl) <| WL.nil ?_
            refine Tr.cond rfl (fun hc78 => ?_) (fun hc78 => ?_)
            · rw [if_pos hc78] at hq
              have hi1 := map_get (f := eKid) hq
              have hqb : lsW q ≤ 1073741824 := by have := kdW_mem (List.mem_of_getElem? hq); have := ndW_eq x; omega
              refine Tr.region rfl <| cV rfl (oA rfl) <| WL.nil <| Tr.seq <| Tr.region rfl <| cV rfl (oM rfl) <| cV rfl (oFe rfl tF42_7) <| cV rfl (oLe Tryz.underlying40 rfl rfl) <| cV rfl (oM rfl) <| cV rfl (ok_index_seq rfl rfl rfl Tryz.underlying40 hi1 tS43 rfl (by rfl)) <| cV rfl (oLe Tryz.underlying43 rfl rfl) <| cV rfl (oM rfl) ?_
              refine WL.cons rfl rfl rfl (ok_callr (ihL d1 (by omega) q v1 s2 r2 hlist hqb) ent45 rfl rfl (Subs.same rfl (Subs.same rfl (Subs.same (congrArg (fun n => IV.sl 510 n) hI3.symm) Subs.nil))) (po3 rfl rfl rfl) (by rfl) (fun k (h : _) => .inr h) rfl (by rfl)) <| WL.cons0 rfl rfl (ok_store_box_agg rfl rfl rfl rfl rfl ((fun h => h)) tS79 (firmL_ok rfl) (lb rfl)) <| WL.nil <| Tr.seq <| Tr.region rfl <| cV rfl (oM rfl) <| WL.cons rfl rfl rfl (ok_callr (sc_over u r2.2.2) ent31 rfl rfl (Subs.refl _ _) (po2 rfl rfl) (by rfl) (fun k (h : _) => .inr trivial) rfl (by rfl)) <| cV rfl (oN rfl) <| cV rfl (oM rfl) ?_
              refine WL.split (t := 90) rfl (fun hb90 => ?_) (fun hb90 => ?_)
              · refine yV rfl rfl (oFp rfl rfl tF79_0) <| yV rfl rfl (oLb Tryz.underlying3 rfl rfl rfl trivial) <| yV rfl rfl (oB rfl rfl rfl) <| cV rfl (oT rfl rfl) <| WL.nil ?_
                refine Tr.cond rfl (fun hc94 => ?_) (fun hc94 => ?_)
                · have hcd : (!mOver r2.2.2 && r2.1.1 == 12) = true := by rw [hb90, hc94]; rfl
                  rw [if_pos hcd, Option.map_eq_some_iff] at hcont
                  obtain ⟨v3, hset, rfl⟩ := hcont
                  refine Tr.seq <| Tr.region rfl <| cV rfl (oM rfl) <| cV rfl (oFe rfl tF42_5) <| cV rfl (oLe Tryz.underlying35 rfl rfl) <| cV rfl (oFp rfl rfl tF79_1) <| cV rfl (oLb Tryz.underlying35 rfl rfl rfl trivial) <| WL.cons rfl rfl rfl (ok_callr (sc_set r2.2.1 x.outs r2.1.2 v3 hset) ent66 rfl rfl (Subs.same (congrArg (fun n => IV.sl 510 n) hl2.symm) (Subs.refl _ _)) (po1 rfl) (by rfl) (fun k (h : _) => .inr h) rfl (by rfl)) <| WL.nil <| Tr.region rfl <| cV rfl (ok_build_pure rfl rfl tZ79 tP79 rfl (firmB_ok rfl) rfl) <| WL.sub (Sub.cons2 (fun _ _ _ _ h => sub_pv end_nil h) Sub.rfl') ?_
                  refine WL.cons0 rfl rfl (ok_store_box_agg rfl rfl rfl rfl rfl ((fun h => h)) tS79 (firmL_ok rfl) (lb rfl)) <| WL.nil <| Or.inl ?_
                  refine ⟨rfl, Sub.of ⟨rfl, rfl, rfl, rfl, rfl, rfl, trivial⟩, funext (by
                    intro j
                    by_cases h110 : 110 = j
                    · subst h110; rfl
                    · by_cases h106 : 106 = j
                      · subst h106; rfl
                      · by_cases h1001 : 1001 = j
                        · subst h1001; rfl
                        · by_cases h1002 : 1002 = j
                          · subst h1002; rfl
                          · by_cases h510 : 510 = j
                            · subst h510; first | rfl | exact congrArg (fun z => some (HO.row _ z)) (by rw [hv2]; exact set_row _ _ _ _ hxg)
                            · simp [look, up, runV, runH, beq_ne h110, beq_ne h106, beq_ne h1001, beq_ne h1002, beq_ne h510])⟩
                have hcd : (!mOver r2.2.2 && r2.1.1 == 12) = false := by first | (rw [hb90, hc94]; rfl) | (rw [hb90]; rfl)
                rw [if_neg (by rw [hcd]; decide)] at hcont
                cases hcont
                refine Tr.skip <| Or.inl ?_
                refine ⟨rfl, Sub.of ⟨rfl, rfl, rfl, rfl, rfl, rfl, trivial⟩, funext (by
                  intro j
                  by_cases h110 : 110 = j
                  · subst h110; rfl
                  · by_cases h106 : 106 = j
                    · subst h106; rfl
                    · by_cases h1001 : 1001 = j
                      · subst h1001; rfl
                      · by_cases h1002 : 1002 = j
                        · subst h1002; rfl
                        · by_cases h510 : 510 = j
                          · subst h510; first | rfl | exact congrArg (fun z => some (HO.row _ z)) (by rw [hv2]; exact set_row _ _ _ _ hxg)
                          · simp [look, up, runV, runH, beq_ne h110, beq_ne h106, beq_ne h1001, beq_ne h1002, beq_ne h510])⟩
              refine nV rfl rfl <| nV rfl rfl <| nV rfl rfl <| cV rfl (oF rfl rfl) <| WL.nil <| Tr.condF rfl ?_
              have hcd : (!mOver r2.2.2 && r2.1.1 == 12) = false := by first | (rw [hb90, hc94]; rfl) | (rw [hb90]; rfl)
              rw [if_neg (by rw [hcd]; decide)] at hcont
              cases hcont
              refine Tr.skip <| Or.inl ?_
              refine ⟨rfl, Sub.of ⟨rfl, rfl, rfl, rfl, rfl, rfl, trivial⟩, funext (by
                intro j
                by_cases h110 : 110 = j
                · subst h110; rfl
                · by_cases h106 : 106 = j
                  · subst h106; rfl
                  · by_cases h1001 : 1001 = j
                    · subst h1001; rfl
                    · by_cases h1002 : 1002 = j
                      · subst h1002; rfl
                      · by_cases h510 : 510 = j
                        · subst h510; first | rfl | exact congrArg (fun z => some (HO.row _ z)) (by rw [hv2]; exact set_row _ _ _ _ hxg)
                        · simp [look, up, runV, runH, beq_ne h110, beq_ne h106, beq_ne h1001, beq_ne h1002, beq_ne h510])⟩
            rw [if_neg (by rw [hc78]; decide)] at hq
            have hi1 := map_get (f := eKid) hq
            have hqb : lsW q ≤ 1073741824 := by have := kdW_mem (List.mem_of_getElem? hq); have := ndW_eq x; omega
            refine Tr.skip <| Tr.seq <| Tr.region rfl <| cV rfl (oM rfl) <| cV rfl (oFe rfl tF42_7) <| cV rfl (oLe Tryz.underlying40 rfl rfl) <| cV rfl (oM rfl) <| cV rfl (ok_index_seq rfl rfl rfl Tryz.underlying40 hi1 tS43 rfl (by rfl)) <| cV rfl (oLe Tryz.underlying43 rfl rfl) <| cV rfl (oM rfl) <| WL.cons rfl rfl rfl (ok_callr (ihL d1 (by omega) q v1 s2 r2 hlist hqb) ent45 rfl rfl (Subs.same rfl (Subs.same rfl (Subs.same (congrArg (fun n => IV.sl 510 n) hI3.symm) Subs.nil))) (po3 rfl rfl rfl) (by rfl) (fun k (h : _) => .inr h) rfl (by rfl)) <| WL.cons0 rfl rfl (ok_store_box_agg rfl rfl rfl rfl rfl ((fun h => h)) tS79 (firmL_ok rfl) (lb rfl)) ?_
            refine WL.nil <| Tr.seq <| Tr.region rfl <| cV rfl (oM rfl) <| WL.cons rfl rfl rfl (ok_callr (sc_over u r2.2.2) ent31 rfl rfl (Subs.refl _ _) (po2 rfl rfl) (by rfl) (fun k (h : _) => .inr trivial) rfl (by rfl)) <| cV rfl (oN rfl) <| cV rfl (oM rfl) ?_
            refine WL.split (t := 90) rfl (fun hb90 => ?_) (fun hb90 => ?_)
            · refine yV rfl rfl (oFp rfl rfl tF79_0) <| yV rfl rfl (oLb Tryz.underlying3 rfl rfl rfl trivial) <| yV rfl rfl (oB rfl rfl rfl) <| cV rfl (oT rfl rfl) <| WL.nil ?_
              refine Tr.cond rfl (fun hc94 => ?_) (fun hc94 => ?_)
              · have hcd : (!mOver r2.2.2 && r2.1.1 == 12) = true := by rw [hb90, hc94]; rfl
                rw [if_pos hcd, Option.map_eq_some_iff] at hcont
                obtain ⟨v3, hset, rfl⟩ := hcont
                refine Tr.seq <| Tr.region rfl <| cV rfl (oM rfl) <| cV rfl (oFe rfl tF42_5) <| cV rfl (oLe Tryz.underlying35 rfl rfl) <| cV rfl (oFp rfl rfl tF79_1) <| cV rfl (oLb Tryz.underlying35 rfl rfl rfl trivial) <| WL.cons rfl rfl rfl (ok_callr (sc_set r2.2.1 x.outs r2.1.2 v3 hset) ent66 rfl rfl (Subs.same (congrArg (fun n => IV.sl 510 n) hl2.symm) (Subs.refl _ _)) (po1 rfl) (by rfl) (fun k (h : _) => .inr h) rfl (by rfl)) <| WL.nil <| Tr.region rfl <| cV rfl (ok_build_pure rfl rfl tZ79 tP79 rfl (firmB_ok rfl) rfl) <| WL.sub (Sub.cons2 (fun _ _ _ _ h => sub_pv end_nil h) Sub.rfl') ?_
                refine WL.cons0 rfl rfl (ok_store_box_agg rfl rfl rfl rfl rfl ((fun h => h)) tS79 (firmL_ok rfl) (lb rfl)) <| WL.nil <| Or.inl ?_
                refine ⟨rfl, Sub.of ⟨rfl, rfl, rfl, rfl, rfl, rfl, trivial⟩, funext (by
                  intro j
                  by_cases h110 : 110 = j
                  · subst h110; rfl
                  · by_cases h106 : 106 = j
                    · subst h106; rfl
                    · by_cases h1001 : 1001 = j
                      · subst h1001; rfl
                      · by_cases h1002 : 1002 = j
                        · subst h1002; rfl
                        · by_cases h510 : 510 = j
                          · subst h510; first | rfl | exact congrArg (fun z => some (HO.row _ z)) (by rw [hv2]; exact set_row _ _ _ _ hxg)
                          · simp [look, up, runV, runH, beq_ne h110, beq_ne h106, beq_ne h1001, beq_ne h1002, beq_ne h510])⟩
              have hcd : (!mOver r2.2.2 && r2.1.1 == 12) = false := by first | (rw [hb90, hc94]; rfl) | (rw [hb90]; rfl)
              rw [if_neg (by rw [hcd]; decide)] at hcont
              cases hcont
              refine Tr.skip <| Or.inl ?_
              refine ⟨rfl, Sub.of ⟨rfl, rfl, rfl, rfl, rfl, rfl, trivial⟩, funext (by
                intro j
                by_cases h110 : 110 = j
                · subst h110; rfl
                · by_cases h106 : 106 = j
                  · subst h106; rfl
                  · by_cases h1001 : 1001 = j
                    · subst h1001; rfl
                    · by_cases h1002 : 1002 = j
                      · subst h1002; rfl
                      · by_cases h510 : 510 = j
                        · subst h510; first | rfl | exact congrArg (fun z => some (HO.row _ z)) (by rw [hv2]; exact set_row _ _ _ _ hxg)
                        · simp [look, up, runV, runH, beq_ne h110, beq_ne h106, beq_ne h1001, beq_ne h1002, beq_ne h510])⟩
            refine nV rfl rfl <| nV rfl rfl <| nV rfl rfl <| cV rfl (oF rfl rfl) <| WL.nil <| Tr.condF rfl ?_
            have hcd : (!mOver r2.2.2 && r2.1.1 == 12) = false := by first | (rw [hb90, hc94]; rfl) | (rw [hb90]; rfl)
            rw [if_neg (by rw [hcd]; decide)] at hcont
            cases hcont
            refine Tr.skip <| Or.inl ?_
            refine ⟨rfl, Sub.of ⟨rfl, rfl, rfl, rfl, rfl, rfl, trivial⟩, funext (by
              intro j
              by_cases h110 : 110 = j
              · subst h110; rfl
              · by_cases h106 : 106 = j
                · subst h106; rfl
                · by_cases h1001 : 1001 = j
                  · subst h1001; rfl
                  · by_cases h1002 : 1002 = j
                    · subst h1002; rfl
                    · by_cases h510 : 510 = j
                      · subst h510; first | rfl | exact congrArg (fun z => some (HO.row _ z)) (by rw [hv2]; exact set_row _ _ _ _ hxg)
                      · simp [look, up, runV, runH, beq_ne h110, beq_ne h106, beq_ne h1001, beq_ne h1002, beq_ne h510])⟩
          refine Tr.seq ?_
          have hk10 := hc73
          refine Tr.region rfl <| cV rfl (oB rfl rfl rfl) <| cV rfl (oA rfl) <| WL.nil ?_
          refine Tr.cond rfl (fun hc102 => ?_) (fun hc102 => ?_)
          · have hlp := mNode_loop hnode hc102
            refine Tr.region rfl <| cV rfl (oM rfl) <| cV rfl (ok_load_ept_agg rfl rfl Tryz.underlying42 rfl tS42 (Nat.le_of_ble_eq_true rfl)) <| cV rfl (oM rfl) <| cV rfl (oM rfl) <| WL.cons rfl rfl rfl (ok_callr (sc_loop u D ihL d1 (by omega) x hxb v1 a s2 r1 hlp) ent67 rfl rfl (Subs.same rfl (Subs.same rfl (Subs.same (congrArg (fun n => IV.sl 510 n) hI3.symm) (Subs.refl _ _)))) (po3 rfl rfl rfl) (by rfl) (fun k (h : _) => .inr h) rfl (by rfl)) <| WL.cons0 rfl rfl (ok_store_box_agg rfl rfl rfl rfl rfl ((fun h => h)) tS79 (firmL_ok rfl) (lb rfl)) <| WL.nil <| Or.inl ?_
            refine ⟨rfl, Sub.of ⟨rfl, rfl, rfl, rfl, rfl, rfl, trivial⟩, funext (by
              intro j
              by_cases h110 : 110 = j
              · subst h110; rfl
              · by_cases h106 : 106 = j
                · subst h106; rfl
                · by_cases h1001 : 1001 = j
                  · subst h1001; rfl
                  · by_cases h1002 : 1002 = j
                    · subst h1002; rfl
                    · by_cases h510 : 510 = j
                      · subst h510; first | rfl | exact congrArg (fun z => some (HO.row _ z)) (by rw [hv2]; exact set_row _ _ _ _ hxg)
                      · simp [look, up, runV, runH, beq_ne h110, beq_ne h106, beq_ne h1001, beq_ne h1002, beq_ne h510])⟩
          refine Tr.seq ?_
          obtain ⟨q1, hsum, hcont⟩ := mNode_sum hnode hk12 hke hk10 hc102
          refine Tr.region rfl <| cV rfl (oM rfl) <| cV rfl (ok_load_ept_agg rfl rfl Tryz.underlying42 rfl tS42 (Nat.le_of_ble_eq_true rfl)) <| cV rfl (oM rfl) <| WL.cons rfl rfl rfl (ok_callr (sc_sum u hu D ihC d1 (by omega) x a s2 q1 hsum) ent68 rfl rfl (Subs.refl _ _) (po2 rfl rfl) (by rfl) (fun k (h : _) => .inr h) rfl (by rfl)) <| cV rfl (oA rfl) <| WL.nil <| Tr.seq <| Tr.region rfl <| cV rfl (oM rfl) <| WL.cons rfl rfl rfl (ok_callr (sc_over u q1.2) ent31 rfl rfl (Subs.refl _ _) (po2 rfl rfl) (by rfl) (fun k (h : _) => .inr trivial) rfl (by rfl)) <| cV rfl (oN rfl) ?_
          refine cV rfl (oM rfl) ?_
          refine WL.split (t := 40) rfl (fun hb40 => ?_) (fun hb40 => ?_)
          · refine yV rfl rfl (oFe rfl tF42_5) <| yV rfl rfl (oLe Tryz.underlying35 rfl rfl) <| yV rfl rfl (oSm Tryz.underlying35 rfl) <| yV rfl rfl (oB rfl rfl rfl) <| cV rfl (oT rfl rfl) <| WL.nil ?_
            refine Tr.cond rfl (fun hc45 => ?_) (fun hc45 => ?_)
            · have h0 : 0 < x.outs.length := by simpa using hc45
              rw [if_pos (by rw [hb40, decide_eq_true h0]; rfl)] at hcont
              simp only [Option.bind_eq_some_iff, Option.map_eq_some_iff] at hcont
              obtain ⟨o, ho, v2, hv0, rfl⟩ := hcont
              obtain ⟨hx0, hxl, hv2⟩ := setV_some hv0
              obtain ⟨z0, hxg⟩ := row_at hxl
              have hi2 := map_get (f := eInt) ho
              have hxl2 : o.toNat < (v.map eInt).length := by rw [← hI3]; exact hxl
              refine Tr.region rfl <| cV rfl (oM rfl) <| cV rfl (oFe rfl tF42_5) <| cV rfl (oLe Tryz.underlying35 rfl rfl) <| cV rfl (ok_index_seq rfl rfl rfl Tryz.underlying35 hi2 tS3 rfl (by rfl)) <| cV rfl (oLe Tryz.underlying3 rfl rfl) <| cV rfl (oM rfl) <| cV rfl (ok_index_row rfl rfl rfl rfl hI3 Tryz.underlying35 tS3 hxl2 (by omega)) ?_
              refine WL.cons0 rfl rfl (ok_store_row rfl rfl rfl rfl hI3 (Nat.add_zero _).symm hxg (by simp) tS3 rfl (by simp)) ?_
              refine WL.nil <| Or.inl ?_
              refine ⟨rfl, Sub.of ⟨rfl, rfl, rfl, rfl, rfl, rfl, trivial⟩, funext (by
                intro j
                by_cases h110 : 110 = j
                · subst h110; rfl
                · by_cases h106 : 106 = j
                  · subst h106; rfl
                  · by_cases h1001 : 1001 = j
                    · subst h1001; rfl
                    · by_cases h1002 : 1002 = j
                      · subst h1002; rfl
                      · by_cases h510 : 510 = j
                        · subst h510; first | rfl | exact congrArg (fun z => some (HO.row _ z)) (by rw [hv2]; exact set_row _ _ _ _ hxg)
                        · simp [look, up, runV, runH, beq_ne h110, beq_ne h106, beq_ne h1001, beq_ne h1002, beq_ne h510])⟩
            have hcd : (!mOver q1.2 && decide (0 < x.outs.length)) = false := by first | (rw [hb40]; rfl) | (rw [hb40]; simpa using hc45)
            rw [if_neg (by rw [hcd]; decide)] at hcont
            cases hcont
            refine Tr.skip <| Or.inl ?_
            refine ⟨rfl, Sub.of ⟨rfl, rfl, rfl, rfl, rfl, rfl, trivial⟩, funext (by
              intro j
              by_cases h110 : 110 = j
              · subst h110; rfl
              · by_cases h106 : 106 = j
                · subst h106; rfl
                · by_cases h1001 : 1001 = j
                  · subst h1001; rfl
                  · by_cases h1002 : 1002 = j
                    · subst h1002; rfl
                    · by_cases h510 : 510 = j
                      · subst h510; first | rfl | exact congrArg (fun z => some (HO.row _ z)) (by rw [hv2]; exact set_row _ _ _ _ hxg)
                      · simp [look, up, runV, runH, beq_ne h110, beq_ne h106, beq_ne h1001, beq_ne h1002, beq_ne h510])⟩
          refine nV rfl rfl <| nV rfl rfl <| nV rfl rfl <| nV rfl rfl <| cV rfl (oF rfl rfl) <| WL.nil <| Tr.condF rfl ?_
          have hcd : (!mOver q1.2 && decide (0 < x.outs.length)) = false := by first | (rw [hb40]; rfl) | (rw [hb40]; simpa using hc45)
          rw [if_neg (by rw [hcd]; decide)] at hcont
          cases hcont
          refine Tr.skip <| Or.inl ?_
          refine ⟨rfl, Sub.of ⟨rfl, rfl, rfl, rfl, rfl, rfl, trivial⟩, funext (by
            intro j
            by_cases h110 : 110 = j
            · subst h110; rfl
            · by_cases h106 : 106 = j
              · subst h106; rfl
              · by_cases h1001 : 1001 = j
                · subst h1001; rfl
                · by_cases h1002 : 1002 = j
                  · subst h1002; rfl
                  · by_cases h510 : 510 = j
                    · subst h510; first | rfl | exact congrArg (fun z => some (HO.row _ z)) (by rw [hv2]; exact set_row _ _ _ _ hxg)
                    · simp [look, up, runV, runH, beq_ne h110, beq_ne h106, beq_ne h1001, beq_ne h1002, beq_ne h510])⟩
        · refine Tr.seq <| Tr.region rfl <| cV rfl (oM rfl) <| WL.cons rfl rfl rfl (ok_callr (sc_over u r1.2.2) ent31 rfl rfl (Subs.refl _ _) (po2 rfl rfl) (by rfl) (fun k (h : _) => .inr trivial) rfl (by rfl)) <| cV rfl (oM rfl) ?_
          refine WL.split (t := 111) rfl (fun hb111 => ?_) (fun hb111 => ?_)
          · refine nV rfl rfl <| nV rfl rfl <| nV rfl rfl <| cV rfl (oT rfl rfl) <| WL.nil <| Tr.condT rfl ?_
            have hov : (mOver r1.2.2 || r1.1.1 != 0) = true := by first | (rw [hb111]; rfl) | (rw [hc115, Bool.or_true])
            rw [if_pos hov] at hrest
            obtain rfl : r1 = r := by injection hrest
            refine Tr.seq <| Tr.region rfl <| cV rfl (ok_load_box_pure rfl rfl rfl Tryz.underlying79 rfl tS79 (Nat.le_of_ble_eq_true rfl) rfl trivial) <| WL.cons0 rfl rfl (ok_store_box_agg rfl rfl rfl rfl rfl ((fun h => h)) tS79 (firmL_ok rfl) (lb rfl)) <| WL.nil <| Tr.ret ?_
            refine retC_ok (.inl rfl) (fun _ _ ho => ok_load_box_pure ho rfl rfl Tryz.underlying79 rfl tS79 (lb rfl) rfl trivial) rfl (po3 rfl rfl rfl)
          refine yV rfl rfl (oFp rfl rfl tF79_0) <| yV rfl rfl (oLb Tryz.underlying3 rfl rfl rfl trivial) <| yV rfl rfl (oB rfl rfl rfl) <| cV rfl (oF rfl rfl) <| WL.nil ?_
          refine Tr.cond rfl (fun hc115 => ?_) (fun hc115 => ?_)
          · have hov : (mOver r1.2.2 || r1.1.1 != 0) = true := by first | (rw [hb111]; rfl) | (rw [hc115, Bool.or_true])
            rw [if_pos hov] at hrest
            obtain rfl : r1 = r := by injection hrest
            refine Tr.seq <| Tr.region rfl <| cV rfl (ok_load_box_pure rfl rfl rfl Tryz.underlying79 rfl tS79 (Nat.le_of_ble_eq_true rfl) rfl trivial) <| WL.cons0 rfl rfl (ok_store_box_agg rfl rfl rfl rfl rfl ((fun h => h)) tS79 (firmL_ok rfl) (lb rfl)) <| WL.nil <| Tr.ret ?_
            refine retC_ok (.inl rfl) (fun _ _ ho => ok_load_box_pure ho rfl rfl Tryz.underlying79 rfl tS79 (lb rfl) rfl trivial) rfl (po3 rfl rfl rfl)
          rw [if_neg (by rw [hb111, hc115]; decide)] at hrest
          refine Tr.skip <| Tr.drop (k := 110) <| Tr.region rfl <| cV rfl (oM rfl) <| cV rfl (oB rfl rfl (i64_add rfl (by omega))) <| cV rfl (oA rfl) <| WL.nil ?_
          refine ⟨_, _, ?_, Sub.of (fr' := [(7, iInt (k + 1)), (6, .ptr 106 0), (0, .ptr 1001 0), (1, .pv (nodes l)), (2, .sl 510 (v.map eInt).length)]) ⟨rfl, rfl, rfl, rfl, rfl, trivial⟩, (k + 1), d1, r1.2.1, r1.2.2, ?_, ?_, ?_, ?_, rfl, (funext (by
  intro j
  by_cases h110 : 110 = j
  · subst h110; rfl
  · by_cases h106 : 106 = j
    · subst h106; rfl
    · by_cases h1001 : 1001 = j
      · subst h1001; rfl
      · by_cases h1002 : 1002 = j
        · subst h1002; rfl
        · by_cases h510 : 510 = j
          · subst h510; rfl
          · simp [look, up, runV, runH, beq_ne h110, beq_ne h106, beq_ne h1001, beq_ne h1002, beq_ne h510])), rfl⟩
          · omega
          · omega
          · omega
          · exact hrest
          exact hl1
    refine Tr.exit <| Tr.seq ?_
    have hge : l.length ≤ k := by simpa using hc16
    rw [List.drop_eq_nil_of_le hge] at hI2
    obtain rfl := mList_nil hI2
    refine Tr.region rfl <| cV rfl (ok_build_pure rfl rfl tZ79 tP79 rfl (firmB_ok rfl) rfl) <| WL.sub (Sub.cons2 (fun _ _ _ _ h => sub_pv end_nil h) Sub.rfl') <| WL.cons0 rfl rfl (ok_store_box_agg rfl rfl rfl rfl rfl ((fun h => h)) tS79 (firmL_ok rfl) (lb rfl)) <| WL.nil <| Tr.ret ?_
    refine retC_ok (.inl rfl) (fun _ _ ho => ok_load_box_pure ho rfl rfl Tryz.underlying79 rfl tS79 (lb rfl) rfl trivial) rfl (po3 rfl rfl rfl)
theorem copy_step {a : List Int} {i n : Nat} {x : Int} (hx : a[i]? = some x) (hn : a.length ≤ n) : (a.take i ++ List.replicate (n - i) 0).set i x = a.take (i + 1) ++ List.replicate (n - (i + 1)) 0 := by
  have hi : i < a.length := (List.getElem?_eq_some_iff.1 hx).1
  have hl : (a.take i).length = i := by rw [List.length_take]; omega
  rw [List.set_append_right _ _ (by omega), hl, Nat.sub_self, show n - i = (n - (i + 1)) + 1 by omega, List.replicate_succ, List.set_cons_zero, List.take_add_one, hx]
  simp
set_option maxRecDepth 8000 in
set_option maxHeartbeats 2000000 in
theorem sc_call0 (u : Un) (hub : ∀ f ∈ u.flows, lsW f.body ≤ 1073741824) (D : Nat) (ihL : SCL u D) (d : Nat) (hd : d ≤ D) (k : Int) (a : List Int) (s : Rs) (r : Int × Rs) (h : mCall u d k a s = some r) : SC Tryz.prog 29 [.ptr 1001 0, iInt k, .pv (ints a)] (runH u s) (fun _ => False) (iInt r.1) (runH u r.2) := by
  refine SC.of Tryz.func29 rfl (lb rfl) fun F ρ w => ?_
  refine Tr.lenOf (t := 2) rfl (fun hl => ?_)
  simp only [List.length_map] at hl
  obtain ⟨d1, f, r1, rfl, hk0, hf, hal, hfl, hlist, rfl⟩ := mCall_step h
  have hif := map_get (f := Fl.enc) hf
  have hfb := hub f (List.mem_of_getElem? hf)
  refine Tr.seq <| Tr.region rfl <| cV rfl (oA rfl) <| WL.nil <| Tr.seq <| Tr.region rfl <| cV rfl (oM rfl) <| cV rfl (ok_nilCheck rfl rfl rfl) <| cV rfl (oFp rfl rfl tF67_0) <| cV rfl (oFp rfl rfl tF25_1) <| cV rfl (oLb Tryz.underlying23 rfl rfl rfl trivial) <| cV rfl (oM rfl) ?_
  refine cV rfl (ok_index_seq rfl rfl rfl Tryz.underlying23 hif tS51 rfl (by omega)) <| cV rfl (ok_load_ept_agg rfl rfl Tryz.underlying51 rfl tS51 (Nat.le_of_ble_eq_true rfl)) <| WL.cons rfl rfl rfl (ok_alloc (k := 107) rfl tZ51 rfl rfl rfl rfl) <| WL.cons0 rfl rfl (ok_store_box_agg rfl rfl rfl rfl rfl ((fun h => h)) tS51 (firmL_ok rfl) (lb rfl)) <| WL.nil <| Tr.seq <| Tr.freezeBox (t := 7) (k := 107) rfl rfl rfl <| Tr.region rfl <| cV rfl (oFe rfl tF51_3) <| cV rfl (oLe Tryz.underlying35 rfl rfl) <| cV rfl (oSm Tryz.underlying35 rfl) <| WL.cons rfl rfl rfl (ok_makeSlice (k := 510) (s := ⟨3, 1⟩) rfl rfl rfl Tryz.underlying35 tZ3 tC3 rfl (by decide) (by omega) (by omega) rfl rfl rfl rfl) ?_
  refine cV rfl (oA rfl) <| WL.nil <| Tr.seq <| Tr.seq <| Tr.region rfl <| cV rfl (oA rfl) <| WL.nil <| Tr.block <| Tr.sub (Sub.of (fr' := [(9, iInt 0), (8, .sl 510 f.types.length), (7, .pv (.ept [vStr f.name, vInt f.ty, vInt f.params, ints f.types, nodes f.body] 0)), (0, .ptr 1001 0), (2, .pv (ints a))]) ⟨rfl, rfl, rfl, rfl, rfl, trivial⟩) ?_
  refine Tr.heap (σ' := look [(1001, some (runBox u s)), (1002, some (rowI (s).out)), (510, some (rowI (a.take 0 ++ List.replicate (f.types.length - 0) 0)))]) (by
  intro j
  by_cases h107 : 107 = j
  · subst h107; rfl
  · by_cases h1001 : 1001 = j
    · subst h1001; rfl
    · by_cases h1002 : 1002 = j
      · subst h1002; rfl
      · by_cases h510 : 510 = j
        · subst h510; exact congrArg (fun z => some (HO.row _ z)) (by rw [List.take_zero, List.nil_append, Nat.sub_zero, List.map_replicate]; rfl)
        · simp [look, up, runV, runH, beq_ne h107, beq_ne h1001, beq_ne h1002, beq_ne h510]) ?_
  refine Tr.loop (fun fr σ m => ∃ (i : Nat), (i ≤ a.length) ∧ fr = [(9, iInt i), (8, .sl 510 f.types.length), (7, .pv (.ept [vStr f.name, vInt f.ty, vInt f.params, ints f.types, nodes f.body] 0)), (0, .ptr 1001 0), (2, .pv (ints a))] ∧ σ = look [(1001, some (runBox u s)), (1002, some (rowI (s).out)), (510, some (rowI (a.take i ++ List.replicate (f.types.length - i) 0)))] ∧ m = a.length - i) (n := a.length - 0) ?_ ?_
  · exact ⟨0, Nat.zero_le _, rfl, rfl, rfl⟩
  · rintro fr σ m ⟨i, hI0, rfl, rfl, rfl⟩
    refine Tr.seq <| Tr.seq <| Tr.region rfl <| cV rfl (oM rfl) <| cV rfl (oM rfl) <| cV rfl (oSm Tryz.underlying35 rfl) <| cV rfl (oB rfl rfl rfl) <| WL.nil ?_
    refine Tr.cond rfl (fun hc26 => ?_) (fun hc26 => ?_)
    · have hlt : i < a.length := by simpa using hc26
      have hil : i < f.types.length := by omega
      obtain ⟨x, hx⟩ : ∃ x, a[i]? = some x := ⟨_, List.getElem?_eq_getElem hlt⟩
      have hi := map_get (f := eInt) hx
      have hvl : ((a.take i ++ List.replicate (f.types.length - i) 0).map eInt).length = f.types.length := by simp; omega
      obtain ⟨z0, hxg⟩ := row_at (v := (a.take i ++ List.replicate (f.types.length - i) 0)) (i := i) (by rw [hvl]; omega)
      refine Tr.skip <| Tr.seq <| Tr.block <| Tr.region rfl <| cV rfl (oM rfl) <| cV rfl (oM rfl) <| cV rfl (oM rfl) <| cV rfl (oM rfl) <| cV rfl (ok_index_seq rfl rfl rfl Tryz.underlying35 hi tS3 rfl (by rfl)) <| cV rfl (oLe Tryz.underlying3 rfl rfl) <| cV rfl (ok_index_row rfl rfl rfl rfl hvl Tryz.underlying35 tS3 hil rfl) ?_
      refine WL.cons0 rfl rfl (ok_store_row rfl rfl rfl rfl hvl (Nat.add_zero _).symm hxg (by simp) tS3 rfl (by simp)) ?_
      refine WL.nil <| Tr.region rfl <| cV rfl (oM rfl) <| cV rfl (oB rfl rfl (i64_add rfl (by omega))) <| cV rfl (oA rfl) <| WL.nil ?_
      refine ⟨_, _, ?_, Sub.of (fr' := [(9, iInt (i + 1)), (8, .sl 510 f.types.length), (7, .pv (.ept [vStr f.name, vInt f.ty, vInt f.params, ints f.types, nodes f.body] 0)), (0, .ptr 1001 0), (2, .pv (ints a))]) ⟨rfl, rfl, rfl, rfl, rfl, trivial⟩, (i + 1), ?_, rfl, (funext (by
  intro j
  by_cases h1001 : 1001 = j
  · subst h1001; rfl
  · by_cases h1002 : 1002 = j
    · subst h1002; rfl
    · by_cases h510 : 510 = j
      · subst h510; exact congrArg (fun z => some (HO.row _ z)) ((set_row _ _ _ _ hxg).trans (congrArg (List.map eInt) (copy_step hx hal)))
      · simp [look, up, runV, runH, beq_ne h1001, beq_ne h1002, beq_ne h510])), rfl⟩
      · omega
      omega
    refine Tr.exit <| Tr.seq ?_
    have he : (a.take i ++ List.replicate (f.types.length - i) 0) = a ++ List.replicate (f.types.length - a.length) 0 := by
      have hge : a.length ≤ i := by simpa using hc26
      obtain rfl : i = a.length := by omega
      rw [List.take_length]
    rw [he]
    have hvl2 : ((a ++ List.replicate (f.types.length - a.length) 0).map eInt).length = f.types.length := by simp; omega
    refine Tr.region rfl <| cV rfl (oM rfl) <| cV rfl (oFe rfl tF51_4) <| cV rfl (oLe Tryz.underlying43 rfl rfl) <| cV rfl (oM rfl) <| WL.cons rfl rfl rfl (ok_callr (ihL d1 (by omega) f.body (a ++ List.replicate (f.types.length - a.length) 0) s r1 hlist hfb) ent45 rfl rfl (Subs.same rfl (Subs.same rfl (Subs.same (congrArg (fun n => IV.sl 510 n) hvl2.symm) Subs.nil))) (po3 rfl rfl rfl) (by rfl) (fun k (h : _) => .inr h) rfl (by rfl)) <| WL.cons rfl rfl rfl (ok_alloc (k := 110) rfl tZ79 rfl rfl rfl rfl) <| WL.cons0 rfl rfl (ok_store_box_agg rfl rfl rfl rfl rfl ((fun h => h)) tS79 (firmL_ok rfl) (lb rfl)) <| WL.nil <| Tr.seq <| Tr.seq <| Tr.region rfl ?_
    refine cV rfl (oM rfl) <| WL.cons rfl rfl rfl (ok_callr (sc_over u r1.2.2) ent31 rfl rfl (Subs.refl _ _) (po2 rfl rfl) (by rfl) (fun k (h : _) => .inr trivial) rfl (by rfl)) <| cV rfl (oM rfl) ?_
    refine WL.split (t := 43) rfl (fun hb43 => ?_) (fun hb43 => ?_)
    · refine nV rfl rfl <| nV rfl rfl <| nV rfl rfl <| nV rfl rfl <| cV rfl (oT rfl rfl) <| WL.nil <| Tr.condT rfl <| Tr.seq <| Tr.region rfl <| cV rfl (oA rfl) <| WL.nil <| Tr.ret ?_
      refine ret_ok rfl ?_ (po2 rfl rfl)
      (rw [if_pos hb43]; done)
    refine yV rfl rfl (oFp rfl rfl tF79_1) <| yV rfl rfl (oLb Tryz.underlying35 rfl rfl rfl trivial) <| yV rfl rfl (oSm Tryz.underlying35 rfl) <| yV rfl rfl (oB rfl rfl rfl) <| cV rfl (oF rfl rfl) <| WL.nil ?_
    refine Tr.cond rfl (fun hc48 => ?_) (fun hc48 => ?_)
    · refine Tr.seq <| Tr.region rfl <| cV rfl (oA rfl) <| WL.nil <| Tr.ret ?_
      refine ret_ok rfl ?_ (po2 rfl rfl)
      (have hz : r1.1.2 = [] := by simpa using hc48
       rw [hz]
       split <;> rfl)
    obtain ⟨x, q, hxq⟩ : ∃ x q, r1.1.2 = x :: q := by
      cases hz : r1.1.2 with
      | nil => rw [hz] at hc48; simp at hc48
      | cons x q => exact ⟨x, q, rfl⟩
    have hi0 : (r1.1.2.map eInt)[0]? = some (eInt x) := by rw [hxq]; rfl
    refine Tr.skip <| Tr.seq <| Tr.region rfl <| cV rfl (oFp rfl rfl tF79_1) <| cV rfl (oLb Tryz.underlying35 rfl rfl rfl trivial) <| cV rfl (ok_index_seq rfl rfl rfl Tryz.underlying35 hi0 tS3 rfl (by rfl)) <| cV rfl (oLe Tryz.underlying3 rfl rfl) <| cV rfl (oA rfl) <| WL.nil <| Tr.ret ?_
    refine ret_ok rfl ?_ (po2 rfl rfl)
    rw [if_neg (by rw [hb43]; decide), hxq]
    rfl
/-- All calls, and all lists, to every depth. -/
theorem sc_run_all (u : Un) (hu : u.arrays = []) (hub : ∀ f ∈ u.flows, lsW f.body ≤ 1073741824) : ∀ D, SCC u D ∧ SCL u D
  | 0 => ⟨fun _ h => absurd h (Nat.not_lt_zero _), fun _ h => absurd h (Nat.not_lt_zero _)⟩
  | D + 1 => ⟨fun d hd k a s r h => sc_call0 u hub D (sc_run_all u hu hub D).2 d (Nat.le_of_lt_succ hd) k a s r h,
      fun d hd l v s r h hb => sc_list0 u hu D (sc_run_all u hu hub D).1 (sc_run_all u hu hub D).2 d (Nat.le_of_lt_succ hd) l v s r h hb⟩
/-- How a run begins, and how it is told. -/
def run0 (ins : List Int) (fuel : Int) : Rs := { ins := ins, ar := [], st := 0, code := 0, out := [], cost := 0, fuel := if fuel < 0 then 0 else fuel, spent := false }
def mEnd (r : Int × Rs) : Rs := if mOver r.2 then r.2 else { r.2 with st := 1, code := r.1 }
def runv (s : Rs) : PV := .agg [vInt s.st, vInt s.code, ints s.out, vInt s.cost, vInt s.fuel]
set_option maxRecDepth 8000 in
set_option maxHeartbeats 2000000 in
theorem sc_run0 (u : Un) (hu : u.arrays = []) (hW : r8Weight u ≤ 536870912) (hz : (r8Check u).1 = 0) (ins : List Int) (fuel : Int) (d : Nat) (r : Int × Rs) (h : mCall u d (r8Place mainName u.flows 0) [] (run0 ins fuel) = some r) : SC Tryz.prog 17 [.pv u.enc, .pv (ints ins), iInt fuel] [] (fun _ => False) (.pv (runv (mEnd r))) [] := by
  refine SC.ofC Tryz.func17 rfl (lb rfl) rfl fun F ρ w => ?_
  have hub : ∀ f ∈ u.flows, lsW f.body ≤ 1073741824 := fun f hf => Nat.le_trans (flow_le hW hf) (by omega)
  have hcall := (sc_run_all u hu hub (d + 1)).1 d (Nat.lt_succ_self d) _ _ _ _ h
  refine Tr.seq <| Tr.region rfl <| WL.cons rfl rfl rfl ((ok_box rfl rfl)) <| WL.cons rfl rfl rfl (ok_alloc (k := 106) rfl tZ46 rfl rfl rfl rfl) <| WL.nil <| Tr.seq <| Tr.seq <| Tr.region rfl <| cV rfl (ok_load_ept_agg rfl rfl Tryz.underlying25 rfl tS25 (Nat.le_of_ble_eq_true rfl)) <| WL.cons rfl rfl rfl (ok_callq (sc_r8Check u hW) ent19 rfl rfl (Subs.refl _ _) rfl) <| cV rfl (oM rfl) <| cV rfl (ok_extract rfl rfl rfl) ?_
  refine cV rfl (ok_extract rfl rfl rfl) <| cV rfl (oA rfl) <| cV rfl (oA rfl) <| WL.nil <| Tr.seq <| Tr.region rfl <| cV rfl (oM rfl) <| cV rfl (oB rfl rfl rfl) <| WL.nil ?_
  refine Tr.cond rfl (fun hc18 => ?_) (fun hc18 => ?_)
  · exact absurd hc18 (by rw [hz]; decide)
  · refine Tr.skip <| Tr.seq <| Tr.region rfl <| cV rfl (ok_load_ept_agg rfl rfl Tryz.underlying25 rfl tS25 (Nat.le_of_ble_eq_true rfl)) <| cV rfl (oM rfl) <| cV rfl (oM rfl) <| cV rfl (ok_max rfl rfl rfl) <| cV rfl (ok_build_pure rfl rfl tZ46 tP46 rfl (firmB_ok rfl) rfl) <| cV rfl (ok_build_pure rfl rfl tZ67 tP67 rfl (firmB_ok rfl) rfl) <| WL.cons rfl rfl rfl ((ok_boxOwnP (k := 1001) rfl rfl rfl rfl rfl rfl)) <| cV rfl (oA rfl) <| WL.nil ?_
    refine Tr.seq <| Tr.seq <| Tr.growCell (k := 1002) (k2 := 1001) (j := 6) ⟨3, 1⟩ rfl rfl rfl rfl rfl rfl <| Tr.region rfl <| cV rfl (oA rfl) <| WL.nil <| Tr.block <| Tr.sub (Sub.of (fr' := [(10, iInt 0), (9, .ptr 1001 0), (6, .ptr 106 0), (3, .pv (.ept [arrs u.arrays, flws u.flows] 0))]) ⟨rfl, rfl, rfl, rfl, trivial⟩) ?_
    refine Tr.heap (σ' := look [(106, some (.box [iInt 0, iInt 0, .pv (.val (.slice none 0 0)), iInt 0, iInt 0])), (1001, some (runBox u (run0 ins fuel))), (1002, some (rowI []))]) (by
  intro j
  by_cases h106 : 106 = j
  · subst h106; rfl
  · by_cases h1001 : 1001 = j
    · subst h1001; rfl
    · by_cases h1002 : 1002 = j
      · subst h1002; rfl
      · simp [look, up, runV, runH, beq_ne h106, beq_ne h1001, beq_ne h1002]) ?_
    refine Tr.loop (fun fr σ m => fr = [(10, iInt 0), (9, .ptr 1001 0), (6, .ptr 106 0), (3, .pv (.ept [arrs u.arrays, flws u.flows] 0))] ∧ σ = look [(106, some (.box [iInt 0, iInt 0, .pv (.val (.slice none 0 0)), iInt 0, iInt 0])), (1001, some (runBox u (run0 ins fuel))), (1002, some (rowI []))] ∧ m = 0) (n := 0) ?_ ?_
    · exact ⟨rfl, rfl, rfl⟩
    rintro fr σ m ⟨rfl, rfl, rfl⟩
    refine Tr.seq <| Tr.seq <| Tr.region rfl <| cV rfl (oM rfl) <| cV rfl (oFe rfl tF25_0) <| cV rfl (oLe Tryz.underlying22 rfl rfl) <| cV rfl (oSm Tryz.underlying22 rfl) <| cV rfl (oB rfl rfl rfl) <| WL.nil ?_
    refine Tr.cond rfl (fun hc31 => ?_) (fun hc31 => ?_)
    · exact absurd hc31 (by rw [hu]; simp)
    refine Tr.exit <| Tr.seq <| Tr.region rfl <| cV rfl (oM rfl) <| cV rfl (ok_load_ept_agg rfl rfl Tryz.underlying25 rfl tS25 (Nat.le_of_ble_eq_true rfl)) <| WL.cons rfl rfl rfl (ok_callq (sc_r8Place _ _) ent30 rfl rfl (Subs.refl _ _) rfl) <| WL.cons rfl rfl rfl (ok_callr (hcall) ent29 rfl rfl (Subs.same rfl (Subs.same rfl (Subs.cons (fun _ _ _ _ h => sub_pv PSub.nil h) Subs.nil))) (po2 rfl rfl) (by rfl) (fun k (h : _) => .inr h) rfl (by rfl)) <| cV rfl (oA rfl) <| WL.nil <| Tr.seq <| Tr.seq <| Tr.region rfl ?_
    refine cV rfl (oM rfl) <| WL.cons rfl rfl rfl (ok_callr (sc_over u r.2) ent31 rfl rfl (Subs.refl _ _) (po2 rfl rfl) (by rfl) (fun k (h : _) => .inr trivial) rfl (by rfl)) <| cV rfl (oN rfl) <| WL.nil ?_
    refine Tr.cond rfl (fun hc56 => ?_) (fun hc56 => ?_)
    · have hend : mEnd r = { r.2 with st := 1, code := r.1 } := if_neg (by intro hh; rw [hh] at hc56; exact absurd hc56 (by decide))
      refine Tr.region rfl <| cV rfl (oM rfl) <| cV rfl (oM rfl) <| cV rfl (oM rfl) <| cV rfl (ok_nilCheck rfl rfl rfl) <| cV rfl (oFp rfl rfl tF67_3) <| cV rfl (oFp rfl rfl tF46_0) <| WL.cons0 rfl rfl ((ok_store_box rfl rfl rfl rfl ((fun h => h)) tS3 (rfl) (lb rfl))) <| cV rfl (ok_nilCheck rfl rfl rfl) <| cV rfl (oFp rfl rfl tF67_3) <| cV rfl (oFp rfl rfl tF46_1) <| WL.cons0 rfl rfl ((ok_store_box rfl rfl rfl rfl ((fun h => h)) tS3 (rfl) (lb rfl))) ?_
      refine WL.nil <| Tr.seq <| Tr.freezeCell (k := 1002) (k2 := 1001) (j := 6) (n := (r.2.out.map eInt).length) rfl rfl rfl rfl (by decide) <| Tr.region rfl <| cV rfl (oM rfl) <| cV rfl (ok_nilCheck rfl rfl rfl) <| cV rfl (oFp rfl rfl tF67_3) <| cV rfl (ok_load_box_pure rfl rfl rfl Tryz.underlying46 rfl tS46 (Nat.le_of_ble_eq_true rfl) rfl trivial) <| WL.cons0 rfl rfl (ok_store_box_agg rfl rfl rfl rfl rfl ((fun h => h)) tS46 (firmL_ok rfl) (lb rfl)) <| WL.nil <| Tr.ret ?_
      rw [hend]
      refine retC_ok (.inl rfl) (fun _ _ ho => ok_load_box_pure ho rfl rfl Tryz.underlying46 rfl tS46 (lb rfl) rfl trivial) rfl no_post
    have hend : mEnd r = r.2 := if_pos (by simpa using hc56)
    refine Tr.skip <| Tr.seq <| Tr.freezeCell (k := 1002) (k2 := 1001) (j := 6) (n := (r.2.out.map eInt).length) rfl rfl rfl rfl (by decide) <| Tr.region rfl <| cV rfl (oM rfl) <| cV rfl (ok_nilCheck rfl rfl rfl) <| cV rfl (oFp rfl rfl tF67_3) <| cV rfl (ok_load_box_pure rfl rfl rfl Tryz.underlying46 rfl tS46 (Nat.le_of_ble_eq_true rfl) rfl trivial) <| WL.cons0 rfl rfl (ok_store_box_agg rfl rfl rfl rfl rfl ((fun h => h)) tS46 (firmL_ok rfl) (lb rfl)) <| WL.nil <| Tr.ret ?_
    rw [hend]
    refine retC_ok (.inl rfl) (fun _ _ ho => ok_load_box_pure ho rfl rfl Tryz.underlying46 rfl tS46 (lb rfl) rfl trivial) rfl no_post
mutual
def kdN : Nd → Bool
  | .mk kind _ _ _ _ _ _ ks => decide (1 ≤ kind) && kdK ks
def kdL : List Nd → Bool
  | [] => true
  | x :: r => kdN x && kdL r
def kdK : List (List Nd) → Bool
  | [] => true
  | l :: r => kdL l && kdK r
end
theorem kdN_eq (x : Nd) : kdN x = (decide (1 ≤ x.kind) && kdK x.kids) := by cases x; simp only [kdN]; rfl
theorem fineL_append : ∀ a b : List Nd, fineL (a ++ b) = (fineL a && fineL b)
  | [], b => by simp [fineL]
  | x :: a, b => by simp only [List.cons_append, fineL, fineL_append a b, Bool.and_assoc]
theorem kdL_append : ∀ a b : List Nd, kdL (a ++ b) = (kdL a && kdL b)
  | [], b => by simp [kdL]
  | x :: a, b => by simp only [List.cons_append, kdL, kdL_append a b, Bool.and_assoc]
theorem part_fine : ∀ (l : List Nd) (vs : List Int), fineL l = true → fineL (hPart vs l).1 = true ∧ fineL (hPart vs l).2 = true
  | [], _, _ => ⟨rfl, rfl⟩
  | x :: r, vs, h => by
    simp only [fineL, Bool.and_eq_true] at h
    unfold hPart
    split
    · split
      · have := part_fine r (vs ++ [x.outs.headD 0]) h.2
        exact ⟨this.1, by simp only [fineL, Bool.and_eq_true]; exact ⟨h.1, this.2⟩⟩
      have := part_fine r vs h.2
      exact ⟨by simp only [fineL, Bool.and_eq_true]; exact ⟨h.1, this.1⟩, this.2⟩
    exact ⟨rfl, by simp only [fineL, Bool.and_eq_true]; exact h⟩
theorem part_kd : ∀ (l : List Nd) (vs : List Int), kdL l = true → kdL (hPart vs l).1 = true ∧ kdL (hPart vs l).2 = true
  | [], _, _ => ⟨rfl, rfl⟩
  | x :: r, vs, h => by
    simp only [kdL, Bool.and_eq_true] at h
    unfold hPart
    split
    · split
      · have := part_kd r (vs ++ [x.outs.headD 0]) h.2
        exact ⟨this.1, by simp only [kdL, Bool.and_eq_true]; exact ⟨h.1, this.2⟩⟩
      have := part_kd r vs h.2
      exact ⟨by simp only [kdL, Bool.and_eq_true]; exact ⟨h.1, this.1⟩, this.2⟩
    exact ⟨rfl, by simp only [kdL, Bool.and_eq_true]; exact h⟩
theorem part_head : ∀ (l : List Nd) (vs : List Int) (y : Nd) (q : List Nd), (hPart vs l).2 = y :: q → hmless y = false ∨ (y.args.any fun v => vs.contains v) = true
  | [], _, _, _, h => by simp [hPart] at h
  | x :: r, vs, y, q, h => by
    unfold hPart at h
    split at h
    · split at h
      · rename_i h1 h2
        cases h
        exact .inr h2
      exact part_head r vs y q h
    rename_i h1
    cases h
    exact .inl (by simpa using h1)
theorem idle_hmless {y : Nd} (h : 1 ≤ y.kind) (hm : hmless y = false) : fIdle y = false := by
  simp only [hmless, Bool.or_eq_false_iff, beq_eq_false_iff_ne] at hm
  obtain ⟨⟨⟨h1, h2⟩, h3⟩, h4⟩ := hm
  simp only [fIdle, h4, Bool.or_false, decide_eq_false_iff_not]
  omega
theorem any_contains (l vs : List Int) : (l.any fun v => vs.contains v) = fAny l vs := by
  unfold fAny
  congr 1
  funext v
  exact List.contains_eq_any_beq
theorem out_fine (kind op n : Int) (name : ByteArray) (args outs params : List Int) (ks : List (List Nd)) (h0 : 1 ≤ kind) (hk : kdK ks = true) (hf : fineK ks = true) :
    kdL (hOut kind op n name args outs params ks) = true ∧ fineL (hOut kind op n name args outs params ks) = true := by
  have one : ∀ ks', kdK ks' = true → fineK ks' = true → fHead (.mk kind op n name args outs params ks') = false → kdL [.mk kind op n name args outs params ks'] = true ∧ fineL [.mk kind op n name args outs params ks'] = true := by
    intro ks' h1 h2 h3
    simp only [kdL, kdN, fineL, fineN, h1, h2, h3, Bool.and_true, Bool.not_false, decide_eq_true_eq]
    exact ⟨h0, trivial⟩
  unfold hOut
  split
  · rename_i h11
    cases ks with
    | nil => exact one [] rfl rfl (by simp [fHead, Nd.kids])
    | cons b r =>
      simp only [kdK, fineK, Bool.and_eq_true] at hk hf
      have p1 := part_fine b params hf.1
      have p2 := part_kd b params hk.1
      have hh : fHead (.mk kind op n name args outs params ((hPart params b).2 :: r)) = false := by
        unfold fHead
        simp only [Nd.kids, Nd.params]
        split
        · rename_i y q he
          cases he' : (hPart params b).2 with
          | nil => rw [he'] at he; simp at he
          | cons z w =>
            rw [he'] at he
            simp only [List.cons.injEq] at he
            obtain ⟨⟨rfl, _⟩, _⟩ := he
            have hkd := p2.2
            rw [he'] at hkd
            simp only [kdL, kdN_eq, Bool.and_eq_true, decide_eq_true_eq] at hkd
            rcases part_head b params _ _ he' with h1 | h1
            · rw [idle_hmless hkd.1.1 h1]; simp
            rw [any_contains] at h1
            rw [h1]; simp
        simp
      have h1 := one ((hPart params b).2 :: r) (by simp only [kdK, Bool.and_eq_true]; exact ⟨p2.2, hk.2⟩) (by simp only [fineK, Bool.and_eq_true]; exact ⟨p1.2, hf.2⟩) hh
      simp only [kdL_append, fineL_append, Bool.and_eq_true]
      exact ⟨⟨p2.1, h1.1⟩, ⟨p1.1, h1.2⟩⟩
  rename_i h11
  exact one ks hk hf (by simp [fHead, Nd.kind, h11])
mutual
theorem fineN_h : ∀ x : Nd, kdN x = true → kdL (hNode x) = true ∧ fineL (hNode x) = true
  | .mk kind op n name args outs params ks, h => by
    simp only [kdN, Bool.and_eq_true, decide_eq_true_eq] at h
    have := fineK_h ks h.2
    unfold hNode
    exact out_fine kind op n name args outs params _ h.1 this.1 this.2
theorem fineL_h : ∀ l : List Nd, kdL l = true → kdL (hList l) = true ∧ fineL (hList l) = true
  | [], _ => ⟨rfl, rfl⟩
  | x :: r, h => by
    simp only [kdL, Bool.and_eq_true] at h
    have h1 := fineN_h x h.1
    have h2 := fineL_h r h.2
    simp only [hList, kdL_append, fineL_append, Bool.and_eq_true]
    exact ⟨⟨h1.1, h2.1⟩, ⟨h1.2, h2.2⟩⟩
theorem fineK_h : ∀ ks : List (List Nd), kdK ks = true → kdK (hKids ks) = true ∧ fineK (hKids ks) = true
  | [], _ => ⟨rfl, rfl⟩
  | l :: r, h => by
    simp only [kdK, Bool.and_eq_true] at h
    have h1 := fineL_h l h.1
    have h2 := fineK_h r h.2
    simp only [hKids, kdK, fineK, Bool.and_eq_true]
    exact ⟨⟨h1.1, h2.1⟩, ⟨h1.2, h2.2⟩⟩
end
theorem sForm_kind {u : Un} {f : Fl} {x : Nd} {s : List Int} {w : Wh} {tys outs : List Int} (h : (sForm u f x s w).ok tys outs = true) : 1 ≤ x.kind := by
  rcases Int.lt_or_le x.kind 1 with hk | hk
  · exfalso
    have e : ∀ n : Int, 1 ≤ n → (x.kind == n) = false := fun n hn => by simp only [beq_eq_false_iff_ne]; omega
    unfold sForm at h
    simp only [e 1 (by omega), e 2 (by omega), e 3 (by omega), e 4 (by omega), e 5 (by omega), e 6 (by omega), e 7 (by omega), e 8 (by omega), e 9 (by omega), e 12 (by omega), e 13 (by omega), e 14 (by omega), e 15 (by omega), Bool.false_eq_true, if_false] at h
    simp [SForm.ok] at h
  exact hk
mutual
theorem kdN_valid (u : Un) (f : Fl) : ∀ (x : Nd) (deep : Int) (w : Wh) (s : List Int), vNode u f deep w s x = true → kdN x = true
  | .mk kind op n name args outs params ks, deep, w, s, h => by
    have hb := vNode_bare u f deep w s h
    simp only [kdN, Bool.and_eq_true, decide_eq_true_eq]
    by_cases h10 : kind = 10
    · refine ⟨by omega, ?_⟩
      obtain ⟨a, b, hk⟩ := r8bare_if hb h10
      rw [vNode_if u f deep w s hb h10 hk] at h
      simp only [Bool.and_eq_true, vList] at h
      simp only [Nd.kids] at hk
      match ks, hk with
      | [a', b'], hk =>
        cases hk
        simp only [kdK, Bool.and_eq_true, Bool.and_true]
        exact ⟨kdL_valid u f a _ _ _ h.1.1.1.2.2, kdL_valid u f b _ _ _ h.1.1.2.2⟩
    by_cases h11 : kind = 11
    · refine ⟨by omega, ?_⟩
      obtain ⟨a, hk⟩ := r8bare_loop hb h11
      rw [vNode_loop u f deep w s hb h11 hk] at h
      simp only [Bool.and_eq_true, vList] at h
      simp only [Nd.kids] at hk
      match ks, hk with
      | [a'], hk =>
        cases hk
        simp only [kdK, Bool.and_true]
        exact kdL_valid u f a _ _ _ h.1.1.2.2
    have e10 : (kind == 10) = false := by simpa using h10
    have e11 : (kind == 11) = false := by simpa using h11
    have hk0 := bare_kids0 hb e10 e11
    simp only [Nd.kids] at hk0
    rw [vNode_simple u f deep w s hb e10 e11] at h
    exact ⟨sForm_kind h, by rw [hk0]; rfl⟩
theorem kdL_valid (u : Un) (f : Fl) : ∀ (l : List Nd) (deep : Int) (w : Wh) (s : List Int), vGo u f deep w s l = true → kdL l = true
  | [], _, _, _, _ => rfl
  | x :: r, deep, w, s, h => by
    simp only [vGo, Bool.and_eq_true] at h
    simp only [kdL, Bool.and_eq_true]
    exact ⟨kdN_valid u f x _ _ _ h.1.1.2, kdL_valid u f r _ _ _ h.2⟩
end
theorem kd_valid {u : Un} (h : (shCheck u).1 = 0) : ∀ f ∈ u.flows, kdL f.body = true := by
  rw [shCheck_eq] at h
  intro f hf
  have hF := ((check_iff u).1 h).2 f hf
  unfold r8Flow at hF
  simp only [Bool.and_eq_true] at hF
  obtain ⟨h1, h2⟩ := hF
  have hp : f.params.toNat ≤ f.types.length := by
    have a1 := h1.1.1.1.1
    have a2 := h1.1.1.2
    simp only [Bool.not_eq_true', decide_eq_false_iff_not] at a1 a2
    omega
  have hn : (firsts f.params.toNat f.types.length).length = f.types.length := firsts_length hp
  rw [r8list_iff u f f.body 1 r8where0 _ _ hn] at h2
  have hv := h2.1
  simp only [vList, Bool.and_eq_true] at hv
  exact kdL_valid u f f.body _ _ _ hv.2
/-- What comes out of hoisting is right. -/
theorem right_hoist (u : Un) : fRight (hoistOf u).1 = true := by
  unfold hoistOf
  split
  · rename_i h
    unfold fRight hUnit
    simp only [List.all_map, List.all_eq_true]
    intro f hf
    exact (fineL_h f.body (kd_valid (by simpa using h) f hf)).2
  rfl
/-- The unit that awake asks of. -/
def wakeL : List Nd := [(.mk 1 0 1 ⟨#[]⟩ [] [0] [] []), (.mk 11 0 0 ⟨#[]⟩ [0] [4] [1] [[(.mk 1 0 10 ⟨#[]⟩ [] [2] [] []), (.mk 4 1 0 ⟨#[]⟩ [1, 2] [3] [] []), (.mk 14 0 0 ⟨#[]⟩ [3] [] [] [])]]), (.mk 15 0 0 ⟨#[]⟩ [4] [] [] [])]
def wakeU : Un := ⟨[], [⟨mainName, 1, 0, [1, 1, 1, 1, 1], wakeL⟩]⟩
theorem wake_check : (r8Check wakeU).1 = 0 := by decide +kernel
theorem wake_weight : r8Weight wakeU ≤ 536870912 := by decide +kernel
theorem wake_run0 : ((mCall (hUnit wakeU) 20 (r8Place mainName (hUnit wakeU).flows 0) [] (run0 [] 6)).map fun r => (mOver r.2, r.1)) = some (false, 11) := by decide +kernel
theorem wake_run : ∃ r, mCall (hUnit wakeU) 20 (r8Place mainName (hUnit wakeU).flows 0) [] (run0 [] 6) = some r ∧ (mEnd r).st = 1 ∧ (mEnd r).code = 11 := by
  have h := wake_run0
  rw [Option.map_eq_some_iff] at h
  obtain ⟨r, h1, h2⟩ := h
  simp only [Prod.mk.injEq] at h2
  refine ⟨r, h1, ?_, ?_⟩
  · simp only [mEnd, h2.1, Bool.false_eq_true, if_false]
  simp only [mEnd, h2.1, Bool.false_eq_true, if_false, h2.2]
def wakeRaw : PV := .seq [[vInt 1, vInt 0, vInt 1, vStr ⟨#[]⟩, .val (.slice none 0 0), .seq [[vInt 0]], .val (.slice none 0 0), .val (.slice none 0 0)], [vInt 11, vInt 0, vInt 0, vStr ⟨#[]⟩, .seq [[vInt 0]], .seq [[vInt 4]], .seq [[vInt 1]], .seq [[.seq [[vInt 1, vInt 0, vInt 10, vStr ⟨#[]⟩, .val (.slice none 0 0), .seq [[vInt 2]], .val (.slice none 0 0), .val (.slice none 0 0)], [vInt 4, vInt 1, vInt 0, vStr ⟨#[]⟩, .seq [[vInt 1], [vInt 2]], .seq [[vInt 3]], .val (.slice none 0 0), .val (.slice none 0 0)], [vInt 14, vInt 0, vInt 0, vStr ⟨#[]⟩, .seq [[vInt 3]], .val (.slice none 0 0), .val (.slice none 0 0), .val (.slice none 0 0)]]]]], [vInt 15, vInt 0, vInt 0, vStr ⟨#[]⟩, .seq [[vInt 4]], .val (.slice none 0 0), .val (.slice none 0 0), .val (.slice none 0 0)]]
theorem wake_sub : PSub wakeRaw (nodes wakeL) := by
  show PSub _ (.seq [_, _, _])
  repeat' (first | exact PSub.nil | exact PSub.refl _ | exact trivial | refine And.intro ?_ ?_ | refine PSub.seq (ps := [_, _, _]) (qs := [_, _, _]) ?_ | refine PSub.seq (ps := [_]) (qs := [_]) ?_)
theorem empty_hoist : hoistOf ⟨[], []⟩ = (⟨[], []⟩, 1) := hoistOf_bad (by decide +kernel)
set_option maxRecDepth 8000 in
set_option maxHeartbeats 2000000 in
theorem sc_awake0 (L : List Nd) (hL : PSub wakeRaw (nodes L)) (V : Un) (hH : hoistOf (⟨[], [⟨mainName, 1, 0, [1, 1, 1, 1, 1], L⟩]⟩ : Un) = (V, 0)) (hW : r8Weight (⟨[], [⟨mainName, 1, 0, [1, 1, 1, 1, 1], L⟩]⟩ : Un) ≤ 536870912) (hVa : V.arrays = []) (hVl : V.flows.length = 1) (hVr : fRight V = true) (hVW : r8Weight V ≤ 536870912) (hVz : (r8Check V).1 = 0) (r : Int × Rs) (hr : mCall V 20 (r8Place mainName V.flows 0) [] (run0 [] 6) = some r) (h1 : (mEnd r).st = 1) (h2 : (mEnd r).code = 11) : SC Tryz.prog 7 [] [] (fun _ => False) (iBool true) [] := by
  refine SC.of Tryz.func7 rfl (lb rfl) fun F ρ w => ?_
  have hsc := sc_Hoist (⟨[], [⟨mainName, 1, 0, [1, 1, 1, 1, 1], L⟩]⟩ : Un) hW hok_valid
  rw [hH] at hsc
  have hse := sc_Hoist ⟨[], []⟩ (by decide) hok_valid
  rw [empty_hoist] at hse
  refine Tr.seq <| Tr.region rfl <| cV rfl (oA rfl) <| WL.nil <| Tr.seq <| Tr.region rfl <| cV rfl (oA rfl) <| WL.nil <| Tr.seq <| Tr.region rfl <| WL.cons rfl rfl rfl (ok_buildSlice rfl rfl Tryz.underlying35 tZ3 tS3 rfl rfl rfl rfl (firmB_ok rfl) rfl) <| WL.cons rfl rfl rfl (ok_buildSlice rfl rfl Tryz.underlying35 tZ3 tS3 rfl rfl rfl rfl (firmB_ok rfl) rfl) ?_
  refine WL.cons rfl rfl rfl (ok_buildSlice rfl rfl Tryz.underlying35 tZ3 tS3 rfl rfl rfl rfl (firmB_ok rfl) rfl) <| WL.cons rfl rfl rfl (ok_buildSlice rfl rfl Tryz.underlying35 tZ3 tS3 rfl rfl rfl rfl (firmB_ok rfl) rfl) <| cV rfl (ok_build_pure rfl rfl tZ42 tP42 rfl (firmB_ok rfl) rfl) <| WL.cons rfl rfl rfl (ok_buildSlice rfl rfl Tryz.underlying35 tZ3 tS3 rfl rfl rfl rfl (firmB_ok rfl) rfl) <| WL.cons rfl rfl rfl (ok_buildSlice rfl rfl Tryz.underlying35 tZ3 tS3 rfl rfl rfl rfl (firmB_ok rfl) rfl) <| cV rfl (ok_build_pure rfl rfl tZ42 tP42 rfl (firmB_ok rfl) rfl) <| WL.cons rfl rfl rfl (ok_buildSlice rfl rfl Tryz.underlying35 tZ3 tS3 rfl rfl rfl rfl (firmB_ok rfl) rfl) <| cV rfl (ok_build_pure rfl rfl tZ42 tP42 rfl (firmB_ok rfl) rfl) <| WL.cons rfl rfl rfl (ok_buildSlice rfl rfl Tryz.underlying43 tZ42 tS42 rfl rfl rfl rfl (firmB_ok rfl) rfl) <| WL.cons rfl rfl rfl (ok_buildSlice rfl rfl Tryz.underlying40 tZ43 tS43 rfl rfl rfl rfl (firmB_ok rfl) rfl) <| cV rfl (ok_build_pure rfl rfl tZ42 tP42 rfl (firmB_ok rfl) rfl) <| WL.cons rfl rfl rfl (ok_alloc (k := 102) rfl tZ42 rfl rfl rfl rfl) ?_
  refine WL.cons0 rfl rfl (ok_store_box_agg rfl rfl rfl rfl rfl ((fun h => h)) tS42 (firmL_ok rfl) (lb rfl)) <| WL.nil <| Tr.seq <| Tr.region rfl <| cV rfl (oM rfl) <| cV rfl (oM rfl) <| cV rfl (oM rfl) <| cV rfl (oM rfl) <| cV rfl (oM rfl) <| WL.cons rfl rfl rfl (ok_buildSlice rfl rfl Tryz.underlying35 tZ3 tS3 rfl rfl rfl rfl (firmB_ok rfl) rfl) <| WL.cons rfl rfl rfl (ok_buildSlice rfl rfl Tryz.underlying35 tZ3 tS3 rfl rfl rfl rfl (firmB_ok rfl) rfl) <| cV rfl (ok_build_pure rfl rfl tZ42 tP42 rfl (firmB_ok rfl) rfl) ?_
  refine cV rfl (ok_load_box_pure rfl rfl rfl Tryz.underlying42 rfl tS42 (Nat.le_of_ble_eq_true rfl) rfl trivial) <| WL.cons rfl rfl rfl (ok_buildSlice rfl rfl Tryz.underlying35 tZ3 tS3 rfl rfl rfl rfl (firmB_ok rfl) rfl) <| cV rfl (ok_build_pure rfl rfl tZ42 tP42 rfl (firmB_ok rfl) rfl) <| WL.cons rfl rfl rfl (ok_buildSlice rfl rfl Tryz.underlying43 tZ42 tS42 rfl rfl rfl rfl (firmB_ok rfl) rfl) <| WL.cons rfl rfl rfl (ok_callq (sc_unit15 [1, 1, 1, 1, 1] L) ent16 rfl rfl (Subs.same rfl (Subs.cons (fun _ _ _ _ h => sub_pv hL h) Subs.nil)) rfl) <| WL.cons rfl rfl rfl (ok_callq (hsc) ent11 rfl rfl (Subs.cons (fun _ _ _ _ h => sub_pv (PSub.agg (ps := [.val (.slice none 0 0), flws [⟨mainName, 1, 0, [1, 1, 1, 1, 1], L⟩]]) (qs := [.seq [], flws [⟨mainName, 1, 0, [1, 1, 1, 1, 1], L⟩]]) (And.intro PSub.nil (And.intro (PSub.refl _) trivial))) h) Subs.nil) rfl) <| cV rfl (oM rfl) <| cV rfl (ok_extract rfl rfl rfl) <| cV rfl (ok_extract rfl rfl rfl) <| WL.cons rfl rfl rfl (ok_alloc (k := 103) rfl tZ25 rfl rfl rfl rfl) <| WL.cons0 rfl rfl (ok_store_box_agg rfl rfl rfl rfl rfl ((fun h => h)) tS25 (firmL_ok rfl) (lb rfl)) <| cV rfl (oA rfl) ?_
  refine WL.nil <| Tr.seq <| Tr.region rfl <| cV rfl (ok_load_box_pure rfl rfl rfl Tryz.underlying25 rfl tS25 (Nat.le_of_ble_eq_true rfl) rfl trivial) <| WL.cons rfl rfl rfl (ok_callq (sc_run0 V hVa hVW hVz [] 6 20 r hr) ent17 rfl rfl (Subs.same rfl (Subs.cons (fun _ _ _ _ h => sub_pv PSub.nil h) (Subs.same rfl Subs.nil))) rfl) <| WL.cons rfl rfl rfl (ok_alloc (k := 105) rfl tZ46 rfl rfl rfl rfl) <| WL.cons0 rfl rfl (ok_store_box_agg rfl rfl rfl rfl rfl ((fun h => h)) tS46 (firmL_ok rfl) (lb rfl)) <| WL.nil <| Tr.seq <| Tr.region rfl <| cV rfl (oM rfl) <| cV rfl (oB rfl rfl rfl) ?_
  refine cV rfl (oM rfl) ?_
  refine WL.split (t := 43) rfl (fun hb43 => ?_) (fun hb43 => ?_)
  · refine yV rfl rfl (oFp rfl rfl tF25_1) <| yV rfl rfl (oLb Tryz.underlying23 rfl rfl rfl trivial) <| yV rfl rfl (oSm Tryz.underlying23 rfl) <| yV rfl rfl (oB rfl rfl rfl) <| cV rfl (oT rfl rfl) <| cV rfl (oM rfl) ?_
    refine WL.split (t := 49) rfl (fun hb49 => ?_) (fun hb49 => ?_)
    · refine yV rfl rfl (ok_load_box_pure rfl rfl rfl Tryz.underlying25 rfl tS25 (Nat.le_of_ble_eq_true rfl) rfl trivial) <| WL.yes rfl rfl rfl rfl rfl rfl (ok_callq (sc_right V) ent12 rfl rfl (Subs.refl _ _) rfl) <| cV rfl (oT rfl rfl) <| cV rfl (oM rfl) ?_
      refine WL.split (t := 53) rfl (fun hb53 => ?_) (fun hb53 => ?_)
      · refine yV rfl rfl (oFp rfl rfl tF46_0) <| yV rfl rfl (oLb Tryz.underlying3 rfl rfl rfl trivial) <| yV rfl rfl (oB rfl rfl rfl) <| cV rfl (oT rfl rfl) <| cV rfl (oM rfl) ?_
        refine WL.split (t := 58) rfl (fun hb58 => ?_) (fun hb58 => ?_)
        · refine yV rfl rfl (oFp rfl rfl tF46_1) <| yV rfl rfl (oLb Tryz.underlying3 rfl rfl rfl trivial) <| yV rfl rfl (oB rfl rfl rfl) <| cV rfl (oT rfl rfl) <| cV rfl (oA rfl) <| WL.nil <| Tr.seq <| Tr.region rfl <| cV rfl (ok_build_pure rfl rfl tZ25 tP25 rfl (firmB_ok rfl) rfl) <| WL.cons rfl rfl rfl (ok_callq (hse) ent11 rfl rfl (Subs.cons (fun _ _ _ _ h => empty_unit h) Subs.nil) rfl) <| cV rfl (oM rfl) <| cV rfl (ok_extract rfl rfl rfl) ?_
          refine cV rfl (ok_extract rfl rfl rfl) <| WL.cons rfl rfl rfl (ok_alloc (k := 107) rfl tZ25 rfl rfl rfl rfl) <| WL.cons0 rfl rfl (ok_store_box_agg rfl rfl rfl rfl rfl ((fun h => h)) tS25 (firmL_ok rfl) (lb rfl)) <| cV rfl (oA rfl) <| WL.nil <| Tr.seq <| Tr.region rfl <| cV rfl (oM rfl) <| cV rfl (oB rfl rfl rfl) <| cV rfl (oM rfl) ?_
          refine WL.split (t := 70) rfl (fun hb70 => ?_) (fun hb70 => ?_)
          · refine yV rfl rfl (oM rfl) <| cV rfl (oT rfl rfl) <| cV rfl (oA rfl) <| WL.nil <| Tr.ret ?_
            refine ret_ok rfl ?_ no_post
            rw [h2]
            rfl
          exact Bool.noConfusion (show true = false from hb70)
        rw [h1] at hb58
        cases hb58
      rw [hVr] at hb53
      cases hb53
    simp [hVl] at hb49
  exact Bool.noConfusion (show true = false from hb43)
theorem sc_awake : SC Tryz.prog 7 [] [] (fun _ => False) (iBool true) [] := by
  obtain ⟨r, hr, h1, h2⟩ := wake_run
  have hc := check_hoist wake_check
  exact sc_awake0 wakeL wake_sub (hUnit wakeU) (hoistOf_good wake_check) wake_weight rfl rfl (by have := right_hoist wakeU; rw [hoistOf_good wake_check] at this; exact this) (by rw [weight_h]; exact wake_weight) (by rw [hc]) r hr h1 h2
set_option maxRecDepth 8000 in
set_option maxHeartbeats 2000000 in
theorem sc_HoistAny (u : Un) (hW : r8Weight u ≤ 536870912) : SC Tryz.prog 3 [.pv u.enc] [] (fun _ => False) (iBool true) [] := by
  refine SC.of Tryz.func3 rfl (lb rfl) fun F ρ w => ?_
  refine Tr.seq <| Tr.region rfl <| WL.cons rfl rfl rfl ((ok_box rfl rfl)) <| cV rfl (oA rfl) <| WL.nil <| Tr.seq <| Tr.region rfl <| WL.cons rfl rfl rfl (ok_callq (sc_awake) ent7 rfl rfl (Subs.refl _ _) rfl) <| cV rfl (oM rfl) ?_
  refine WL.split (t := 4) rfl (fun hb4 => ?_) (fun hb4 => ?_)
  · refine yV rfl rfl (ok_load_ept_agg rfl rfl Tryz.underlying25 rfl tS25 (Nat.le_of_ble_eq_true rfl)) <| WL.yes rfl rfl rfl rfl rfl rfl (ok_callq (sc_r8Weight u (by omega)) ent8 rfl rfl (Subs.refl _ _) rfl) <| yV rfl rfl (oB rfl rfl rfl) <| yV rfl rfl (oM rfl) ?_
    refine WL.split (t := 8) rfl (fun hb8 => ?_) (fun hb8 => ?_)
    · refine nV rfl rfl <| nV rfl rfl <| yV rfl rfl (oT rfl rfl) <| cV rfl (oT rfl rfl) <| cV rfl (oA rfl) <| WL.nil <| Tr.ret ?_
      refine ret_ok rfl ?_ no_post
      rfl
    refine yV rfl rfl (ok_load_ept_agg rfl rfl Tryz.underlying25 rfl tS25 (Nat.le_of_ble_eq_true rfl)) <| WL.yes rfl rfl rfl rfl rfl rfl (ok_callq (sc_fits u hW) ent9 rfl rfl (Subs.refl _ _) rfl) <| yV rfl rfl (oF rfl rfl) <| cV rfl (oT rfl rfl) <| cV rfl (oA rfl) <| WL.nil <| Tr.ret ?_
    refine ret_ok rfl ?_ no_post
    rfl
  exact absurd hb4 (by decide)
section
open Go Go.ChangeShapes Go.WideShapes Go.ChangeAt Go.RowKit
section
variable {H : Type} {enc : TypeId × Value → H} {P : Program} {w : World} {base : Nat} {spare : Nat → Bool} {held : Bool}
/-- Cells stand for an element. -/
def RepEl (own : Nat → Prop) (w : World) (ps : List PV) (cs : List Value) : Prop := ps.length = cs.length ∧ ∀ (j : Nat) p v, ps[j]? = some p → cs[j]? = some v → RepP own w p v
theorem RepEl.nil {own : Nat → Prop} : RepEl own w [] [] := ⟨rfl, fun j p v h => by simp at h⟩
theorem RepEl.cons {own : Nat → Prop} {p : PV} {v : Value} {ps : List PV} {cs : List Value} (h : RepP own w p v) (hr : RepEl own w ps cs) : RepEl own w (p :: ps) (v :: cs) := by
  refine ⟨by simp [hr.1], fun j q x hq hx => ?_⟩
  cases j with
  | zero => simp at hq hx; subst hq; subst hx; exact h
  | succ j => exact hr.2 j q x (by simpa using hq) (by simpa using hx)
/-- Elements, one by one. -/
theorem choose_els {α : Type} (f : α → List PV) (wt : α → Nat) {own : Nat → Prop} (R : Nat → DataW H × List MemPlace → List Value → Prop)
    (hR : ∀ i y cs, R i y cs → ∃ z : α, RepEl own w (f z) cs ∧ wt z + 1 ≤ Rows.uptoBulk y.1) :
    ∀ (ys : List (DataW H × List MemPlace)) (s : Nat), (∀ i y, ys[i]? = some y → ∃ cs, R (s + i) y cs) →
      ∃ l : List α, l.length = ys.length ∧ (∀ i z, l[i]? = some z → ∃ y cs, ys[i]? = some y ∧ R (s + i) y cs ∧ RepEl own w (f z) cs) ∧ (l.map wt).sum + l.length ≤ Rows.uptoBulkAll (ys.map (·.1))
  | [], _, _ => ⟨[], rfl, fun i z h => by simp at h, by simp [Rows.uptoBulkAll]⟩
  | y :: ys, s, h => by
    obtain ⟨cs, hcs⟩ := h 0 y rfl
    obtain ⟨z, hz, hw⟩ := hR _ _ _ hcs
    obtain ⟨l, hl, hg, hb⟩ := choose_els f wt R hR ys (s + 1) (fun i y' hy => by
      have := h (i + 1) y' (by simpa using hy)
      rwa [show s + 1 + i = s + (i + 1) by omega])
    refine ⟨z :: l, by simp [hl], fun i z' hz' => ?_, ?_⟩
    · cases i with
      | zero => simp at hz'; subst hz'; exact ⟨y, cs, rfl, hcs, hz⟩
      | succ i =>
        obtain ⟨y', cs', h1, h2, h3⟩ := hg i z' (by simpa using hz')
        exact ⟨y', cs', by simpa using h1, by rwa [show s + (i + 1) = s + 1 + i by omega], h3⟩
    simp only [List.map_cons, List.sum_cons, List.length_cons, Rows.uptoBulkAll]; omega
/-- A slice that can be read stands as a list. -/
theorem trod_list {α : Type} (f : α → List PV) (wt : α → Nat) {own : Nat → Prop} (hown : ∀ b, b < w.heap.size → ¬ own b) {t e : TypeId} {fuel : Nat} {cs : List Value} {x : DataW H × List MemPlace} {N : Nat} (ht : P.underlying t = some (.slice e)) (hC : P.cellsOf e = N) (hN : 0 < N)
    (h : DataW.trod enc P w base spare held fuel t cs = some x)
    (hel : ∀ n cs' y, n < fuel → cs'.length = N → DataW.trod enc P w base spare held n e cs' = some y → ∃ z : α, RepEl own w (f z) cs' ∧ wt z + 1 ≤ Rows.uptoBulk y.1) :
    ∃ (l : List α) (v : Value), cs = [v] ∧ RepP own w (.seq (l.map f)) v ∧ (l.map wt).sum + l.length + 1 ≤ Rows.uptoBulk x.1 := by
  rcases DataW.trod_slice ht h with ⟨rfl, rfl⟩ | ⟨a, len, cap, elems, rest, n, rfl, rfl, rfl, hb, hl, hm, hlen, hg, _, _⟩
  · refine ⟨[], _, rfl, ?_, by simp [Rows.uptoBulk]⟩
    have := RepP.seq (own := own) (w := w) [] none 0 0 0 (fun _ _ => default) (fun h => absurd rfl h) (fun h => absurd rfl h) (Nat.le_refl _) (Nat.zero_le _) (fun i el h => by simp at h) (fun i el h => by simp at h)
    simpa using this
  obtain ⟨l, hll, hat, hsum⟩ := choose_els (w := w) f wt (own := own) (fun i y cs => w.cells? base (a.add (i * P.cellsOf e)) (P.cellsOf e) = some cs ∧ DataW.trod enc P w base spare held n e cs = some y)
    (fun i y cs' hr => hel n cs' y (Nat.lt_succ_self _) (by rw [(World.cells?_some hr.1).2.1, hC]) hr.2) elems 0 (fun i y hy => by
      have hlt : i < len := by rw [← hlen]; exact (List.getElem?_eq_some_iff.1 hy).1
      have h1 := hg i hlt
      rw [hy, Option.bind_eq_some_iff] at h1
      obtain ⟨cs', h2, h3⟩ := h1
      exact ⟨cs', by rw [Nat.zero_add]; exact h2, h3⟩)
  obtain ⟨ab, ao, asp⟩ := a
  have hlen2 : l.length = len := by rw [hll, hlen]
  -- a cell that can be read
  have hsp : l ≠ [] → asp = none ∧ ab < w.heap.size := by
    intro hne
    obtain ⟨z, r, rfl⟩ := List.exists_cons_of_ne_nil hne
    obtain ⟨y, cs', _, hr, hrep⟩ := hat 0 z rfl
    obtain ⟨_, hcl, hcell⟩ := World.cells?_some hr.1
    have h0 := hcell 0 (by rw [hC]; exact hN)
    have hlt : 0 < cs'.length := by rw [hcl, hC]; exact hN
    rw [List.getElem?_eq_getElem hlt] at h0
    unfold World.cell? at h0
    have e0 : (Addr.add (Addr.add ⟨ab, ao, asp⟩ ((0 + 0) * P.cellsOf e)) 0) = ⟨ab, ao, asp⟩ := by simp [Addr.add]
    rw [e0] at h0
    split at h0
    · rename_i hh
      refine ⟨?_, (Array.getElem?_eq_some_iff.1 hh).1⟩
      cases asp with
      | none => rfl
      | some _ => simp at h0
    cases h0
  refine ⟨l, _, rfl, ?_, ?_⟩
  · -- the cells of an element
    have key : ∀ i z, l[i]? = some z → ∃ cs', RepEl own w (f z) cs' ∧ cs'.length = N ∧ ∀ j, j < N → w.cell? ⟨ab, ao + i * N + j, none⟩ = cs'[j]? := by
      intro i z hz
      obtain ⟨y, cs', _, hr, hrep⟩ := hat i z hz
      obtain ⟨_, hcl, hcell⟩ := World.cells?_some hr.1
      refine ⟨cs', hrep, hcl.trans hC, fun j hj => ?_⟩
      have h1 := hcell j (by rw [hC]; exact hj)
      have hne : l ≠ [] := by intro e; subst e; simp at hz
      have hs := (hsp hne).1
      subst hs
      rw [← h1, Addr.add_mid, Addr.add_mid, hC, Nat.zero_add]
    have hrep := RepP.seq (own := own) (w := w) (l.map f) (some ⟨ab, ao, asp⟩) cap ab ao (fun i j => (w.cell? ⟨ab, ao + i * N + j, none⟩).getD default)
      (fun hne => by rw [(hsp (by intro e; subst e; exact hne rfl)).1]) (fun hne => by
        have := (hsp (by intro e; subst e; exact hne rfl)).2
        exact ⟨hown _ this, this⟩) (by simp; omega) hm ?_ ?_
    · rw [List.length_map, hlen2] at hrep; exact hrep
    · intro i el hi j c hj
      rw [List.getElem?_map, Option.map_eq_some_iff] at hi
      obtain ⟨z, hz, rfl⟩ := hi
      obtain ⟨cs', hrep, hcl, hcell⟩ := key i z hz
      have hjN : j < N := by have := (List.getElem?_eq_some_iff.1 hj).1; rw [hrep.1, hcl] at this; exact this
      have h1 := hcell j hjN
      have hfl : (f z).length = N := by rw [hrep.1, hcl]
      rw [hfl, h1, List.getElem?_eq_getElem (by omega)]
      rfl
    intro i el hi j c hj
    rw [List.getElem?_map, Option.map_eq_some_iff] at hi
    obtain ⟨z, hz, rfl⟩ := hi
    obtain ⟨cs', hrep, hcl, hcell⟩ := key i z hz
    have hjN : j < N := by have := (List.getElem?_eq_some_iff.1 hj).1; rw [hrep.1, hcl] at this; exact this
    have h1 := hcell j hjN
    rw [List.getElem?_eq_getElem (by omega)] at h1
    rw [h1]
    exact hrep.2 j c _ hj (List.getElem?_eq_getElem (by omega))
  simp only [Rows.uptoBulk]; omega
theorem trod_ints {own : Nat → Prop} (hown : ∀ b, b < w.heap.size → ¬ own b) {t e : TypeId} {fuel : Nat} {cs : List Value} {x : DataW H × List MemPlace} (ht : P.underlying t = some (.slice e)) (he : P.underlying e = some (.int .i64)) (hC : P.cellsOf e = 1)
    (h : DataW.trod enc P w base spare held fuel t cs = some x) : ∃ (l : List Int) (v : Value), cs = [v] ∧ RepP own w (ints l) v ∧ l.length + 1 ≤ Rows.uptoBulk x.1 := by
  obtain ⟨l, v, h1, h2, h3⟩ := trod_list eInt (fun _ => 0) hown ht hC (by decide) h (fun n cs' y _ _ hy => by
    obtain ⟨k, rfl, rfl, _⟩ := DataW.trod_int he hy
    exact ⟨k, RepEl.cons (.val _) .nil, by simp [Rows.uptoBulk]⟩)
  exact ⟨l, v, h1, h2, by omega⟩
end
end
section
open Go Go.ChangeShapes Go.WideShapes Go.ChangeAt Go.RowKit Go.Deep
section
variable {H : Type} {enc : TypeId × Value → H} {w : World} {base : Nat} {spare : Nat → Bool} {held : Bool}
theorem trod_fields {P : Program} {t : TypeId} {fs : Array Field} {fuel : Nat} {cs : List Value} {x : DataW H × List MemPlace} (hs : P.underlying t = some (.struct fs)) (hone : oneCellFields P fs = true)
    (h : DataW.trod enc P w base spare held fuel t cs = some x) : ∃ (xs : List (DataW H × List MemPlace)) (n : Nat), fuel = n + 1 ∧ x.1 = .agg (xs.map (·.1)) ∧ xs.length = fs.size ∧
      ∀ (j : Nat) (f : Field) (v : Value) y, fs[j]? = some f → cs[j]? = some v → xs[j]? = some y → DataW.trod enc P w base spare held n f.type [v] = some y := by
  obtain ⟨xs, n, hn, rfl, hl, hxl, hg⟩ := DataW.trod_struct hs h
  refine ⟨xs, n, hn, rfl, hxl, fun j f v y hf hv hy => ?_⟩
  obtain ⟨ho, hk⟩ := hone_of hone j f hf
  have h1 := hg j f hf
  rw [ho, hk] at h1
  have hjl : j < cs.length := (List.getElem?_eq_some_iff.1 hv).1
  have hvv : cs[j] = v := (List.getElem?_eq_some_iff.1 hv).2
  rw [List.drop_eq_getElem_cons hjl] at h1
  simp only [List.take_succ_cons, List.take_zero, hvv] at h1
  rw [h1, hy]
theorem str_len (s : ByteArray) : s.data.toList.length = s.size := Array.length_toList
theorem len2 {α : Type} : ∀ {l : List α}, l.length = 2 → ∃ a b, l = [a, b]
  | [a, b], _ => ⟨a, b, rfl⟩
theorem len5 {α : Type} : ∀ {l : List α}, l.length = 5 → ∃ a b c d e, l = [a, b, c, d, e]
  | [a, b, c, d, e], _ => ⟨a, b, c, d, e, rfl⟩
theorem len8 {α : Type} : ∀ {l : List α}, l.length = 8 → ∃ a b c d e f g h, l = [a, b, c, d, e, f, g, h]
  | [a, b, c, d, e, f, g, h], _ => ⟨a, b, c, d, e, f, g, h, rfl⟩
theorem wtL_sum : ∀ l : List Nd, wtL l = (l.map wtN).sum
  | [] => rfl
  | x :: r => by simp [wtL, wtL_sum r]
theorem wtK_sum : ∀ l : List (List Nd), wtK l = (l.map fun q => q.length + wtL q).sum + l.length
  | [] => rfl
  | x :: r => by simp only [wtK, wtK_sum r, List.map_cons, List.sum_cons, List.length_cons]; omega
theorem trod_nodes {own : Nat → Prop} (hown : ∀ b, b < w.heap.size → ¬ own b) : ∀ (N fuel : Nat) (cs : List Value) (x : DataW H × List MemPlace), fuel < N → DataW.trod enc Tryz.prog w base spare held fuel 43 cs = some x →
    ∃ (l : List Nd) (v : Value), cs = [v] ∧ RepP own w (nodes l) v ∧ wtL l + l.length + 1 ≤ Rows.uptoBulk x.1
  | 0, fuel, _, _, h, _ => absurd h (Nat.not_lt_zero _)
  | N + 1, fuel, cs, x, hN, h => by
    obtain ⟨l, v, h1, h2, h3⟩ := trod_list Nd.enc wtN hown Tryz.underlying43 (N := 8) (by kernel_rfl) (by decide) h (fun n cs' y hn hcl hy => by
      obtain ⟨xs, m, rfl, hx, hxl, hf⟩ := trod_fields Tryz.underlying42 (by kernel_rfl) hy
      obtain ⟨c0, c1, c2, c3, c4, c5, c6, c7, rfl⟩ := len8 hcl
      obtain ⟨y0, y1, y2, y3, y4, y5, y6, y7, rfl⟩ := len8 hxl
      obtain ⟨k0, e0, f0, _⟩ := DataW.trod_int Tryz.underlying3 (hf 0 _ _ _ rfl rfl rfl)
      obtain ⟨k1, e1, f1, _⟩ := DataW.trod_int Tryz.underlying3 (hf 1 _ _ _ rfl rfl rfl)
      obtain ⟨k2, e2, f2, _⟩ := DataW.trod_int Tryz.underlying3 (hf 2 _ _ _ rfl rfl rfl)
      obtain ⟨s, e3, f3, _⟩ := DataW.trod_string Tryz.underlying9 (hf 3 _ _ _ rfl rfl rfl)
      obtain ⟨as_, v4, e4, r4, b4⟩ := trod_ints hown Tryz.underlying35 Tryz.underlying3 (by kernel_rfl) (hf 4 _ _ _ rfl rfl rfl)
      obtain ⟨os_, v5, e5, r5, b5⟩ := trod_ints hown Tryz.underlying35 Tryz.underlying3 (by kernel_rfl) (hf 5 _ _ _ rfl rfl rfl)
      obtain ⟨ps_, v6, e6, r6, b6⟩ := trod_ints hown Tryz.underlying35 Tryz.underlying3 (by kernel_rfl) (hf 6 _ _ _ rfl rfl rfl)
      obtain ⟨ks, v7, e7, r7, b7⟩ := trod_list eKid (fun q => q.length + wtL q) hown Tryz.underlying40 (N := 1) (by kernel_rfl) (by decide) (hf 7 _ _ _ rfl rfl rfl) (fun n' cs2 y' hn' _ hy' => by
        obtain ⟨q, v', h1', h2', h3'⟩ := trod_nodes hown N n' cs2 y' (by omega) hy'
        subst h1'
        exact ⟨q, RepEl.cons h2' .nil, by omega⟩)
      cases e0; cases e1; cases e2; cases e3; cases e4; cases e5; cases e6; cases e7
      refine ⟨.mk k0 k1 k2 s as_ os_ ps_ ks, ?_, ?_⟩
      · refine RepEl.cons (.val _) (.cons (.val _) (.cons (.val _) (.cons (.val _) (.cons r4 (.cons r5 (.cons r6 (.cons ?_ .nil)))))))
        rw [Nd.encK_eq]; exact r7
      · rw [hx]
        have hs := str_len s
        simp only [Rows.uptoBulk, Rows.uptoBulkAll, List.map_cons, List.map_nil, f0, f1, f2, f3, wtN, wtK_sum, hs]
        omega)
    exact ⟨l, v, h1, h2, by rw [wtL_sum]; exact h3⟩
theorem wtA_sum : ∀ l : List Ar, wtA l = (l.map fun a => a.name.size).sum
  | [] => rfl
  | x :: r => by simp [wtA, wtA_sum r]
theorem wtF_sum : ∀ l : List Fl, wtF l = (l.map fun f => f.name.size + f.types.length + r8nodes f.body).sum
  | [] => rfl
  | x :: r => by simp [wtF, wtF_sum r]
theorem trod_unit {own : Nat → Prop} (hown : ∀ b, b < w.heap.size → ¬ own b) {fuel : Nat} {cs : List Value} {x : DataW H × List MemPlace} (h : DataW.trod enc Tryz.prog w base spare held fuel 25 cs = some x) :
    ∃ u : Un, RepEl own w [arrs u.arrays, flws u.flows] cs ∧ r8Weight u ≤ Rows.uptoBulk x.1 := by
  have hcl : cs.length = 2 := by
    obtain ⟨_, _, _, _, hl, _, _⟩ := DataW.trod_struct Tryz.underlying25 h
    exact hl.trans (by kernel_rfl)
  obtain ⟨xs, m, rfl, hx, hxl, hf⟩ := trod_fields Tryz.underlying25 (by kernel_rfl) h
  obtain ⟨c0, c1, rfl⟩ := len2 hcl
  obtain ⟨y0, y1, rfl⟩ := len2 hxl
  obtain ⟨as_, v0, e0, r0, b0⟩ := trod_list Ar.enc (fun a => a.name.size) hown Tryz.underlying22 (N := 2) (by kernel_rfl) (by decide) (hf 0 _ _ _ rfl rfl rfl) (fun n cs' y hn hcl hy => by
    obtain ⟨xs, m, rfl, hx, hxl, hf⟩ := trod_fields Tryz.underlying49 (by kernel_rfl) hy
    obtain ⟨c0, c1, rfl⟩ := len2 hcl
    obtain ⟨y0, y1, rfl⟩ := len2 hxl
    obtain ⟨s, e3, f3, _⟩ := DataW.trod_string Tryz.underlying9 (hf 0 _ _ _ rfl rfl rfl)
    obtain ⟨k0, e0, f0, _⟩ := DataW.trod_int Tryz.underlying3 (hf 1 _ _ _ rfl rfl rfl)
    cases e0; cases e3
    refine ⟨⟨s, k0⟩, RepEl.cons (.val _) (.cons (.val _) .nil), ?_⟩
    rw [hx]
    have hs := str_len s
    simp only [Rows.uptoBulk, Rows.uptoBulkAll, List.map_cons, List.map_nil, f0, f3, hs]
    omega)
  obtain ⟨fs_, v1, e1, r1, b1⟩ := trod_list Fl.enc (fun f => f.name.size + f.types.length + r8nodes f.body) hown Tryz.underlying23 (N := 5) (by kernel_rfl) (by decide) (hf 1 _ _ _ rfl rfl rfl) (fun n cs' y hn hcl hy => by
    obtain ⟨xs, m, rfl, hx, hxl, hf⟩ := trod_fields Tryz.underlying51 (by kernel_rfl) hy
    obtain ⟨c0, c1, c2, c3, c4, rfl⟩ := len5 hcl
    obtain ⟨y0, y1, y2, y3, y4, rfl⟩ := len5 hxl
    obtain ⟨s, e3, f3, _⟩ := DataW.trod_string Tryz.underlying9 (hf 0 _ _ _ rfl rfl rfl)
    obtain ⟨k0, e0, f0, _⟩ := DataW.trod_int Tryz.underlying3 (hf 1 _ _ _ rfl rfl rfl)
    obtain ⟨k1, e1, f1, _⟩ := DataW.trod_int Tryz.underlying3 (hf 2 _ _ _ rfl rfl rfl)
    obtain ⟨ts_, v4, e4, r4, b4⟩ := trod_ints hown Tryz.underlying35 Tryz.underlying3 (by kernel_rfl) (hf 3 _ _ _ rfl rfl rfl)
    obtain ⟨q, v5, e5, r5, b5⟩ := trod_nodes hown _ _ _ _ (Nat.lt_succ_self _) (hf 4 _ _ _ rfl rfl rfl)
    cases e0; cases e1; cases e3; cases e4; cases e5
    refine ⟨⟨s, k0, k1, ts_, q⟩, RepEl.cons (.val _) (.cons (.val _) (.cons (.val _) (.cons r4 (.cons r5 .nil)))), ?_⟩
    rw [hx]
    have hs := str_len s
    simp only [Rows.uptoBulk, Rows.uptoBulkAll, List.map_cons, List.map_nil, f0, f1, f3, hs, r8nodes]
    omega)
  cases e0; cases e1
  refine ⟨⟨as_, fs_⟩, RepEl.cons r0 (.cons r1 .nil), ?_⟩
  rw [hx]
  simp only [Rows.uptoBulk, Rows.uptoBulkAll, List.map_cons, List.map_nil, r8Weight, wtA_sum, wtF_sum]
  omega
end
end
section
open Go Go.ChangeShapes Go.WideShapes Go.ChangeAt Go.RowKit Go.Deep
theorem Tryz.own : ownKnob Tryz.prog.godebug = none := by kernel_rfl
theorem Tryz.laidOut : laidOutB Tryz.prog = true := by kernel_rfl
section
variable {H : Type} {enc : TypeId × Value → H} {P : Program}
theorem sameAt_of {W W' : World} {p : MemPlace} (h : W'.heap[p.block]? = W.heap[p.block]?) : W.sameAt W' p := by
  cases p <;> simp_all [World.sameAt, MemPlace.block, World.cell?]
theorem trodAll_stays (hl : laidOutB P = true) {W W' : World} (hb : ∀ b, b < W.heap.size → W'.heap[b]? = W.heap[b]?) : ∀ (ts : List TypeId) (vs : List Value) (ds : List (DataW H)) (ps : List MemPlace),
    (∀ t ∈ ts, P.readableRec t = true ∧ t < P.types.size) → DataW.TrodAll enc P W 0 (fun _ => true) true ts vs ds ps → (∀ x ∈ ps, x.block < W.heap.size) →
    DataW.TrodAll enc P W' 0 (fun b => decide (b < W.heap.size)) true ts vs ds ps
  | [], vs, ds, ps, _, h, _ => by
    obtain ⟨rfl, rfl, rfl⟩ := trodAll_nil h
    exact trodAll_mk0
  | t :: ts, vs, ds, ps, hr, h, hp => by
    obtain ⟨v, vs', d, ds', p, q, rfl, rfl, rfl, h1, h2⟩ := trodAll_cons h
    have ht := hr t (.head _)
    refine ⟨p, q, ?_, trodAll_stays hl hb ts vs' ds' q (fun t' h' => hr t' (.tail _ h')) h2 (fun x hx => hp x (List.mem_append_right _ hx)), rfl⟩
    refine WideElems.Trod_stays hl ht.1 ht.2 h1 (fun x hx => ?_) (fun x hx => by simpa using hp x (List.mem_append_left _ hx))
    exact sameAt_of (hb _ (hp x (List.mem_append_left _ hx)))
theorem keptBut_of {W W' : World} (may : MemPlace → Prop) (hos : W'.os = W.os) (hout : W'.output = W.output) (hb : ∀ b, b < W.heap.size → W'.heap[b]? = W.heap[b]?) : W.keptBut W' may := by
  refine ⟨hos, hout, fun i hi => ?_⟩
  rw [hb i hi]
  rcases h : W.heap[i]? with _ | o
  · trivial
  cases o with
  | cells c t fr => exact ⟨rfl, rfl, rfl, fun _ _ => rfl⟩
  | map es clock => exact .inr ⟨rfl, rfl⟩
  | _ => rfl
theorem post_true {f : Func} {s : ChangeSpec} {apart fresh handsOn : Bool} {W W' : World} {args : Array Value} {ds gs : List (DataW H)} {before : List MemPlace} {tb : TypeId} (hl : laidOutB P = true) (hv0 : s.vars = [])
    (hW : DataW.Whole enc P f.params.toList s.vars apart W args.toList ds gs before) (hrd : ∀ t ∈ f.params.toList, P.readableRec t = true ∧ t < P.types.size) (hres : f.resultTypes = #[tb]) (htb : P.underlying tb = some .bool)
    (hs : s.fn H (ds ++ gs) = { results := [.lit (.bool true)], args := ds }) (hos : W'.os = W.os) (hout : W'.output = W.output) (hb : ∀ b, b < W.heap.size → W'.heap[b]? = W.heap[b]?) :
    s.post enc P f apart fresh handsOn false W args (.bool true) W' := by
  have hlt := hW.lt
  have hW' := hW
  obtain ⟨p, q, hA, hV, rfl, _, _⟩ := hW
  refine ⟨ds, gs, p ++ q, [], p, [], hW', ?_, ?_, ?_, keptBut_of _ hos hout hb, fun h => by cases h⟩
  · rw [hs, hres]
    exact trodAll_mk1 ⟨1, by simp [DataW.trod, htb, Value.cells]⟩
  · rw [hs]
    exact trodAll_stays hl hb _ _ _ _ hrd hA (fun x hx => hlt x (List.mem_append_left _ hx))
  rw [hs, hv0]
  exact rfl
end
theorem relH_none {W : World} : RelH (fun _ => False) (fun _ => none) (look (up [])) W where
  inj _ _ _ _ _ h := by cases h
  apart _ _ _ h := by cases h
  old _ h := h.elim
  obj _ _ _ h := by cases h
  real _ _ h := by cases h
/-- A contract, called with what stands as its arguments. -/
theorem call_true {P : Program} {f : FuncId} {args : List IV} {R : Nat → Prop} (hsc : SC P f args [] R (iBool true) []) {W : World} {vs : List Value} (hr : RepL (fun _ => False) (fun _ => none) (look (up [])) W args vs) :
    Calls P f vs.toArray W fun e W' => e = .returned (.bool true) ∧ W'.os = W.os ∧ W'.output = W.output ∧ ∀ b, b < W.heap.size → W'.heap[b]? = W.heap[b]? := by
  refine (hsc (fun _ => False) (fun _ => none) W vs relH_none hr).mono ?_
  rintro e W' ⟨ρ', v, rfl, hv, _, t⟩
  refine ⟨?_, t.os, t.output, fun b hb => t.blk b hb fun k c h => by cases h⟩
  cases hv with
  | pv _ _ hp => cases hp; rfl
theorem own_none {b : Nat} : ¬ owned (fun _ => False) (fun _ => none) b := by
  rintro (h | ⟨_, _, h⟩)
  · exact h
  cases h
end
section
open Go Go.ChangeShapes Go.WideShapes Go.ChangeAt Go.RowKit Go.Deep
theorem repEl_agg {own : Nat → Prop} {w : World} {ps : List PV} {cs : Array Value} (h : RepEl own w ps cs.toList) : RepP own w (.agg ps) (.agg cs) := by
  refine .agg ps cs (fun j => cs[j]?.getD default) (by simpa using h.1.symm) (fun j c hj => ?_) (fun j c hj => ?_)
  · have hlt : j < cs.size := by have := (List.getElem?_eq_some_iff.1 hj).1; rw [h.1] at this; simpa using this
    rw [Array.getElem?_eq_getElem hlt]; rfl
  have hlt : j < cs.size := by have := (List.getElem?_eq_some_iff.1 hj).1; rw [h.1] at this; simpa using this
  refine h.2 j c _ hj ?_
  rw [Array.getElem?_toList, Array.getElem?_eq_getElem hlt]; rfl
theorem repL_one {x : IV} {v : Value} {F : Nat → Prop} {ρ : Loc} {σ : Heap'} {w : World} (h : RepI F ρ σ w x v) : RepL F ρ σ w [x] [v] := by
  refine ⟨rfl, fun j y hj => ?_⟩
  cases j with
  | zero => simp at hj; subst hj; exact ⟨v, rfl, h⟩
  | succ j => simp at hj
set_option maxRecDepth 100000 in
/-- The unit that an argument reads as. -/
theorem open_unit {H : Type} {enc : TypeId × Value → H} {W : World} {base b0 : Nat} {spare : Nat → Bool} {held : Bool} {r : Reach} {v : Value} {d : DataW H} {p : List MemPlace} (hv : Value.okWide Tryz.prog W r b0 25 v)
    (h : DataW.Trod enc Tryz.prog W base spare held 25 v d p) : ∃ u : Un, RepI (fun _ => False) (fun _ => none) (look (up [])) W (.pv u.enc) v ∧ r8Weight u ≤ Rows.uptoBulk d := by
  obtain ⟨cs, rfl, _⟩ := okWide_struct Tryz.underlying25 hv
  obtain ⟨fuel, hf⟩ := h
  obtain ⟨u, h1, h2⟩ := trod_unit (own := owned (fun _ => False) (fun _ => none)) (fun _ _ => own_none) hf
  exact ⟨u, .pv _ _ (repEl_agg h1), h2⟩
theorem bulk_of {H : Type} {l : List (DataW H)} (hk : Rows.uptoSmall H l = true) : Rows.uptoBulkAll l ≤ 1048576 := by
  unfold Rows.uptoSmall at hk
  exact of_decide_eq_true hk
set_option maxRecDepth 100000 in
theorem hoistAny_contract (hsc : ∀ u : Un, r8Weight u ≤ 1048576 → SC Tryz.prog 3 [.pv u.enc] [] (fun _ => False) (iBool true) []) (H : Type) (enc : TypeId × Value → H) (W : World) (base : Nat) (args : Array Value) (ds gs : List (DataW H)) (before : List MemPlace)
    (hval : ∀ (j : Nat) t v, Tryz.f3.params[j]? = some t → args[j]? = some v → Value.okWide Tryz.prog W .any base t v)
    (hW : DataW.Whole enc Tryz.prog Tryz.f3.params.toList Rows.hoistAnySpec.vars false W args.toList ds gs before) (hk : Rows.uptoSmall H (ds ++ gs) = true) :
    Calls Tryz.prog 3 args W fun e W' => ∃ v, e = .returned v ∧ Rows.hoistAnySpec.post enc Tryz.prog Tryz.f3 false true false false W args v W' := by
  have hW' := hW
  obtain ⟨p, q, hA0, hV, rfl, hfz, hnd⟩ := hW
  have hA : DataW.TrodAll enc Tryz.prog W 0 (fun _ => true) true Tryz.f3.params.toList args.toList ds p := hA0
  rw [Tryz.params3] at hA hval
  obtain ⟨v0, vs0, d0, ds0, p0, q0, hargs, rfl, rfl, h0, r0⟩ := trodAll_cons hA
  obtain ⟨rfl, rfl, rfl⟩ := trodAll_nil r0
  obtain rfl : args = #[v0] := by cases args; simp_all
  obtain ⟨rfl, rfl⟩ := trodVars_none hV
  obtain ⟨u, hu, hw⟩ := open_unit (hval 0 25 v0 rfl rfl) h0
  have hb := bulk_of hk
  simp only [List.append_nil, Rows.uptoBulkAll] at hb
  refine (call_true (hsc u (by omega)) (repL_one hu)).mono ?_
  rintro e W' ⟨rfl, hos, hout, hbl⟩
  exact ⟨_, rfl, post_true Tryz.laidOut rfl hW' (fun t ht => by
    rw [Tryz.params3] at ht
    obtain rfl : t = 25 := by simpa using ht
    exact ⟨by kernel_rfl, of_decide_eq_true (by kernel_rfl)⟩) (by kernel_rfl) Tryz.underlying4 rfl hos hout hbl⟩
set_option maxRecDepth 100000 in
theorem hoistAny_lifted (hsc : ∀ u : Un, r8Weight u ≤ 1048576 → SC Tryz.prog 3 [.pv u.enc] [] (fun _ => False) (iBool true) []) (os : Os) (started : os.Started) (H : Type) (enc : TypeId × Value → H) (F : Stop.Interp) :
    ReturnsInHanded {} Tryz.checked os 3 .any ((Rows.OpenSpec.upto Rows.hoistAnySpec).pre6 enc Tryz.prog Tryz.f3 Rows.hoistAnyUptoRow.domain false) (((Rows.OpenSpec.upto Rows.hoistAnySpec).at F).post enc Tryz.prog Tryz.f3 false true false false) := by
  refine returnsInHanded_of_cond (C := Tryz.checked) (s := Rows.OpenSpec.upto Rows.hoistAnySpec) (k := Rows.uptoSmall) rfl Tryz.own started (by kernel_rfl) Tryz.func3
    (OpenSpec.witness (enc := enc) (C := Tryz.checked) (s := Rows.OpenSpec.upto Rows.hoistAnySpec) (k := Rows.uptoSmall) rfl false ⟨#[], #[.agg #[.slice none 0 0, .slice none 0 0]], []⟩ 8 (by kernel_rfl) (by kernel_rfl) (by kernel_rfl)
      (x := ([.agg [.nil, .nil]], [], [])) (by kernel_rfl) rfl (by kernel_rfl)) ?_
  intro W base args ds gs before hval hW _ hk _
  exact hoistAny_contract hsc H enc W base args ds gs before hval hW hk
theorem hoistAny_of (hsc : ∀ u : Un, r8Weight u ≤ 1048576 → SC Tryz.prog 3 [.pv u.enc] [] (fun _ => False) (iBool true) []) : Rows.HoistAnyUptoSaid :=
  OpenClaim.holds_of_cond 3 Tryz.f3 rfl rfl rfl rfl rfl rfl rfl ⟨rfl, rfl, rfl, rfl, rfl⟩ rfl rfl rfl rfl rfl (by kernel_rfl) Tryz.func3 (by kernel_rfl)
    (of_decide_eq_true (by kernel_rfl)) (by unfold Func.isWrapper; first | (rw [if_pos (by decide +kernel)]; kernel_rfl) | (rw [if_neg (by decide +kernel)]; exact ⟨rfl, rfl⟩))
    (fun os started H enc _ F => hoistAny_lifted hsc os started H enc F)
end
theorem hoistAny_holds : Rows.HoistAnyUptoSaid := hoistAny_of fun u hW => sc_HoistAny u (Nat.le_trans hW (Nat.le_of_ble_eq_true rfl))
end Go.Proofs.YtfaeemilgahcpaaGreat
