/- PART 2 of 6 of a proof: see the last part. -/
import Derived.Test.YtfaeemilgahcpaaGreatHb1
set_option linter.unusedSimpArgs false
set_option linter.unusedVariables false
namespace Go.Proofs.YtfaeemilgahcpaaGreat
open Go
set_option maxRecDepth 8000 in
theorem sc_r8bare (x : Nd) : SC Tryz.prog 90 [.pv (ndv x)] [] (fun _ => False) (iBool (r8bare x)) [] := by
  refine SC.of Tryz.func90 rfl (lb rfl) fun F ρ w => ?_
  refine Tr.seq <| Tr.region rfl <| WL.cons rfl rfl rfl (ok_box rfl rfl) <| cV rfl (oA rfl) <| WL.nil <| Tr.seq ?_
  refine Tr.cut (fr' := [(3, iBool (r8op x)), (1, .pv (.ept [vInt x.kind, vInt x.op, vInt x.n, vStr x.name, ints x.args, ints x.outs, ints x.params, kids x.kids] 0))]) (σ' := look []) ?_ ?_
  · refine Tr.region rfl <| cV rfl (oFe rfl tF42_0) <| cV rfl (oLe Tryz.underlying3 rfl rfl) <| cV rfl (oB rfl rfl rfl) <| cV rfl (oM rfl) ?_
    refine WL.split (t := 10) rfl (fun hb10 => ?_) (fun hb10 => ?_)
    · refine nV rfl rfl <| nV rfl rfl <| nV rfl rfl <| cV rfl (oT rfl rfl) <| cV rfl (oA rfl) <| WL.nil ?_
      refine ⟨rfl, Sub.of ⟨?_, ?_, trivial⟩, rfl⟩
      all_goals first | rfl | (refine congrArg some ?_; simp_all [r8op]; done)
    refine yV rfl rfl (oFe rfl tF42_0) <| yV rfl rfl (oLe Tryz.underlying3 rfl rfl) <| yV rfl rfl (oB rfl rfl rfl) <| cV rfl (oF rfl rfl) <| cV rfl (oA rfl) <| WL.nil ?_
    refine ⟨rfl, Sub.of ⟨?_, ?_, trivial⟩, rfl⟩
    all_goals first | rfl | (refine congrArg some ?_; simp_all [r8op]; done)
  refine Tr.seq ?_
  refine Tr.cut (fr' := [(4, iBool (r8num x)), (3, iBool (r8op x)), (1, .pv (.ept [vInt x.kind, vInt x.op, vInt x.n, vStr x.name, ints x.args, ints x.outs, ints x.params, kids x.kids] 0))]) (σ' := look []) ?_ ?_
  · refine Tr.region rfl <| cV rfl (oFe rfl tF42_0) <| cV rfl (oLe Tryz.underlying3 rfl rfl) <| cV rfl (oB rfl rfl rfl) <| cV rfl (oM rfl) ?_
    refine WL.split (t := 18) rfl (fun hb18 => ?_) (fun hb18 => ?_)
    · refine nV rfl rfl <| nV rfl rfl <| nV rfl rfl <| cV rfl (oT rfl rfl) <| cV rfl (oA rfl) <| WL.nil ?_
      refine ⟨rfl, Sub.of ⟨?_, ?_, ?_, trivial⟩, rfl⟩
      all_goals first | rfl | (refine congrArg some ?_; simp_all [r8num]; done)
    refine yV rfl rfl (oFe rfl tF42_0) <| yV rfl rfl (oLe Tryz.underlying3 rfl rfl) <| yV rfl rfl (oB rfl rfl rfl) <| cV rfl (oF rfl rfl) <| cV rfl (oA rfl) <| WL.nil ?_
    refine ⟨rfl, Sub.of ⟨?_, ?_, ?_, trivial⟩, rfl⟩
    all_goals first | rfl | (refine congrArg some ?_; simp_all [r8num]; done)
  refine Tr.seq ?_
  refine Tr.cut (fr' := [(5, iBool (r8name x)), (4, iBool (r8num x)), (3, iBool (r8op x)), (1, .pv (.ept [vInt x.kind, vInt x.op, vInt x.n, vStr x.name, ints x.args, ints x.outs, ints x.params, kids x.kids] 0))]) (σ' := look []) ?_ ?_
  · refine Tr.region rfl <| cV rfl (oFe rfl tF42_0) <| cV rfl (oLe Tryz.underlying3 rfl rfl) <| cV rfl (oB rfl rfl rfl) <| cV rfl (oM rfl) ?_
    refine WL.split (t := 26) rfl (fun hb26 => ?_) (fun hb26 => ?_)
    · refine nV rfl rfl <| nV rfl rfl <| nV rfl rfl <| cV rfl (oT rfl rfl) <| cV rfl (oM rfl) <| nV rfl rfl <| nV rfl rfl <| nV rfl rfl <| cV rfl (oT rfl rfl) <| cV rfl (oA rfl) <| WL.nil ?_
      refine ⟨rfl, Sub.of ⟨?_, ?_, ?_, ?_, trivial⟩, rfl⟩
      all_goals first | rfl | (refine congrArg some ?_; simp_all [r8name]; done)
    refine yV rfl rfl (oFe rfl tF42_0) <| yV rfl rfl (oLe Tryz.underlying3 rfl rfl) <| yV rfl rfl (oB rfl rfl rfl) <| cV rfl (oF rfl rfl) <| cV rfl (oM rfl) ?_
    refine WL.split (t := 31) rfl (fun hb31 => ?_) (fun hb31 => ?_)
    · refine nV rfl rfl <| nV rfl rfl <| nV rfl rfl <| cV rfl (oT rfl rfl) <| cV rfl (oA rfl) <| WL.nil ?_
      refine ⟨rfl, Sub.of ⟨?_, ?_, ?_, ?_, trivial⟩, rfl⟩
      all_goals first | rfl | (refine congrArg some ?_; simp_all [r8name]; done)
    refine yV rfl rfl (oFe rfl tF42_0) <| yV rfl rfl (oLe Tryz.underlying3 rfl rfl) <| yV rfl rfl (oB rfl rfl rfl) <| cV rfl (oF rfl rfl) <| cV rfl (oA rfl) <| WL.nil ?_
    refine ⟨rfl, Sub.of ⟨?_, ?_, ?_, ?_, trivial⟩, rfl⟩
    all_goals first | rfl | (refine congrArg some ?_; simp_all [r8name]; done)
  refine Tr.seq <| Tr.region rfl <| cV rfl (oA rfl) <| WL.nil <| Tr.seq <| Tr.seq <| Tr.region rfl <| cV rfl (oFe rfl tF42_0) <| cV rfl (oLe Tryz.underlying3 rfl rfl) <| cV rfl (oB rfl rfl rfl) <| WL.nil ?_
  refine Tr.cut (fr' := [(6, iInt (if x.kind == 10 then 2 else 0)), (5, iBool (r8name x)), (4, iBool (r8num x)), (3, iBool (r8op x)), (1, .pv (.ept [vInt x.kind, vInt x.op, vInt x.n, vStr x.name, ints x.args, ints x.outs, ints x.params, kids x.kids] 0))]) (σ' := look []) ?_ ?_
  · refine Tr.cond rfl (fun hc38 => ?_) (fun hc38 => ?_)
    · refine Tr.region rfl <| cV rfl (oA rfl) <| WL.nil ?_
      refine ⟨rfl, Sub.of ⟨?_, ?_, ?_, ?_, ?_, trivial⟩, rfl⟩
      all_goals first | rfl | (refine congrArg some ?_; simp_all; done)
    refine Tr.skip ?_
    refine ⟨rfl, Sub.of ⟨?_, ?_, ?_, ?_, ?_, trivial⟩, rfl⟩
    all_goals first | rfl | (refine congrArg some ?_; simp_all; done)
  refine Tr.seq <| Tr.seq <| Tr.region rfl <| cV rfl (oFe rfl tF42_0) <| cV rfl (oLe Tryz.underlying3 rfl rfl) <| cV rfl (oB rfl rfl rfl) <| WL.nil ?_
  refine Tr.cut (fr' := [(6, iInt (r8kn x)), (5, iBool (r8name x)), (4, iBool (r8num x)), (3, iBool (r8op x)), (1, .pv (.ept [vInt x.kind, vInt x.op, vInt x.n, vStr x.name, ints x.args, ints x.outs, ints x.params, kids x.kids] 0))]) (σ' := look []) ?_ ?_
  · refine Tr.cond rfl (fun hc41 => ?_) (fun hc41 => ?_)
    · refine Tr.region rfl <| cV rfl (oA rfl) <| WL.nil ?_
      refine ⟨rfl, Sub.of ⟨?_, ?_, ?_, ?_, ?_, trivial⟩, rfl⟩
      all_goals first | rfl | (refine congrArg some ?_; simp_all [r8kn]; done)
    refine Tr.skip ?_
    refine ⟨rfl, Sub.of ⟨?_, ?_, ?_, ?_, ?_, trivial⟩, rfl⟩
    all_goals first | rfl | (refine congrArg some ?_; simp_all [r8kn]; done)
  refine Tr.seq <| Tr.region rfl <| cV rfl (oM rfl) <| cV rfl (oM rfl) ?_
  refine WL.split (t := 43) rfl (fun hb43 => ?_) (fun hb43 => ?_)
  · refine nV rfl rfl <| nV rfl rfl <| nV rfl rfl <| cV rfl (oT rfl rfl) <| cV rfl (oM rfl) <| yV rfl rfl (oM rfl) <| yV rfl rfl (oM rfl) ?_
    refine WL.split (t := 50) rfl (fun hb50 => ?_) (fun hb50 => ?_)
    · refine nV rfl rfl <| nV rfl rfl <| nV rfl rfl <| yV rfl rfl (oT rfl rfl) <| cV rfl (oT rfl rfl) <| cV rfl (oM rfl) <| yV rfl rfl (oM rfl) <| yV rfl rfl (oM rfl) ?_
      refine WL.split (t := 58) rfl (fun hb58 => ?_) (fun hb58 => ?_)
      · refine nV rfl rfl <| nV rfl rfl <| nV rfl rfl <| yV rfl rfl (oT rfl rfl) <| cV rfl (oT rfl rfl) <| cV rfl (oM rfl) <| yV rfl rfl (oFe rfl tF42_7) <| yV rfl rfl (oLe Tryz.underlying40 rfl rfl) <| yV rfl rfl (oSm Tryz.underlying40 rfl) <| yV rfl rfl (oM rfl) <| yV rfl rfl (oB rfl rfl rfl) <| cV rfl (oT rfl rfl) ?_
        refine cV rfl (oM rfl) ?_
        refine WL.split (t := 71) rfl (fun hb71 => ?_) (fun hb71 => ?_)
        · refine yV rfl rfl (oFe rfl tF42_0) <| yV rfl rfl (oLe Tryz.underlying3 rfl rfl) <| yV rfl rfl (oB rfl rfl rfl) <| yV rfl rfl (oM rfl) ?_
          refine WL.split (t := 75) rfl (fun hb75 => ?_) (fun hb75 => ?_)
          · refine nV rfl rfl <| nV rfl rfl <| nV rfl rfl <| nV rfl rfl <| yV rfl rfl (oT rfl rfl) <| cV rfl (oT rfl rfl) <| cV rfl (oA rfl) <| WL.nil <| Tr.ret ?_
            refine ret_ok rfl ?_ no_post
            simp_all [r8bare]
          refine yV rfl rfl (oFe rfl tF42_6) <| yV rfl rfl (oLe Tryz.underlying35 rfl rfl) <| yV rfl rfl (oSm Tryz.underlying35 rfl) <| yV rfl rfl (oB rfl rfl rfl) <| yV rfl rfl (oF rfl rfl) <| cV rfl (oT rfl rfl) <| cV rfl (oA rfl) <| WL.nil <| Tr.ret ?_
          refine ret_ok rfl ?_ no_post
          simp_all [r8bare]
        refine nV rfl rfl <| nV rfl rfl <| nV rfl rfl <| nV rfl rfl <| WL.noU rfl rfl rfl rfl rfl rfl <| WL.noU rfl rfl rfl rfl rfl rfl <| WL.noU rfl rfl rfl rfl rfl rfl <| WL.noU rfl rfl rfl rfl rfl rfl <| nV rfl rfl <| cV rfl (oF rfl rfl) <| cV rfl (oA rfl) <| WL.nil ?_
        refine Tr.ret ?_
        refine ret_ok rfl ?_ no_post
        simp_all [r8bare]
      refine yV rfl rfl (oFe rfl tF42_3) <| yV rfl rfl (oLe Tryz.underlying9 rfl rfl) <| yV rfl rfl (ok_bin_str rfl rfl rfl rfl) <| yV rfl rfl (oF rfl rfl) <| cV rfl (oT rfl rfl) <| cV rfl (oM rfl) ?_
      refine WL.split (t := 64) rfl (fun hb64 => ?_) (fun hb64 => ?_)
      · refine yV rfl rfl (oFe rfl tF42_7) <| yV rfl rfl (oLe Tryz.underlying40 rfl rfl) <| yV rfl rfl (oSm Tryz.underlying40 rfl) <| yV rfl rfl (oM rfl) <| yV rfl rfl (oB rfl rfl rfl) <| cV rfl (oT rfl rfl) <| cV rfl (oM rfl) ?_
        refine WL.split (t := 71) rfl (fun hb71 => ?_) (fun hb71 => ?_)
        · refine yV rfl rfl (oFe rfl tF42_0) <| yV rfl rfl (oLe Tryz.underlying3 rfl rfl) <| yV rfl rfl (oB rfl rfl rfl) <| yV rfl rfl (oM rfl) ?_
          refine WL.split (t := 75) rfl (fun hb75 => ?_) (fun hb75 => ?_)
          · refine nV rfl rfl <| nV rfl rfl <| nV rfl rfl <| nV rfl rfl <| yV rfl rfl (oT rfl rfl) <| cV rfl (oT rfl rfl) <| cV rfl (oA rfl) <| WL.nil <| Tr.ret ?_
            refine ret_ok rfl ?_ no_post
            simp_all [r8bare]
          refine yV rfl rfl (oFe rfl tF42_6) <| yV rfl rfl (oLe Tryz.underlying35 rfl rfl) <| yV rfl rfl (oSm Tryz.underlying35 rfl) <| yV rfl rfl (oB rfl rfl rfl) <| yV rfl rfl (oF rfl rfl) <| cV rfl (oT rfl rfl) <| cV rfl (oA rfl) <| WL.nil <| Tr.ret ?_
          refine ret_ok rfl ?_ no_post
          simp_all [r8bare]
        refine nV rfl rfl <| nV rfl rfl <| nV rfl rfl <| nV rfl rfl <| WL.noU rfl rfl rfl rfl rfl rfl <| WL.noU rfl rfl rfl rfl rfl rfl <| WL.noU rfl rfl rfl rfl rfl rfl <| WL.noU rfl rfl rfl rfl rfl rfl <| nV rfl rfl <| cV rfl (oF rfl rfl) <| cV rfl (oA rfl) <| WL.nil ?_
        refine Tr.ret ?_
        refine ret_ok rfl ?_ no_post
        simp_all [r8bare]
      refine nV rfl rfl <| nV rfl rfl <| nV rfl rfl <| nV rfl rfl <| nV rfl rfl <| cV rfl (oF rfl rfl) <| cV rfl (oM rfl) <| nV rfl rfl <| nV rfl rfl <| nV rfl rfl <| nV rfl rfl <| WL.noU rfl rfl rfl rfl rfl rfl ?_
      refine WL.noU rfl rfl rfl rfl rfl rfl <| WL.noU rfl rfl rfl rfl rfl rfl <| WL.noU rfl rfl rfl rfl rfl rfl <| nV rfl rfl <| cV rfl (oF rfl rfl) <| cV rfl (oA rfl) <| WL.nil <| Tr.ret ?_
      refine ret_ok rfl ?_ no_post
      simp_all [r8bare]
    refine yV rfl rfl (oFe rfl tF42_2) <| yV rfl rfl (oLe Tryz.underlying3 rfl rfl) <| yV rfl rfl (oB rfl rfl rfl) <| yV rfl rfl (oF rfl rfl) <| cV rfl (oT rfl rfl) <| cV rfl (oM rfl) ?_
    refine WL.split (t := 56) rfl (fun hb56 => ?_) (fun hb56 => ?_)
    · refine yV rfl rfl (oM rfl) <| yV rfl rfl (oM rfl) ?_
      refine WL.split (t := 58) rfl (fun hb58 => ?_) (fun hb58 => ?_)
      · refine nV rfl rfl <| nV rfl rfl <| nV rfl rfl <| yV rfl rfl (oT rfl rfl) <| cV rfl (oT rfl rfl) <| cV rfl (oM rfl) <| yV rfl rfl (oFe rfl tF42_7) <| yV rfl rfl (oLe Tryz.underlying40 rfl rfl) <| yV rfl rfl (oSm Tryz.underlying40 rfl) <| yV rfl rfl (oM rfl) <| yV rfl rfl (oB rfl rfl rfl) <| cV rfl (oT rfl rfl) ?_
        refine cV rfl (oM rfl) ?_
        refine WL.split (t := 71) rfl (fun hb71 => ?_) (fun hb71 => ?_)
        · refine yV rfl rfl (oFe rfl tF42_0) <| yV rfl rfl (oLe Tryz.underlying3 rfl rfl) <| yV rfl rfl (oB rfl rfl rfl) <| yV rfl rfl (oM rfl) ?_
          refine WL.split (t := 75) rfl (fun hb75 => ?_) (fun hb75 => ?_)
          · refine nV rfl rfl <| nV rfl rfl <| nV rfl rfl <| nV rfl rfl <| yV rfl rfl (oT rfl rfl) <| cV rfl (oT rfl rfl) <| cV rfl (oA rfl) <| WL.nil <| Tr.ret ?_
            refine ret_ok rfl ?_ no_post
            simp_all [r8bare]
          refine yV rfl rfl (oFe rfl tF42_6) <| yV rfl rfl (oLe Tryz.underlying35 rfl rfl) <| yV rfl rfl (oSm Tryz.underlying35 rfl) <| yV rfl rfl (oB rfl rfl rfl) <| yV rfl rfl (oF rfl rfl) <| cV rfl (oT rfl rfl) <| cV rfl (oA rfl) <| WL.nil <| Tr.ret ?_
          refine ret_ok rfl ?_ no_post
          simp_all [r8bare]
        refine nV rfl rfl <| nV rfl rfl <| nV rfl rfl <| nV rfl rfl <| WL.noU rfl rfl rfl rfl rfl rfl <| WL.noU rfl rfl rfl rfl rfl rfl <| WL.noU rfl rfl rfl rfl rfl rfl <| WL.noU rfl rfl rfl rfl rfl rfl <| nV rfl rfl <| cV rfl (oF rfl rfl) <| cV rfl (oA rfl) <| WL.nil ?_
        refine Tr.ret ?_
        refine ret_ok rfl ?_ no_post
        simp_all [r8bare]
      refine yV rfl rfl (oFe rfl tF42_3) <| yV rfl rfl (oLe Tryz.underlying9 rfl rfl) <| yV rfl rfl (ok_bin_str rfl rfl rfl rfl) <| yV rfl rfl (oF rfl rfl) <| cV rfl (oT rfl rfl) <| cV rfl (oM rfl) ?_
      refine WL.split (t := 64) rfl (fun hb64 => ?_) (fun hb64 => ?_)
      · refine yV rfl rfl (oFe rfl tF42_7) <| yV rfl rfl (oLe Tryz.underlying40 rfl rfl) <| yV rfl rfl (oSm Tryz.underlying40 rfl) <| yV rfl rfl (oM rfl) <| yV rfl rfl (oB rfl rfl rfl) <| cV rfl (oT rfl rfl) <| cV rfl (oM rfl) ?_
        refine WL.split (t := 71) rfl (fun hb71 => ?_) (fun hb71 => ?_)
        · refine yV rfl rfl (oFe rfl tF42_0) <| yV rfl rfl (oLe Tryz.underlying3 rfl rfl) <| yV rfl rfl (oB rfl rfl rfl) <| yV rfl rfl (oM rfl) ?_
          refine WL.split (t := 75) rfl (fun hb75 => ?_) (fun hb75 => ?_)
          · refine nV rfl rfl <| nV rfl rfl <| nV rfl rfl <| nV rfl rfl <| yV rfl rfl (oT rfl rfl) <| cV rfl (oT rfl rfl) <| cV rfl (oA rfl) <| WL.nil <| Tr.ret ?_
            refine ret_ok rfl ?_ no_post
            simp_all [r8bare]
          refine yV rfl rfl (oFe rfl tF42_6) <| yV rfl rfl (oLe Tryz.underlying35 rfl rfl) <| yV rfl rfl (oSm Tryz.underlying35 rfl) <| yV rfl rfl (oB rfl rfl rfl) <| yV rfl rfl (oF rfl rfl) <| cV rfl (oT rfl rfl) <| cV rfl (oA rfl) <| WL.nil <| Tr.ret ?_
          refine ret_ok rfl ?_ no_post
          simp_all [r8bare]
        refine nV rfl rfl <| nV rfl rfl <| nV rfl rfl <| nV rfl rfl <| WL.noU rfl rfl rfl rfl rfl rfl <| WL.noU rfl rfl rfl rfl rfl rfl <| WL.noU rfl rfl rfl rfl rfl rfl <| WL.noU rfl rfl rfl rfl rfl rfl <| nV rfl rfl <| cV rfl (oF rfl rfl) <| cV rfl (oA rfl) <| WL.nil ?_
        refine Tr.ret ?_
        refine ret_ok rfl ?_ no_post
        simp_all [r8bare]
      refine nV rfl rfl <| nV rfl rfl <| nV rfl rfl <| nV rfl rfl <| nV rfl rfl <| cV rfl (oF rfl rfl) <| cV rfl (oM rfl) <| nV rfl rfl <| nV rfl rfl <| nV rfl rfl <| nV rfl rfl <| WL.noU rfl rfl rfl rfl rfl rfl ?_
      refine WL.noU rfl rfl rfl rfl rfl rfl <| WL.noU rfl rfl rfl rfl rfl rfl <| WL.noU rfl rfl rfl rfl rfl rfl <| nV rfl rfl <| cV rfl (oF rfl rfl) <| cV rfl (oA rfl) <| WL.nil <| Tr.ret ?_
      refine ret_ok rfl ?_ no_post
      simp_all [r8bare]
    refine nV rfl rfl <| nV rfl rfl <| WL.noU rfl rfl rfl rfl rfl rfl <| WL.noU rfl rfl rfl rfl rfl rfl <| WL.noU rfl rfl rfl rfl rfl rfl <| nV rfl rfl <| cV rfl (oF rfl rfl) <| cV rfl (oM rfl) <| nV rfl rfl <| nV rfl rfl <| nV rfl rfl <| nV rfl rfl ?_
    refine nV rfl rfl <| cV rfl (oF rfl rfl) <| cV rfl (oM rfl) <| nV rfl rfl <| nV rfl rfl <| nV rfl rfl <| nV rfl rfl <| WL.noU rfl rfl rfl rfl rfl rfl <| WL.noU rfl rfl rfl rfl rfl rfl <| WL.noU rfl rfl rfl rfl rfl rfl <| WL.noU rfl rfl rfl rfl rfl rfl <| nV rfl rfl ?_
    refine cV rfl (oF rfl rfl) <| cV rfl (oA rfl) <| WL.nil <| Tr.ret ?_
    refine ret_ok rfl ?_ no_post
    simp_all [r8bare]
  refine yV rfl rfl (oFe rfl tF42_1) <| yV rfl rfl (oLe Tryz.underlying3 rfl rfl) <| yV rfl rfl (oB rfl rfl rfl) <| cV rfl (oF rfl rfl) <| cV rfl (oM rfl) ?_
  refine WL.split (t := 48) rfl (fun hb48 => ?_) (fun hb48 => ?_)
  · refine yV rfl rfl (oM rfl) <| yV rfl rfl (oM rfl) ?_
    refine WL.split (t := 50) rfl (fun hb50 => ?_) (fun hb50 => ?_)
    · refine nV rfl rfl <| nV rfl rfl <| nV rfl rfl <| yV rfl rfl (oT rfl rfl) <| cV rfl (oT rfl rfl) <| cV rfl (oM rfl) <| yV rfl rfl (oM rfl) <| yV rfl rfl (oM rfl) ?_
      refine WL.split (t := 58) rfl (fun hb58 => ?_) (fun hb58 => ?_)
      · refine nV rfl rfl <| nV rfl rfl <| nV rfl rfl <| yV rfl rfl (oT rfl rfl) <| cV rfl (oT rfl rfl) <| cV rfl (oM rfl) <| yV rfl rfl (oFe rfl tF42_7) <| yV rfl rfl (oLe Tryz.underlying40 rfl rfl) <| yV rfl rfl (oSm Tryz.underlying40 rfl) <| yV rfl rfl (oM rfl) <| yV rfl rfl (oB rfl rfl rfl) <| cV rfl (oT rfl rfl) ?_
        refine cV rfl (oM rfl) ?_
        refine WL.split (t := 71) rfl (fun hb71 => ?_) (fun hb71 => ?_)
        · refine yV rfl rfl (oFe rfl tF42_0) <| yV rfl rfl (oLe Tryz.underlying3 rfl rfl) <| yV rfl rfl (oB rfl rfl rfl) <| yV rfl rfl (oM rfl) ?_
          refine WL.split (t := 75) rfl (fun hb75 => ?_) (fun hb75 => ?_)
          · refine nV rfl rfl <| nV rfl rfl <| nV rfl rfl <| nV rfl rfl <| yV rfl rfl (oT rfl rfl) <| cV rfl (oT rfl rfl) <| cV rfl (oA rfl) <| WL.nil <| Tr.ret ?_
            refine ret_ok rfl ?_ no_post
            simp_all [r8bare]
          refine yV rfl rfl (oFe rfl tF42_6) <| yV rfl rfl (oLe Tryz.underlying35 rfl rfl) <| yV rfl rfl (oSm Tryz.underlying35 rfl) <| yV rfl rfl (oB rfl rfl rfl) <| yV rfl rfl (oF rfl rfl) <| cV rfl (oT rfl rfl) <| cV rfl (oA rfl) <| WL.nil <| Tr.ret ?_
          refine ret_ok rfl ?_ no_post
          simp_all [r8bare]
        refine nV rfl rfl <| nV rfl rfl <| nV rfl rfl <| nV rfl rfl <| WL.noU rfl rfl rfl rfl rfl rfl <| WL.noU rfl rfl rfl rfl rfl rfl <| WL.noU rfl rfl rfl rfl rfl rfl <| WL.noU rfl rfl rfl rfl rfl rfl <| nV rfl rfl <| cV rfl (oF rfl rfl) <| cV rfl (oA rfl) <| WL.nil ?_
        refine Tr.ret ?_
        refine ret_ok rfl ?_ no_post
        simp_all [r8bare]
      refine yV rfl rfl (oFe rfl tF42_3) <| yV rfl rfl (oLe Tryz.underlying9 rfl rfl) <| yV rfl rfl (ok_bin_str rfl rfl rfl rfl) <| yV rfl rfl (oF rfl rfl) <| cV rfl (oT rfl rfl) <| cV rfl (oM rfl) ?_
      refine WL.split (t := 64) rfl (fun hb64 => ?_) (fun hb64 => ?_)
      · refine yV rfl rfl (oFe rfl tF42_7) <| yV rfl rfl (oLe Tryz.underlying40 rfl rfl) <| yV rfl rfl (oSm Tryz.underlying40 rfl) <| yV rfl rfl (oM rfl) <| yV rfl rfl (oB rfl rfl rfl) <| cV rfl (oT rfl rfl) <| cV rfl (oM rfl) ?_
        refine WL.split (t := 71) rfl (fun hb71 => ?_) (fun hb71 => ?_)
        · refine yV rfl rfl (oFe rfl tF42_0) <| yV rfl rfl (oLe Tryz.underlying3 rfl rfl) <| yV rfl rfl (oB rfl rfl rfl) <| yV rfl rfl (oM rfl) ?_
          refine WL.split (t := 75) rfl (fun hb75 => ?_) (fun hb75 => ?_)
          · refine nV rfl rfl <| nV rfl rfl <| nV rfl rfl <| nV rfl rfl <| yV rfl rfl (oT rfl rfl) <| cV rfl (oT rfl rfl) <| cV rfl (oA rfl) <| WL.nil <| Tr.ret ?_
            refine ret_ok rfl ?_ no_post
            simp_all [r8bare]
          refine yV rfl rfl (oFe rfl tF42_6) <| yV rfl rfl (oLe Tryz.underlying35 rfl rfl) <| yV rfl rfl (oSm Tryz.underlying35 rfl) <| yV rfl rfl (oB rfl rfl rfl) <| yV rfl rfl (oF rfl rfl) <| cV rfl (oT rfl rfl) <| cV rfl (oA rfl) <| WL.nil <| Tr.ret ?_
          refine ret_ok rfl ?_ no_post
          simp_all [r8bare]
        refine nV rfl rfl <| nV rfl rfl <| nV rfl rfl <| nV rfl rfl <| WL.noU rfl rfl rfl rfl rfl rfl <| WL.noU rfl rfl rfl rfl rfl rfl <| WL.noU rfl rfl rfl rfl rfl rfl <| WL.noU rfl rfl rfl rfl rfl rfl <| nV rfl rfl <| cV rfl (oF rfl rfl) <| cV rfl (oA rfl) <| WL.nil ?_
        refine Tr.ret ?_
        refine ret_ok rfl ?_ no_post
        simp_all [r8bare]
      refine nV rfl rfl <| nV rfl rfl <| nV rfl rfl <| nV rfl rfl <| nV rfl rfl <| cV rfl (oF rfl rfl) <| cV rfl (oM rfl) <| nV rfl rfl <| nV rfl rfl <| nV rfl rfl <| nV rfl rfl <| WL.noU rfl rfl rfl rfl rfl rfl ?_
      refine WL.noU rfl rfl rfl rfl rfl rfl <| WL.noU rfl rfl rfl rfl rfl rfl <| WL.noU rfl rfl rfl rfl rfl rfl <| nV rfl rfl <| cV rfl (oF rfl rfl) <| cV rfl (oA rfl) <| WL.nil <| Tr.ret ?_
      refine ret_ok rfl ?_ no_post
      simp_all [r8bare]
    refine yV rfl rfl (oFe rfl tF42_2) <| yV rfl rfl (oLe Tryz.underlying3 rfl rfl) <| yV rfl rfl (oB rfl rfl rfl) <| yV rfl rfl (oF rfl rfl) <| cV rfl (oT rfl rfl) <| cV rfl (oM rfl) ?_
    refine WL.split (t := 56) rfl (fun hb56 => ?_) (fun hb56 => ?_)
    · refine yV rfl rfl (oM rfl) <| yV rfl rfl (oM rfl) ?_
      refine WL.split (t := 58) rfl (fun hb58 => ?_) (fun hb58 => ?_)
      · refine nV rfl rfl <| nV rfl rfl <| nV rfl rfl <| yV rfl rfl (oT rfl rfl) <| cV rfl (oT rfl rfl) <| cV rfl (oM rfl) <| yV rfl rfl (oFe rfl tF42_7) <| yV rfl rfl (oLe Tryz.underlying40 rfl rfl) <| yV rfl rfl (oSm Tryz.underlying40 rfl) <| yV rfl rfl (oM rfl) <| yV rfl rfl (oB rfl rfl rfl) <| cV rfl (oT rfl rfl) ?_
        refine cV rfl (oM rfl) ?_
        refine WL.split (t := 71) rfl (fun hb71 => ?_) (fun hb71 => ?_)
        · refine yV rfl rfl (oFe rfl tF42_0) <| yV rfl rfl (oLe Tryz.underlying3 rfl rfl) <| yV rfl rfl (oB rfl rfl rfl) <| yV rfl rfl (oM rfl) ?_
          refine WL.split (t := 75) rfl (fun hb75 => ?_) (fun hb75 => ?_)
          · refine nV rfl rfl <| nV rfl rfl <| nV rfl rfl <| nV rfl rfl <| yV rfl rfl (oT rfl rfl) <| cV rfl (oT rfl rfl) <| cV rfl (oA rfl) <| WL.nil <| Tr.ret ?_
            refine ret_ok rfl ?_ no_post
            simp_all [r8bare]
          refine yV rfl rfl (oFe rfl tF42_6) <| yV rfl rfl (oLe Tryz.underlying35 rfl rfl) <| yV rfl rfl (oSm Tryz.underlying35 rfl) <| yV rfl rfl (oB rfl rfl rfl) <| yV rfl rfl (oF rfl rfl) <| cV rfl (oT rfl rfl) <| cV rfl (oA rfl) <| WL.nil <| Tr.ret ?_
          refine ret_ok rfl ?_ no_post
          simp_all [r8bare]
        refine nV rfl rfl <| nV rfl rfl <| nV rfl rfl <| nV rfl rfl <| WL.noU rfl rfl rfl rfl rfl rfl <| WL.noU rfl rfl rfl rfl rfl rfl <| WL.noU rfl rfl rfl rfl rfl rfl <| WL.noU rfl rfl rfl rfl rfl rfl <| nV rfl rfl <| cV rfl (oF rfl rfl) <| cV rfl (oA rfl) <| WL.nil ?_
        refine Tr.ret ?_
        refine ret_ok rfl ?_ no_post
        simp_all [r8bare]
      refine yV rfl rfl (oFe rfl tF42_3) <| yV rfl rfl (oLe Tryz.underlying9 rfl rfl) <| yV rfl rfl (ok_bin_str rfl rfl rfl rfl) <| yV rfl rfl (oF rfl rfl) <| cV rfl (oT rfl rfl) <| cV rfl (oM rfl) ?_
      refine WL.split (t := 64) rfl (fun hb64 => ?_) (fun hb64 => ?_)
      · refine yV rfl rfl (oFe rfl tF42_7) <| yV rfl rfl (oLe Tryz.underlying40 rfl rfl) <| yV rfl rfl (oSm Tryz.underlying40 rfl) <| yV rfl rfl (oM rfl) <| yV rfl rfl (oB rfl rfl rfl) <| cV rfl (oT rfl rfl) <| cV rfl (oM rfl) ?_
        refine WL.split (t := 71) rfl (fun hb71 => ?_) (fun hb71 => ?_)
        · refine yV rfl rfl (oFe rfl tF42_0) <| yV rfl rfl (oLe Tryz.underlying3 rfl rfl) <| yV rfl rfl (oB rfl rfl rfl) <| yV rfl rfl (oM rfl) ?_
          refine WL.split (t := 75) rfl (fun hb75 => ?_) (fun hb75 => ?_)
          · refine nV rfl rfl <| nV rfl rfl <| nV rfl rfl <| nV rfl rfl <| yV rfl rfl (oT rfl rfl) <| cV rfl (oT rfl rfl) <| cV rfl (oA rfl) <| WL.nil <| Tr.ret ?_
            refine ret_ok rfl ?_ no_post
            simp_all [r8bare]
          refine yV rfl rfl (oFe rfl tF42_6) <| yV rfl rfl (oLe Tryz.underlying35 rfl rfl) <| yV rfl rfl (oSm Tryz.underlying35 rfl) <| yV rfl rfl (oB rfl rfl rfl) <| yV rfl rfl (oF rfl rfl) <| cV rfl (oT rfl rfl) <| cV rfl (oA rfl) <| WL.nil <| Tr.ret ?_
          refine ret_ok rfl ?_ no_post
          simp_all [r8bare]
        refine nV rfl rfl <| nV rfl rfl <| nV rfl rfl <| nV rfl rfl <| WL.noU rfl rfl rfl rfl rfl rfl <| WL.noU rfl rfl rfl rfl rfl rfl <| WL.noU rfl rfl rfl rfl rfl rfl <| WL.noU rfl rfl rfl rfl rfl rfl <| nV rfl rfl <| cV rfl (oF rfl rfl) <| cV rfl (oA rfl) <| WL.nil ?_
        refine Tr.ret ?_
        refine ret_ok rfl ?_ no_post
        simp_all [r8bare]
      refine nV rfl rfl <| nV rfl rfl <| nV rfl rfl <| nV rfl rfl <| nV rfl rfl <| cV rfl (oF rfl rfl) <| cV rfl (oM rfl) <| nV rfl rfl <| nV rfl rfl <| nV rfl rfl <| nV rfl rfl <| WL.noU rfl rfl rfl rfl rfl rfl ?_
      refine WL.noU rfl rfl rfl rfl rfl rfl <| WL.noU rfl rfl rfl rfl rfl rfl <| WL.noU rfl rfl rfl rfl rfl rfl <| nV rfl rfl <| cV rfl (oF rfl rfl) <| cV rfl (oA rfl) <| WL.nil <| Tr.ret ?_
      refine ret_ok rfl ?_ no_post
      simp_all [r8bare]
    refine nV rfl rfl <| nV rfl rfl <| WL.noU rfl rfl rfl rfl rfl rfl <| WL.noU rfl rfl rfl rfl rfl rfl <| WL.noU rfl rfl rfl rfl rfl rfl <| nV rfl rfl <| cV rfl (oF rfl rfl) <| cV rfl (oM rfl) <| nV rfl rfl <| nV rfl rfl <| nV rfl rfl <| nV rfl rfl ?_
    refine nV rfl rfl <| cV rfl (oF rfl rfl) <| cV rfl (oM rfl) <| nV rfl rfl <| nV rfl rfl <| nV rfl rfl <| nV rfl rfl <| WL.noU rfl rfl rfl rfl rfl rfl <| WL.noU rfl rfl rfl rfl rfl rfl <| WL.noU rfl rfl rfl rfl rfl rfl <| WL.noU rfl rfl rfl rfl rfl rfl <| nV rfl rfl ?_
    refine cV rfl (oF rfl rfl) <| cV rfl (oA rfl) <| WL.nil <| Tr.ret ?_
    refine ret_ok rfl ?_ no_post
    simp_all [r8bare]
  refine nV rfl rfl <| nV rfl rfl <| WL.noU rfl rfl rfl rfl rfl rfl <| WL.noU rfl rfl rfl rfl rfl rfl <| WL.noU rfl rfl rfl rfl rfl rfl <| nV rfl rfl <| cV rfl (oF rfl rfl) <| cV rfl (oM rfl) <| nV rfl rfl <| nV rfl rfl <| WL.noU rfl rfl rfl rfl rfl rfl <| WL.noU rfl rfl rfl rfl rfl rfl ?_
  refine WL.noU rfl rfl rfl rfl rfl rfl <| nV rfl rfl <| cV rfl (oF rfl rfl) <| cV rfl (oM rfl) <| nV rfl rfl <| nV rfl rfl <| nV rfl rfl <| nV rfl rfl <| nV rfl rfl <| cV rfl (oF rfl rfl) <| cV rfl (oM rfl) <| nV rfl rfl ?_
  refine nV rfl rfl <| nV rfl rfl <| nV rfl rfl <| WL.noU rfl rfl rfl rfl rfl rfl <| WL.noU rfl rfl rfl rfl rfl rfl <| WL.noU rfl rfl rfl rfl rfl rfl <| WL.noU rfl rfl rfl rfl rfl rfl <| nV rfl rfl <| cV rfl (oF rfl rfl) <| cV rfl (oA rfl) <| WL.nil <| Tr.ret ?_
  refine ret_ok rfl ?_ no_post
  simp_all [r8bare]
set_option maxRecDepth 8000 in
theorem sc_r8Closed (x : Nd) : SC Tryz.prog 53 [.pv (ndv x)] [] (fun _ => False) (iBool (r8Closed x)) [] := by
  refine SC.of Tryz.func53 rfl (lb rfl) fun F ρ w => ?_
  refine Tr.seq <| Tr.region rfl <| WL.cons rfl rfl rfl (ok_box rfl rfl) <| cV rfl (oA rfl) <| WL.nil <| Tr.seq <| Tr.block <| Tr.seq <| Tr.region rfl <| cV rfl (oFe rfl tF42_0) <| cV rfl (oLe Tryz.underlying3 rfl rfl) <| cV rfl (oB rfl rfl rfl) ?_
  refine cV rfl (oM rfl) ?_
  refine WL.split (t := 7) rfl (fun hb7 => ?_) (fun hb7 => ?_)
  · refine yV rfl rfl (oFe rfl tF42_7) <| yV rfl rfl (oLe Tryz.underlying40 rfl rfl) <| yV rfl rfl (oSm Tryz.underlying40 rfl) <| yV rfl rfl (oB rfl rfl rfl) <| cV rfl (oT rfl rfl) <| cV rfl (oA rfl) <| WL.nil ?_
    refine Tr.cond rfl (fun hc3 => ?_) (fun hc3 => ?_)
    · have hl : x.kids.length = 2 := by first | (simp_all; done) | (simp_all; omega)
      have h10 : x.kind = 10 := by simp_all
      have hi0 : (x.kids.map eKid)[0]? = some [nodes (kid0 x.kids)] := by rw [List.getElem?_map]; simp [kid0, eKid, hl]
      have hi1 : (x.kids.map eKid)[1]? = some [nodes (kid1 x.kids)] := by rw [List.getElem?_map]; simp [kid1, eKid, hl]
      refine Tr.seq <| Tr.region rfl <| cV rfl (oFe rfl tF42_7) <| cV rfl (oLe Tryz.underlying40 rfl rfl) <| cV rfl (ok_index_seq rfl rfl rfl Tryz.underlying40 hi0 tS43 rfl (by rfl)) <| cV rfl (oLe Tryz.underlying43 rfl rfl) <| WL.cons rfl rfl rfl (ok_callq (sc_r8last _) ent74 rfl rfl (Subs.refl _ _) rfl) <| cV rfl (oB rfl rfl rfl) <| cV rfl (oM rfl) ?_
      refine WL.split (t := 19) rfl (fun hb19 => ?_) (fun hb19 => ?_)
      · refine yV rfl rfl (oFe rfl tF42_7) <| yV rfl rfl (oLe Tryz.underlying40 rfl rfl) <| yV rfl rfl (ok_index_seq rfl rfl rfl Tryz.underlying40 hi1 tS43 rfl (by rfl)) <| yV rfl rfl (oLe Tryz.underlying43 rfl rfl) <| WL.yes rfl rfl rfl rfl rfl rfl (ok_callq (sc_r8last _) ent74 rfl rfl (Subs.refl _ _) rfl) <| yV rfl rfl (oB rfl rfl rfl) <| cV rfl (oT rfl rfl) <| cV rfl (oA rfl) <| WL.nil <| Tr.ret ?_
        refine ret_ok rfl ?_ no_post
        simp_all [r8Closed]
      refine nV rfl rfl <| nV rfl rfl <| nV rfl rfl <| nV rfl rfl <| nV rfl rfl <| nV rfl rfl <| cV rfl (oF rfl rfl) <| cV rfl (oA rfl) <| WL.nil <| Tr.ret ?_
      refine ret_ok rfl ?_ no_post
      simp_all [r8Closed]
    refine Tr.seq <| Tr.region rfl <| cV rfl (oFe rfl tF42_0) <| cV rfl (oLe Tryz.underlying3 rfl rfl) <| cV rfl (oB rfl rfl rfl) <| cV rfl (oM rfl) ?_
    refine WL.split (t := 31) rfl (fun hb31 => ?_) (fun hb31 => ?_)
    · refine yV rfl rfl (oFe rfl tF42_7) <| yV rfl rfl (oLe Tryz.underlying40 rfl rfl) <| yV rfl rfl (oSm Tryz.underlying40 rfl) <| yV rfl rfl (oB rfl rfl rfl) <| cV rfl (oT rfl rfl) <| cV rfl (oA rfl) <| WL.nil ?_
      refine Tr.cond rfl (fun hc27 => ?_) (fun hc27 => ?_)
      · have hl : x.kids.length = 1 := by first | (simp_all; done) | (simp_all; omega)
        have h11 : x.kind = 11 := by simp_all
        have hi0 : (x.kids.map eKid)[0]? = some [nodes (kid0 x.kids)] := by rw [List.getElem?_map]; simp [kid0, eKid, hl]
        refine Tr.seq <| Tr.region rfl <| cV rfl (oFe rfl tF42_7) <| cV rfl (oLe Tryz.underlying40 rfl rfl) <| cV rfl (ok_index_seq rfl rfl rfl Tryz.underlying40 hi0 tS43 rfl (by rfl)) <| cV rfl (oLe Tryz.underlying43 rfl rfl) <| WL.cons rfl rfl rfl (ok_callq (sc_r8Leaves _) ent75 rfl rfl (Subs.refl _ _) rfl) <| cV rfl (oN rfl) <| cV rfl (oA rfl) <| WL.nil <| Tr.ret ?_
        refine ret_ok rfl ?_ no_post
        simp_all [r8Closed]
      refine Tr.skip <| Tr.seq <| Tr.region rfl <| cV rfl (ok_load_ept_agg rfl rfl Tryz.underlying42 rfl tS42 (Nat.le_of_ble_eq_true rfl)) <| WL.cons rfl rfl rfl (ok_callq (sc_r8Ender _) ent76 rfl rfl (Subs.refl _ _) rfl) <| cV rfl (oA rfl) <| WL.nil <| Tr.ret ?_
      refine ret_ok rfl ?_ no_post
      simp_all [r8Closed]
    refine nV rfl rfl <| nV rfl rfl <| nV rfl rfl <| nV rfl rfl <| cV rfl (oF rfl rfl) <| cV rfl (oA rfl) <| WL.nil <| Tr.condF rfl <| Tr.skip <| Tr.seq <| Tr.region rfl <| cV rfl (ok_load_ept_agg rfl rfl Tryz.underlying42 rfl tS42 (Nat.le_of_ble_eq_true rfl)) ?_
    refine WL.cons rfl rfl rfl (ok_callq (sc_r8Ender _) ent76 rfl rfl (Subs.refl _ _) rfl) <| cV rfl (oA rfl) <| WL.nil <| Tr.ret ?_
    refine ret_ok rfl ?_ no_post
    simp_all [r8Closed]
  refine nV rfl rfl <| nV rfl rfl <| nV rfl rfl <| nV rfl rfl <| cV rfl (oF rfl rfl) <| cV rfl (oA rfl) <| WL.nil <| Tr.condF rfl <| Tr.seq <| Tr.region rfl <| cV rfl (oFe rfl tF42_0) <| cV rfl (oLe Tryz.underlying3 rfl rfl) ?_
  refine cV rfl (oB rfl rfl rfl) <| cV rfl (oM rfl) ?_
  refine WL.split (t := 31) rfl (fun hb31 => ?_) (fun hb31 => ?_)
  · refine yV rfl rfl (oFe rfl tF42_7) <| yV rfl rfl (oLe Tryz.underlying40 rfl rfl) <| yV rfl rfl (oSm Tryz.underlying40 rfl) <| yV rfl rfl (oB rfl rfl rfl) <| cV rfl (oT rfl rfl) <| cV rfl (oA rfl) <| WL.nil ?_
    refine Tr.cond rfl (fun hc27 => ?_) (fun hc27 => ?_)
    · have hl : x.kids.length = 1 := by first | (simp_all; done) | (simp_all; omega)
      have h11 : x.kind = 11 := by simp_all
      have hi0 : (x.kids.map eKid)[0]? = some [nodes (kid0 x.kids)] := by rw [List.getElem?_map]; simp [kid0, eKid, hl]
      refine Tr.seq <| Tr.region rfl <| cV rfl (oFe rfl tF42_7) <| cV rfl (oLe Tryz.underlying40 rfl rfl) <| cV rfl (ok_index_seq rfl rfl rfl Tryz.underlying40 hi0 tS43 rfl (by rfl)) <| cV rfl (oLe Tryz.underlying43 rfl rfl) <| WL.cons rfl rfl rfl (ok_callq (sc_r8Leaves _) ent75 rfl rfl (Subs.refl _ _) rfl) <| cV rfl (oN rfl) <| cV rfl (oA rfl) <| WL.nil <| Tr.ret ?_
      refine ret_ok rfl ?_ no_post
      simp_all [r8Closed]
    refine Tr.skip <| Tr.seq <| Tr.region rfl <| cV rfl (ok_load_ept_agg rfl rfl Tryz.underlying42 rfl tS42 (Nat.le_of_ble_eq_true rfl)) <| WL.cons rfl rfl rfl (ok_callq (sc_r8Ender _) ent76 rfl rfl (Subs.refl _ _) rfl) <| cV rfl (oA rfl) <| WL.nil <| Tr.ret ?_
    refine ret_ok rfl ?_ no_post
    simp_all [r8Closed]
  refine nV rfl rfl <| nV rfl rfl <| nV rfl rfl <| nV rfl rfl <| cV rfl (oF rfl rfl) <| cV rfl (oA rfl) <| WL.nil <| Tr.condF rfl <| Tr.skip <| Tr.seq <| Tr.region rfl <| cV rfl (ok_load_ept_agg rfl rfl Tryz.underlying42 rfl tS42 (Nat.le_of_ble_eq_true rfl)) ?_
  refine WL.cons rfl rfl rfl (ok_callq (sc_r8Ender _) ent76 rfl rfl (Subs.refl _ _) rfl) <| cV rfl (oA rfl) <| WL.nil <| Tr.ret ?_
  refine ret_ok rfl ?_ no_post
  simp_all [r8Closed]
set_option maxRecDepth 8000 in
theorem sc_r8Place (u : Un) (name : ByteArray) : SC Tryz.prog 30 [.pv u.enc, iStr name] [] (fun _ => False) (iInt (r8Place name u.flows 0)) [] := by
  refine SC.of Tryz.func30 rfl (lb rfl) fun F ρ w => ?_
  refine Tr.seq <| Tr.region rfl <| WL.cons rfl rfl rfl (ok_box rfl rfl) <| cV rfl (oA rfl) <| WL.nil <| Tr.seq <| Tr.seq <| Tr.region rfl <| cV rfl (oA rfl) <| WL.nil <| Tr.block <| Tr.sub (Sub.of (fr' := [(5, iInt 0), (2, .pv (.ept [arrs u.arrays, flws u.flows] 0)), (1, iStr name)]) ⟨rfl, rfl, rfl, trivial⟩) ?_
  refine Tr.loop (fun fr σ m => ∃ (k : Nat), (k ≤ u.flows.length) ∧ (r8Place name u.flows 0 = r8Place name (u.flows.drop k) k) ∧ fr = [(5, iInt k), (2, .pv (.ept [arrs u.arrays, flws u.flows] 0)), (1, iStr name)] ∧ σ = look [] ∧ m = u.flows.length - k) (n := u.flows.length - 0) ?_ ?_
  · exact ⟨0, Nat.zero_le _, rfl, rfl, rfl, rfl⟩
  rintro fr σ m ⟨k, hI0, hI1, rfl, rfl, rfl⟩
  refine Tr.seq <| Tr.seq <| Tr.region rfl <| cV rfl (oM rfl) <| cV rfl (oFe rfl tF25_1) <| cV rfl (oLe Tryz.underlying23 rfl rfl) ?_
  refine WL.lenOf (t := 8) rfl (fun hl => ?_)
  simp only [List.length_map] at hl
  refine cV rfl (oSm Tryz.underlying23 rfl) <| cV rfl (oB rfl rfl rfl) <| WL.nil ?_
  refine Tr.cond rfl (fun hc10 => ?_) (fun hc10 => ?_)
  · have hlt : k < u.flows.length := by simpa using hc10
    have hd := List.drop_eq_getElem_cons hlt
    have hm := List.getElem_mem hlt
    have hi := map_get (f := Fl.enc) (List.getElem?_eq_getElem hlt)
    generalize u.flows[k] = x at hd hm hi
    refine Tr.skip <| Tr.seq <| Tr.block <| Tr.seq <| Tr.region rfl <| cV rfl (oFe rfl tF25_1) <| cV rfl (oLe Tryz.underlying23 rfl rfl) <| cV rfl (oM rfl) <| cV rfl (ok_index_seq rfl rfl rfl Tryz.underlying23 (by assumption) tS51 rfl (by rfl)) <| cV rfl (oFe rfl tF51_0) <| cV rfl (oLe Tryz.underlying9 rfl rfl) <| cV rfl (oM rfl) ?_
    refine cV rfl (ok_bin_str rfl rfl rfl rfl) <| WL.nil ?_
    refine Tr.cond rfl (fun hc20 => ?_) (fun hc20 => ?_)
    · refine Tr.seq <| Tr.region rfl <| cV rfl (oM rfl) <| cV rfl (oA rfl) <| WL.nil <| Tr.ret ?_
      refine ret_ok rfl ?_ no_post
      rw [hI1, hd]
      have h20 : eqS x.name name = true := by simpa [eqS] using hc20
      simp [r8Place, h20]
    refine Tr.skip <| Tr.region rfl <| cV rfl (oM rfl) <| cV rfl (oB rfl rfl (i64_add rfl (by omega))) <| cV rfl (oA rfl) <| WL.nil ?_
    refine ⟨_, _, ?_, Sub.of (fr' := [(5, iInt (k + 1)), (2, .pv (.ept [arrs u.arrays, flws u.flows] 0)), (1, iStr name)]) ⟨rfl, rfl, rfl, trivial⟩, (k + 1), ?_, ?_, rfl, rfl, rfl⟩
    · omega
    · omega
    rw [hI1, hd]
    have h20 : eqS x.name name = false := by simpa [eqS] using hc20
    simp [r8Place, h20]
  refine Tr.exit <| Tr.seq <| Tr.region rfl <| cV rfl (oA rfl) <| WL.nil <| Tr.ret ?_
  refine ret_ok rfl ?_ no_post
  have hge : u.flows.length ≤ k := by simpa using hc10
  rw [hI1, List.drop_eq_nil_of_le hge]
  rfl
set_option maxRecDepth 8000 in
theorem sc_r8Array (u : Un) (name : ByteArray) : SC Tryz.prog 47 [.pv u.enc, iStr name] [] (fun _ => False) (iInt (r8Array name u.arrays 0)) [] := by
  refine SC.of Tryz.func47 rfl (lb rfl) fun F ρ w => ?_
  refine Tr.seq <| Tr.region rfl <| WL.cons rfl rfl rfl (ok_box rfl rfl) <| cV rfl (oA rfl) <| WL.nil <| Tr.seq <| Tr.seq <| Tr.region rfl <| cV rfl (oA rfl) <| WL.nil <| Tr.block <| Tr.sub (Sub.of (fr' := [(5, iInt 0), (2, .pv (.ept [arrs u.arrays, flws u.flows] 0)), (1, iStr name)]) ⟨rfl, rfl, rfl, trivial⟩) ?_
  refine Tr.loop (fun fr σ m => ∃ (k : Nat), (k ≤ u.arrays.length) ∧ (r8Array name u.arrays 0 = r8Array name (u.arrays.drop k) k) ∧ fr = [(5, iInt k), (2, .pv (.ept [arrs u.arrays, flws u.flows] 0)), (1, iStr name)] ∧ σ = look [] ∧ m = u.arrays.length - k) (n := u.arrays.length - 0) ?_ ?_
  · exact ⟨0, Nat.zero_le _, rfl, rfl, rfl, rfl⟩
  rintro fr σ m ⟨k, hI0, hI1, rfl, rfl, rfl⟩
  refine Tr.seq <| Tr.seq <| Tr.region rfl <| cV rfl (oM rfl) <| cV rfl (oFe rfl tF25_0) <| cV rfl (oLe Tryz.underlying22 rfl rfl) ?_
  refine WL.lenOf (t := 8) rfl (fun hl => ?_)
  simp only [List.length_map] at hl
  refine cV rfl (oSm Tryz.underlying22 rfl) <| cV rfl (oB rfl rfl rfl) <| WL.nil ?_
  refine Tr.cond rfl (fun hc10 => ?_) (fun hc10 => ?_)
  · have hlt : k < u.arrays.length := by simpa using hc10
    have hd := List.drop_eq_getElem_cons hlt
    have hm := List.getElem_mem hlt
    have hi := map_get (f := Ar.enc) (List.getElem?_eq_getElem hlt)
    generalize u.arrays[k] = x at hd hm hi
    refine Tr.skip <| Tr.seq <| Tr.block <| Tr.seq <| Tr.region rfl <| cV rfl (oFe rfl tF25_0) <| cV rfl (oLe Tryz.underlying22 rfl rfl) <| cV rfl (oM rfl) <| cV rfl (ok_index_seq rfl rfl rfl Tryz.underlying22 (by assumption) tS49 rfl (by rfl)) <| cV rfl (oFe rfl tF49_0) <| cV rfl (oLe Tryz.underlying9 rfl rfl) <| cV rfl (oM rfl) ?_
    refine cV rfl (ok_bin_str rfl rfl rfl rfl) <| WL.nil ?_
    refine Tr.cond rfl (fun hc20 => ?_) (fun hc20 => ?_)
    · refine Tr.seq <| Tr.region rfl <| cV rfl (oM rfl) <| cV rfl (oA rfl) <| WL.nil <| Tr.ret ?_
      refine ret_ok rfl ?_ no_post
      rw [hI1, hd]
      have h20 : eqS x.name name = true := by simpa [eqS] using hc20
      simp [r8Array, h20]
    refine Tr.skip <| Tr.region rfl <| cV rfl (oM rfl) <| cV rfl (oB rfl rfl (i64_add rfl (by omega))) <| cV rfl (oA rfl) <| WL.nil ?_
    refine ⟨_, _, ?_, Sub.of (fr' := [(5, iInt (k + 1)), (2, .pv (.ept [arrs u.arrays, flws u.flows] 0)), (1, iStr name)]) ⟨rfl, rfl, rfl, trivial⟩, (k + 1), ?_, ?_, rfl, rfl, rfl⟩
    · omega
    · omega
    rw [hI1, hd]
    have h20 : eqS x.name name = false := by simpa [eqS] using hc20
    simp [r8Array, h20]
  refine Tr.exit <| Tr.seq <| Tr.region rfl <| cV rfl (oA rfl) <| WL.nil <| Tr.ret ?_
  refine ret_ok rfl ?_ no_post
  have hge : u.arrays.length ≤ k := by simpa using hc10
  rw [hI1, List.drop_eq_nil_of_le hge]
  rfl
set_option maxRecDepth 8000 in
theorem sc_r8types (u : Un) (f : Fl) (set : List Bool) (l seen want : List Int) : SC Tryz.prog 92 [.ptr 3 0, .pv (ints l), .pv (ints seen), .pv (ints want)] (ckHp u f 4 set) (fun _ => True) (iBool (r8types f.types seen l want)) (ckHp u f 4 set) := by
  refine SC.of Tryz.func92 rfl (lb rfl) fun F ρ w => ?_
  refine Tr.lenOf (t := 1) rfl (fun hl => ?_)
  simp only [List.length_map] at hl
  refine Tr.lenOf (t := 3) rfl (fun hl3 => ?_)
  simp only [List.length_map] at hl3
  refine Tr.seq <| Tr.region rfl <| cV rfl (oA rfl) <| WL.nil <| Tr.seq <| Tr.seq <| Tr.region rfl <| cV rfl (oM rfl) <| cV rfl (oSm Tryz.underlying35 rfl) <| cV rfl (oM rfl) <| cV rfl (oSm Tryz.underlying35 rfl) <| cV rfl (oB rfl rfl rfl) ?_
  refine WL.nil ?_
  refine Tr.cond rfl (fun hc14 => ?_) (fun hc14 => ?_)
  · refine Tr.seq <| Tr.region rfl <| cV rfl (oA rfl) <| WL.nil <| Tr.ret ?_
    refine ret_ok rfl ?_ (fun _ _ h => h)
    have : ((l.length : Int) == want.length) = false := by simpa using hc14
    simp [r8types, this]
  have hlen : l.length = want.length := by simp at hc14; omega
  refine Tr.skip <| Tr.seq <| Tr.seq <| Tr.region rfl <| cV rfl (oA rfl) <| WL.nil <| Tr.block <| Tr.sub (Sub.of (fr' := [(9, iInt 0), (0, .ptr 3 0), (1, .pv (ints l)), (2, .pv (ints seen)), (3, .pv (ints want))]) ⟨rfl, rfl, rfl, rfl, rfl, trivial⟩) ?_
  refine Tr.loop (fun fr σ m => ∃ (k : Nat), (k ≤ l.length) ∧ (r8typesGo f.types seen l want = r8typesGo f.types seen (l.drop k) (want.drop k)) ∧ fr = [(9, iInt k), (0, .ptr 3 0), (1, .pv (ints l)), (2, .pv (ints seen)), (3, .pv (ints want))] ∧ σ = look (up (ckHp u f 4 set)) ∧ m = l.length - k) (n := l.length - 0) ?_ ?_
  · exact ⟨0, Nat.zero_le _, rfl, rfl, rfl, rfl⟩
  rintro fr σ m ⟨k, hI0, hI1, rfl, rfl, rfl⟩
  refine Tr.seq <| Tr.seq <| Tr.region rfl <| cV rfl (oM rfl) <| cV rfl (oM rfl) <| cV rfl (oSm Tryz.underlying35 rfl) <| cV rfl (oB rfl rfl rfl) <| WL.nil ?_
  refine Tr.cond rfl (fun hc18 => ?_) (fun hc18 => ?_)
  · have hlt : k < l.length := by simpa using hc18
    have hd := List.drop_eq_getElem_cons hlt
    have hm := List.getElem_mem hlt
    have hi := map_get (f := eInt) (List.getElem?_eq_getElem hlt)
    generalize l[k] = x at hd hm hi
    have hltw : k < want.length := by omega
    have hdw := List.drop_eq_getElem_cons hltw
    have hw := map_get (f := eInt) (List.getElem?_eq_getElem hltw)
    generalize want[k] = y at hdw hw
    refine Tr.skip <| Tr.seq <| Tr.block <| Tr.seq <| Tr.drawn mixed (fun _ => True) <| WA.run (fuel := 28) [0, 1, 2, 3, 4, 5, 6, 7, 8, 9, 10, 11, 12, 13, 14, 15, 16, 17, 18, 19, 20, 21, 22, 23] (by kernel_rfl) (fun _ _ _ h => h) (by kernel_rfl) <| rV rfl rfl (oM rfl) <| rV rfl rfl (oM rfl) <| rV rfl rfl (ok_index_seq rfl rfl rfl Tryz.underlying35 hi tS3 rfl (by rfl)) <| rV rfl rfl (oLe Tryz.underlying3 rfl rfl) <| rV rfl rfl (oB rfl rfl rfl) <| rV rfl rfl (oM rfl) ?_
    refine WR.split (t := 26) rfl (fun hb26 => ?_) (fun hb26 => ?_)
    · refine rnV rfl rfl rfl <| rnV rfl rfl rfl <| rnV rfl rfl rfl <| rnV rfl rfl rfl <| rnV rfl rfl rfl <| rnV rfl rfl rfl <| rnV rfl rfl rfl <| rnV rfl rfl rfl <| rnV rfl rfl rfl <| rnV rfl rfl rfl <| rnV rfl rfl rfl <| rV rfl rfl (oT rfl rfl) ?_
      refine rV rfl rfl (oM rfl) <| rnV rfl rfl rfl <| rnV rfl rfl rfl <| rnV rfl rfl rfl <| rnV rfl rfl rfl <| rnV rfl rfl rfl <| WR.nil <| WA.takeNo (i := 24) (b := true) rfl (by kernel_rfl) (by kernel_rfl) (by kernel_rfl) (fun _ _ _ h => h) rfl rfl rfl rfl rfl rfl <| WA.run (fuel := 0) [25, 26, 27, 28, 29, 30, 31, 32, 33, 34, 35, 36, 37, 38, 39, 40, 41, 42, 43, 44, 45, 46, 47, 48, 49, 50, 51] (by kernel_rfl) (fun _ _ _ h => h) (by kernel_rfl) <| rnV rfl rfl rfl <| rV rfl rfl (oT rfl rfl) <| rV rfl rfl (oM rfl) ?_
      refine rnV rfl rfl rfl <| rnV rfl rfl rfl <| rnV rfl rfl rfl <| rnV rfl rfl rfl <| rnV rfl rfl rfl <| rnV rfl rfl rfl <| WR.noU rfl rfl rfl rfl rfl rfl rfl <| WR.noU rfl rfl rfl rfl rfl rfl rfl <| WR.noU rfl rfl rfl rfl rfl rfl rfl <| WR.noU rfl rfl rfl rfl rfl rfl rfl <| WR.noU rfl rfl rfl rfl rfl rfl rfl <| WR.noU rfl rfl rfl rfl rfl rfl rfl ?_
      refine WR.noU rfl rfl rfl rfl rfl rfl rfl <| WR.noU rfl rfl rfl rfl rfl rfl rfl <| WR.noU rfl rfl rfl rfl rfl rfl rfl <| WR.noU rfl rfl rfl rfl rfl rfl rfl <| WR.noU rfl rfl rfl rfl rfl rfl rfl <| WR.noU rfl rfl rfl rfl rfl rfl rfl <| WR.noU rfl rfl rfl rfl rfl rfl rfl <| WR.noU rfl rfl rfl rfl rfl rfl rfl <| WR.noU rfl rfl rfl rfl rfl rfl rfl <| WR.noU rfl rfl rfl rfl rfl rfl rfl <| rnV rfl rfl rfl <| rV rfl rfl (oT rfl rfl) ?_
      refine WR.nil <| WA.done (by kernel_rfl) <| Tr.condT rfl <| Tr.seq <| Tr.region rfl <| cV rfl (oA rfl) <| WL.nil <| Tr.ret ?_
      refine ret_ok rfl ?_ (fun _ _ h => h)
      have hu : r8use f.types seen x y = false := by (try clear hvx); simp_all [r8use]
      simp [r8types, hI1, hd, hdw, r8typesGo, hu]
    refine ryV rfl rfl rfl (oM rfl) <| ryV rfl rfl rfl (oM rfl) <| ryV rfl rfl rfl (ok_index_seq rfl rfl rfl Tryz.underlying35 hi tS3 rfl (by rfl)) <| ryV rfl rfl rfl (oLe Tryz.underlying3 rfl rfl) <| ryV rfl rfl rfl (oM rfl) <| ryV rfl rfl rfl (ok_nilCheck rfl rfl rfl) <| ryV rfl rfl rfl (oFp rfl rfl tF85_1) <| ryV rfl rfl rfl (oFp rfl rfl tF51_3) <| ryV rfl rfl rfl (oLb Tryz.underlying35 rfl rfl rfl trivial) <| ryV rfl rfl rfl (oSm Tryz.underlying35 rfl) <| ryV rfl rfl rfl (oB rfl rfl rfl) <| rV rfl rfl (oF rfl rfl) ?_
    refine rV rfl rfl (oM rfl) ?_
    refine WR.split (t := 39) rfl (fun hb39 => ?_) (fun hb39 => ?_)
    · refine rnV rfl rfl rfl <| rnV rfl rfl rfl <| rnV rfl rfl rfl <| rnV rfl rfl rfl <| rnV rfl rfl rfl <| WR.nil <| WA.takeNo (i := 24) (b := true) rfl (by kernel_rfl) (by kernel_rfl) (by kernel_rfl) (fun _ _ _ h => h) rfl rfl rfl rfl rfl rfl <| WA.run (fuel := 0) [25, 26, 27, 28, 29, 30, 31, 32, 33, 34, 35, 36, 37, 38, 39, 40, 41, 42, 43, 44, 45, 46, 47, 48, 49, 50, 51] (by kernel_rfl) (fun _ _ _ h => h) (by kernel_rfl) <| rnV rfl rfl rfl <| rV rfl rfl (oT rfl rfl) <| rV rfl rfl (oM rfl) <| rnV rfl rfl rfl ?_
      refine rnV rfl rfl rfl <| rnV rfl rfl rfl <| rnV rfl rfl rfl <| rnV rfl rfl rfl <| rnV rfl rfl rfl <| WR.noU rfl rfl rfl rfl rfl rfl rfl <| WR.noU rfl rfl rfl rfl rfl rfl rfl <| WR.noU rfl rfl rfl rfl rfl rfl rfl <| WR.noU rfl rfl rfl rfl rfl rfl rfl <| WR.noU rfl rfl rfl rfl rfl rfl rfl <| WR.noU rfl rfl rfl rfl rfl rfl rfl <| WR.noU rfl rfl rfl rfl rfl rfl rfl ?_
      refine WR.noU rfl rfl rfl rfl rfl rfl rfl <| WR.noU rfl rfl rfl rfl rfl rfl rfl <| WR.noU rfl rfl rfl rfl rfl rfl rfl <| WR.noU rfl rfl rfl rfl rfl rfl rfl <| WR.noU rfl rfl rfl rfl rfl rfl rfl <| WR.noU rfl rfl rfl rfl rfl rfl rfl <| WR.noU rfl rfl rfl rfl rfl rfl rfl <| WR.noU rfl rfl rfl rfl rfl rfl rfl <| WR.noU rfl rfl rfl rfl rfl rfl rfl <| rnV rfl rfl rfl <| rV rfl rfl (oT rfl rfl) <| WR.nil ?_
      refine WA.done (by kernel_rfl) <| Tr.condT rfl <| Tr.seq <| Tr.region rfl <| cV rfl (oA rfl) <| WL.nil <| Tr.ret ?_
      refine ret_ok rfl ?_ (fun _ _ h => h)
      have hu : r8use f.types seen x y = false := by (try clear hvx); simp_all [r8use]
      simp [r8types, hI1, hd, hdw, r8typesGo, hu]
    have hv0 : x.toNat < f.types.length := by simp at hb26 hb39; omega
    have hvx : x = ((x.toNat : Nat) : Int) := by simp at hb26; omega
    have hty : (f.types.map eInt)[x.toNat]? = some [vInt (f.types.getD x.toNat 0)] := by rw [List.getElem?_map]; simp [eInt, List.getD, hv0]
    refine ryV rfl rfl rfl (oM rfl) <| ryV rfl rfl rfl (oM rfl) <| ryV rfl rfl rfl (oM rfl) <| ryV rfl rfl rfl (ok_index_seq rfl rfl rfl Tryz.underlying35 hi tS3 rfl (by rfl)) <| ryV rfl rfl rfl (oLe Tryz.underlying3 rfl rfl) <| WR.nil <| WA.one (i := 24) (by kernel_rfl) <| WI.opYes rfl rfl rfl rfl rfl rfl (by intro t h; cases h; rfl) (fun _ _ => trivial) (fun _ h1 h2 => absurd h1 h2) (fun ρ w => ok_callq (sc_r8in _ _) ent105 rfl rfl (Subs.refl _ _) rfl) <| WA.run (fuel := 0) [25, 26, 27, 28, 29, 30, 31, 32, 33, 34, 35, 36, 37, 38, 39, 40, 41, 42, 43, 44, 45, 46, 47, 48, 49, 50, 51] (by kernel_rfl) (fun _ _ _ h => h) (by kernel_rfl) <| ryV rfl rfl rfl (oN rfl) <| rV rfl rfl (oF rfl rfl) <| rV rfl rfl (oM rfl) ?_
    refine WR.split (t := 48) rfl (fun hb48 => ?_) (fun hb48 => ?_)
    · refine rnV rfl rfl rfl <| rnV rfl rfl rfl <| rnV rfl rfl rfl <| rnV rfl rfl rfl <| rnV rfl rfl rfl <| rnV rfl rfl rfl <| WR.noU rfl rfl rfl rfl rfl rfl rfl <| WR.noU rfl rfl rfl rfl rfl rfl rfl <| WR.noU rfl rfl rfl rfl rfl rfl rfl <| WR.noU rfl rfl rfl rfl rfl rfl rfl <| WR.noU rfl rfl rfl rfl rfl rfl rfl <| WR.noU rfl rfl rfl rfl rfl rfl rfl ?_
      refine WR.noU rfl rfl rfl rfl rfl rfl rfl <| WR.noU rfl rfl rfl rfl rfl rfl rfl <| WR.noU rfl rfl rfl rfl rfl rfl rfl <| WR.noU rfl rfl rfl rfl rfl rfl rfl <| WR.noU rfl rfl rfl rfl rfl rfl rfl <| WR.noU rfl rfl rfl rfl rfl rfl rfl <| WR.noU rfl rfl rfl rfl rfl rfl rfl <| WR.noU rfl rfl rfl rfl rfl rfl rfl <| WR.noU rfl rfl rfl rfl rfl rfl rfl <| WR.noU rfl rfl rfl rfl rfl rfl rfl <| rnV rfl rfl rfl <| rV rfl rfl (oT rfl rfl) ?_
      refine WR.nil <| WA.done (by kernel_rfl) <| Tr.condT rfl <| Tr.seq <| Tr.region rfl <| cV rfl (oA rfl) <| WL.nil <| Tr.ret ?_
      refine ret_ok rfl ?_ (fun _ _ h => h)
      have hu : r8use f.types seen x y = false := by (try clear hvx); simp_all [r8use]
      simp [r8types, hI1, hd, hdw, r8typesGo, hu]
    refine ryV rfl rfl rfl (oM rfl) <| ryV rfl rfl rfl (oM rfl) <| ryV rfl rfl rfl (ok_index_seq rfl rfl rfl Tryz.underlying35 hw tS3 rfl (by rfl)) <| ryV rfl rfl rfl (oLe Tryz.underlying3 rfl rfl) <| ryV rfl rfl rfl (oB rfl rfl rfl) <| ryV rfl rfl rfl (oM rfl) ?_
    refine WR.split (t := 54) rfl (fun hb54 => ?_) (fun hb54 => ?_)
    · refine ryV rfl rfl rfl (oM rfl) <| ryV rfl rfl rfl (ok_nilCheck rfl rfl rfl) <| ryV rfl rfl rfl (oFp rfl rfl tF85_1) <| ryV rfl rfl rfl (oFp rfl rfl tF51_3) <| ryV rfl rfl rfl (oLb Tryz.underlying35 rfl rfl rfl trivial) <| ryV rfl rfl rfl (oM rfl) <| ryV rfl rfl rfl (oM rfl) <| ryV rfl rfl rfl (ok_index_seq rfl rfl rfl Tryz.underlying35 hi tS3 rfl (by rfl)) <| ryV rfl rfl rfl (oLe Tryz.underlying3 rfl rfl) <| ryV rfl rfl rfl (ok_index_seq rfl rfl rfl Tryz.underlying35 hty tS3 rfl (by omega)) <| ryV rfl rfl rfl (oLe Tryz.underlying3 rfl rfl) <| ryV rfl rfl rfl (oM rfl) ?_
      refine ryV rfl rfl rfl (oM rfl) <| ryV rfl rfl rfl (ok_index_seq rfl rfl rfl Tryz.underlying35 hw tS3 rfl (by rfl)) <| ryV rfl rfl rfl (oLe Tryz.underlying3 rfl rfl) <| ryV rfl rfl rfl (oB rfl rfl rfl) <| ryV rfl rfl rfl (oT rfl rfl) <| rV rfl rfl (oF rfl rfl) <| WR.nil <| WA.done (by kernel_rfl) ?_
      refine Tr.cond rfl (fun hc72 => ?_) (fun hc72 => ?_)
      · refine Tr.seq <| Tr.region rfl <| cV rfl (oA rfl) <| WL.nil <| Tr.ret ?_
        refine ret_ok rfl ?_ (fun _ _ h => h)
        have hu : r8use f.types seen x y = false := by (try clear hvx); simp_all [r8use]
        simp [r8types, hI1, hd, hdw, r8typesGo, hu]
      refine Tr.skip <| Tr.region rfl <| cV rfl (oM rfl) <| cV rfl (oB rfl rfl (i64_add rfl (by omega))) <| cV rfl (oA rfl) <| WL.nil ?_
      refine ⟨_, _, ?_, Sub.of (fr' := [(9, iInt (k + 1)), (0, .ptr 3 0), (1, .pv (ints l)), (2, .pv (ints seen)), (3, .pv (ints want))]) ⟨rfl, rfl, rfl, rfl, rfl, trivial⟩, (k + 1), ?_, ?_, rfl, rfl, rfl⟩
      · omega
      · omega
      rw [hI1, hd, hdw]
      have hu : r8use f.types seen x y = true := by (try clear hvx); simp_all [r8use]
      simp [r8typesGo, hu]
    refine rnV rfl rfl rfl <| rnV rfl rfl rfl <| rnV rfl rfl rfl <| rnV rfl rfl rfl <| rnV rfl rfl rfl <| rnV rfl rfl rfl <| rnV rfl rfl rfl <| rnV rfl rfl rfl <| rnV rfl rfl rfl <| rnV rfl rfl rfl <| rnV rfl rfl rfl <| rnV rfl rfl rfl ?_
    refine rnV rfl rfl rfl <| rnV rfl rfl rfl <| rnV rfl rfl rfl <| rnV rfl rfl rfl <| ryV rfl rfl rfl (oF rfl rfl) <| rV rfl rfl (oF rfl rfl) <| WR.nil <| WA.done (by kernel_rfl) <| Tr.condF rfl <| Tr.skip <| Tr.region rfl <| cV rfl (oM rfl) ?_
    refine cV rfl (oB rfl rfl (i64_add rfl (by omega))) <| cV rfl (oA rfl) <| WL.nil ?_
    refine ⟨_, _, ?_, Sub.of (fr' := [(9, iInt (k + 1)), (0, .ptr 3 0), (1, .pv (ints l)), (2, .pv (ints seen)), (3, .pv (ints want))]) ⟨rfl, rfl, rfl, rfl, rfl, trivial⟩, (k + 1), ?_, ?_, rfl, rfl, rfl⟩
    · omega
    · omega
    rw [hI1, hd, hdw]
    have hu : r8use f.types seen x y = true := by (try clear hvx); simp_all [r8use]
    simp [r8typesGo, hu]
  refine Tr.exit <| Tr.seq <| Tr.region rfl <| cV rfl (oA rfl) <| WL.nil <| Tr.ret ?_
  refine ret_ok rfl ?_ (fun _ _ h => h)
  have hge : l.length ≤ k := by simpa using hc18
  have : ((l.length : Int) == want.length) = true := by simpa using congrArg Nat.cast hlen
  simp [r8types, hI1, List.drop_eq_nil_of_le hge, r8typesGo, this]
set_option maxRecDepth 8000 in
theorem sc_r8sets (u : Un) (f : Fl) (set : List Bool) (l want : List Int) (hs : set.length = f.types.length) : SC Tryz.prog 93 [.ptr 3 0, .pv (ints l), .pv (ints want)] (ckHp u f 4 set) (fun k => k = 3) (iBool (r8sets f.types set l want).1) (ckHp u f 4 (r8sets f.types set l want).2) := by
  refine SC.of Tryz.func93 rfl (lb rfl) fun F ρ w => ?_
  refine Tr.lenOf (t := 1) rfl (fun hl => ?_)
  simp only [List.length_map] at hl
  refine Tr.lenOf (t := 2) rfl (fun hl3 => ?_)
  simp only [List.length_map] at hl3
  refine Tr.seq <| Tr.region rfl <| cV rfl (oA rfl) <| WL.nil <| Tr.seq <| Tr.seq <| Tr.region rfl <| cV rfl (oM rfl) <| cV rfl (oSm Tryz.underlying35 rfl) <| cV rfl (oM rfl) <| cV rfl (oSm Tryz.underlying35 rfl) <| cV rfl (oB rfl rfl rfl) ?_
  refine WL.nil ?_
  refine Tr.cond rfl (fun hc12 => ?_) (fun hc12 => ?_)
  · refine Tr.seq <| Tr.region rfl <| cV rfl (oA rfl) <| WL.nil <| Tr.ret ?_
    refine ret_ok rfl ?_ ?_
    · have : ((l.length : Int) == want.length) = false := by simpa using hc12
      simp [r8sets, this]
    have : ((l.length : Int) == want.length) = false := by simpa using hc12
    simp only [r8sets, this]
    exact fun _ _ h => h
  have hlen : l.length = want.length := by simp at hc12; omega
  refine Tr.skip <| Tr.seq <| Tr.seq <| Tr.region rfl <| cV rfl (oA rfl) <| WL.nil <| Tr.block <| Tr.sub (Sub.of (fr' := [(7, iInt 0), (0, .ptr 3 0), (1, .pv (ints l)), (2, .pv (ints want))]) ⟨rfl, rfl, rfl, rfl, trivial⟩) ?_
  refine Tr.loop (fun fr σ m => ∃ (k : Nat) (st : List Bool), (k ≤ l.length) ∧ (r8setsGo f.types set l want = r8setsGo f.types st (l.drop k) (want.drop k)) ∧ (st.length = f.types.length) ∧ fr = [(7, iInt k), (0, .ptr 3 0), (1, .pv (ints l)), (2, .pv (ints want))] ∧ σ = look (up (ckHp u f 4 st)) ∧ m = l.length - k) (n := l.length - 0) ?_ ?_
  · exact ⟨0, set, Nat.zero_le _, rfl, hs, rfl, rfl, rfl⟩
  rintro fr σ m ⟨k, st, hI0, hI1, hI2, rfl, rfl, rfl⟩
  refine Tr.seq <| Tr.seq <| Tr.region rfl <| cV rfl (oM rfl) <| cV rfl (oM rfl) <| cV rfl (oSm Tryz.underlying35 rfl) <| cV rfl (oB rfl rfl rfl) <| WL.nil ?_
  refine Tr.cond rfl (fun hc16 => ?_) (fun hc16 => ?_)
  · have hlt : k < l.length := by simpa using hc16
    have hd := List.drop_eq_getElem_cons hlt
    have hm := List.getElem_mem hlt
    have hi := map_get (f := eInt) (List.getElem?_eq_getElem hlt)
    generalize l[k] = x at hd hm hi
    have hltw : k < want.length := by omega
    have hdw := List.drop_eq_getElem_cons hltw
    have hw := map_get (f := eInt) (List.getElem?_eq_getElem hltw)
    generalize want[k] = y at hdw hw
    refine Tr.skip <| Tr.seq <| Tr.block <| Tr.seq <| Tr.seq <| Tr.still mixed (by kernel_rfl) rfl <| sV rfl (oM rfl) <| sV rfl (oM rfl) <| sV rfl (ok_index_seq rfl rfl rfl Tryz.underlying35 hi tS3 rfl (by rfl)) <| sV rfl (oLe Tryz.underlying3 rfl rfl) <| sV rfl (oB rfl rfl rfl) <| sV rfl (oM rfl) ?_
    refine WS.split (t := 24) rfl (fun hb24 => ?_) (fun hb24 => ?_)
    · refine snV rfl rfl <| snV rfl rfl <| snV rfl rfl <| snV rfl rfl <| snV rfl rfl <| snV rfl rfl <| snV rfl rfl <| snV rfl rfl <| snV rfl rfl <| snV rfl rfl <| snV rfl rfl <| sV rfl (oT rfl rfl) ?_
      refine sV rfl (oM rfl) <| snV rfl rfl <| snV rfl rfl <| snV rfl rfl <| snV rfl rfl <| snV rfl rfl <| snV rfl rfl <| snV rfl rfl <| snV rfl rfl <| snV rfl rfl <| snV rfl rfl <| sV rfl (oT rfl rfl) ?_
      refine sV rfl (oM rfl) <| snV rfl rfl <| snV rfl rfl <| snV rfl rfl <| snV rfl rfl <| snV rfl rfl <| snV rfl rfl <| WS.noU rfl rfl rfl rfl rfl rfl <| WS.noU rfl rfl rfl rfl rfl rfl <| WS.noU rfl rfl rfl rfl rfl rfl <| WS.noU rfl rfl rfl rfl rfl rfl <| WS.noU rfl rfl rfl rfl rfl rfl ?_
      refine WS.noU rfl rfl rfl rfl rfl rfl <| WS.noU rfl rfl rfl rfl rfl rfl <| WS.noU rfl rfl rfl rfl rfl rfl <| WS.noU rfl rfl rfl rfl rfl rfl <| WS.noU rfl rfl rfl rfl rfl rfl <| WS.noU rfl rfl rfl rfl rfl rfl <| WS.noU rfl rfl rfl rfl rfl rfl <| WS.noU rfl rfl rfl rfl rfl rfl <| WS.noU rfl rfl rfl rfl rfl rfl <| WS.noU rfl rfl rfl rfl rfl rfl <| WS.noU rfl rfl rfl rfl rfl rfl <| snV rfl rfl ?_
      refine sV rfl (oT rfl rfl) <| WS.nil <| Tr.condT rfl <| Tr.seq <| Tr.region rfl <| cV rfl (oA rfl) <| WL.nil <| Tr.ret ?_
      have hu : r8bad f.types st x y = true := by (try clear hvx); simp_all [r8bad]
      have hsum : r8sets f.types set l want = (false, st) := by simp [r8sets, hlen, hI1, hd, hdw, r8setsGo, hu]
      rw [hsum]
      exact ret_ok rfl rfl (fun _ _ h => h)
    refine syV rfl rfl (oM rfl) <| syV rfl rfl (oM rfl) <| syV rfl rfl (ok_index_seq rfl rfl rfl Tryz.underlying35 hi tS3 rfl (by rfl)) <| syV rfl rfl (oLe Tryz.underlying3 rfl rfl) <| syV rfl rfl (oM rfl) <| syV rfl rfl (ok_nilCheck rfl rfl rfl) <| syV rfl rfl (oFp rfl rfl tF85_1) <| syV rfl rfl (oFp rfl rfl tF51_3) <| syV rfl rfl (oLb Tryz.underlying35 rfl rfl rfl trivial) <| syV rfl rfl (oSm Tryz.underlying35 rfl) <| syV rfl rfl (oB rfl rfl rfl) <| sV rfl (oF rfl rfl) ?_
    refine sV rfl (oM rfl) ?_
    refine WS.split (t := 37) rfl (fun hb37 => ?_) (fun hb37 => ?_)
    · refine snV rfl rfl <| snV rfl rfl <| snV rfl rfl <| snV rfl rfl <| snV rfl rfl <| snV rfl rfl <| snV rfl rfl <| snV rfl rfl <| snV rfl rfl <| snV rfl rfl <| sV rfl (oT rfl rfl) <| sV rfl (oM rfl) ?_
      refine snV rfl rfl <| snV rfl rfl <| snV rfl rfl <| snV rfl rfl <| snV rfl rfl <| snV rfl rfl <| WS.noU rfl rfl rfl rfl rfl rfl <| WS.noU rfl rfl rfl rfl rfl rfl <| WS.noU rfl rfl rfl rfl rfl rfl <| WS.noU rfl rfl rfl rfl rfl rfl <| WS.noU rfl rfl rfl rfl rfl rfl <| WS.noU rfl rfl rfl rfl rfl rfl ?_
      refine WS.noU rfl rfl rfl rfl rfl rfl <| WS.noU rfl rfl rfl rfl rfl rfl <| WS.noU rfl rfl rfl rfl rfl rfl <| WS.noU rfl rfl rfl rfl rfl rfl <| WS.noU rfl rfl rfl rfl rfl rfl <| WS.noU rfl rfl rfl rfl rfl rfl <| WS.noU rfl rfl rfl rfl rfl rfl <| WS.noU rfl rfl rfl rfl rfl rfl <| WS.noU rfl rfl rfl rfl rfl rfl <| WS.noU rfl rfl rfl rfl rfl rfl <| snV rfl rfl <| sV rfl (oT rfl rfl) ?_
      refine WS.nil <| Tr.condT rfl <| Tr.seq <| Tr.region rfl <| cV rfl (oA rfl) <| WL.nil <| Tr.ret ?_
      have hu : r8bad f.types st x y = true := by (try clear hvx); simp_all [r8bad]
      have hsum : r8sets f.types set l want = (false, st) := by simp [r8sets, hlen, hI1, hd, hdw, r8setsGo, hu]
      rw [hsum]
      exact ret_ok rfl rfl (fun _ _ h => h)
    have hv0 : x.toNat < f.types.length := by simp at hb24 hb37; omega
    have hvx : x = ((x.toNat : Nat) : Int) := by simp at hb24; omega
    have hty : (f.types.map eInt)[x.toNat]? = some [vInt (f.types.getD x.toNat 0)] := by rw [List.getElem?_map]; simp [eInt, List.getD, hv0]
    have hst : (st.map eBool)[x.toNat]? = some [vBool (st.getD x.toNat false)] := by rw [List.getElem?_map]; simp [eBool, List.getD, hI2, hv0]
    have hstl : x.toNat < (st.map eBool).length := by simpa [hI2] using hv0
    refine syV rfl rfl (oM rfl) <| syV rfl rfl (ok_nilCheck rfl rfl rfl) <| syV rfl rfl (oFp rfl rfl tF85_2) <| syV rfl rfl (oLb Tryz.underlying83 rfl rfl rfl trivial) <| syV rfl rfl (oM rfl) <| syV rfl rfl (oM rfl) <| syV rfl rfl (ok_index_seq rfl rfl rfl Tryz.underlying35 hi tS3 rfl (by rfl)) <| syV rfl rfl (oLe Tryz.underlying3 rfl rfl) <| syV rfl rfl (ok_index_row rfl rfl rfl rfl rfl Tryz.underlying83 tS4 (by assumption) (by omega)) <| syV rfl rfl (ok_load_row rfl rfl rfl rfl (Nat.add_zero _).symm (by assumption) rfl Tryz.underlying4 rfl trivial) <| sV rfl (oF rfl rfl) <| sV rfl (oM rfl) ?_
    refine WS.split (t := 49) rfl (fun hb49 => ?_) (fun hb49 => ?_)
    · refine snV rfl rfl <| snV rfl rfl <| snV rfl rfl <| snV rfl rfl <| snV rfl rfl <| snV rfl rfl <| WS.noU rfl rfl rfl rfl rfl rfl <| WS.noU rfl rfl rfl rfl rfl rfl <| WS.noU rfl rfl rfl rfl rfl rfl <| WS.noU rfl rfl rfl rfl rfl rfl <| WS.noU rfl rfl rfl rfl rfl rfl <| WS.noU rfl rfl rfl rfl rfl rfl ?_
      refine WS.noU rfl rfl rfl rfl rfl rfl <| WS.noU rfl rfl rfl rfl rfl rfl <| WS.noU rfl rfl rfl rfl rfl rfl <| WS.noU rfl rfl rfl rfl rfl rfl <| WS.noU rfl rfl rfl rfl rfl rfl <| WS.noU rfl rfl rfl rfl rfl rfl <| WS.noU rfl rfl rfl rfl rfl rfl <| WS.noU rfl rfl rfl rfl rfl rfl <| WS.noU rfl rfl rfl rfl rfl rfl <| WS.noU rfl rfl rfl rfl rfl rfl <| snV rfl rfl <| sV rfl (oT rfl rfl) ?_
      refine WS.nil <| Tr.condT rfl <| Tr.seq <| Tr.region rfl <| cV rfl (oA rfl) <| WL.nil <| Tr.ret ?_
      have hu : r8bad f.types st x y = true := by (try clear hvx); simp_all [r8bad]
      have hsum : r8sets f.types set l want = (false, st) := by simp [r8sets, hlen, hI1, hd, hdw, r8setsGo, hu]
      rw [hsum]
      exact ret_ok rfl rfl (fun _ _ h => h)
    refine syV rfl rfl (oM rfl) <| syV rfl rfl (oM rfl) <| syV rfl rfl (ok_index_seq rfl rfl rfl Tryz.underlying35 hw tS3 rfl (by rfl)) <| syV rfl rfl (oLe Tryz.underlying3 rfl rfl) <| syV rfl rfl (oB rfl rfl rfl) <| syV rfl rfl (oM rfl) ?_
    refine WS.split (t := 55) rfl (fun hb55 => ?_) (fun hb55 => ?_)
    · refine syV rfl rfl (oM rfl) <| syV rfl rfl (ok_nilCheck rfl rfl rfl) <| syV rfl rfl (oFp rfl rfl tF85_1) <| syV rfl rfl (oFp rfl rfl tF51_3) <| syV rfl rfl (oLb Tryz.underlying35 rfl rfl rfl trivial) <| syV rfl rfl (oM rfl) <| syV rfl rfl (oM rfl) <| syV rfl rfl (ok_index_seq rfl rfl rfl Tryz.underlying35 hi tS3 rfl (by rfl)) <| syV rfl rfl (oLe Tryz.underlying3 rfl rfl) <| syV rfl rfl (ok_index_seq rfl rfl rfl Tryz.underlying35 hty tS3 rfl (by omega)) <| syV rfl rfl (oLe Tryz.underlying3 rfl rfl) <| syV rfl rfl (oM rfl) ?_
      refine syV rfl rfl (oM rfl) <| syV rfl rfl (ok_index_seq rfl rfl rfl Tryz.underlying35 hw tS3 rfl (by rfl)) <| syV rfl rfl (oLe Tryz.underlying3 rfl rfl) <| syV rfl rfl (oB rfl rfl rfl) <| syV rfl rfl (oT rfl rfl) <| sV rfl (oF rfl rfl) <| WS.nil ?_
      refine Tr.cond rfl (fun hc73 => ?_) (fun hc73 => ?_)
      · refine Tr.seq <| Tr.region rfl <| cV rfl (oA rfl) <| WL.nil <| Tr.ret ?_
        have hu : r8bad f.types st x y = true := by (try clear hvx); simp_all [r8bad]
        have hsum : r8sets f.types set l want = (false, st) := by simp [r8sets, hlen, hI1, hd, hdw, r8setsGo, hu]
        rw [hsum]
        exact ret_ok rfl rfl (fun _ _ h => h)
      refine Tr.skip <| Tr.drawn mixed (fun k => k ∈ ([3] : List Nat)) <| WA.run (fuel := 1) [0, 1, 2, 3, 4, 5, 6, 7, 8] (by kernel_rfl) (fun _ _ _ h => h) (by kernel_rfl) <| rV rfl rfl (oM rfl) <| rV rfl rfl (ok_nilCheck rfl rfl rfl) <| rV rfl rfl (oFp rfl rfl tF85_2) <| rV rfl rfl (oLb Tryz.underlying83 rfl rfl rfl (by decide)) <| rV rfl rfl (oM rfl) <| rV rfl rfl (oM rfl) <| rV rfl rfl (ok_index_seq rfl rfl rfl Tryz.underlying35 hi tS3 rfl (by rfl)) <| rV rfl rfl (oLe Tryz.underlying3 rfl rfl) <| rV rfl rfl (ok_index_row rfl rfl rfl rfl rfl Tryz.underlying83 tS4 (by assumption) (by omega)) ?_
      refine WR.nil <| WA.one (i := 9) (by kernel_rfl) ?_
      refine WI.op rfl rfl rfl (by intro t h; cases h <;> rfl) (fun k (h : _) => by (simp at h ⊢; omega)) (new_old rfl) (fun ρ w => (ok_store_row rfl rfl rfl rfl rfl (Nat.add_zero _).symm (by assumption) (by simp) tS4 rfl (by simp))) ?_
      refine WA.done (by kernel_rfl) <| Tr.region rfl <| cV rfl (oM rfl) <| cV rfl (oB rfl rfl (i64_add rfl (by omega))) <| cV rfl (oA rfl) <| WL.nil ?_
      refine ⟨_, _, ?_, Sub.of (fr' := [(7, iInt (k + 1)), (0, .ptr 3 0), (1, .pv (ints l)), (2, .pv (ints want))]) ⟨rfl, rfl, rfl, rfl, trivial⟩, (k + 1), (st.set x.toNat true), ?_, ?_, ?_, rfl, (funext ckHp_set), rfl⟩
      · omega
      · omega
      · rw [hI1, hd, hdw]
        have hu : r8bad f.types st x y = false := by (try clear hvx); simp_all [r8bad]
        simp [r8setsGo, hu]
      simpa using hI2
    refine snV rfl rfl <| snV rfl rfl <| snV rfl rfl <| snV rfl rfl <| snV rfl rfl <| snV rfl rfl <| snV rfl rfl <| snV rfl rfl <| snV rfl rfl <| snV rfl rfl <| snV rfl rfl <| snV rfl rfl ?_
    refine snV rfl rfl <| snV rfl rfl <| snV rfl rfl <| snV rfl rfl <| syV rfl rfl (oF rfl rfl) <| sV rfl (oF rfl rfl) <| WS.nil <| Tr.condF rfl <| Tr.skip <| Tr.drawn mixed (fun k => k ∈ ([3] : List Nat)) <| WA.run (fuel := 1) [0, 1, 2, 3, 4, 5, 6, 7, 8] (by kernel_rfl) (fun _ _ _ h => h) (by kernel_rfl) <| rV rfl rfl (oM rfl) ?_
    refine rV rfl rfl (ok_nilCheck rfl rfl rfl) <| rV rfl rfl (oFp rfl rfl tF85_2) <| rV rfl rfl (oLb Tryz.underlying83 rfl rfl rfl (by decide)) <| rV rfl rfl (oM rfl) <| rV rfl rfl (oM rfl) <| rV rfl rfl (ok_index_seq rfl rfl rfl Tryz.underlying35 hi tS3 rfl (by rfl)) <| rV rfl rfl (oLe Tryz.underlying3 rfl rfl) <| rV rfl rfl (ok_index_row rfl rfl rfl rfl rfl Tryz.underlying83 tS4 (by assumption) (by omega)) <| WR.nil <| WA.one (i := 9) (by kernel_rfl) ?_
    refine WI.op rfl rfl rfl (by intro t h; cases h <;> rfl) (fun k (h : _) => by (simp at h ⊢; omega)) (new_old rfl) (fun ρ w => (ok_store_row rfl rfl rfl rfl rfl (Nat.add_zero _).symm (by assumption) (by simp) tS4 rfl (by simp))) ?_
    refine WA.done (by kernel_rfl) <| Tr.region rfl <| cV rfl (oM rfl) <| cV rfl (oB rfl rfl (i64_add rfl (by omega))) <| cV rfl (oA rfl) <| WL.nil ?_
    refine ⟨_, _, ?_, Sub.of (fr' := [(7, iInt (k + 1)), (0, .ptr 3 0), (1, .pv (ints l)), (2, .pv (ints want))]) ⟨rfl, rfl, rfl, rfl, trivial⟩, (k + 1), (st.set x.toNat true), ?_, ?_, ?_, rfl, (funext ckHp_set), rfl⟩
    · omega
    · omega
    · rw [hI1, hd, hdw]
      have hu : r8bad f.types st x y = false := by (try clear hvx); simp_all [r8bad]
      simp [r8setsGo, hu]
    simpa using hI2
  refine Tr.exit <| Tr.seq <| Tr.region rfl <| cV rfl (oA rfl) <| WL.nil <| Tr.ret ?_
  have hge : l.length ≤ k := by simpa using hc16
  have hsum : r8sets f.types set l want = (true, st) := by simp [r8sets, hlen, hI1, List.drop_eq_nil_of_le hge, r8setsGo]
  rw [hsum]
  exact ret_ok rfl rfl (fun _ _ h => h)
def r1IsOne (op : Int) : Bool := decide (op ≥ 20) && decide (op ≤ 28)
def r1IsTwo (op : Int) : Bool := decide (op ≥ 1) && decide (op ≤ 17)
def r5Operand (op : Int) : Int × Int :=
  if op == 18 || op == 19 || op == 22 then (2, 2) else if op == 16 || op == 17 then (0, 2)
  else if decide (op ≥ 12) && decide (op ≤ 15) then (1, 2) else (1, 1)
def r8ofGo (tys acc : List Int) : List Int → List Int
  | [] => acc
  | v :: r => if r8inr tys v then r8ofGo tys (acc ++ [tys.getD v.toNat 0]) r else []
theorem r8ofGo_eq (tys : List Int) : ∀ (l acc : List Int), r8ofGo tys acc l = if l.all (r8inr tys) then acc ++ l.map (fun v => tys.getD v.toNat 0) else []
  | [], acc => by simp [r8ofGo]
  | v :: r, acc => by
    simp only [r8ofGo, List.all_cons, List.map_cons]
    cases h : r8inr tys v <;> simp [r8ofGo_eq tys r]
theorem r8of_eq (tys l : List Int) : r8of tys l = r8ofGo tys [] l := by rw [r8ofGo_eq]; simp [r8of]
set_option maxRecDepth 8000 in
theorem sc_r1IsOne (op : Int) : SC Tryz.prog 107 [iInt op] [] (fun _ => False) (iBool (r1IsOne op)) [] := by
  refine SC.of Tryz.func107 rfl (lb rfl) fun F ρ w => ?_
  refine Tr.seq <| Tr.region rfl <| cV rfl (oA rfl) <| WL.nil <| Tr.seq <| Tr.region rfl <| cV rfl (oM rfl) <| cV rfl (oB rfl rfl rfl) <| cV rfl (oM rfl) ?_
  refine WL.split (t := 5) rfl (fun hb5 => ?_) (fun hb5 => ?_)
  · refine yV rfl rfl (oM rfl) <| yV rfl rfl (oB rfl rfl rfl) <| cV rfl (oT rfl rfl) <| cV rfl (oA rfl) <| WL.nil <| Tr.ret ?_
    refine ret_ok rfl ?_ no_post
    first | (simp_all [r1IsOne]; done) | (simp_all [r1IsOne]; omega)
  refine nV rfl rfl <| nV rfl rfl <| cV rfl (oF rfl rfl) <| cV rfl (oA rfl) <| WL.nil <| Tr.ret ?_
  refine ret_ok rfl ?_ no_post
  first | (simp_all [r1IsOne]; done) | (simp_all [r1IsOne]; omega)
set_option maxRecDepth 8000 in
theorem sc_r1IsTwo (op : Int) : SC Tryz.prog 108 [iInt op] [] (fun _ => False) (iBool (r1IsTwo op)) [] := by
  refine SC.of Tryz.func108 rfl (lb rfl) fun F ρ w => ?_
  refine Tr.seq <| Tr.region rfl <| cV rfl (oA rfl) <| WL.nil <| Tr.seq <| Tr.region rfl <| cV rfl (oM rfl) <| cV rfl (oB rfl rfl rfl) <| cV rfl (oM rfl) ?_
  refine WL.split (t := 5) rfl (fun hb5 => ?_) (fun hb5 => ?_)
  · refine yV rfl rfl (oM rfl) <| yV rfl rfl (oB rfl rfl rfl) <| cV rfl (oT rfl rfl) <| cV rfl (oA rfl) <| WL.nil <| Tr.ret ?_
    refine ret_ok rfl ?_ no_post
    first | (simp_all [r1IsTwo]; done) | (simp_all [r1IsTwo]; omega)
  refine nV rfl rfl <| nV rfl rfl <| cV rfl (oF rfl rfl) <| cV rfl (oA rfl) <| WL.nil <| Tr.ret ?_
  refine ret_ok rfl ?_ no_post
  first | (simp_all [r1IsTwo]; done) | (simp_all [r1IsTwo]; omega)
set_option maxRecDepth 8000 in
theorem sc_r5Operand (op : Int) : SC Tryz.prog 106 [iInt op] [] (fun _ => False) (.tup [iInt (r5Operand op).1, iInt (r5Operand op).2]) [] := by
  refine SC.of Tryz.func106 rfl (lb rfl) fun F ρ w => ?_
  refine Tr.seq <| Tr.region rfl <| cV rfl (oA rfl) <| cV rfl (oA rfl) <| WL.nil <| Tr.seq <| Tr.block <| Tr.seq <| Tr.region rfl <| cV rfl (oM rfl) <| cV rfl (oB rfl rfl rfl) <| cV rfl (oM rfl) ?_
  refine WL.split (t := 7) rfl (fun hb7 => ?_) (fun hb7 => ?_)
  · refine nV rfl rfl <| nV rfl rfl <| cV rfl (oT rfl rfl) <| cV rfl (oM rfl) <| nV rfl rfl <| nV rfl rfl <| cV rfl (oT rfl rfl) <| cV rfl (oA rfl) <| WL.nil <| Tr.condT rfl <| Tr.seq <| Tr.region rfl ?_
    refine cV rfl (oA rfl) <| cV rfl (oA rfl) <| WL.nil <| Tr.ret ?_
    refine ret_ok rfl ?_ no_post
    first | (simp_all [r5Operand]; done) | (simp_all [r5Operand]; split <;> first | omega | (simp; done))
  refine yV rfl rfl (oM rfl) <| yV rfl rfl (oB rfl rfl rfl) <| cV rfl (oF rfl rfl) <| cV rfl (oM rfl) ?_
  refine WL.split (t := 11) rfl (fun hb11 => ?_) (fun hb11 => ?_)
  · refine nV rfl rfl <| nV rfl rfl <| cV rfl (oT rfl rfl) <| cV rfl (oA rfl) <| WL.nil <| Tr.condT rfl <| Tr.seq <| Tr.region rfl <| cV rfl (oA rfl) <| cV rfl (oA rfl) <| WL.nil <| Tr.ret ?_
    refine ret_ok rfl ?_ no_post
    first | (simp_all [r5Operand]; done) | (simp_all [r5Operand]; split <;> first | omega | (simp; done))
  refine yV rfl rfl (oM rfl) <| yV rfl rfl (oB rfl rfl rfl) <| cV rfl (oF rfl rfl) <| cV rfl (oA rfl) <| WL.nil ?_
  refine Tr.cond rfl (fun hc4 => ?_) (fun hc4 => ?_)
  · refine Tr.seq <| Tr.region rfl <| cV rfl (oA rfl) <| cV rfl (oA rfl) <| WL.nil <| Tr.ret ?_
    refine ret_ok rfl ?_ no_post
    first | (simp_all [r5Operand]; done) | (simp_all [r5Operand]; split <;> first | omega | (simp; done))
  refine Tr.seq <| Tr.region rfl <| cV rfl (oM rfl) <| cV rfl (oB rfl rfl rfl) <| cV rfl (oM rfl) ?_
  refine WL.split (t := 18) rfl (fun hb18 => ?_) (fun hb18 => ?_)
  · refine nV rfl rfl <| nV rfl rfl <| cV rfl (oT rfl rfl) <| cV rfl (oA rfl) <| WL.nil <| Tr.condT rfl <| Tr.seq <| Tr.region rfl <| cV rfl (oA rfl) <| cV rfl (oA rfl) <| WL.nil <| Tr.ret ?_
    refine ret_ok rfl ?_ no_post
    first | (simp_all [r5Operand]; done) | (simp_all [r5Operand]; split <;> first | omega | (simp; done))
  refine yV rfl rfl (oM rfl) <| yV rfl rfl (oB rfl rfl rfl) <| cV rfl (oF rfl rfl) <| cV rfl (oA rfl) <| WL.nil ?_
  refine Tr.cond rfl (fun hc15 => ?_) (fun hc15 => ?_)
  · refine Tr.seq <| Tr.region rfl <| cV rfl (oA rfl) <| cV rfl (oA rfl) <| WL.nil <| Tr.ret ?_
    refine ret_ok rfl ?_ no_post
    first | (simp_all [r5Operand]; done) | (simp_all [r5Operand]; split <;> first | omega | (simp; done))
  refine Tr.seq <| Tr.region rfl <| cV rfl (oM rfl) <| cV rfl (oB rfl rfl rfl) <| cV rfl (oM rfl) ?_
  refine WL.split (t := 25) rfl (fun hb25 => ?_) (fun hb25 => ?_)
  · refine yV rfl rfl (oM rfl) <| yV rfl rfl (oB rfl rfl rfl) <| cV rfl (oT rfl rfl) <| cV rfl (oA rfl) <| WL.nil ?_
    refine Tr.cond rfl (fun hc22 => ?_) (fun hc22 => ?_)
    · refine Tr.seq <| Tr.region rfl <| cV rfl (oA rfl) <| cV rfl (oA rfl) <| WL.nil <| Tr.ret ?_
      refine ret_ok rfl ?_ no_post
      first | (simp_all [r5Operand]; done) | (simp_all [r5Operand]; split <;> first | omega | (simp; done))
    refine Tr.skip <| Tr.seq <| Tr.region rfl <| cV rfl (oA rfl) <| cV rfl (oA rfl) <| WL.nil <| Tr.ret ?_
    refine ret_ok rfl ?_ no_post
    first | (simp_all [r5Operand]; done) | (simp_all [r5Operand]; split <;> first | omega | (simp; done))
  refine nV rfl rfl <| nV rfl rfl <| cV rfl (oF rfl rfl) <| cV rfl (oA rfl) <| WL.nil <| Tr.condF rfl <| Tr.skip <| Tr.seq <| Tr.region rfl <| cV rfl (oA rfl) <| cV rfl (oA rfl) <| WL.nil ?_
  refine Tr.ret ?_
  refine ret_ok rfl ?_ no_post
  first | (simp_all [r5Operand]; done) | (simp_all [r5Operand]; split <;> first | omega | (simp; done))
set_option maxRecDepth 8000 in
theorem sc_r8of (u : Un) (f : Fl) (set : List Bool) (l : List Int) (hb : l.length ≤ 1073741824) : SC Tryz.prog 91 [.ptr 3 0, .pv (ints l)] (ckHp u f 4 set) (fun k => k < 100) (.pv (ints (r8of f.types l))) (ckHp u f 4 set) := by
  refine SC.of Tryz.func91 rfl (lb rfl) fun F ρ w => ?_
  refine Tr.lenOf (t := 1) rfl (fun hl => ?_)
  simp only [List.length_map] at hl
  rw [r8of_eq]
  refine Tr.seq <| Tr.region rfl <| cV rfl (oA rfl) <| WL.nil <| Tr.seq <| Tr.region rfl <| cV rfl (oA rfl) <| WL.nil <| Tr.seq <| Tr.seq <| Tr.region rfl <| cV rfl (oA rfl) ?_
  refine WL.nil <| Tr.block <| Tr.grow (t := 5) (k := 105) ⟨3, 1⟩ rfl rfl rfl rfl rfl <| Tr.sub (Sub.of (fr' := [(6, iInt 0), (5, .sl 105 0), (0, .ptr 3 0), (1, .pv (ints l))]) ⟨rfl, rfl, rfl, rfl, trivial⟩) ?_
  refine Tr.loop (fun fr σ m => ∃ (k : Nat) (st : List Int), (k ≤ l.length) ∧ (st.length = k) ∧ (r8ofGo f.types [] l = r8ofGo f.types st (l.drop k)) ∧ fr = [(6, iInt k), (5, .sl 105 k), (0, .ptr 3 0), (1, .pv (ints l))] ∧ σ = look ((105, some (.row ⟨3, 1⟩ (st.map eInt))) :: up (ckHp u f 4 set)) ∧ m = l.length - k) (n := l.length - 0) ?_ ?_
  · exact ⟨0, [], Nat.zero_le _, rfl, rfl, rfl, rfl, rfl⟩
  rintro fr σ m ⟨k, st, hI0, hI1, hI2, rfl, rfl, rfl⟩
  refine Tr.seq <| Tr.seq <| Tr.region rfl <| cV rfl (oM rfl) <| cV rfl (oM rfl) <| cV rfl (oSm Tryz.underlying35 rfl) <| cV rfl (oB rfl rfl rfl) <| WL.nil ?_
  refine Tr.cond rfl (fun hc10 => ?_) (fun hc10 => ?_)
  · have hlt : k < l.length := by simpa using hc10
    have hd := List.drop_eq_getElem_cons hlt
    have hm := List.getElem_mem hlt
    have hi := map_get (f := eInt) (List.getElem?_eq_getElem hlt)
    generalize l[k] = x at hd hm hi
    refine Tr.skip <| Tr.seq <| Tr.block <| Tr.seq <| Tr.seq <| Tr.still mixed (by kernel_rfl) rfl <| sV rfl (oM rfl) <| sV rfl (oM rfl) <| sV rfl (ok_index_seq rfl rfl rfl Tryz.underlying35 hi tS3 rfl (by rfl)) <| sV rfl (oLe Tryz.underlying3 rfl rfl) <| sV rfl (oB rfl rfl rfl) <| sV rfl (oM rfl) ?_
    refine WS.split (t := 18) rfl (fun hb18 => ?_) (fun hb18 => ?_)
    · refine snV rfl rfl <| snV rfl rfl <| snV rfl rfl <| snV rfl rfl <| snV rfl rfl <| snV rfl rfl <| snV rfl rfl <| snV rfl rfl <| snV rfl rfl <| snV rfl rfl <| snV rfl rfl <| sV rfl (oT rfl rfl) ?_
      refine WS.nil <| Tr.condT rfl <| Tr.seq <| Tr.region rfl <| cV rfl (oA rfl) <| WL.nil <| Tr.ret ?_
      have hin : r8inr f.types x = false := by simp [r8inr] at *; omega
      rw [hI2, hd]
      simp only [r8ofGo, hin]
      exact ⟨⟨_, rfl, fun _ _ _ _ h => sub_nil h⟩, (po2 rfl rfl)⟩
    refine syV rfl rfl (oM rfl) <| syV rfl rfl (oM rfl) <| syV rfl rfl (ok_index_seq rfl rfl rfl Tryz.underlying35 hi tS3 rfl (by rfl)) <| syV rfl rfl (oLe Tryz.underlying3 rfl rfl) <| syV rfl rfl (oM rfl) <| syV rfl rfl (ok_nilCheck rfl rfl rfl) <| syV rfl rfl (oFp rfl rfl tF85_1) <| syV rfl rfl (oFp rfl rfl tF51_3) <| syV rfl rfl (oLb Tryz.underlying35 rfl rfl rfl trivial) <| syV rfl rfl (oSm Tryz.underlying35 rfl) <| syV rfl rfl (oB rfl rfl rfl) <| sV rfl (oF rfl rfl) ?_
    refine WS.nil ?_
    refine Tr.cond rfl (fun hc30 => ?_) (fun hc30 => ?_)
    · refine Tr.seq <| Tr.region rfl <| cV rfl (oA rfl) <| WL.nil <| Tr.ret ?_
      have hin : r8inr f.types x = false := by simp [r8inr] at *; omega
      rw [hI2, hd]
      simp only [r8ofGo, hin]
      exact ⟨⟨_, rfl, fun _ _ _ _ h => sub_nil h⟩, (po2 rfl rfl)⟩
    have hv0 : x.toNat < f.types.length := by simp at *; omega
    have hvx : x = ((x.toNat : Nat) : Int) := by simp at *; omega
    have hin : r8inr f.types x = true := by simp [r8inr]; omega
    have hty : (f.types.map eInt)[x.toNat]? = some [vInt (f.types.getD x.toNat 0)] := by rw [List.getElem?_map]; simp [eInt, List.getD, hv0]
    refine Tr.skip <| Tr.drawn mixed (fun k => k < 100) <| WA.run (fuel := 3) [0, 1, 2, 3, 4, 5, 6, 7, 8, 9, 10, 11] (by kernel_rfl) (fun _ _ _ h => h) (by kernel_rfl) <| rV rfl rfl (oM rfl) <| rV rfl rfl (oM rfl) <| rV rfl rfl (ok_nilCheck rfl rfl rfl) <| rV rfl rfl (oFp rfl rfl tF85_1) <| rV rfl rfl (oFp rfl rfl tF51_3) <| rV rfl rfl (oLb Tryz.underlying35 rfl rfl rfl (by decide)) <| rV rfl rfl (oM rfl) <| rV rfl rfl (oM rfl) <| rV rfl rfl (ok_index_seq rfl rfl rfl Tryz.underlying35 (by assumption) tS3 rfl (by rfl)) ?_
    refine rV rfl rfl (oLe Tryz.underlying3 rfl rfl) <| rV rfl rfl (ok_index_seq rfl rfl rfl Tryz.underlying35 hty tS3 rfl (by omega)) <| rV rfl rfl (oLe Tryz.underlying3 rfl rfl) <| WR.nil <| WA.one (i := 12) (by kernel_rfl) <| WI.op rfl rfl rfl (by intro t h; cases h <;> rfl) (fun k (h : _) => h) (fun _ h1 h2 => absurd h1 h2) (fun ρ w => ok_buildSlice rfl rfl Tryz.underlying35 tZ3 tS3 rfl rfl rfl rfl (firmB_ok rfl) rfl) <| WA.one (i := 13) (by kernel_rfl) ?_
    refine WI.op rfl rfl rfl (by intro t h; cases h <;> rfl) (fun k (h : _) => h) (new_old rfl) (fun ρ w => ok_append rfl rfl rfl rfl (by (simp; omega)) (by simp) Tryz.underlying35 tB3 (by decide) (by simp [chunks]) (by (simp [chunks, PV.one]; rfl)) (by simp [maxLen, chunks]; omega) (by simp [chunks]; omega)) ?_
    refine WA.run (fuel := 0) [14] (by kernel_rfl) (fun _ _ _ h => h) (by kernel_rfl) <| rV rfl rfl (oA rfl) <| WR.nil <| WA.done (by kernel_rfl) <| Tr.region rfl <| cV rfl (oM rfl) <| cV rfl (oB rfl rfl (i64_add rfl (by omega))) <| cV rfl (oA rfl) <| WL.nil ?_
    refine ⟨_, _, ?_, Sub.of (fr' := [(6, iInt (k + 1)), (5, .sl 105 (k + 1)), (0, .ptr 3 0), (1, .pv (ints l))]) ⟨rfl, rfl, rfl, rfl, trivial⟩, (k + 1), (st ++ [f.types.getD x.toNat 0]), ?_, ?_, ?_, rfl, look_row_snoc, rfl⟩
    · omega
    · omega
    · simp [hI1]
    rw [hI2, hd]
    simp [r8ofGo, hin]
  refine Tr.exit <| Tr.seq ?_
  refine Tr.freeze (t := 5) (k := 105) rfl rfl (by simpa using hI1) ?_
  refine Tr.region rfl <| cV rfl (oM rfl) <| cV rfl (oA rfl) <| WL.nil <| Tr.ret ?_
  refine ret_ok rfl ?_ (po2 rfl rfl)
  have hge : l.length ≤ k := by simpa using hc10
  rw [hI2, List.drop_eq_nil_of_le hge]
  rfl
def andS (b : Bool) (set : List Bool) (r : Bool × List Bool) : Bool × List Bool := if b then r else (false, set)
def r8call (u : Un) (f : Fl) (set : List Bool) (x : Nd) (seen : List Int) : Bool × List Bool :=
  if decide (r8Place x.name u.flows 0 ≥ 0) = true then
    match u.flows[(r8Place x.name u.flows 0).toNat]? with
    | some g => andS (r8types f.types seen x.args (g.types.take g.params.toNat)) set (r8sets f.types set x.outs [g.ty])
    | none => (false, set)
  else (false, set)
def r8simple (u : Un) (f : Fl) (set : List Bool) (x : Nd) (seen : List Int) (w : Wh) : Bool × List Bool :=
  if x.kind == 1 then andS (r8types f.types seen x.args []) set (r8sets f.types set x.outs [1])
  else if x.kind == 2 then andS ((x.n == 0 || x.n == 1) && r8types f.types seen x.args []) set (r8sets f.types set x.outs [2])
  else if x.kind == 3 then andS (r1IsOne x.op && r8types f.types seen x.args [(r5Operand x.op).1]) set (r8sets f.types set x.outs [(r5Operand x.op).2])
  else if x.kind == 4 then andS (r1IsTwo x.op && r8types f.types seen x.args [(r5Operand x.op).1, (r5Operand x.op).1] && f.types.getD (x.args.getD 0 0).toNat 0 == f.types.getD (x.args.getD 1 0).toNat 0) set (r8sets f.types set x.outs [(r5Operand x.op).2])
  else if x.kind == 5 then andS (decide (r8Array x.name u.arrays 0 ≥ 0) && r8types f.types seen x.args [1]) set (r8sets f.types set x.outs [1])
  else if x.kind == 6 then (decide (r8Array x.name u.arrays 0 ≥ 0) && r8types f.types seen x.args [1, 1] && (x.outs.length : Int) == 0, set)
  else if x.kind == 7 then r8call u f set x seen
  else if x.kind == 8 then andS ((x.args.length : Int) == 0) set (r8sets f.types set x.outs [1])
  else if x.kind == 9 then (r8types f.types seen x.args [1] && (x.outs.length : Int) == 0, set)
  else if x.kind == 12 then (w.If && r8types f.types seen x.args w.Yield && (x.outs.length : Int) == 0, set)
  else if x.kind == 13 then (w.Loop && r8types f.types seen x.args w.Next && (x.outs.length : Int) == 0, set)
  else if x.kind == 14 then (w.Loop && r8types f.types seen x.args w.Left && (x.outs.length : Int) == 0, set)
  else if x.kind == 15 then (r8types f.types seen x.args [f.ty] && (x.outs.length : Int) == 0, set)
  else (false, set)
theorem r8Place_some (name : ByteArray) : ∀ (l : List Fl) (i : Int), r8Place name l i ≠ -1 → i ≥ 0 → i ≤ r8Place name l i ∧ ∃ g, l[(r8Place name l i - i).toNat]? = some g ∧ eqS g.name name = true
  | [], i, h, _ => absurd rfl h
  | g :: r, i, h, h0 => by
    simp only [r8Place] at h ⊢
    split
    · rename_i hq
      exact ⟨Int.le_refl _, g, by simp, hq⟩
    rename_i hq
    rw [if_neg hq] at h
    obtain ⟨h1, g', h2, h3⟩ := r8Place_some name r (i + 1) h (by omega)
    refine ⟨by omega, g', ?_, h3⟩
    rw [show (r8Place name r (i + 1) - i).toNat = (r8Place name r (i + 1) - (i + 1)).toNat + 1 by omega]
    simpa using h2
theorem r8Place_at {name : ByteArray} {l : List Fl} (h : r8Place name l 0 ≥ 0) : ∃ g, l[(r8Place name l 0).toNat]? = some g ∧ eqS g.name name = true := by
  obtain ⟨_, g, h2, h3⟩ := r8Place_some name l 0 (by omega) (by omega)
  exact ⟨g, by simpa using h2, h3⟩
theorem r8use_range {tys seen : List Int} {v w : Int} (h : r8use tys seen v w = true) : 0 ≤ v ∧ v.toNat < tys.length := by
  simp [r8use] at h
  omega
theorem r8types_two {tys seen l : List Int} {t1 t2 : Int} (h : r8types tys seen l [t1, t2] = true) : ∃ a b, l = [a, b] ∧ 0 ≤ a ∧ a.toNat < tys.length ∧ 0 ≤ b ∧ b.toNat < tys.length := by
  match l with
  | [] => simp [r8types] at h
  | [a] => simp [r8types] at h
  | [a, b] =>
    simp [r8types, r8typesGo] at h
    have h1 := r8use_range h.1
    have h2 := r8use_range h.2
    exact ⟨a, b, rfl, h1.1, h1.2, h2.1, h2.2⟩
  | a :: b :: c :: r => simp [r8types] at h; omega
set_option maxRecDepth 8000 in
theorem sc_r8simple (u : Un) (f : Fl) (set : List Bool) (hs : set.length = f.types.length) (hg : ∀ g ∈ u.flows, 0 ≤ g.params ∧ g.params ≤ g.types.length) (x : Nd) (seen : List Int) (wh : Wh) : SC Tryz.prog 94 [.ptr 3 0, .pv (ndv x), .pv (ints seen), .pv (whv wh)] (ckHp u f 4 set) (fun k => k = 3) (iBool (r8simple u f set x seen wh).1) (ckHp u f 4 (r8simple u f set x seen wh).2) := by
  refine SC.of Tryz.func94 rfl (lb rfl) fun F ρ w => ?_
  refine Tr.seq <| Tr.region rfl <| WL.cons rfl rfl rfl (ok_box rfl rfl) <| WL.cons rfl rfl rfl (ok_box rfl rfl) <| cV rfl (oA rfl) <| WL.nil <| Tr.seq <| Tr.region rfl <| WL.cons rfl rfl rfl (ok_buildSlice rfl rfl Tryz.underlying35 tZ3 tS3 rfl rfl rfl rfl (firmB_ok rfl) rfl) <| WL.cons rfl rfl rfl (ok_buildSlice rfl rfl Tryz.underlying35 tZ3 tS3 rfl rfl rfl rfl (firmB_ok rfl) rfl) <| cV rfl (oA rfl) <| cV rfl (oA rfl) ?_
  refine WL.nil <| Tr.seq <| Tr.seq <| Tr.region rfl <| cV rfl (oFe rfl tF42_0) <| cV rfl (oLe Tryz.underlying3 rfl rfl) <| WL.nil <| Tr.block <| Tr.seq <| Tr.region rfl <| cV rfl (oB rfl rfl rfl) <| cV rfl (oA rfl) ?_
  refine WL.nil ?_
  refine Tr.cond rfl (fun hc20 => ?_) (fun hc20 => ?_)
  · refine Tr.seq <| Tr.region rfl <| cV rfl (oM rfl) <| cV rfl (oFe rfl tF42_4) <| cV rfl (oLe Tryz.underlying35 rfl rfl) <| cV rfl (oM rfl) <| WL.cons rfl rfl rfl (ok_call (sc_r8types u f set x.args seen []) ent92 rfl rfl (Subs.same rfl (Subs.same rfl (Subs.same rfl (Subs.cons (fun _ _ _ _ h => sub_nil h) Subs.nil)))) (po2 rfl rfl) rfl (fun _ _ => trivial) rfl rfl) <| cV rfl (oM rfl) ?_
    refine WL.split (t := 27) rfl (fun hb27 => ?_) (fun hb27 => ?_)
    · refine yV rfl rfl (oM rfl) <| yV rfl rfl (oFe rfl tF42_5) <| yV rfl rfl (oLe Tryz.underlying35 rfl rfl) <| yV rfl rfl (oM rfl) <| WL.yes rfl rfl rfl rfl rfl rfl (ok_call (sc_r8sets u f set x.outs [1] hs) ent93 rfl rfl (Subs.refl _ _) (po2 rfl rfl) rfl (fun k (h : _) => h) rfl rfl) <| cV rfl (oT rfl rfl) <| cV rfl (oA rfl) <| WL.nil <| Tr.ret ?_
      (have h2 : (r8simple u f set x seen wh).2 = (r8sets f.types set x.outs [1]).2 := (by (try clear hkn hgp); simp_all [r8simple, andS, r8call]; done)
       rw [h2]
       refine ret_ok rfl ?_ (po2 rfl rfl)
       clear h2
       try (clear hkn hgp)
       simp_all [r8simple, andS, r8call]
       done)
    refine nV rfl rfl <| nV rfl rfl <| nV rfl rfl <| nV rfl rfl <| nV rfl rfl <| cV rfl (oF rfl rfl) <| cV rfl (oA rfl) <| WL.nil <| Tr.ret ?_
    (have h2 : (r8simple u f set x seen wh).2 = set := (by (try clear hkn hgp); simp_all [r8simple, andS, r8call]; done)
     rw [h2]
     refine ret_ok rfl ?_ (po2 rfl rfl)
     clear h2
     try (clear hkn hgp)
     simp_all [r8simple, andS, r8call]
     done)
  refine Tr.seq <| Tr.region rfl <| cV rfl (oB rfl rfl rfl) <| cV rfl (oA rfl) <| WL.nil ?_
  refine Tr.cond rfl (fun hc34 => ?_) (fun hc34 => ?_)
  · refine Tr.seq <| Tr.region rfl <| cV rfl (oFe rfl tF42_2) <| cV rfl (oLe Tryz.underlying3 rfl rfl) <| cV rfl (oB rfl rfl rfl) <| cV rfl (oM rfl) ?_
    refine WL.split (t := 39) rfl (fun hb39 => ?_) (fun hb39 => ?_)
    · refine nV rfl rfl <| nV rfl rfl <| nV rfl rfl <| cV rfl (oT rfl rfl) <| cV rfl (oM rfl) <| yV rfl rfl (oM rfl) <| yV rfl rfl (oFe rfl tF42_4) <| yV rfl rfl (oLe Tryz.underlying35 rfl rfl) <| yV rfl rfl (oM rfl) <| WL.yes rfl rfl rfl rfl rfl rfl (ok_call (sc_r8types u f set x.args seen []) ent92 rfl rfl (Subs.same rfl (Subs.same rfl (Subs.same rfl (Subs.cons (fun _ _ _ _ h => sub_nil h) Subs.nil)))) (po2 rfl rfl) rfl (fun _ _ => trivial) rfl rfl) <| cV rfl (oT rfl rfl) <| cV rfl (oM rfl) ?_
      refine WL.split (t := 51) rfl (fun hb51 => ?_) (fun hb51 => ?_)
      · refine yV rfl rfl (oM rfl) <| yV rfl rfl (oFe rfl tF42_5) <| yV rfl rfl (oLe Tryz.underlying35 rfl rfl) <| yV rfl rfl (oM rfl) <| WL.yes rfl rfl rfl rfl rfl rfl (ok_call (sc_r8sets u f set x.outs [2] hs) ent93 rfl rfl (Subs.refl _ _) (po2 rfl rfl) rfl (fun k (h : _) => h) rfl rfl) <| cV rfl (oT rfl rfl) <| cV rfl (oA rfl) <| WL.nil <| Tr.ret ?_
        (have h2 : (r8simple u f set x seen wh).2 = (r8sets f.types set x.outs [2]).2 := (by (try clear hkn hgp); simp_all [r8simple, andS, r8call]; done)
         rw [h2]
         refine ret_ok rfl ?_ (po2 rfl rfl)
         clear h2
         try (clear hkn hgp)
         simp_all [r8simple, andS, r8call]
         done)
      refine nV rfl rfl <| nV rfl rfl <| nV rfl rfl <| nV rfl rfl <| nV rfl rfl <| cV rfl (oF rfl rfl) <| cV rfl (oA rfl) <| WL.nil <| Tr.ret ?_
      (have h2 : (r8simple u f set x seen wh).2 = set := (by (try clear hkn hgp); simp_all [r8simple, andS, r8call]; done)
       rw [h2]
       refine ret_ok rfl ?_ (po2 rfl rfl)
       clear h2
       try (clear hkn hgp)
       simp_all [r8simple, andS, r8call]
       done)
    refine yV rfl rfl (oFe rfl tF42_2) <| yV rfl rfl (oLe Tryz.underlying3 rfl rfl) <| yV rfl rfl (oB rfl rfl rfl) <| cV rfl (oF rfl rfl) <| cV rfl (oM rfl) ?_
    refine WL.split (t := 44) rfl (fun hb44 => ?_) (fun hb44 => ?_)
    · refine yV rfl rfl (oM rfl) <| yV rfl rfl (oFe rfl tF42_4) <| yV rfl rfl (oLe Tryz.underlying35 rfl rfl) <| yV rfl rfl (oM rfl) <| WL.yes rfl rfl rfl rfl rfl rfl (ok_call (sc_r8types u f set x.args seen []) ent92 rfl rfl (Subs.same rfl (Subs.same rfl (Subs.same rfl (Subs.cons (fun _ _ _ _ h => sub_nil h) Subs.nil)))) (po2 rfl rfl) rfl (fun _ _ => trivial) rfl rfl) <| cV rfl (oT rfl rfl) <| cV rfl (oM rfl) ?_
      refine WL.split (t := 51) rfl (fun hb51 => ?_) (fun hb51 => ?_)
      · refine yV rfl rfl (oM rfl) <| yV rfl rfl (oFe rfl tF42_5) <| yV rfl rfl (oLe Tryz.underlying35 rfl rfl) <| yV rfl rfl (oM rfl) <| WL.yes rfl rfl rfl rfl rfl rfl (ok_call (sc_r8sets u f set x.outs [2] hs) ent93 rfl rfl (Subs.refl _ _) (po2 rfl rfl) rfl (fun k (h : _) => h) rfl rfl) <| cV rfl (oT rfl rfl) <| cV rfl (oA rfl) <| WL.nil <| Tr.ret ?_
        (have h2 : (r8simple u f set x seen wh).2 = (r8sets f.types set x.outs [2]).2 := (by (try clear hkn hgp); simp_all [r8simple, andS, r8call]; done)
         rw [h2]
         refine ret_ok rfl ?_ (po2 rfl rfl)
         clear h2
         try (clear hkn hgp)
         simp_all [r8simple, andS, r8call]
         done)
      refine nV rfl rfl <| nV rfl rfl <| nV rfl rfl <| nV rfl rfl <| nV rfl rfl <| cV rfl (oF rfl rfl) <| cV rfl (oA rfl) <| WL.nil <| Tr.ret ?_
      (have h2 : (r8simple u f set x seen wh).2 = set := (by (try clear hkn hgp); simp_all [r8simple, andS, r8call]; done)
       rw [h2]
       refine ret_ok rfl ?_ (po2 rfl rfl)
       clear h2
       try (clear hkn hgp)
       simp_all [r8simple, andS, r8call]
       done)
    refine nV rfl rfl <| nV rfl rfl <| nV rfl rfl <| nV rfl rfl <| nV rfl rfl <| cV rfl (oF rfl rfl) <| cV rfl (oM rfl) <| nV rfl rfl <| nV rfl rfl <| nV rfl rfl <| nV rfl rfl <| nV rfl rfl ?_
    refine cV rfl (oF rfl rfl) <| cV rfl (oA rfl) <| WL.nil <| Tr.ret ?_
    (have h2 : (r8simple u f set x seen wh).2 = set := (by (try clear hkn hgp); simp_all [r8simple, andS, r8call]; done)
     rw [h2]
     refine ret_ok rfl ?_ (po2 rfl rfl)
     clear h2
     try (clear hkn hgp)
     simp_all [r8simple, andS, r8call]
     done)
  refine Tr.seq <| Tr.region rfl <| cV rfl (oB rfl rfl rfl) <| cV rfl (oA rfl) <| WL.nil ?_
  refine Tr.cond rfl (fun hc58 => ?_) (fun hc58 => ?_)
  · refine Tr.seq <| Tr.region rfl <| cV rfl (oFe rfl tF42_1) <| cV rfl (oLe Tryz.underlying3 rfl rfl) <| WL.cons rfl rfl rfl (ok_callq (sc_r5Operand _) ent106 rfl rfl (Subs.refl _ _) rfl) <| cV rfl (oM rfl) <| cV rfl (ok_extract rfl rfl rfl) <| cV rfl (ok_extract rfl rfl rfl) <| cV rfl (oA rfl) <| cV rfl (oA rfl) <| WL.nil <| Tr.seq ?_
    refine Tr.region rfl <| cV rfl (oFe rfl tF42_1) <| cV rfl (oLe Tryz.underlying3 rfl rfl) <| WL.cons rfl rfl rfl (ok_callq (sc_r1IsOne _) ent107 rfl rfl (Subs.refl _ _) rfl) <| cV rfl (oM rfl) ?_
    refine WL.split (t := 69) rfl (fun hb69 => ?_) (fun hb69 => ?_)
    · refine yV rfl rfl (oM rfl) <| yV rfl rfl (oFe rfl tF42_4) <| yV rfl rfl (oLe Tryz.underlying35 rfl rfl) <| yV rfl rfl (oM rfl) <| yV rfl rfl (oM rfl) <| WL.yes rfl rfl rfl rfl rfl rfl (ok_buildSlice rfl rfl Tryz.underlying35 tZ3 tS3 rfl rfl rfl rfl (firmB_ok rfl) rfl) <| WL.yes rfl rfl rfl rfl rfl rfl (ok_call (sc_r8types u f set x.args seen [(r5Operand x.op).1]) ent92 rfl rfl (Subs.refl _ _) (po2 rfl rfl) rfl (fun _ _ => trivial) rfl rfl) <| cV rfl (oT rfl rfl) <| cV rfl (oM rfl) ?_
      refine WL.split (t := 78) rfl (fun hb78 => ?_) (fun hb78 => ?_)
      · refine yV rfl rfl (oM rfl) <| yV rfl rfl (oFe rfl tF42_5) <| yV rfl rfl (oLe Tryz.underlying35 rfl rfl) <| yV rfl rfl (oM rfl) <| WL.yes rfl rfl rfl rfl rfl rfl (ok_buildSlice rfl rfl Tryz.underlying35 tZ3 tS3 rfl rfl rfl rfl (firmB_ok rfl) rfl) <| WL.yes rfl rfl rfl rfl rfl rfl (ok_call (sc_r8sets u f set x.outs [(r5Operand x.op).2] hs) ent93 rfl rfl (Subs.refl _ _) (po2 rfl rfl) rfl (fun k (h : _) => h) rfl rfl) <| cV rfl (oT rfl rfl) <| cV rfl (oA rfl) <| WL.nil <| Tr.ret ?_
        (have h2 : (r8simple u f set x seen wh).2 = (r8sets f.types set x.outs [(r5Operand x.op).2]).2 := (by (try clear hkn hgp); simp_all [r8simple, andS, r8call]; done)
         rw [h2]
         refine ret_ok rfl ?_ (po2 rfl rfl)
         clear h2
         try (clear hkn hgp)
         simp_all [r8simple, andS, r8call]
         done)
      refine nV rfl rfl <| nV rfl rfl <| nV rfl rfl <| nV rfl rfl <| nV rfl rfl <| nV rfl rfl <| cV rfl (oF rfl rfl) <| cV rfl (oA rfl) <| WL.nil <| Tr.ret ?_
      (have h2 : (r8simple u f set x seen wh).2 = set := (by (try clear hkn hgp); simp_all [r8simple, andS, r8call]; done)
       rw [h2]
       refine ret_ok rfl ?_ (po2 rfl rfl)
       clear h2
       try (clear hkn hgp)
       simp_all [r8simple, andS, r8call]
       done)
    refine nV rfl rfl <| nV rfl rfl <| nV rfl rfl <| nV rfl rfl <| nV rfl rfl <| nV rfl rfl <| nV rfl rfl <| cV rfl (oF rfl rfl) <| cV rfl (oM rfl) <| nV rfl rfl <| nV rfl rfl <| nV rfl rfl ?_
    refine nV rfl rfl <| nV rfl rfl <| nV rfl rfl <| cV rfl (oF rfl rfl) <| cV rfl (oA rfl) <| WL.nil <| Tr.ret ?_
    (have h2 : (r8simple u f set x seen wh).2 = set := (by (try clear hkn hgp); simp_all [r8simple, andS, r8call]; done)
     rw [h2]
     refine ret_ok rfl ?_ (po2 rfl rfl)
     clear h2
     try (clear hkn hgp)
     simp_all [r8simple, andS, r8call]
     done)
  refine Tr.seq <| Tr.region rfl <| cV rfl (oB rfl rfl rfl) <| cV rfl (oA rfl) <| WL.nil ?_
  refine Tr.cond rfl (fun hc86 => ?_) (fun hc86 => ?_)
  · refine Tr.seq <| Tr.region rfl <| cV rfl (oFe rfl tF42_1) <| cV rfl (oLe Tryz.underlying3 rfl rfl) <| WL.cons rfl rfl rfl (ok_callq (sc_r5Operand _) ent106 rfl rfl (Subs.refl _ _) rfl) <| cV rfl (oM rfl) <| cV rfl (ok_extract rfl rfl rfl) <| cV rfl (ok_extract rfl rfl rfl) <| cV rfl (oA rfl) <| cV rfl (oA rfl) <| WL.nil <| Tr.seq ?_
    refine Tr.drawn mixed (fun k => k ∈ ([3] : List Nat)) <| WA.run (fuel := 45) [0, 1] (by kernel_rfl) (fun _ _ _ h => h) (by kernel_rfl) <| rV rfl rfl (oFe rfl tF42_1) <| rV rfl rfl (oLe Tryz.underlying3 rfl rfl) <| WR.nil <| WA.one (i := 2) (by kernel_rfl) <| WI.op rfl rfl rfl (by intro t h; cases h <;> rfl) (fun k (h : _) => by (simp at h ⊢; omega)) (fun _ h1 h2 => absurd h1 h2) (fun ρ w => ok_callq (sc_r1IsTwo _) ent108 rfl rfl (Subs.refl _ _) rfl) <| WA.run (fuel := 37) [3, 4, 5, 6, 7, 8, 9] (by kernel_rfl) (fun _ _ _ h => h) (by kernel_rfl) <| rV rfl rfl (oM rfl) ?_
    refine WR.split (t := 97) rfl (fun hb97 => ?_) (fun hb97 => ?_)
    · refine ryV rfl rfl rfl (oM rfl) <| ryV rfl rfl rfl (oFe rfl tF42_4) <| ryV rfl rfl rfl (oLe Tryz.underlying35 rfl rfl) <| ryV rfl rfl rfl (oM rfl) <| ryV rfl rfl rfl (oM rfl) <| ryV rfl rfl rfl (oM rfl) <| WR.nil <| WA.one (i := 10) (by kernel_rfl) <| WI.opYes rfl rfl rfl rfl rfl rfl (by intro t h; cases h <;> rfl) (fun k (h : _) => by (simp at h ⊢; omega)) (fun _ h1 h2 => absurd h1 h2) (fun ρ w => ok_buildSlice rfl rfl Tryz.underlying35 tZ3 tS3 rfl rfl rfl rfl (firmB_ok rfl) rfl) <| WA.one (i := 11) (by kernel_rfl) <| WI.opYes rfl rfl rfl rfl rfl rfl (by intro t h; cases h <;> rfl) (fun k (h : _) => by (simp at h ⊢; omega)) (new_app rfl) (fun ρ w => ok_call (sc_r8types u f set x.args seen [(r5Operand x.op).1, (r5Operand x.op).1]) ent92 rfl rfl (Subs.refl _ _) (po2 rfl rfl) rfl (fun _ _ => trivial) rfl rfl) <| WA.run (fuel := 4) [12, 13, 14, 15, 16, 17, 18, 19, 20, 21, 22, 23, 24, 25, 26, 27, 28, 29, 30, 31, 32, 33, 34, 35, 36, 37, 38, 39, 40, 41, 42] (by kernel_rfl) (fun _ _ _ h => h) (by kernel_rfl) ?_
      refine rV rfl rfl (oT rfl rfl) <| rV rfl rfl (oM rfl) ?_
      refine WR.split (t := 107) rfl (fun hb107 => ?_) (fun hb107 => ?_)
      · obtain ⟨a, b, hab, ha0, hal, hb0, hbl⟩ := r8types_two (by simpa using hb107)
        have hi0 : (x.args.map eInt)[0]? = some [vInt a] := by rw [hab]; rfl
        have hi1 : (x.args.map eInt)[1]? = some [vInt b] := by rw [hab]; rfl
        have hta : (f.types.map eInt)[a.toNat]? = some [vInt (f.types.getD a.toNat 0)] := by rw [List.getElem?_map]; simp [eInt, List.getD, hal]
        have htb : (f.types.map eInt)[b.toNat]? = some [vInt (f.types.getD b.toNat 0)] := by rw [List.getElem?_map]; simp [eInt, List.getD, hbl]
        refine ryV rfl rfl rfl (oM rfl) <| ryV rfl rfl rfl (ok_nilCheck rfl rfl rfl) <| ryV rfl rfl rfl (oFp rfl rfl tF85_1) <| ryV rfl rfl rfl (oFp rfl rfl tF51_3) <| ryV rfl rfl rfl (oLb Tryz.underlying35 rfl rfl rfl (by decide)) <| ryV rfl rfl rfl (oFe rfl tF42_4) <| ryV rfl rfl rfl (oLe Tryz.underlying35 rfl rfl) <| ryV rfl rfl rfl (ok_index_seq rfl rfl rfl Tryz.underlying35 hi0 tS3 rfl (by rfl)) <| ryV rfl rfl rfl (oLe Tryz.underlying3 rfl rfl) <| ryV rfl rfl rfl (ok_index_seq rfl rfl rfl Tryz.underlying35 hta tS3 rfl (by omega)) <| ryV rfl rfl rfl (oLe Tryz.underlying3 rfl rfl) <| ryV rfl rfl rfl (oM rfl) ?_
        refine ryV rfl rfl rfl (ok_nilCheck rfl rfl rfl) <| ryV rfl rfl rfl (oFp rfl rfl tF85_1) <| ryV rfl rfl rfl (oFp rfl rfl tF51_3) <| ryV rfl rfl rfl (oLb Tryz.underlying35 rfl rfl rfl (by decide)) <| ryV rfl rfl rfl (oFe rfl tF42_4) <| ryV rfl rfl rfl (oLe Tryz.underlying35 rfl rfl) <| ryV rfl rfl rfl (ok_index_seq rfl rfl rfl Tryz.underlying35 hi1 tS3 rfl (by rfl)) <| ryV rfl rfl rfl (oLe Tryz.underlying3 rfl rfl) <| ryV rfl rfl rfl (ok_index_seq rfl rfl rfl Tryz.underlying35 htb tS3 rfl (by omega)) <| ryV rfl rfl rfl (oLe Tryz.underlying3 rfl rfl) <| ryV rfl rfl rfl (oB rfl rfl rfl) <| rV rfl rfl (oT rfl rfl) ?_
        refine rV rfl rfl (oM rfl) ?_
        refine WR.split (t := 132) rfl (fun hb132 => ?_) (fun hb132 => ?_)
        · refine ryV rfl rfl rfl (oM rfl) <| ryV rfl rfl rfl (oFe rfl tF42_5) <| ryV rfl rfl rfl (oLe Tryz.underlying35 rfl rfl) <| ryV rfl rfl rfl (oM rfl) <| WR.nil <| WA.one (i := 43) (by kernel_rfl) <| WI.opYes rfl rfl rfl rfl rfl rfl (by intro t h; cases h <;> rfl) (fun k (h : _) => by (simp at h ⊢; omega)) (fun _ h1 h2 => absurd h1 h2) (fun ρ w => ok_buildSlice rfl rfl Tryz.underlying35 tZ3 tS3 rfl rfl rfl rfl (firmB_ok rfl) rfl) <| WA.one (i := 44) (by kernel_rfl) <| WI.opYes rfl rfl rfl rfl rfl rfl (by intro t h; cases h <;> rfl) (fun k (h : _) => by (simp at h ⊢; omega)) (new_app rfl) (fun ρ w => ok_call (sc_r8sets u f set x.outs [(r5Operand x.op).2] hs) ent93 rfl rfl (Subs.refl _ _) (po2 rfl rfl) rfl (fun k (h : _) => by (simpa using h)) rfl rfl) <| WA.run (fuel := 0) [45, 46] (by kernel_rfl) (fun _ _ _ h => h) (by kernel_rfl) <| rV rfl rfl (oT rfl rfl) <| rV rfl rfl (oA rfl) ?_
          refine WR.nil <| WA.done (by kernel_rfl) <| Tr.ret ?_
          (have h2 : (r8simple u f set x seen wh).2 = (r8sets f.types set x.outs [(r5Operand x.op).2]).2 := (by (try clear hkn hgp); simp_all [r8simple, andS, r8call]; done)
           rw [h2]
           refine ret_ok rfl ?_ (po2 rfl rfl)
           clear h2
           try (clear hkn hgp)
           simp_all [r8simple, andS, r8call]
           done)
        refine rnV rfl rfl rfl <| rnV rfl rfl rfl <| rnV rfl rfl rfl <| rnV rfl rfl rfl <| WR.nil <| WA.takeNo (i := 43) (b := false) rfl (by kernel_rfl) (by kernel_rfl) (by kernel_rfl) (fun _ _ _ h => h) rfl rfl rfl rfl rfl rfl <| WA.takeNo (i := 44) (b := false) rfl (by kernel_rfl) (by kernel_rfl) (by kernel_rfl) (fun _ _ _ h => h) rfl rfl rfl rfl rfl rfl <| WA.run (fuel := 0) [45, 46] (by kernel_rfl) (fun _ _ _ h => h) (by kernel_rfl) <| rV rfl rfl (oF rfl rfl) <| rV rfl rfl (oA rfl) <| WR.nil <| WA.done (by kernel_rfl) ?_
        refine Tr.ret ?_
        (have h2 : (r8simple u f set x seen wh).2 = set := (by (try clear hkn hgp); simp_all [r8simple, andS, r8call]; done)
         rw [h2]
         refine ret_ok rfl ?_ (po2 rfl rfl)
         clear h2
         try (clear hkn hgp)
         simp_all [r8simple, andS, r8call]
         done)
      refine rnV rfl rfl rfl <| rnV rfl rfl rfl <| rnV rfl rfl rfl <| rnV rfl rfl rfl <| rnV rfl rfl rfl <| rnV rfl rfl rfl <| rnV rfl rfl rfl <| rnV rfl rfl rfl <| rnV rfl rfl rfl <| rnV rfl rfl rfl <| rnV rfl rfl rfl <| rnV rfl rfl rfl ?_
      refine rnV rfl rfl rfl <| rnV rfl rfl rfl <| rnV rfl rfl rfl <| rnV rfl rfl rfl <| rnV rfl rfl rfl <| rnV rfl rfl rfl <| rnV rfl rfl rfl <| rnV rfl rfl rfl <| rnV rfl rfl rfl <| rnV rfl rfl rfl <| rnV rfl rfl rfl <| rV rfl rfl (oF rfl rfl) ?_
      refine rV rfl rfl (oM rfl) <| rnV rfl rfl rfl <| rnV rfl rfl rfl <| rnV rfl rfl rfl <| rnV rfl rfl rfl <| WR.nil <| WA.takeNo (i := 43) (b := false) rfl (by kernel_rfl) (by kernel_rfl) (by kernel_rfl) (fun _ _ _ h => h) rfl rfl rfl rfl rfl rfl <| WA.takeNo (i := 44) (b := false) rfl (by kernel_rfl) (by kernel_rfl) (by kernel_rfl) (fun _ _ _ h => h) rfl rfl rfl rfl rfl rfl <| WA.run (fuel := 0) [45, 46] (by kernel_rfl) (fun _ _ _ h => h) (by kernel_rfl) <| rV rfl rfl (oF rfl rfl) <| rV rfl rfl (oA rfl) <| WR.nil ?_
      refine WA.done (by kernel_rfl) <| Tr.ret ?_
      (have h2 : (r8simple u f set x seen wh).2 = set := (by (try clear hkn hgp); simp_all [r8simple, andS, r8call]; done)
       rw [h2]
       refine ret_ok rfl ?_ (po2 rfl rfl)
       clear h2
       try (clear hkn hgp)
       simp_all [r8simple, andS, r8call]
       done)
    refine rnV rfl rfl rfl <| rnV rfl rfl rfl <| rnV rfl rfl rfl <| rnV rfl rfl rfl <| rnV rfl rfl rfl <| rnV rfl rfl rfl <| WR.nil <| WA.takeNo (i := 10) (b := false) rfl (by kernel_rfl) (by kernel_rfl) (by kernel_rfl) (fun _ _ _ h => h) rfl rfl rfl rfl rfl rfl <| WA.takeNo (i := 11) (b := false) rfl (by kernel_rfl) (by kernel_rfl) (by kernel_rfl) (fun _ _ _ h => h) rfl rfl rfl rfl rfl rfl <| WA.run (fuel := 4) [12, 13, 14, 15, 16, 17, 18, 19, 20, 21, 22, 23, 24, 25, 26, 27, 28, 29, 30, 31, 32, 33, 34, 35, 36, 37, 38, 39, 40, 41, 42] (by kernel_rfl) (fun _ _ _ h => h) (by kernel_rfl) <| rV rfl rfl (oF rfl rfl) <| rV rfl rfl (oM rfl) ?_
    refine rnV rfl rfl rfl <| rnV rfl rfl rfl <| rnV rfl rfl rfl <| rnV rfl rfl rfl <| rnV rfl rfl rfl <| rnV rfl rfl rfl <| rnV rfl rfl rfl <| rnV rfl rfl rfl <| rnV rfl rfl rfl <| rnV rfl rfl rfl <| rnV rfl rfl rfl <| rnV rfl rfl rfl ?_
    refine rnV rfl rfl rfl <| rnV rfl rfl rfl <| rnV rfl rfl rfl <| rnV rfl rfl rfl <| rnV rfl rfl rfl <| rnV rfl rfl rfl <| rnV rfl rfl rfl <| rnV rfl rfl rfl <| rnV rfl rfl rfl <| rnV rfl rfl rfl <| rnV rfl rfl rfl <| rV rfl rfl (oF rfl rfl) ?_
    refine rV rfl rfl (oM rfl) <| rnV rfl rfl rfl <| rnV rfl rfl rfl <| rnV rfl rfl rfl <| rnV rfl rfl rfl <| WR.nil <| WA.takeNo (i := 43) (b := false) rfl (by kernel_rfl) (by kernel_rfl) (by kernel_rfl) (fun _ _ _ h => h) rfl rfl rfl rfl rfl rfl <| WA.takeNo (i := 44) (b := false) rfl (by kernel_rfl) (by kernel_rfl) (by kernel_rfl) (fun _ _ _ h => h) rfl rfl rfl rfl rfl rfl <| WA.run (fuel := 0) [45, 46] (by kernel_rfl) (fun _ _ _ h => h) (by kernel_rfl) <| rV rfl rfl (oF rfl rfl) <| rV rfl rfl (oA rfl) <| WR.nil ?_
    refine WA.done (by kernel_rfl) <| Tr.ret ?_
    (have h2 : (r8simple u f set x seen wh).2 = set := (by (try clear hkn hgp); simp_all [r8simple, andS, r8call]; done)
     rw [h2]
     refine ret_ok rfl ?_ (po2 rfl rfl)
     clear h2
     try (clear hkn hgp)
     simp_all [r8simple, andS, r8call]
     done)
  refine Tr.seq <| Tr.region rfl <| cV rfl (oB rfl rfl rfl) <| cV rfl (oA rfl) <| WL.nil ?_
  refine Tr.cond rfl (fun hc140 => ?_) (fun hc140 => ?_)
  · refine Tr.seq <| Tr.drawn mixed (fun k => k ∈ ([3] : List Nat)) <| WA.run (fuel := 18) [0, 1, 2, 3, 4, 5] (by kernel_rfl) (fun _ _ _ h => h) (by kernel_rfl) <| rV rfl rfl (oM rfl) <| rV rfl rfl (ok_nilCheck rfl rfl rfl) <| rV rfl rfl (oFp rfl rfl tF85_0) <| rV rfl rfl (ok_load_box_pure rfl rfl rfl Tryz.underlying25 rfl tS25 (Nat.le_of_ble_eq_true rfl) rfl (by decide)) <| rV rfl rfl (oFe rfl tF42_3) <| rV rfl rfl (oLe Tryz.underlying9 rfl rfl) <| WR.nil <| WA.one (i := 6) (by kernel_rfl) <| WI.op rfl rfl rfl (by intro t h; cases h <;> rfl) (fun k (h : _) => by (simp at h ⊢; omega)) (fun _ h1 h2 => absurd h1 h2) (fun ρ w => ok_callq (sc_r8Array _ _) ent47 rfl rfl (Subs.refl _ _) rfl) ?_
    refine WA.run (fuel := 10) [7, 8, 9, 10, 11, 12, 13] (by kernel_rfl) (fun _ _ _ h => h) (by kernel_rfl) <| rV rfl rfl (oB rfl rfl rfl) <| rV rfl rfl (oM rfl) ?_
    refine WR.split (t := 150) rfl (fun hb150 => ?_) (fun hb150 => ?_)
    · refine ryV rfl rfl rfl (oM rfl) <| ryV rfl rfl rfl (oFe rfl tF42_4) <| ryV rfl rfl rfl (oLe Tryz.underlying35 rfl rfl) <| ryV rfl rfl rfl (oM rfl) <| ryV rfl rfl rfl (oM rfl) <| WR.nil <| WA.one (i := 14) (by kernel_rfl) <| WI.opYes rfl rfl rfl rfl rfl rfl (by intro t h; cases h <;> rfl) (fun k (h : _) => by (simp at h ⊢; omega)) (new_app rfl) (fun ρ w => ok_call (sc_r8types u f set x.args seen [1]) ent92 rfl rfl (Subs.refl _ _) (po2 rfl rfl) rfl (fun _ _ => trivial) rfl rfl) <| WA.run (fuel := 3) [15, 16, 17, 18, 19, 20] (by kernel_rfl) (fun _ _ _ h => h) (by kernel_rfl) <| rV rfl rfl (oT rfl rfl) <| rV rfl rfl (oM rfl) ?_
      refine WR.split (t := 158) rfl (fun hb158 => ?_) (fun hb158 => ?_)
      · refine ryV rfl rfl rfl (oM rfl) <| ryV rfl rfl rfl (oFe rfl tF42_5) <| ryV rfl rfl rfl (oLe Tryz.underlying35 rfl rfl) <| ryV rfl rfl rfl (oM rfl) <| WR.nil <| WA.one (i := 21) (by kernel_rfl) <| WI.opYes rfl rfl rfl rfl rfl rfl (by intro t h; cases h <;> rfl) (fun k (h : _) => by (simp at h ⊢; omega)) (new_app rfl) (fun ρ w => ok_call (sc_r8sets u f set x.outs [1] hs) ent93 rfl rfl (Subs.refl _ _) (po2 rfl rfl) rfl (fun k (h : _) => by (simpa using h)) rfl rfl) <| WA.run (fuel := 0) [22, 23] (by kernel_rfl) (fun _ _ _ h => h) (by kernel_rfl) <| rV rfl rfl (oT rfl rfl) <| rV rfl rfl (oA rfl) <| WR.nil <| WA.done (by kernel_rfl) ?_
        refine Tr.ret ?_
        (have h2 : (r8simple u f set x seen wh).2 = (r8sets f.types set x.outs [1]).2 := (by (try clear hkn hgp); simp_all [r8simple, andS, r8call]; done)
         rw [h2]
         refine ret_ok rfl ?_ (po2 rfl rfl)
         clear h2
         try (clear hkn hgp)
         simp_all [r8simple, andS, r8call]
         done)
      refine rnV rfl rfl rfl <| rnV rfl rfl rfl <| rnV rfl rfl rfl <| rnV rfl rfl rfl <| WR.nil <| WA.takeNo (i := 21) (b := false) rfl (by kernel_rfl) (by kernel_rfl) (by kernel_rfl) (fun _ _ _ h => h) rfl rfl rfl rfl rfl rfl <| WA.run (fuel := 0) [22, 23] (by kernel_rfl) (fun _ _ _ h => h) (by kernel_rfl) <| rV rfl rfl (oF rfl rfl) <| rV rfl rfl (oA rfl) <| WR.nil <| WA.done (by kernel_rfl) <| Tr.ret ?_
      (have h2 : (r8simple u f set x seen wh).2 = set := (by (try clear hkn hgp); simp_all [r8simple, andS, r8call]; done)
       rw [h2]
       refine ret_ok rfl ?_ (po2 rfl rfl)
       clear h2
       try (clear hkn hgp)
       simp_all [r8simple, andS, r8call]
       done)
    refine rnV rfl rfl rfl <| rnV rfl rfl rfl <| rnV rfl rfl rfl <| rnV rfl rfl rfl <| rnV rfl rfl rfl <| WR.nil <| WA.takeNo (i := 14) (b := false) rfl (by kernel_rfl) (by kernel_rfl) (by kernel_rfl) (fun _ _ _ h => h) rfl rfl rfl rfl rfl rfl <| WA.run (fuel := 3) [15, 16, 17, 18, 19, 20] (by kernel_rfl) (fun _ _ _ h => h) (by kernel_rfl) <| rV rfl rfl (oF rfl rfl) <| rV rfl rfl (oM rfl) <| rnV rfl rfl rfl <| rnV rfl rfl rfl ?_
    refine rnV rfl rfl rfl <| rnV rfl rfl rfl <| WR.nil <| WA.takeNo (i := 21) (b := false) rfl (by kernel_rfl) (by kernel_rfl) (by kernel_rfl) (fun _ _ _ h => h) rfl rfl rfl rfl rfl rfl <| WA.run (fuel := 0) [22, 23] (by kernel_rfl) (fun _ _ _ h => h) (by kernel_rfl) <| rV rfl rfl (oF rfl rfl) <| rV rfl rfl (oA rfl) <| WR.nil <| WA.done (by kernel_rfl) <| Tr.ret ?_
    (have h2 : r8simple u f set x seen wh = (false, set) := (by unfold r8simple r8call andS; simp only [*]; simp)
     rw [h2]
     exact ret_ok rfl rfl (po2 rfl rfl))
  refine Tr.seq <| Tr.region rfl <| cV rfl (oB rfl rfl rfl) <| cV rfl (oA rfl) <| WL.nil ?_
  refine Tr.cond rfl (fun hc165 => ?_) (fun hc165 => ?_)
  · refine Tr.seq <| Tr.drawn mixed (fun k => k ∈ ([3] : List Nat)) <| WA.run (fuel := 17) [0, 1, 2, 3, 4, 5] (by kernel_rfl) (fun _ _ _ h => h) (by kernel_rfl) <| rV rfl rfl (oM rfl) <| rV rfl rfl (ok_nilCheck rfl rfl rfl) <| rV rfl rfl (oFp rfl rfl tF85_0) <| rV rfl rfl (ok_load_box_pure rfl rfl rfl Tryz.underlying25 rfl tS25 (Nat.le_of_ble_eq_true rfl) rfl (by decide)) <| rV rfl rfl (oFe rfl tF42_3) <| rV rfl rfl (oLe Tryz.underlying9 rfl rfl) <| WR.nil <| WA.one (i := 6) (by kernel_rfl) <| WI.op rfl rfl rfl (by intro t h; cases h <;> rfl) (fun k (h : _) => by (simp at h ⊢; omega)) (fun _ h1 h2 => absurd h1 h2) (fun ρ w => ok_callq (sc_r8Array _ _) ent47 rfl rfl (Subs.refl _ _) rfl) ?_
    refine WA.run (fuel := 10) [7, 8, 9, 10, 11, 12] (by kernel_rfl) (fun _ _ _ h => h) (by kernel_rfl) <| rV rfl rfl (oB rfl rfl rfl) <| rV rfl rfl (oM rfl) ?_
    refine WR.split (t := 175) rfl (fun hb175 => ?_) (fun hb175 => ?_)
    · refine ryV rfl rfl rfl (oM rfl) <| ryV rfl rfl rfl (oFe rfl tF42_4) <| ryV rfl rfl rfl (oLe Tryz.underlying35 rfl rfl) <| ryV rfl rfl rfl (oM rfl) <| WR.nil <| WA.one (i := 13) (by kernel_rfl) <| WI.opYes rfl rfl rfl rfl rfl rfl (by intro t h; cases h <;> rfl) (fun k (h : _) => by (simp at h ⊢; omega)) (fun _ h1 h2 => absurd h1 h2) (fun ρ w => ok_buildSlice rfl rfl Tryz.underlying35 tZ3 tS3 rfl rfl rfl rfl (firmB_ok rfl) rfl) <| WA.one (i := 14) (by kernel_rfl) <| WI.opYes rfl rfl rfl rfl rfl rfl (by intro t h; cases h <;> rfl) (fun k (h : _) => by (simp at h ⊢; omega)) (new_app rfl) (fun ρ w => ok_call (sc_r8types u f set x.args seen [1, 1]) ent92 rfl rfl (Subs.refl _ _) (po2 rfl rfl) rfl (fun _ _ => trivial) rfl rfl) <| WA.run (fuel := 0) [15, 16, 17, 18, 19, 20, 21, 22] (by kernel_rfl) (fun _ _ _ h => h) (by kernel_rfl) <| rV rfl rfl (oT rfl rfl) <| rV rfl rfl (oM rfl) ?_
      refine WR.split (t := 183) rfl (fun hb183 => ?_) (fun hb183 => ?_)
      · refine ryV rfl rfl rfl (oFe rfl tF42_5) <| ryV rfl rfl rfl (oLe Tryz.underlying35 rfl rfl) <| ryV rfl rfl rfl (oSm Tryz.underlying35 rfl) <| ryV rfl rfl rfl (oB rfl rfl rfl) <| rV rfl rfl (oT rfl rfl) <| rV rfl rfl (oA rfl) <| WR.nil <| WA.done (by kernel_rfl) <| Tr.ret ?_
        (have h2 : (r8simple u f set x seen wh).2 = set := (by (try clear hkn hgp); simp_all [r8simple, andS, r8call]; done)
         rw [h2]
         refine ret_ok rfl ?_ (po2 rfl rfl)
         clear h2
         try (clear hkn hgp)
         simp_all [r8simple, andS, r8call]
         done)
      refine rnV rfl rfl rfl <| rnV rfl rfl rfl <| rnV rfl rfl rfl <| rnV rfl rfl rfl <| rV rfl rfl (oF rfl rfl) <| rV rfl rfl (oA rfl) <| WR.nil <| WA.done (by kernel_rfl) <| Tr.ret ?_
      (have h2 : (r8simple u f set x seen wh).2 = set := (by (try clear hkn hgp); simp_all [r8simple, andS, r8call]; done)
       rw [h2]
       refine ret_ok rfl ?_ (po2 rfl rfl)
       clear h2
       try (clear hkn hgp)
       simp_all [r8simple, andS, r8call]
       done)
    refine rnV rfl rfl rfl <| rnV rfl rfl rfl <| rnV rfl rfl rfl <| rnV rfl rfl rfl <| WR.nil <| WA.takeNo (i := 13) (b := false) rfl (by kernel_rfl) (by kernel_rfl) (by kernel_rfl) (fun _ _ _ h => h) rfl rfl rfl rfl rfl rfl <| WA.takeNo (i := 14) (b := false) rfl (by kernel_rfl) (by kernel_rfl) (by kernel_rfl) (fun _ _ _ h => h) rfl rfl rfl rfl rfl rfl <| WA.run (fuel := 0) [15, 16, 17, 18, 19, 20, 21, 22] (by kernel_rfl) (fun _ _ _ h => h) (by kernel_rfl) <| rV rfl rfl (oF rfl rfl) <| rV rfl rfl (oM rfl) <| rnV rfl rfl rfl <| rnV rfl rfl rfl ?_
    refine rnV rfl rfl rfl <| rnV rfl rfl rfl <| rV rfl rfl (oF rfl rfl) <| rV rfl rfl (oA rfl) <| WR.nil <| WA.done (by kernel_rfl) <| Tr.ret ?_
    (have h2 : r8simple u f set x seen wh = (false, set) := (by unfold r8simple r8call andS; simp only [*]; simp)
     rw [h2]
     exact ret_ok rfl rfl (po2 rfl rfl))
  refine Tr.seq <| Tr.region rfl <| cV rfl (oB rfl rfl rfl) <| cV rfl (oA rfl) <| WL.nil ?_
  refine Tr.cond rfl (fun hc189 => ?_) (fun hc189 => ?_)
  · refine Tr.seq <| Tr.drawn mixed (fun k => k ∈ ([3] : List Nat)) <| WA.run (fuel := 2) [0, 1, 2, 3, 4, 5] (by kernel_rfl) (fun _ _ _ h => h) (by kernel_rfl) <| rV rfl rfl (oM rfl) <| rV rfl rfl (ok_nilCheck rfl rfl rfl) <| rV rfl rfl (oFp rfl rfl tF85_0) <| rV rfl rfl (ok_load_box_pure rfl rfl rfl Tryz.underlying25 rfl tS25 (Nat.le_of_ble_eq_true rfl) rfl (by decide)) <| rV rfl rfl (oFe rfl tF42_3) <| rV rfl rfl (oLe Tryz.underlying9 rfl rfl) <| WR.nil <| WA.one (i := 6) (by kernel_rfl) <| WI.op rfl rfl rfl (by intro t h; cases h <;> rfl) (fun k (h : _) => by (simp at h ⊢; omega)) (fun _ h1 h2 => absurd h1 h2) (fun ρ w => ok_callq (sc_r8Place _ _) ent30 rfl rfl (Subs.refl _ _) rfl) ?_
    refine WA.run (fuel := 0) [7] (by kernel_rfl) (fun _ _ _ h => h) (by kernel_rfl) <| rV rfl rfl (oA rfl) <| WR.nil <| WA.done (by kernel_rfl) <| Tr.seq <| Tr.drawn mixed (fun k => k ∈ ([3] : List Nat)) <| WA.run (fuel := 19) [0, 1, 2, 3, 4, 5, 6, 7, 8, 9, 10, 11, 12, 13, 14, 15, 16, 17, 18, 19, 20, 21, 22, 23, 24, 25] (by kernel_rfl) (fun _ _ _ h => h) (by kernel_rfl) <| rV rfl rfl (oM rfl) <| rV rfl rfl (oB rfl rfl rfl) <| rV rfl rfl (oM rfl) ?_
    refine WR.split (t := 200) rfl (fun hb200 => ?_) (fun hb200 => ?_)
    · have hk0 : r8Place x.name u.flows 0 ≥ 0 := by simpa using hb200
      obtain ⟨g, hgk, _⟩ := r8Place_at hk0
      obtain ⟨hgp0, hgpl⟩ := hg g (List.mem_of_getElem? hgk)
      have hgp : g.params = (g.params.toNat : Int) := by omega
      have hgi : (u.flows.map Fl.enc)[(r8Place x.name u.flows 0).toNat]? = some (Fl.enc g) := by rw [List.getElem?_map, hgk]; rfl
      have hkn : r8Place x.name u.flows 0 = ((r8Place x.name u.flows 0).toNat : Int) := by omega
      refine ryV rfl rfl rfl (oM rfl) <| ryV rfl rfl rfl (oFe rfl tF42_4) <| ryV rfl rfl rfl (oLe Tryz.underlying35 rfl rfl) <| ryV rfl rfl rfl (oM rfl) <| ryV rfl rfl rfl (oM rfl) <| ryV rfl rfl rfl (ok_nilCheck rfl rfl rfl) <| ryV rfl rfl rfl (oFp rfl rfl tF85_0) <| ryV rfl rfl rfl (oFp rfl rfl tF25_1) <| ryV rfl rfl rfl (oLb Tryz.underlying23 rfl rfl rfl (by decide)) <| ryV rfl rfl rfl (oM rfl) <| ryV rfl rfl rfl (ok_index_seq rfl rfl rfl Tryz.underlying23 hgi tS51 rfl (by omega)) <| ryV rfl rfl rfl (oFe rfl tF51_3) ?_
      refine ryV rfl rfl rfl (oLe Tryz.underlying35 rfl rfl) <| ryV rfl rfl rfl (oM rfl) <| ryV rfl rfl rfl (ok_nilCheck rfl rfl rfl) <| ryV rfl rfl rfl (oFp rfl rfl tF85_0) <| ryV rfl rfl rfl (oFp rfl rfl tF25_1) <| ryV rfl rfl rfl (oLb Tryz.underlying23 rfl rfl rfl (by decide)) <| ryV rfl rfl rfl (oM rfl) <| ryV rfl rfl rfl (ok_index_seq rfl rfl rfl Tryz.underlying23 hgi tS51 rfl (by omega)) <| ryV rfl rfl rfl (oFe rfl tF51_2) <| ryV rfl rfl rfl (oLe Tryz.underlying3 rfl rfl) ?_
      refine ryV rfl rfl rfl (ok_slice_seq (j := g.params.toNat) rfl rfl Tryz.underlying35 tS3 (.inl ⟨rfl, rfl⟩) (.inr ⟨_, _, rfl, congrArg (fun z => some (IV.pv (.val (.int .i64 z)))) hgp⟩) (Nat.zero_le _) (by simp; omega) (by simp [eInt])) ?_
      refine WR.nil <| WA.one (i := 26) (by kernel_rfl) ?_
      refine WI.opYes rfl rfl rfl rfl rfl rfl (by intro t h; cases h <;> rfl) (fun k (h : _) => by (simp at h ⊢; omega)) (new_app rfl) (fun ρ w => ok_call (sc_r8types u f set x.args seen (g.types.take g.params.toNat)) ent92 rfl rfl (Subs.same rfl (Subs.same rfl (Subs.same rfl (Subs.same (by simp [ints, List.map_take]) Subs.nil)))) (po2 rfl rfl) rfl (fun _ _ => trivial) rfl rfl) ?_
      refine WA.run (fuel := 4) [27, 28, 29, 30, 31, 32, 33, 34, 35, 36, 37, 38, 39, 40] (by kernel_rfl) (fun _ _ _ h => h) (by kernel_rfl) <| rV rfl rfl (oT rfl rfl) <| rV rfl rfl (oM rfl) ?_
      refine WR.split (t := 226) rfl (fun hb226 => ?_) (fun hb226 => ?_)
      · refine ryV rfl rfl rfl (oM rfl) <| ryV rfl rfl rfl (oFe rfl tF42_5) <| ryV rfl rfl rfl (oLe Tryz.underlying35 rfl rfl) <| ryV rfl rfl rfl (oM rfl) <| ryV rfl rfl rfl (ok_nilCheck rfl rfl rfl) <| ryV rfl rfl rfl (oFp rfl rfl tF85_0) <| ryV rfl rfl rfl (oFp rfl rfl tF25_1) <| ryV rfl rfl rfl (oLb Tryz.underlying23 rfl rfl rfl (by decide)) <| ryV rfl rfl rfl (oM rfl) <| ryV rfl rfl rfl (ok_index_seq rfl rfl rfl Tryz.underlying23 hgi tS51 rfl (by omega)) <| ryV rfl rfl rfl (oFe rfl tF51_1) <| ryV rfl rfl rfl (oLe Tryz.underlying3 rfl rfl) ?_
        refine WR.nil <| WA.one (i := 41) (by kernel_rfl) <| WI.opYes rfl rfl rfl rfl rfl rfl (by intro t h; cases h <;> rfl) (fun k (h : _) => by (simp at h ⊢; omega)) (fun _ h1 h2 => absurd h1 h2) (fun ρ w => ok_buildSlice rfl rfl Tryz.underlying35 tZ3 tS3 rfl rfl rfl rfl (firmB_ok rfl) rfl) <| WA.one (i := 42) (by kernel_rfl) <| WI.opYes rfl rfl rfl rfl rfl rfl (by intro t h; cases h <;> rfl) (fun k (h : _) => by (simp at h ⊢; omega)) (new_app rfl) (fun ρ w => ok_call (sc_r8sets u f set x.outs [g.ty] hs) ent93 rfl rfl (Subs.refl _ _) (po2 rfl rfl) rfl (fun k (h : _) => by (simpa using h)) rfl rfl) <| WA.run (fuel := 0) [43, 44] (by kernel_rfl) (fun _ _ _ h => h) (by kernel_rfl) <| rV rfl rfl (oT rfl rfl) <| rV rfl rfl (oA rfl) <| WR.nil <| WA.done (by kernel_rfl) <| Tr.ret ?_
        (have h2 : (r8simple u f set x seen wh).2 = (r8sets f.types set x.outs [g.ty]).2 := (by (try clear hkn hgp); simp_all [r8simple, andS, r8call]; done)
         rw [h2]
         refine ret_ok rfl ?_ (po2 rfl rfl)
         clear h2
         try (clear hkn hgp)
         simp_all [r8simple, andS, r8call]
         done)
      refine rnV rfl rfl rfl <| rnV rfl rfl rfl <| rnV rfl rfl rfl <| rnV rfl rfl rfl <| rnV rfl rfl rfl <| rnV rfl rfl rfl <| rnV rfl rfl rfl <| rnV rfl rfl rfl <| rnV rfl rfl rfl <| rnV rfl rfl rfl <| rnV rfl rfl rfl <| rnV rfl rfl rfl ?_
      refine WR.nil <| WA.takeNo (i := 41) (b := false) rfl (by kernel_rfl) (by kernel_rfl) (by kernel_rfl) (fun _ _ _ h => h) rfl rfl rfl rfl rfl rfl <| WA.takeNo (i := 42) (b := false) rfl (by kernel_rfl) (by kernel_rfl) (by kernel_rfl) (fun _ _ _ h => h) rfl rfl rfl rfl rfl rfl <| WA.run (fuel := 0) [43, 44] (by kernel_rfl) (fun _ _ _ h => h) (by kernel_rfl) <| rV rfl rfl (oF rfl rfl) <| rV rfl rfl (oA rfl) <| WR.nil <| WA.done (by kernel_rfl) <| Tr.ret ?_
      (have h2 : (r8simple u f set x seen wh).2 = set := (by (try clear hkn hgp); simp_all [r8simple, andS, r8call]; done)
       rw [h2]
       refine ret_ok rfl ?_ (po2 rfl rfl)
       clear h2
       try (clear hkn hgp)
       simp_all [r8simple, andS, r8call]
       done)
    refine rnV rfl rfl rfl <| rnV rfl rfl rfl <| rnV rfl rfl rfl <| rnV rfl rfl rfl <| rnV rfl rfl rfl <| rnV rfl rfl rfl <| rnV rfl rfl rfl <| rnV rfl rfl rfl <| rnV rfl rfl rfl <| rnV rfl rfl rfl <| rnV rfl rfl rfl <| rnV rfl rfl rfl ?_
    refine rnV rfl rfl rfl <| rnV rfl rfl rfl <| rnV rfl rfl rfl <| rnV rfl rfl rfl <| rnV rfl rfl rfl <| rnV rfl rfl rfl <| rnV rfl rfl rfl <| rnV rfl rfl rfl <| rnV rfl rfl rfl <| rnV rfl rfl rfl <| rnV rfl rfl rfl <| WR.nil ?_
    refine WA.takeNo (i := 26) (b := false) rfl (by kernel_rfl) (by kernel_rfl) (by kernel_rfl) (fun _ _ _ h => h) rfl rfl rfl rfl rfl rfl <| WA.run (fuel := 4) [27, 28, 29, 30, 31, 32, 33, 34, 35, 36, 37, 38, 39, 40] (by kernel_rfl) (fun _ _ _ h => h) (by kernel_rfl) <| rV rfl rfl (oF rfl rfl) <| rV rfl rfl (oM rfl) <| rnV rfl rfl rfl <| rnV rfl rfl rfl <| rnV rfl rfl rfl <| rnV rfl rfl rfl <| rnV rfl rfl rfl <| rnV rfl rfl rfl <| rnV rfl rfl rfl <| rnV rfl rfl rfl ?_
    refine rnV rfl rfl rfl <| rnV rfl rfl rfl <| rnV rfl rfl rfl <| rnV rfl rfl rfl <| WR.nil <| WA.takeNo (i := 41) (b := false) rfl (by kernel_rfl) (by kernel_rfl) (by kernel_rfl) (fun _ _ _ h => h) rfl rfl rfl rfl rfl rfl <| WA.takeNo (i := 42) (b := false) rfl (by kernel_rfl) (by kernel_rfl) (by kernel_rfl) (fun _ _ _ h => h) rfl rfl rfl rfl rfl rfl <| WA.run (fuel := 0) [43, 44] (by kernel_rfl) (fun _ _ _ h => h) (by kernel_rfl) <| rV rfl rfl (oF rfl rfl) <| rV rfl rfl (oA rfl) <| WR.nil <| WA.done (by kernel_rfl) ?_
    refine Tr.ret ?_
    (have h2 : r8simple u f set x seen wh = (false, set) := (by unfold r8simple r8call andS; simp only [*]; simp)
     rw [h2]
     exact ret_ok rfl rfl (po2 rfl rfl))
  refine Tr.seq <| Tr.region rfl <| cV rfl (oB rfl rfl rfl) <| cV rfl (oA rfl) <| WL.nil ?_
  refine Tr.cond rfl (fun hc242 => ?_) (fun hc242 => ?_)
  · refine Tr.seq <| Tr.region rfl <| cV rfl (oFe rfl tF42_4) <| cV rfl (oLe Tryz.underlying35 rfl rfl) <| cV rfl (oSm Tryz.underlying35 rfl) <| cV rfl (oB rfl rfl rfl) <| cV rfl (oM rfl) ?_
    refine WL.split (t := 248) rfl (fun hb248 => ?_) (fun hb248 => ?_)
    · refine yV rfl rfl (oM rfl) <| yV rfl rfl (oFe rfl tF42_5) <| yV rfl rfl (oLe Tryz.underlying35 rfl rfl) <| yV rfl rfl (oM rfl) <| WL.yes rfl rfl rfl rfl rfl rfl (ok_call (sc_r8sets u f set x.outs [1] hs) ent93 rfl rfl (Subs.refl _ _) (po2 rfl rfl) rfl (fun k (h : _) => h) rfl rfl) <| cV rfl (oT rfl rfl) <| cV rfl (oA rfl) <| WL.nil <| Tr.ret ?_
      (have h2 : (r8simple u f set x seen wh).2 = (r8sets f.types set x.outs [1]).2 := (by (try clear hkn hgp); simp_all [r8simple, andS, r8call]; done)
       rw [h2]
       refine ret_ok rfl ?_ (po2 rfl rfl)
       clear h2
       try (clear hkn hgp)
       simp_all [r8simple, andS, r8call]
       done)
    refine nV rfl rfl <| nV rfl rfl <| nV rfl rfl <| nV rfl rfl <| nV rfl rfl <| cV rfl (oF rfl rfl) <| cV rfl (oA rfl) <| WL.nil <| Tr.ret ?_
    (have h2 : (r8simple u f set x seen wh).2 = set := (by (try clear hkn hgp); simp_all [r8simple, andS, r8call]; done)
     rw [h2]
     refine ret_ok rfl ?_ (po2 rfl rfl)
     clear h2
     try (clear hkn hgp)
     simp_all [r8simple, andS, r8call]
     done)
  refine Tr.seq <| Tr.region rfl <| cV rfl (oB rfl rfl rfl) <| cV rfl (oA rfl) <| WL.nil ?_
  refine Tr.cond rfl (fun hc255 => ?_) (fun hc255 => ?_)
  · refine Tr.seq <| Tr.region rfl <| cV rfl (oM rfl) <| cV rfl (oFe rfl tF42_4) <| cV rfl (oLe Tryz.underlying35 rfl rfl) <| cV rfl (oM rfl) <| cV rfl (oM rfl) <| WL.cons rfl rfl rfl (ok_call (sc_r8types u f set x.args seen [1]) ent92 rfl rfl (Subs.refl _ _) (po2 rfl rfl) rfl (fun _ _ => trivial) rfl rfl) <| cV rfl (oM rfl) ?_
    refine WL.split (t := 263) rfl (fun hb263 => ?_) (fun hb263 => ?_)
    · refine yV rfl rfl (oFe rfl tF42_5) <| yV rfl rfl (oLe Tryz.underlying35 rfl rfl) <| yV rfl rfl (oSm Tryz.underlying35 rfl) <| yV rfl rfl (oB rfl rfl rfl) <| cV rfl (oT rfl rfl) <| cV rfl (oA rfl) <| WL.nil <| Tr.ret ?_
      (have h2 : (r8simple u f set x seen wh).2 = set := (by (try clear hkn hgp); simp_all [r8simple, andS, r8call]; done)
       rw [h2]
       refine ret_ok rfl ?_ (po2 rfl rfl)
       clear h2
       try (clear hkn hgp)
       simp_all [r8simple, andS, r8call]
       done)
    refine nV rfl rfl <| nV rfl rfl <| nV rfl rfl <| nV rfl rfl <| cV rfl (oF rfl rfl) <| cV rfl (oA rfl) <| WL.nil <| Tr.ret ?_
    (have h2 : (r8simple u f set x seen wh).2 = set := (by (try clear hkn hgp); simp_all [r8simple, andS, r8call]; done)
     rw [h2]
     refine ret_ok rfl ?_ (po2 rfl rfl)
     clear h2
     try (clear hkn hgp)
     simp_all [r8simple, andS, r8call]
     done)
  refine Tr.seq <| Tr.region rfl <| cV rfl (oB rfl rfl rfl) <| cV rfl (oA rfl) <| WL.nil ?_
  refine Tr.cond rfl (fun hc269 => ?_) (fun hc269 => ?_)
  · refine Tr.seq <| Tr.region rfl <| cV rfl (oFe rfl tF87_0) <| cV rfl (oLe Tryz.underlying4 rfl rfl) <| cV rfl (oM rfl) ?_
    refine WL.split (t := 273) rfl (fun hb273 => ?_) (fun hb273 => ?_)
    · refine yV rfl rfl (oM rfl) <| yV rfl rfl (oFe rfl tF42_4) <| yV rfl rfl (oLe Tryz.underlying35 rfl rfl) <| yV rfl rfl (oM rfl) <| yV rfl rfl (oFe rfl tF87_2) <| yV rfl rfl (oLe Tryz.underlying35 rfl rfl) <| WL.yes rfl rfl rfl rfl rfl rfl (ok_call (sc_r8types u f set x.args seen wh.Yield) ent92 rfl rfl (Subs.refl _ _) (po2 rfl rfl) rfl (fun _ _ => trivial) rfl rfl) <| cV rfl (oT rfl rfl) <| cV rfl (oM rfl) ?_
      refine WL.split (t := 282) rfl (fun hb282 => ?_) (fun hb282 => ?_)
      · refine yV rfl rfl (oFe rfl tF42_5) <| yV rfl rfl (oLe Tryz.underlying35 rfl rfl) <| yV rfl rfl (oSm Tryz.underlying35 rfl) <| yV rfl rfl (oB rfl rfl rfl) <| cV rfl (oT rfl rfl) <| cV rfl (oA rfl) <| WL.nil <| Tr.ret ?_
        (have h2 : (r8simple u f set x seen wh).2 = set := (by (try clear hkn hgp); simp_all [r8simple, andS, r8call]; done)
         rw [h2]
         refine ret_ok rfl ?_ (po2 rfl rfl)
         clear h2
         try (clear hkn hgp)
         simp_all [r8simple, andS, r8call]
         done)
      refine nV rfl rfl <| nV rfl rfl <| nV rfl rfl <| nV rfl rfl <| cV rfl (oF rfl rfl) <| cV rfl (oA rfl) <| WL.nil <| Tr.ret ?_
      (have h2 : (r8simple u f set x seen wh).2 = set := (by (try clear hkn hgp); simp_all [r8simple, andS, r8call]; done)
       rw [h2]
       refine ret_ok rfl ?_ (po2 rfl rfl)
       clear h2
       try (clear hkn hgp)
       simp_all [r8simple, andS, r8call]
       done)
    refine nV rfl rfl <| nV rfl rfl <| nV rfl rfl <| nV rfl rfl <| nV rfl rfl <| nV rfl rfl <| nV rfl rfl <| cV rfl (oF rfl rfl) <| cV rfl (oM rfl) <| nV rfl rfl <| nV rfl rfl <| nV rfl rfl ?_
    refine nV rfl rfl <| cV rfl (oF rfl rfl) <| cV rfl (oA rfl) <| WL.nil <| Tr.ret ?_
    (have h2 : (r8simple u f set x seen wh).2 = set := (by (try clear hkn hgp); simp_all [r8simple, andS, r8call]; done)
     rw [h2]
     refine ret_ok rfl ?_ (po2 rfl rfl)
     clear h2
     try (clear hkn hgp)
     simp_all [r8simple, andS, r8call]
     done)
  refine Tr.seq <| Tr.region rfl <| cV rfl (oB rfl rfl rfl) <| cV rfl (oA rfl) <| WL.nil ?_
  refine Tr.cond rfl (fun hc288 => ?_) (fun hc288 => ?_)
  · refine Tr.seq <| Tr.region rfl <| cV rfl (oFe rfl tF87_1) <| cV rfl (oLe Tryz.underlying4 rfl rfl) <| cV rfl (oM rfl) ?_
    refine WL.split (t := 292) rfl (fun hb292 => ?_) (fun hb292 => ?_)
    · refine yV rfl rfl (oM rfl) <| yV rfl rfl (oFe rfl tF42_4) <| yV rfl rfl (oLe Tryz.underlying35 rfl rfl) <| yV rfl rfl (oM rfl) <| yV rfl rfl (oFe rfl tF87_3) <| yV rfl rfl (oLe Tryz.underlying35 rfl rfl) <| WL.yes rfl rfl rfl rfl rfl rfl (ok_call (sc_r8types u f set x.args seen wh.Next) ent92 rfl rfl (Subs.refl _ _) (po2 rfl rfl) rfl (fun _ _ => trivial) rfl rfl) <| cV rfl (oT rfl rfl) <| cV rfl (oM rfl) ?_
      refine WL.split (t := 301) rfl (fun hb301 => ?_) (fun hb301 => ?_)
      · refine yV rfl rfl (oFe rfl tF42_5) <| yV rfl rfl (oLe Tryz.underlying35 rfl rfl) <| yV rfl rfl (oSm Tryz.underlying35 rfl) <| yV rfl rfl (oB rfl rfl rfl) <| cV rfl (oT rfl rfl) <| cV rfl (oA rfl) <| WL.nil <| Tr.ret ?_
        (have h2 : (r8simple u f set x seen wh).2 = set := (by (try clear hkn hgp); simp_all [r8simple, andS, r8call]; done)
         rw [h2]
         refine ret_ok rfl ?_ (po2 rfl rfl)
         clear h2
         try (clear hkn hgp)
         simp_all [r8simple, andS, r8call]
         done)
      refine nV rfl rfl <| nV rfl rfl <| nV rfl rfl <| nV rfl rfl <| cV rfl (oF rfl rfl) <| cV rfl (oA rfl) <| WL.nil <| Tr.ret ?_
      (have h2 : (r8simple u f set x seen wh).2 = set := (by (try clear hkn hgp); simp_all [r8simple, andS, r8call]; done)
       rw [h2]
       refine ret_ok rfl ?_ (po2 rfl rfl)
       clear h2
       try (clear hkn hgp)
       simp_all [r8simple, andS, r8call]
       done)
    refine nV rfl rfl <| nV rfl rfl <| nV rfl rfl <| nV rfl rfl <| nV rfl rfl <| nV rfl rfl <| nV rfl rfl <| cV rfl (oF rfl rfl) <| cV rfl (oM rfl) <| nV rfl rfl <| nV rfl rfl <| nV rfl rfl ?_
    refine nV rfl rfl <| cV rfl (oF rfl rfl) <| cV rfl (oA rfl) <| WL.nil <| Tr.ret ?_
    (have h2 : (r8simple u f set x seen wh).2 = set := (by (try clear hkn hgp); simp_all [r8simple, andS, r8call]; done)
     rw [h2]
     refine ret_ok rfl ?_ (po2 rfl rfl)
     clear h2
     try (clear hkn hgp)
     simp_all [r8simple, andS, r8call]
     done)
  refine Tr.seq <| Tr.region rfl <| cV rfl (oB rfl rfl rfl) <| cV rfl (oA rfl) <| WL.nil ?_
  refine Tr.cond rfl (fun hc307 => ?_) (fun hc307 => ?_)
  · refine Tr.seq <| Tr.region rfl <| cV rfl (oFe rfl tF87_1) <| cV rfl (oLe Tryz.underlying4 rfl rfl) <| cV rfl (oM rfl) ?_
    refine WL.split (t := 311) rfl (fun hb311 => ?_) (fun hb311 => ?_)
    · refine yV rfl rfl (oM rfl) <| yV rfl rfl (oFe rfl tF42_4) <| yV rfl rfl (oLe Tryz.underlying35 rfl rfl) <| yV rfl rfl (oM rfl) <| yV rfl rfl (oFe rfl tF87_4) <| yV rfl rfl (oLe Tryz.underlying35 rfl rfl) <| WL.yes rfl rfl rfl rfl rfl rfl (ok_call (sc_r8types u f set x.args seen wh.Left) ent92 rfl rfl (Subs.refl _ _) (po2 rfl rfl) rfl (fun _ _ => trivial) rfl rfl) <| cV rfl (oT rfl rfl) <| cV rfl (oM rfl) ?_
      refine WL.split (t := 320) rfl (fun hb320 => ?_) (fun hb320 => ?_)
      · refine yV rfl rfl (oFe rfl tF42_5) <| yV rfl rfl (oLe Tryz.underlying35 rfl rfl) <| yV rfl rfl (oSm Tryz.underlying35 rfl) <| yV rfl rfl (oB rfl rfl rfl) <| cV rfl (oT rfl rfl) <| cV rfl (oA rfl) <| WL.nil <| Tr.ret ?_
        (have h2 : (r8simple u f set x seen wh).2 = set := (by (try clear hkn hgp); simp_all [r8simple, andS, r8call]; done)
         rw [h2]
         refine ret_ok rfl ?_ (po2 rfl rfl)
         clear h2
         try (clear hkn hgp)
         simp_all [r8simple, andS, r8call]
         done)
      refine nV rfl rfl <| nV rfl rfl <| nV rfl rfl <| nV rfl rfl <| cV rfl (oF rfl rfl) <| cV rfl (oA rfl) <| WL.nil <| Tr.ret ?_
      (have h2 : (r8simple u f set x seen wh).2 = set := (by (try clear hkn hgp); simp_all [r8simple, andS, r8call]; done)
       rw [h2]
       refine ret_ok rfl ?_ (po2 rfl rfl)
       clear h2
       try (clear hkn hgp)
       simp_all [r8simple, andS, r8call]
       done)
    refine nV rfl rfl <| nV rfl rfl <| nV rfl rfl <| nV rfl rfl <| nV rfl rfl <| nV rfl rfl <| nV rfl rfl <| cV rfl (oF rfl rfl) <| cV rfl (oM rfl) <| nV rfl rfl <| nV rfl rfl <| nV rfl rfl ?_
    refine nV rfl rfl <| cV rfl (oF rfl rfl) <| cV rfl (oA rfl) <| WL.nil <| Tr.ret ?_
    (have h2 : (r8simple u f set x seen wh).2 = set := (by (try clear hkn hgp); simp_all [r8simple, andS, r8call]; done)
     rw [h2]
     refine ret_ok rfl ?_ (po2 rfl rfl)
     clear h2
     try (clear hkn hgp)
     simp_all [r8simple, andS, r8call]
     done)
  refine Tr.seq <| Tr.region rfl <| cV rfl (oB rfl rfl rfl) <| cV rfl (oA rfl) <| WL.nil ?_
  refine Tr.cond rfl (fun hc326 => ?_) (fun hc326 => ?_)
  · refine Tr.seq <| Tr.drawn mixed (fun k => k ∈ ([3] : List Nat)) <| WA.run (fuel := 9) [0, 1, 2, 3, 4, 5, 6, 7, 8] (by kernel_rfl) (fun _ _ _ h => h) (by kernel_rfl) <| rV rfl rfl (oM rfl) <| rV rfl rfl (oFe rfl tF42_4) <| rV rfl rfl (oLe Tryz.underlying35 rfl rfl) <| rV rfl rfl (oM rfl) <| rV rfl rfl (oM rfl) <| rV rfl rfl (ok_nilCheck rfl rfl rfl) <| rV rfl rfl (oFp rfl rfl tF85_1) <| rV rfl rfl (oFp rfl rfl tF51_1) <| rV rfl rfl (oLb Tryz.underlying3 rfl rfl rfl (by decide)) ?_
    refine WR.nil <| WA.one (i := 9) (by kernel_rfl) <| WI.op rfl rfl rfl (by intro t h; cases h <;> rfl) (fun k (h : _) => by (simp at h ⊢; omega)) (fun _ h1 h2 => absurd h1 h2) (fun ρ w => ok_buildSlice rfl rfl Tryz.underlying35 tZ3 tS3 rfl rfl rfl rfl (firmB_ok rfl) rfl) <| WA.one (i := 10) (by kernel_rfl) <| WI.op rfl rfl rfl (by intro t h; cases h <;> rfl) (fun k (h : _) => by (simp at h ⊢; omega)) (new_app rfl) (fun ρ w => ok_call (sc_r8types u f set x.args seen [f.ty]) ent92 rfl rfl (Subs.refl _ _) (po2 rfl rfl) rfl (fun _ _ => trivial) rfl rfl) <| WA.run (fuel := 0) [11, 12, 13, 14, 15, 16, 17] (by kernel_rfl) (fun _ _ _ h => h) (by kernel_rfl) <| rV rfl rfl (oM rfl) ?_
    refine WR.split (t := 339) rfl (fun hb339 => ?_) (fun hb339 => ?_)
    · refine ryV rfl rfl rfl (oFe rfl tF42_5) <| ryV rfl rfl rfl (oLe Tryz.underlying35 rfl rfl) <| ryV rfl rfl rfl (oSm Tryz.underlying35 rfl) <| ryV rfl rfl rfl (oB rfl rfl rfl) <| rV rfl rfl (oT rfl rfl) <| rV rfl rfl (oA rfl) <| WR.nil <| WA.done (by kernel_rfl) <| Tr.ret ?_
      (have h2 : (r8simple u f set x seen wh).2 = set := (by (try clear hkn hgp); simp_all [r8simple, andS, r8call]; done)
       rw [h2]
       refine ret_ok rfl ?_ (po2 rfl rfl)
       clear h2
       try (clear hkn hgp)
       simp_all [r8simple, andS, r8call]
       done)
    refine rnV rfl rfl rfl <| rnV rfl rfl rfl <| rnV rfl rfl rfl <| rnV rfl rfl rfl <| rV rfl rfl (oF rfl rfl) <| rV rfl rfl (oA rfl) <| WR.nil <| WA.done (by kernel_rfl) <| Tr.ret ?_
    (have h2 : (r8simple u f set x seen wh).2 = set := (by (try clear hkn hgp); simp_all [r8simple, andS, r8call]; done)
     rw [h2]
     refine ret_ok rfl ?_ (po2 rfl rfl)
     clear h2
     try (clear hkn hgp)
     simp_all [r8simple, andS, r8call]
     done)
  refine Tr.skip <| Tr.seq <| Tr.region rfl <| cV rfl (oA rfl) <| WL.nil <| Tr.ret ?_
  (have h2 : (r8simple u f set x seen wh).2 = set := (by (try clear hkn hgp); simp_all [r8simple, andS, r8call]; done)
   rw [h2]
   refine ret_ok rfl ?_ (po2 rfl rfl)
   clear h2
   try (clear hkn hgp)
   simp_all [r8simple, andS, r8call]
   done)
section
variable {P : Program} {c : Cx} {o : Oper} {fr : Fr}
/-- How an argument is handed on. -/
inductive LendOf (σ : Heap') (Ls : Nat → Prop) : IV → IV → Prop
  | same {x : IV} : LendOf σ Ls x x
  | row {L n : Nat} {s : RT} {els els' : List (List PV)} (hL : Ls L) (hσ : σ L = some (.row s els)) (hn : els.length = n) (he : els = els') : LendOf σ Ls (.sl L n) (.pv (.seq els'))
def lends (σ : Heap') (Ls : Nat → Prop) : List IV → List IV → Prop
  | [], [] => True
  | x :: xs, y :: ys => LendOf σ Ls x y ∧ lends σ Ls xs ys
  | _, _ => False
theorem lends_rep {σ σ' : Heap'} {Ls : Nat → Prop} {F F' : Nat → Prop} {ρ ρ' : Loc} {w : World} : ∀ {xs ys : List IV} {vs : List Value}, lends σ Ls xs ys → RepL F ρ σ w xs vs →
    (∀ x y v, LendOf σ Ls x y → RepI F ρ σ w x v → RepI F' ρ' σ' w y v) → RepL F' ρ' σ' w ys vs
  | [], [], vs, _, h, _ => ⟨h.1, fun j x hj => by simp at hj⟩
  | x :: xs, y :: ys, [], _, h, _ => by have := h.1; simp at this
  | x :: xs, y :: ys, v :: vs, hl, h, hf => by
    have ih := lends_rep (vs := vs) hl.2 ⟨by simpa using h.1, fun j z hj => h.2 (j + 1) z (by simpa using hj)⟩ hf
    refine ⟨by have := ih.1; simp [this], fun j z hj => ?_⟩
    cases j with
    | zero =>
      cases hj
      obtain ⟨u, hu, hr⟩ := h.2 0 x rfl
      exact ⟨u, hu, hf _ _ _ hl.1 hr⟩
    | succ j => exact ih.2 j z (by simpa using hj)
def plainP : PV → Bool
  | .val _ => true
  | _ => false
/-- Rows of numbers and truths. -/
def plainO : HO → Bool
  | .row _ els => els.all fun el => el.all plainP
  | _ => false
theorem plainP_val {x : PV} (h : plainP x = true) : ∃ v, x = .val v := by cases x <;> first | exact ⟨_, rfl⟩ | cases h
theorem RepO.plain {F F' : Nat → Prop} {ρ ρ' : Loc} {σ σ' : Heap'} {w : World} {b c : Nat} {ob : HO} (h : RepO F ρ σ w b c ob) (hp : plainO ob = true) : RepO F' ρ' σ' w b c ob := by
  cases h with
  | box => cases hp
  | map => cases hp
  | row s els a u h hs hl hm hw hv hr =>
    refine .row s els a u h hs hl hm hw hv fun i el hi j x hj => ?_
    obtain ⟨v, rfl⟩ := plainP_val (List.all_eq_true.1 (List.all_eq_true.1 hp el (List.mem_of_getElem? hi)) x (List.mem_of_getElem? hj))
    have := hr i el hi j _ hj
    generalize u i j = z at this
    cases this
    exact .val v
open Classical in
/-- **A CALL THAT IS LENT ROWS**: what it is handed as a list that stays is, for its caller, a row of its own. -/
theorem SC.lend {Ls : Nat → Prop} {xs : List IV} {f : FuncId} {args : List IV} {pre post : List (Nat × HO)} {R : Nat → Prop} {r : IV} {hp : Hp} {ρ : Loc} {w : World} {a : Act} {vs : List Value} (hsc : SC P f args pre R r post)
    (h : All c ρ (look hp) w fr a) (hlend : lends (look hp) Ls xs args) (hLs : ∀ k, Ls k → look (up pre) k = none) (hargs : RepL c.F ρ (look hp) w xs vs) (hpre : ∀ k o, look (up pre) k = some o → look hp k = some o) (hdom : pre.map (·.1) = post.map (·.1))
    (hR : ∀ k, c.R k → look (up pre) k = none ∨ R k) (hr : ∃ z, r = .pv (.val z)) (hpost : ∀ k ob, look (up post) k = some ob → plainO ob = true ∨ (R k ∧ look (up pre) k = some ob)) :
    Calls P f vs.toArray w fun e w' => ∃ ρ' v, e = .returned v ∧ All c ρ' (look (up post ++ hp)) w' fr a ∧ RepI c.F ρ' (look (up post ++ hp)) w' r v := by
  have hd : ∀ k, look (up pre) k = none ↔ look (up post) k = none := fun k => by rw [look_up_none, look_up_none, hdom]
  let ρ1 : Loc := fun k => if look (up pre) k = none then none else ρ k
  let F1 : Nat → Prop := fun b => c.F b ∨ ∃ k cc, ρ k = some (b, cc) ∧ look (up pre) k = none ∧ ¬ Ls k
  have h1in : ∀ k, look (up pre) k ≠ none → ρ1 k = ρ k := fun k hk => if_neg hk
  have h1out : ∀ k, look (up pre) k = none → ρ1 k = none := fun k hk => if_pos hk
  have h1 : ∀ k l, ρ1 k = some l → look (up pre) k ≠ none ∧ ρ k = some l := fun k l hk => by
    by_cases e : look (up pre) k = none
    · rw [h1out k e] at hk; cases hk
    exact ⟨e, (h1in k e) ▸ hk⟩
  have hown1 : ∀ b, owned F1 ρ1 b → owned c.F ρ b := fun b hb => by
    rcases hb with (hb | ⟨k, cc, hk, _, _⟩) | ⟨k, cc, hk⟩
    · exact .inl hb
    · exact .inr ⟨k, cc, hk⟩
    exact .inr ⟨k, cc, (h1 k _ hk).2⟩
  have hconv : ∀ x : IV, ¬ Names (fun k => ¬ ∀ o, look (up pre) k = some o → look hp k = some o ∧ ρ1 k = ρ k) x := fun x hx => by
    obtain ⟨k, hk⟩ := hx.some
    exact hk fun o ho => ⟨hpre k o ho, h1in k (by simp [ho])⟩
  have hrel1 : RelH F1 ρ1 (look (up pre)) w := by
    refine ⟨fun k k' b cc cc' hk hk' => h.rel.inj k k' b cc cc' (h1 _ _ hk).2 (h1 _ _ hk').2, fun k b cc hk hb => ?_, fun b hb => ?_, fun k b cc hk => ?_, fun k o hk hρ => ?_⟩
    · rcases hb with hb | ⟨k', cc', hk', hn, _⟩
      · exact h.rel.apart k b cc (h1 _ _ hk).2 hb
      obtain rfl := h.rel.inj _ _ _ _ _ (h1 _ _ hk).2 hk'
      exact (h1 _ _ hk).1 hn
    · rcases hb with hb | ⟨k', cc', hk', _, _⟩
      · exact h.rel.old b hb
      exact h.rel.lt hk'
    · obtain ⟨hne, hk2⟩ := h1 _ _ hk
      obtain ⟨o1, ho1, ho2⟩ := h.rel.obj k b cc hk2
      cases hl : look (up pre) k with
      | none => exact absurd hl hne
      | some o2 =>
        rw [hpre k o2 hl] at ho1; cases ho1
        exact ⟨_, rfl, ho2.conv hown1 fun x _ => hconv x⟩
    rw [h1in k (by simp [hk])] at hρ
    exact h.rel.real k o (hpre k o hk) hρ
  have hLown : ∀ L b cc, Ls L → ρ L = some (b, cc) → ¬ owned F1 ρ1 b := fun L b cc hL hb ho => by
    rcases ho with (ho | ⟨k', cc', hk', hn, hnl⟩) | ⟨k', cc', hk'⟩
    · exact h.rel.apart L b cc hb ho
    · obtain rfl := h.rel.inj _ _ _ _ _ hb hk'; exact hnl hL
    obtain ⟨hne, hk2⟩ := h1 _ _ hk'
    obtain rfl := h.rel.inj _ _ _ _ _ hb hk2
    exact hne (hLs _ hL)
  refine (hsc F1 ρ1 w vs hrel1 (lends_rep hlend hargs (fun x y v hxy hx => ?_))).mono ?_
  · cases hxy with
    | same => exact hx.conv hown1 (hconv x)
    | row hL hσ hn he =>
      subst he
      cases hx with
      | sl _ _ _ hh =>
        rcases (hh _ _ hσ).2 hn with ⟨b, cc, hρ, rfl⟩ | ⟨hρ, hz, rfl⟩
        · obtain ⟨o1, ho1, ho2⟩ := h.rel.obj _ b cc hρ
          rw [hσ] at ho1; cases ho1
          cases ho2 with
          | row _ els r u h3 h4 h5 h6 h7 h8 h9 =>
            subst hn
            refine .pv _ _ (.seq _ (some ⟨b, 0, none⟩) cc b 0 u (fun _ => rfl) (fun _ => ⟨hLown _ _ _ hL hρ, h.rel.lt hρ⟩) h5 h6 (fun i el hi j x hj => ?_) (fun i el hi j x hj => (h9 i el hi j x hj).own hown1))
            rw [cell_at h3, h7 el (List.mem_of_getElem? hi)]
            simpa using h8 i el hi j x hj
        have : _ = [] := List.eq_nil_of_length_eq_zero (hn.trans hz)
        subst this
        subst hz
        exact .pv _ _ (.seq [] none 0 0 0 (fun _ _ => undef) (by simp) (by simp) (by simp) (by simp [maxLen]) (by simp) (by simp))
  rintro e w' ⟨ρ2, v, rfl, hv, hrel2, t⟩
  let ρ' : Loc := fun k => if look (up pre) k = none then ρ k else ρ2 k
  have h2in : ∀ k, look (up pre) k ≠ none → ρ' k = ρ2 k := fun k hk => if_neg hk
  have h2out : ∀ k, look (up pre) k = none → ρ' k = ρ k := fun k hk => if_pos hk
  have h2none : ∀ k, look (up pre) k = none → ρ2 k = none := fun k hk => by
    cases h3 : ρ2 k with
    | none => rfl
    | some l =>
      obtain ⟨o1, ho1, _⟩ := hrel2.obj k l.1 l.2 h3
      rw [(hd k).1 hk] at ho1; cases ho1
  have h2 : ∀ k l, ρ2 k = some l → look (up pre) k ≠ none := fun k l hk e => by rw [h2none k e] at hk; cases hk
  have hσin : ∀ k, look (up pre) k ≠ none → look (up post ++ hp) k = look (up post) k := fun k hk => by
    rw [look_append]
    cases h3 : look (up post) k with
    | none => exact absurd ((hd k).2 h3) hk
    | some o => rfl
  have hσout : ∀ k, look (up pre) k = none → look (up post ++ hp) k = look hp k := fun k hk => by
    rw [look_append, (hd k).1 hk]; rfl
  have T : Trans c.F (fun k => look (up pre) k = none ∨ R k) ρ (look hp) w ρ' (look (up post ++ hp)) w' := by
    refine ⟨t.os, t.tape, t.output, t.size, fun b hb hall => t.blk b hb fun k cc hk => ?_, fun k b cc hk hb => ?_, fun k cs cs' e1 e2 => ?_, fun k cs cs' e1 e2 => ?_, fun k s s' els els' e1 e2 hl => ?_, fun k s s' els els' e1 e2 => ?_, fun k cs' e2 => ?_, fun k cs' e2 => ?_, fun k s els' e2 => ?_⟩
    · obtain ⟨hne, hk2⟩ := h1 _ _ hk
      exact (hall k cc hk2).resolve_left hne
    · by_cases e : look (up pre) k = none
      · rwa [h2out k e] at hk
      rw [h2in k e] at hk; exact (h1 _ _ (t.own k b cc hk hb)).2
    all_goals by_cases e : look (up pre) k = none
    · exact h2out k e
    · cases h3 : look (up pre) k with
      | none => exact absurd h3 e
      | some o =>
        rw [hpre k o h3] at e1; cases e1
        rw [hσin k e] at e2
        rw [h2in k e, t.box k _ _ h3 e2, h1in k e]
    · exact h2out k e
    · cases h3 : look (up pre) k with
      | none => exact absurd h3 e
      | some o =>
        rw [hpre k o h3] at e1; cases e1
        rw [hσin k e] at e2
        rw [h2in k e, t.map k _ _ h3 e2, h1in k e]
    · exact h2out k e
    · cases h3 : look (up pre) k with
      | none => exact absurd h3 e
      | some o =>
        rw [hpre k o h3] at e1; cases e1
        rw [hσin k e] at e2
        rw [h2in k e, t.row k _ _ _ _ h3 e2 hl, h1in k e]
    · rw [hσout k e, e1] at e2; cases e2; exact Nat.le_refl _
    · cases h3 : look (up pre) k with
      | none => exact absurd h3 e
      | some o =>
        rw [hpre k o h3] at e1; cases e1
        rw [hσin k e] at e2
        exact t.grow k _ _ _ _ h3 e2
    · rw [hσout k e] at e2; exact .inr ⟨_, e2⟩
    · rw [hσin k e] at e2
      rcases t.kindB k _ e2 with h3 | ⟨cs, h3⟩
      · exact absurd h3 e
      exact .inr ⟨cs, hpre k _ h3⟩
    · rw [hσout k e] at e2; exact .inr ⟨_, e2⟩
    · rw [hσin k e] at e2
      rcases t.kindM k _ e2 with h3 | ⟨cs, h3⟩
      · exact absurd h3 e
      exact .inr ⟨cs, hpre k _ h3⟩
    · rw [hσout k e] at e2; exact .inr ⟨_, e2⟩
    rw [hσin k e] at e2
    rcases t.kindR k _ _ e2 with h3 | ⟨cs, h3⟩
    · exact absurd h3 e
    exact .inr ⟨cs, hpre k _ h3⟩
  have hnone : ∀ k, ¬ (look hp k = none ∧ look (up post ++ hp) k ≠ none) := fun k hk => by
    by_cases e : look (up pre) k = none
    · rw [hσout k e] at hk; exact hk.2 hk.1
    cases h3 : look (up pre) k with
    | none => exact e h3
    | some o => rw [hpre k o h3] at hk; cases hk.1
  have hnn : ∀ x : IV, ¬ Names (fun k => look hp k = none ∧ look (up post ++ hp) k ≠ none) x := fun x hx => by
    obtain ⟨k, hk⟩ := hx.some
    exact hnone k hk
  have hmix : ∀ k k' b cc cc', look (up pre) k = none → ρ k = some (b, cc) → ρ2 k' = some (b, cc') → k = k' := fun k k' b cc cc' e hk hk' => by
    by_cases hL : Ls k
    · have := h1 _ _ (t.own k' b cc' hk' (h.rel.lt hk))
      exact h.rel.inj _ _ _ _ _ hk this.2
    exact absurd (.inr ⟨k, cc, hk, e, hL⟩) (hrel2.apart _ _ _ hk')
  refine ⟨ρ', v, rfl, h.step T hR ⟨fun k k' b cc cc' hk hk' => ?_, fun k b cc hk hb => ?_, fun b hb => Nat.lt_of_lt_of_le (h.rel.old b hb) t.size, fun k b cc hk => ?_, fun k o hk hρ => ?_⟩ (fun k e1 e2 => absurd ⟨e1, e2⟩ (hnone k)) fun _ x _ => hnn x, by obtain ⟨z, rfl⟩ := hr; obtain rfl := hv.val; exact mkVal _⟩
  · by_cases e : look (up pre) k = none <;> by_cases e' : look (up pre) k' = none
    · rw [h2out k e] at hk; rw [h2out k' e'] at hk'; exact h.rel.inj _ _ _ _ _ hk hk'
    · rw [h2out k e] at hk; rw [h2in k' e'] at hk'
      exact hmix k k' b cc cc' e hk hk'
    · rw [h2in k e] at hk; rw [h2out k' e'] at hk'
      exact (hmix k' k b cc' cc e' hk' hk).symm
    rw [h2in k e] at hk; rw [h2in k' e'] at hk'; exact hrel2.inj _ _ _ _ _ hk hk'
  · by_cases e : look (up pre) k = none
    · rw [h2out k e] at hk; exact h.rel.apart _ _ _ hk hb
    rw [h2in k e] at hk; exact hrel2.apart _ _ _ hk (.inl hb)
  · by_cases e : look (up pre) k = none
    · rw [h2out k e] at hk
      obtain ⟨o1, ho1, ho2⟩ := h.rel.obj k b cc hk
      refine ⟨o1, (hσout k e).trans ho1, ho2.keep T (t.blk b (h.rel.lt hk) fun k' cc' hk' => ?_) fun x _ => hnn x⟩
      obtain ⟨hne, hk2⟩ := h1 _ _ hk'
      obtain rfl := h.rel.inj _ _ _ _ _ hk hk2
      exact absurd e hne
    rw [h2in k e] at hk
    obtain ⟨o1, ho1, ho2⟩ := hrel2.obj k b cc hk
    refine ⟨o1, (hσin k e).trans ho1, ?_⟩
    rcases hpost k o1 ho1 with hpl | ⟨hRk, hpr⟩
    · exact ho2.plain hpl
    have hsame : ρ2 k = ρ k := by
      rw [← h1in k e]
      cases o1 with
      | box cs => exact t.box k _ _ hpr ho1
      | row s els => exact t.row k _ _ _ _ hpr ho1 rfl
      | map es => exact t.map k _ _ hpr ho1
    rw [hsame] at hk
    obtain ⟨o3, ho3, ho4⟩ := h.rel.obj k b cc hk
    rw [hpre k _ hpr] at ho3; cases ho3
    refine ho4.keep T (t.blk b (h.rel.lt hk) fun k' cc' hk' => ?_) fun x _ => hnn x
    obtain ⟨hne, hk2⟩ := h1 _ _ hk'
    obtain rfl := h.rel.inj _ _ _ _ _ hk hk2
    exact hRk
  by_cases e : look (up pre) k = none
  · rw [hσout k e] at hk; rw [h2out k e] at hρ; exact h.rel.real k o hk hρ
  rw [hσin k e] at hk; rw [h2in k e] at hρ; exact hrel2.real k o hk hρ
theorem ok_lend (Ls : Nat → Prop) {ys : List IV} {f : FuncId} {os : Array Operand} {tys : Array TypeId} {xs args : List IV} {pre post : List (Nat × HO)} {R : Nat → Prop} {r : IV} {hp : Hp} (hsc : SC P f args pre R r post) (hf : enters P f)
    (ho : o.op = .call { callee := .value (.func f), args := os, argTypes := tys }) (hx : evs fr os.toList = some xs) (hs : Subs (look hp) xs ys) (hlend : lends (look hp) Ls ys args) (hLs : ∀ k, Ls k → look (up pre) k = none) (hpre : ∀ k o, look (up pre) k = some o → look hp k = some o) (hdom : pre.map (·.1) = post.map (·.1))
    (hR : ∀ k, c.R k → look (up pre) k = none ∨ R k) (hr : ∃ z, r = .pv (.val z)) (hpost : ∀ k ob, look (up post) k = some ob → plainO ob = true ∨ (R k ∧ look (up pre) k = some ob)) : Ok P c o fr (look hp) r (look (up post ++ hp)) := by
  intro ρ w a K Q h hK
  obtain ⟨fn, hfn, hname, hbody⟩ := hf
  have hargs := hs _ _ _ _ (evs_rep h hx)
  have hrun : (execOp a.eval o).run P w = .ok (.enter f (os.toList.map a.eval).toArray) w := by
    have hcall : (callFunc f (os.toList.map a.eval).toArray).run P w = .ok (.enter f (os.toList.map a.eval).toArray) w := by
      unfold callFunc
      simp only [Sem.run_bind]
      show (Result.andThen (.ok P w) _) = _
      simp only [Result.andThen_ok, hfn, hname, hbody]
      rfl
    simp only [execOp, ho, resolve, Act.eval, Deferred.ofValue, Sem.run_bind, Sem.run_pure, Result.andThen_ok, invoke]
    rw [← hcall]
    congr 2
    apply Array.ext'
    simp
  unfold Oper.wp
  rw [hrun, Oper.upon_enter]
  refine (hsc.lend h hlend hLs hargs hpre hdom hR hr hpost).mono ?_
  rintro e w' ⟨ρ', v, rfl, h1, h2⟩
  exact hK ρ' w' v h1 h2
end
def andT (r : Bool × List Bool) (k : List Bool → Bool × List Bool) : Bool × List Bool := if r.1 then k r.2 else (false, r.2)
def ne (l : List Nd) (r : Bool × List Bool) : Bool × List Bool := if l.isEmpty then (false, r.2) else r
mutual
/-- How much there is in a node. -/
def ndW : Nd → Nat
  | .mk _ _ _ _ args outs params kids => 1 + args.length + outs.length + params.length + kdW kids
def lsW : List Nd → Nat
  | [] => 0
  | x :: r => ndW x + lsW r
def kdW : List (List Nd) → Nat
  | [] => 0
  | l :: r => 1 + lsW l + kdW r
end
def r8end (f : Fl) (x : Nd) (set : List Bool) : Bool × List Bool :=
  andS ((x.outs.length : Int) == 0 || !r8Closed x) set (r8sets f.types set x.outs (List.replicate x.outs.length 0))
mutual
def r8node (u : Un) (f : Fl) (deep : Int) (w : Wh) (seen : List Int) (set : List Bool) : Nd → Bool × List Bool
  | .mk kind op n name args outs params kids =>
    if !r8bare (.mk kind op n name args outs params kids) then (false, set)
    else if kind == 10 then
      if r8types f.types seen args [2] then
        match kids with
        | a :: b :: _ =>
          andT (ne a (r8go u f (deep + 1) ⟨true, w.Loop, r8of f.types outs, w.Next, w.Left⟩ seen set a)) fun s1 =>
          andT (ne b (r8go u f (deep + 1) ⟨true, w.Loop, r8of f.types outs, w.Next, w.Left⟩ seen s1 b)) fun s2 =>
          r8end f (.mk kind op n name args outs params kids) s2
        | _ => (false, set)
      else (false, set)
    else if kind == 11 then
      if r8types f.types seen args (r8of f.types params) then
        andT (r8sets f.types set params (List.replicate params.length 0)) fun s1 =>
        match kids with
        | a :: _ =>
          andT (ne a (r8go u f (deep + 1) ⟨false, true, [], r8of f.types params, r8of f.types outs⟩ (seen ++ params) s1 a)) fun s2 =>
          r8end f (.mk kind op n name args outs params kids) s2
        | _ => (false, s1)
      else (false, set)
    else r8simple u f set (.mk kind op n name args outs params kids) seen w
def r8go (u : Un) (f : Fl) (deep : Int) (w : Wh) (all : List Int) (set : List Bool) : List Nd → Bool × List Bool
  | [] => (true, set)
  | x :: r =>
    if deep > 100 then (false, set)
    else andT (r8node u f deep w all set x) fun s1 =>
      if r8Closed x != r.isEmpty then (false, s1)
      else r8go u f deep w (all ++ x.outs) s1 r
end
def r8list (u : Un) (f : Fl) (deep : Int) (w : Wh) (all : List Int) (set : List Bool) (l : List Nd) : Bool × List Bool := ne l (r8go u f deep w all set l)
theorem andS_length {b : Bool} {set : List Bool} {r : Bool × List Bool} {n : Nat} (h1 : set.length = n) (h2 : r.2.length = n) : (andS b set r).2.length = n := by unfold andS; split <;> assumption
theorem andT_length {r : Bool × List Bool} {k : List Bool → Bool × List Bool} {n : Nat} (h1 : r.2.length = n) (h2 : ∀ s, s.length = n → (k s).2.length = n) : (andT r k).2.length = n := by
  unfold andT; split
  · exact h2 _ h1
  exact h1
theorem ne_length {l : List Nd} {r : Bool × List Bool} {n : Nat} (h : r.2.length = n) : (ne l r).2.length = n := by unfold ne; split <;> exact h
theorem ite_length {p : Prop} [Decidable p] {a b : Bool × List Bool} {n : Nat} (h1 : a.2.length = n) (h2 : b.2.length = n) : (if p then a else b).2.length = n := by split <;> assumption
theorem r8simple_length (u : Un) (f : Fl) (set : List Bool) (x : Nd) (seen : List Int) (w : Wh) : (r8simple u f set x seen w).2.length = set.length := by
  have hS : ∀ b l t, (andS b set (r8sets f.types set l t)).2.length = set.length := fun b l t => andS_length rfl (r8sets_length ..)
  unfold r8simple r8call
  repeat' (first | exact hS _ _ _ | exact rfl | refine ite_length ?_ ?_ | split)
theorem r8end_length {f : Fl} {x : Nd} {set : List Bool} {n : Nat} (h : set.length = n) : (r8end f x set).2.length = n := andS_length h ((r8sets_length ..).trans h)
mutual
theorem r8node_length (u : Un) (f : Fl) : ∀ (x : Nd) (deep : Int) (w : Wh) (seen : List Int) (set : List Bool), (r8node u f deep w seen set x).2.length = set.length
  | .mk kind op n name args outs params kids, deep, w, seen, set => by
    unfold r8node
    split
    · rfl
    split
    · split
      · match kids with
        | [] => rfl
        | [_] => rfl
        | a :: b :: _ =>
          refine andT_length (ne_length (r8go_length u f a ..)) fun s hs => andT_length (ne_length ((r8go_length u f b ..).trans hs)) fun s hs => r8end_length hs
      rfl
    split
    · split
      · refine andT_length (r8sets_length ..) fun s hs => ?_
        match kids with
        | [] => exact hs
        | a :: _ => exact andT_length (ne_length ((r8go_length u f a ..).trans hs)) fun s hs => r8end_length hs
      rfl
    exact r8simple_length ..
theorem r8go_length (u : Un) (f : Fl) : ∀ (l : List Nd) (deep : Int) (w : Wh) (all : List Int) (set : List Bool), (r8go u f deep w all set l).2.length = set.length
  | [], _, _, _, _ => by simp [r8go]
  | x :: r, deep, w, all, set => by
    unfold r8go
    split
    · rfl
    refine andT_length (r8node_length u f x ..) fun s hs => ?_
    split
    · exact hs
    exact (r8go_length u f r ..).trans hs
end
theorem r8list_length (u : Un) (f : Fl) (deep : Int) (w : Wh) (all : List Int) (set : List Bool) (l : List Nd) : (r8list u f deep w all set l).2.length = set.length := ne_length (r8go_length ..)
/-- What the checker has after a call that was lent a row. -/
theorem ck_lend {u : Un} {f : Fl} {bt : TypeId} {set set' : List Bool} (h : set'.length = set.length) : ∀ k ob, look (up (ckHp u f bt set')) k = some ob → plainO ob = true ∨ (k = 3 ∧ look (up (ckHp u f bt set)) k = some ob) := by
  intro k ob hk
  have hm := look_up_mem hk
  simp only [ckHp, List.mem_cons, List.not_mem_nil, or_false, Prod.mk.injEq] at hm
  rcases hm with ⟨rfl, rfl⟩ | ⟨rfl, rfl⟩
  · exact .inr ⟨rfl, by simp [ckHp, up, look, h]⟩
  refine .inl ?_
  simp [plainO, eBool, plainP]
theorem r8bare_kids {x : Nd} (h : r8bare x = true) : (x.kids.length : Int) = r8kn x := by
  simp only [r8bare, Bool.and_eq_true, beq_iff_eq] at h
  exact h.1.2
theorem r8bare_if {x : Nd} (h : r8bare x = true) (hk : x.kind = 10) : ∃ a b, x.kids = [a, b] := by
  have := r8bare_kids h
  simp [r8kn, hk] at this
  match hx : x.kids with
  | [] => simp [hx] at this
  | [a] => simp [hx] at this
  | [a, b] => exact ⟨a, b, rfl⟩
  | a :: b :: c :: r => simp [hx] at this; omega
theorem r8bare_loop {x : Nd} (h : r8bare x = true) (hk : x.kind = 11) : ∃ a, x.kids = [a] := by
  have := r8bare_kids h
  simp [r8kn, hk] at this
  match hx : x.kids with
  | [] => simp [hx] at this
  | [a] => exact ⟨a, rfl⟩
  | a :: b :: r => simp [hx] at this; omega
theorem r8node_bare (u : Un) (f : Fl) (deep : Int) (w : Wh) (seen : List Int) (set : List Bool) {x : Nd} (h : r8bare x = false) : r8node u f deep w seen set x = (false, set) := by
  cases x; unfold r8node; simp [h]
theorem r8node_if (u : Un) (f : Fl) (deep : Int) (w : Wh) (seen : List Int) (set : List Bool) {x : Nd} {a b : List Nd} (h : r8bare x = true) (hk : x.kind = 10) (hx : x.kids = [a, b]) :
    r8node u f deep w seen set x = if r8types f.types seen x.args [2] then
        andT (r8list u f (deep + 1) ⟨true, w.Loop, r8of f.types x.outs, w.Next, w.Left⟩ seen set a) fun s1 =>
        andT (r8list u f (deep + 1) ⟨true, w.Loop, r8of f.types x.outs, w.Next, w.Left⟩ seen s1 b) fun s2 => r8end f x s2
      else (false, set) := by
  cases x; simp only [Nd.kind, Nd.kids, Nd.args, Nd.outs] at *; subst hk hx; unfold r8node; simp [h, r8list]; rfl
theorem r8node_loop (u : Un) (f : Fl) (deep : Int) (w : Wh) (seen : List Int) (set : List Bool) {x : Nd} {a : List Nd} (h : r8bare x = true) (hk : x.kind = 11) (hx : x.kids = [a]) :
    r8node u f deep w seen set x = if r8types f.types seen x.args (r8of f.types x.params) then
        andT (r8sets f.types set x.params (List.replicate x.params.length 0)) fun s1 =>
        andT (r8list u f (deep + 1) ⟨false, true, [], r8of f.types x.params, r8of f.types x.outs⟩ (seen ++ x.params) s1 a) fun s2 => r8end f x s2
      else (false, set) := by
  cases x; simp only [Nd.kind, Nd.kids, Nd.args, Nd.outs, Nd.params] at *; subst hk hx; unfold r8node; simp [h, r8list]; rfl
theorem r8node_simple (u : Un) (f : Fl) (deep : Int) (w : Wh) (seen : List Int) (set : List Bool) {x : Nd} (h : r8bare x = true) (h1 : (x.kind == 10) = false) (h2 : (x.kind == 11) = false) :
    r8node u f deep w seen set x = r8simple u f set x seen w := by
  cases x; simp only [Nd.kind] at *; unfold r8node; simp [h, h1, h2]
theorem ndW_eq (x : Nd) : ndW x = 1 + x.args.length + x.outs.length + x.params.length + kdW x.kids := by cases x; simp [ndW, Nd.args, Nd.outs, Nd.params, Nd.kids]
theorem ck_row {u : Un} {f : Fl} {bt : TypeId} {s s' : List Bool} {k : Nat} {o o2 : Option HO} : look ((k, o) :: (up (ckHp u f bt s') ++ ((k, o2) :: up (ckHp u f bt s)))) = look ((k, o) :: up (ckHp u f bt s')) := by
  funext j
  simp only [look]
  cases hkj : Nat.beq k j with
  | true => rfl
  | false =>
    simp only [cond_false]
    rw [look_append]
    simp only [look, hkj, cond_false, ckHp, up, List.map_cons, List.map_nil]
    cases Nat.beq 3 j <;> cases Nat.beq 4 j <;> rfl
theorem ck_row' {u : Un} {f : Fl} {bt : TypeId} {s s' : List Bool} {k : Nat} {t : RT} {al l : List Int} {o2 : Option HO} : look ((k, some (.row t (al.map eInt ++ l.map eInt))) :: (up (ckHp u f bt s') ++ ((k, o2) :: up (ckHp u f bt s)))) = look ((k, some (.row t ((al ++ l).map eInt))) :: up (ckHp u f bt s')) := by
  rw [ck_row, List.map_append]
theorem r8list_ne {u : Un} {f : Fl} {deep : Int} {w : Wh} {all : List Int} {set : List Bool} {l : List Nd} {k : Nat} (h : k < l.length) : r8list u f deep w all set l = r8go u f deep w all set l := by
  unfold r8list ne
  rw [if_neg]
  simp
  intro e; subst e; simp at h
theorem drop_isEmpty {l : List Nd} {k : Nat} (h : k < l.length) : (l.drop (k + 1)).isEmpty = ((k : Int) == (l.length : Int) - 1) := by
  by_cases e : k + 1 = l.length
  · rw [List.drop_eq_nil_of_le (by omega)]
    have : (k : Int) = (l.length : Int) - 1 := by omega
    simp [this]
  have h1 : l.drop (k + 1) ≠ [] := fun h0 => by have := congrArg List.length h0; simp at this; omega
  have h2 : ¬ (k : Int) = (l.length : Int) - 1 := by omega
  rw [beq_eq_false_iff_ne.2 h2]
  cases hq : l.drop (k + 1) with
  | nil => exact absurd hq h1
  | cons => rfl
set_option maxRecDepth 8000 in
set_option maxHeartbeats 2000000 in
theorem sc_r8node (u : Un) (f : Fl) (hg : ∀ g ∈ u.flows, 0 ≤ g.params ∧ g.params ≤ g.types.length) (x : Nd) (deep : Int) (hd : 0 ≤ deep ∧ deep ≤ 100) (wh : Wh) (seen : List Int) (set : List Bool) (hs : set.length = f.types.length) (hb : seen.length + ndW x ≤ 1073741824) (ih : ∀ q ∈ x.kids, ∀ (deep : Int) (w : Wh) (all : List Int) (set : List Bool), 0 ≤ deep ∧ deep ≤ 101 → set.length = f.types.length → all.length + lsW q ≤ 1073741824 → SC Tryz.prog 48 [.ptr 3 0, .pv (nodes q), .pv (ints all), .pv (whv w), iInt deep] (ckHp u f 4 set) (fun k => k = 3) (iBool (r8list u f deep w all set q).1) (ckHp u f 4 (r8list u f deep w all set q).2)) : SC Tryz.prog 72 [.ptr 3 0, .pv (ndv x), .pv (ints seen), .pv (whv wh), iInt deep] (ckHp u f 4 set) (fun k => k = 3) (iBool (r8node u f deep wh seen set x).1) (ckHp u f 4 (r8node u f deep wh seen set x).2) := by
  refine SC.of Tryz.func72 rfl (lb rfl) fun F ρ w => ?_
  have hbW := ndW_eq x
  have hbo : x.outs.length ≤ 1073741824 := by omega
  have hbp : x.params.length ≤ 1073741824 := by omega
  refine Tr.seq <| Tr.region rfl <| WL.cons rfl rfl rfl (ok_box rfl rfl) <| WL.cons rfl rfl rfl (ok_box rfl rfl) <| cV rfl (oA rfl) <| WL.nil <| Tr.seq <| Tr.seq <| Tr.region rfl <| cV rfl (ok_load_ept_agg rfl rfl Tryz.underlying42 rfl tS42 (Nat.le_of_ble_eq_true rfl)) <| WL.cons rfl rfl rfl (ok_callq (sc_r8bare _) ent90 rfl rfl (Subs.refl _ _) rfl) <| cV rfl (oN rfl) ?_
  refine WL.nil ?_
  refine Tr.cond rfl (fun hc17 => ?_) (fun hc17 => ?_)
  · refine Tr.seq <| Tr.region rfl <| cV rfl (oA rfl) <| WL.nil <| Tr.ret ?_
    have hbare : r8bare x = false := by simpa using hc17
    rw [r8node_bare _ _ _ _ _ _ hbare]
    exact ret_ok rfl rfl (po2 rfl rfl)
  have hbare : r8bare x = true := by simpa using hc17
  refine Tr.skip <| Tr.seq <| Tr.seq <| Tr.region rfl <| cV rfl (oFe rfl tF42_0) <| cV rfl (oLe Tryz.underlying3 rfl rfl) <| WL.nil <| Tr.block <| Tr.seq <| Tr.region rfl <| cV rfl (oB rfl rfl rfl) <| cV rfl (oA rfl) ?_
  refine WL.nil ?_
  refine Tr.cond rfl (fun hc20 => ?_) (fun hc20 => ?_)
  · have hk10 : x.kind = 10 := by simpa using hc20
    obtain ⟨ka, kb, hkids⟩ := r8bare_if hbare hk10
    have hi0 : (x.kids.map eKid)[0]? = some [nodes ka] := by rw [hkids]; rfl
    have hi1 : (x.kids.map eKid)[1]? = some [nodes kb] := by rw [hkids]; rfl
    have hm0 : ka ∈ x.kids := by rw [hkids]; simp
    have hm1 : kb ∈ x.kids := by rw [hkids]; simp
    have hkW : kdW x.kids = 1 + lsW ka + (1 + lsW kb) := by rw [hkids]; simp [kdW] <;> omega
    have hb0 : seen.length + lsW ka ≤ 1073741824 := by omega
    have hb1 : seen.length + lsW kb ≤ 1073741824 := by omega
    have hs1 : (r8list u f (deep + 1) ⟨true, wh.Loop, r8of f.types x.outs, wh.Next, wh.Left⟩ seen set ka).2.length = f.types.length := (r8list_length ..).trans hs
    have hs2 : (r8list u f (deep + 1) ⟨true, wh.Loop, r8of f.types x.outs, wh.Next, wh.Left⟩ seen (r8list u f (deep + 1) ⟨true, wh.Loop, r8of f.types x.outs, wh.Next, wh.Left⟩ seen set ka).2 kb).2.length = f.types.length := (r8list_length ..).trans hs1
    refine Tr.seq <| Tr.drawn mixed (fun k => k ∈ ([3] : List Nat)) <| WA.run (fuel := 4) [0, 1, 2, 3, 4, 6, 7, 8, 9] (by kernel_rfl) (fun _ _ _ h => h) (by kernel_rfl) <| rV rfl rfl (oFe rfl tF87_1) <| rV rfl rfl (oLe Tryz.underlying4 rfl rfl) <| rV rfl rfl (oM rfl) <| rV rfl rfl (oFe rfl tF42_5) <| rV rfl rfl (oLe Tryz.underlying35 rfl rfl) <| rV rfl rfl (oFe rfl tF87_3) <| rV rfl rfl (oLe Tryz.underlying35 rfl rfl) <| rV rfl rfl (oFe rfl tF87_4) <| rV rfl rfl (oLe Tryz.underlying35 rfl rfl) ?_
    refine WR.nil ?_
    refine WA.all (rs := [5, 11]) (by kernel_rfl) (by simp) ?_
    refine List.forall_mem_cons.2 ⟨?_, List.forall_mem_cons.2 ⟨?_, by simp⟩⟩
    · refine WI.op rfl rfl rfl (by intro t h; cases h <;> rfl) (fun k (h : _) => by (simp at h ⊢; omega)) (new_app rfl) (fun ρ w => ok_callr (sc_r8of u f set x.outs hbo) ent91 rfl rfl (Subs.refl _ _) (po2 rfl rfl) rfl (fun k (h : _) => by (simp only [List.mem_cons, List.not_mem_nil, or_false] at h; rcases h with rfl <;> first | exact .inl rfl | exact .inr rfl | exact .inr (by decide))) rfl rfl) <| WA.run (fuel := 2) [10] (by kernel_rfl) (fun _ _ _ h => h) (by kernel_rfl) <| rV rfl rfl (ok_build_pure rfl rfl tZ87 tP87 rfl (firmB_ok rfl) rfl) <| WR.nil <| WA.one (i := 11) (by kernel_rfl) <| WI.op rfl rfl rfl (by intro t h; cases h <;> rfl) (fun k (h : _) => by (simp at h ⊢; omega)) (new_one rfl) (fun ρ w => ok_alloc (k := 111) rfl tZ87 rfl rfl rfl rfl) <| WA.one (i := 12) (by kernel_rfl) ?_
      refine WI.op rfl rfl rfl (by intro t h; cases h <;> rfl) (fun k (h : _) => by (simp at h ⊢; omega)) (new_old rfl) (fun ρ w => ok_store_box_agg rfl rfl rfl rfl rfl (by simp) tS87 (firmL_ok rfl) (lb rfl)) ?_
      refine WA.done (by kernel_rfl) <| Tr.seq <| Tr.drawn mixed (fun k => k ∈ ([3, 111] : List Nat)) <| WA.run (fuel := 27) [0, 1, 2, 3] (by kernel_rfl) (fun _ _ _ h => h) (by kernel_rfl) <| rV rfl rfl (oM rfl) <| rV rfl rfl (oFe rfl tF42_4) <| rV rfl rfl (oLe Tryz.underlying35 rfl rfl) <| rV rfl rfl (oM rfl) <| WR.nil <| WA.one (i := 4) (by kernel_rfl) <| WI.op rfl rfl rfl (by intro t h; cases h <;> rfl) (fun k (h : _) => by (simp at h ⊢; omega)) (fun _ h1 h2 => absurd h1 h2) (fun ρ w => ok_buildSlice rfl rfl Tryz.underlying35 tZ3 tS3 rfl rfl rfl rfl (firmB_ok rfl) rfl) <| WA.one (i := 5) (by kernel_rfl) ?_
      refine WI.op rfl rfl rfl (by intro t h; cases h <;> rfl) (fun k (h : _) => by (simp at h ⊢; omega)) (new_app rfl) (fun ρ w => ok_callr (sc_r8types u f set x.args seen [2]) ent92 rfl rfl (Subs.refl _ _) (po2 rfl rfl) rfl (fun k (h : _) => .inr trivial) rfl rfl) <| WA.run (fuel := 15) [6, 7, 8, 9, 10, 11, 12, 13, 14, 15] (by kernel_rfl) (fun _ _ _ h => h) (by kernel_rfl) <| rV rfl rfl (oM rfl) ?_
      refine WR.split (t := 39) rfl (fun hb39 => ?_) (fun hb39 => ?_)
      · refine ryV rfl rfl rfl (oM rfl) <| ryV rfl rfl rfl (oFe rfl tF42_7) <| ryV rfl rfl rfl (oLe Tryz.underlying40 rfl rfl) <| ryV rfl rfl rfl (ok_index_seq rfl rfl rfl Tryz.underlying40 hi0 tS43 rfl (by rfl)) <| ryV rfl rfl rfl (oLe Tryz.underlying43 rfl rfl) <| ryV rfl rfl rfl (oM rfl) <| ryV rfl rfl rfl (ok_load_box_pure rfl rfl rfl Tryz.underlying87 rfl tS87 (Nat.le_of_ble_eq_true rfl) rfl (by decide)) <| ryV rfl rfl rfl (oM rfl) <| ryV rfl rfl rfl (oB rfl rfl (i64_add rfl (by omega))) <| WR.nil <| WA.one (i := 16) (by kernel_rfl) <| WI.opYes rfl rfl rfl rfl rfl rfl (by intro t h; cases h <;> rfl) (fun k (h : _) => by (simp at h ⊢; omega)) (new_app rfl) (fun ρ w => ok_callr (ih ka hm0 (deep + 1) ⟨true, wh.Loop, r8of f.types x.outs, wh.Next, wh.Left⟩ seen set ⟨by omega, by omega⟩ hs hb0) ent48 rfl rfl (Subs.refl _ _) (po2 rfl rfl) rfl (fun k (h : _) => by (simp only [List.mem_cons, List.not_mem_nil, or_false] at h; rcases h with rfl | rfl <;> first | exact .inl rfl | exact .inr rfl | exact .inr (by decide))) rfl rfl) ?_
        refine WA.run (fuel := 3) [17, 18, 19, 20, 21, 22, 23, 24, 25, 26, 27] (by kernel_rfl) (fun _ _ _ h => h) (by kernel_rfl) <| rV rfl rfl (oT rfl rfl) <| rV rfl rfl (oM rfl) ?_
        refine WR.split (t := 51) rfl (fun hb51 => ?_) (fun hb51 => ?_)
        · refine ryV rfl rfl rfl (oM rfl) <| ryV rfl rfl rfl (oFe rfl tF42_7) <| ryV rfl rfl rfl (oLe Tryz.underlying40 rfl rfl) <| ryV rfl rfl rfl (ok_index_seq rfl rfl rfl Tryz.underlying40 hi1 tS43 rfl (by rfl)) <| ryV rfl rfl rfl (oLe Tryz.underlying43 rfl rfl) <| ryV rfl rfl rfl (oM rfl) <| ryV rfl rfl rfl (ok_load_box_pure rfl rfl rfl Tryz.underlying87 rfl tS87 (Nat.le_of_ble_eq_true rfl) rfl (by decide)) <| ryV rfl rfl rfl (oM rfl) <| ryV rfl rfl rfl (oB rfl rfl (i64_add rfl (by omega))) <| WR.nil <| WA.one (i := 28) (by kernel_rfl) <| WI.opYes rfl rfl rfl rfl rfl rfl (by intro t h; cases h <;> rfl) (fun k (h : _) => by (simp at h ⊢; omega)) (new_app rfl) (fun ρ w => ok_callr (ih kb hm1 (deep + 1) ⟨true, wh.Loop, r8of f.types x.outs, wh.Next, wh.Left⟩ seen (r8list u f (deep + 1) ⟨true, wh.Loop, r8of f.types x.outs, wh.Next, wh.Left⟩ seen set ka).2 ⟨by omega, by omega⟩ hs1 hb1) ent48 rfl rfl (Subs.refl _ _) (po2 rfl rfl) rfl (fun k (h : _) => by (simp only [List.mem_cons, List.not_mem_nil, or_false] at h; rcases h with rfl | rfl <;> first | exact .inl rfl | exact .inr rfl | exact .inr (by decide))) rfl rfl) ?_
          refine WA.run (fuel := 0) [29, 30] (by kernel_rfl) (fun _ _ _ h => h) (by kernel_rfl) <| rV rfl rfl (oT rfl rfl) <| rV rfl rfl (oA rfl) <| WR.nil <| WA.done (by kernel_rfl) <| Tr.seq <| Tr.drawn mixed (fun k => k ∈ ([3] : List Nat)) <| WA.run (fuel := 15) [0, 1, 2, 3, 4, 5, 6, 7] (by kernel_rfl) (fun _ _ _ h => h) (by kernel_rfl) <| rV rfl rfl (oM rfl) <| rV rfl rfl (oM rfl) ?_
          refine WR.split (t := 64) rfl (fun hb64 => ?_) (fun hb64 => ?_)
          · refine ryV rfl rfl rfl (oFe rfl tF42_5) <| ryV rfl rfl rfl (oLe Tryz.underlying35 rfl rfl) <| ryV rfl rfl rfl (oSm Tryz.underlying35 rfl) <| ryV rfl rfl rfl (oB rfl rfl rfl) <| ryV rfl rfl rfl (oM rfl) ?_
            refine WR.split (t := 69) rfl (fun hb69 => ?_) (fun hb69 => ?_)
            · refine rnV rfl rfl rfl <| WR.nil <| WA.takeNo (i := 8) (b := true) rfl (by kernel_rfl) (by kernel_rfl) (by kernel_rfl) (fun _ _ _ h => h) rfl rfl rfl rfl rfl rfl <| WA.run (fuel := 4) [9, 10, 11, 12, 13, 14, 15, 16, 17, 18] (by kernel_rfl) (fun _ _ _ h => h) (by kernel_rfl) <| rnV rfl rfl rfl <| ryV rfl rfl rfl (oT rfl rfl) <| rV rfl rfl (oT rfl rfl) <| rV rfl rfl (oM rfl) <| ryV rfl rfl rfl (oM rfl) <| ryV rfl rfl rfl (oFe rfl tF42_5) <| ryV rfl rfl rfl (oLe Tryz.underlying35 rfl rfl) <| ryV rfl rfl rfl (oFe rfl tF42_5) ?_
              refine ryV rfl rfl rfl (oLe Tryz.underlying35 rfl rfl) <| ryV rfl rfl rfl (oSm Tryz.underlying35 rfl) <| WR.nil <| WA.one (i := 19) (by kernel_rfl) <| WI.opYes rfl rfl rfl rfl rfl rfl (by intro t h; cases h <;> rfl) (fun k (h : _) => by (simp at h ⊢; omega)) (new_one rfl) (fun ρ w => ok_makeSlice (k := 182) (s := ⟨3, 1⟩) rfl rfl rfl Tryz.underlying35 tZ3 tC3 rfl (by decide) (by omega) (by omega) rfl rfl rfl rfl) <| WA.one (i := 20) (by kernel_rfl) <| WI.opYes rfl rfl rfl rfl rfl rfl (by intro t h; cases h <;> rfl) (fun k (h : _) => by (simp at h ⊢; omega)) (new_app rfl) (fun ρ w => ok_lend (fun k => k = 182) (sc_r8sets u f (r8list u f (deep + 1) ⟨true, wh.Loop, r8of f.types x.outs, wh.Next, wh.Left⟩ seen (r8list u f (deep + 1) ⟨true, wh.Loop, r8of f.types x.outs, wh.Next, wh.Left⟩ seen set ka).2 kb).2 x.outs (List.replicate x.outs.length 0) hs2) ent93 rfl rfl (Subs.refl _ _) (And.intro LendOf.same (And.intro LendOf.same (And.intro (LendOf.row rfl rfl (by (simp; done)) (by (simp only [List.map_replicate]; rfl))) (trivial)))) (fun k h => by subst h; rfl) (po2 rfl rfl) rfl (fun k (h : _) => by (simp only [List.mem_cons, List.not_mem_nil, or_false] at h; rcases h with rfl <;> first | exact .inl rfl | exact .inr rfl | exact .inr (by decide))) ⟨_, rfl⟩ (ck_lend (r8sets_length ..))) <| WA.run (fuel := 0) [21, 22] (by kernel_rfl) (fun _ _ _ h => h) (by kernel_rfl) <| rV rfl rfl (oT rfl rfl) <| rV rfl rfl (oA rfl) <| WR.nil <| WA.done (by kernel_rfl) ?_
              refine Tr.ret ?_
              (have h2 : (r8node u f deep wh seen set x).2 = (r8sets f.types (r8list u f (deep + 1) ⟨true, wh.Loop, r8of f.types x.outs, wh.Next, wh.Left⟩ seen (r8list u f (deep + 1) ⟨true, wh.Loop, r8of f.types x.outs, wh.Next, wh.Left⟩ seen set ka).2 kb).2 x.outs (List.replicate x.outs.length 0)).2 := (by rw [r8node_if _ _ _ _ _ _ hbare hk10 hkids]; simp_all [andT, andS, r8end]; done)
               rw [h2]
               refine ret_ok rfl ?_ (po2 rfl rfl)
               clear h2
               rw [r8node_if _ _ _ _ _ _ hbare hk10 hkids]
               simp_all [andT, andS, r8end]
               done)
            refine ryV rfl rfl rfl (ok_load_ept_agg rfl rfl Tryz.underlying42 rfl tS42 (Nat.le_of_ble_eq_true rfl)) <| WR.nil <| WA.one (i := 8) (by kernel_rfl) <| WI.opYes rfl rfl rfl rfl rfl rfl (by intro t h; cases h <;> rfl) (fun k (h : _) => by (simp at h ⊢; omega)) (fun _ h1 h2 => absurd h1 h2) (fun ρ w => ok_callq (sc_r8Closed _) ent53 rfl rfl (Subs.refl _ _) rfl) <| WA.run (fuel := 4) [9, 10, 11, 12, 13, 14, 15, 16, 17, 18] (by kernel_rfl) (fun _ _ _ h => h) (by kernel_rfl) <| ryV rfl rfl rfl (oN rfl) <| ryV rfl rfl rfl (oF rfl rfl) <| rV rfl rfl (oT rfl rfl) <| rV rfl rfl (oM rfl) ?_
            refine WR.split (t := 75) rfl (fun hb75 => ?_) (fun hb75 => ?_)
            · refine ryV rfl rfl rfl (oM rfl) <| ryV rfl rfl rfl (oFe rfl tF42_5) <| ryV rfl rfl rfl (oLe Tryz.underlying35 rfl rfl) <| ryV rfl rfl rfl (oFe rfl tF42_5) <| ryV rfl rfl rfl (oLe Tryz.underlying35 rfl rfl) <| ryV rfl rfl rfl (oSm Tryz.underlying35 rfl) <| WR.nil <| WA.one (i := 19) (by kernel_rfl) <| WI.opYes rfl rfl rfl rfl rfl rfl (by intro t h; cases h <;> rfl) (fun k (h : _) => by (simp at h ⊢; omega)) (new_one rfl) (fun ρ w => ok_makeSlice (k := 182) (s := ⟨3, 1⟩) rfl rfl rfl Tryz.underlying35 tZ3 tC3 rfl (by decide) (by omega) (by omega) rfl rfl rfl rfl) <| WA.one (i := 20) (by kernel_rfl) <| WI.opYes rfl rfl rfl rfl rfl rfl (by intro t h; cases h <;> rfl) (fun k (h : _) => by (simp at h ⊢; omega)) (new_app rfl) (fun ρ w => ok_lend (fun k => k = 182) (sc_r8sets u f (r8list u f (deep + 1) ⟨true, wh.Loop, r8of f.types x.outs, wh.Next, wh.Left⟩ seen (r8list u f (deep + 1) ⟨true, wh.Loop, r8of f.types x.outs, wh.Next, wh.Left⟩ seen set ka).2 kb).2 x.outs (List.replicate x.outs.length 0) hs2) ent93 rfl rfl (Subs.refl _ _) (And.intro LendOf.same (And.intro LendOf.same (And.intro (LendOf.row rfl rfl (by (simp; done)) (by (simp only [List.map_replicate]; rfl))) (trivial)))) (fun k h => by subst h; rfl) (po2 rfl rfl) rfl (fun k (h : _) => by (simp only [List.mem_cons, List.not_mem_nil, or_false] at h; rcases h with rfl <;> first | exact .inl rfl | exact .inr rfl | exact .inr (by decide))) ⟨_, rfl⟩ (ck_lend (r8sets_length ..))) <| WA.run (fuel := 0) [21, 22] (by kernel_rfl) (fun _ _ _ h => h) (by kernel_rfl) ?_
              refine rV rfl rfl (oT rfl rfl) <| rV rfl rfl (oA rfl) <| WR.nil <| WA.done (by kernel_rfl) <| Tr.ret ?_
              (have h2 : (r8node u f deep wh seen set x).2 = (r8sets f.types (r8list u f (deep + 1) ⟨true, wh.Loop, r8of f.types x.outs, wh.Next, wh.Left⟩ seen (r8list u f (deep + 1) ⟨true, wh.Loop, r8of f.types x.outs, wh.Next, wh.Left⟩ seen set ka).2 kb).2 x.outs (List.replicate x.outs.length 0)).2 := (by rw [r8node_if _ _ _ _ _ _ hbare hk10 hkids]; simp_all [andT, andS, r8end]; done)
               rw [h2]
               refine ret_ok rfl ?_ (po2 rfl rfl)
               clear h2
               rw [r8node_if _ _ _ _ _ _ hbare hk10 hkids]
               simp_all [andT, andS, r8end]
               done)
            refine rnV rfl rfl rfl <| rnV rfl rfl rfl <| rnV rfl rfl rfl <| rnV rfl rfl rfl <| rnV rfl rfl rfl <| rnV rfl rfl rfl <| WR.nil <| WA.takeNo (i := 19) (b := false) rfl (by kernel_rfl) (by kernel_rfl) (by kernel_rfl) (fun _ _ _ h => h) rfl rfl rfl rfl rfl rfl <| WA.takeNo (i := 20) (b := false) rfl (by kernel_rfl) (by kernel_rfl) (by kernel_rfl) (fun _ _ _ h => h) rfl rfl rfl rfl rfl rfl <| WA.run (fuel := 0) [21, 22] (by kernel_rfl) (fun _ _ _ h => h) (by kernel_rfl) <| rV rfl rfl (oF rfl rfl) <| rV rfl rfl (oA rfl) ?_
            refine WR.nil <| WA.done (by kernel_rfl) <| Tr.ret ?_
            (have h2 : (r8node u f deep wh seen set x).2 = (r8list u f (deep + 1) ⟨true, wh.Loop, r8of f.types x.outs, wh.Next, wh.Left⟩ seen (r8list u f (deep + 1) ⟨true, wh.Loop, r8of f.types x.outs, wh.Next, wh.Left⟩ seen set ka).2 kb).2 := (by rw [r8node_if _ _ _ _ _ _ hbare hk10 hkids]; simp_all [andT, andS, r8end]; done)
             rw [h2]
             refine ret_ok rfl ?_ (po2 rfl rfl)
             clear h2
             rw [r8node_if _ _ _ _ _ _ hbare hk10 hkids]
             simp_all [andT, andS, r8end]
             done)
          refine rnV rfl rfl rfl <| rnV rfl rfl rfl <| rnV rfl rfl rfl <| rnV rfl rfl rfl <| rnV rfl rfl rfl <| WR.noU rfl rfl rfl rfl rfl rfl rfl <| WR.nil <| WA.takeNoU (i := 8) rfl (by kernel_rfl) (by kernel_rfl) (by kernel_rfl) (fun _ _ _ h => h) rfl rfl rfl rfl rfl rfl <| WA.run (fuel := 4) [9, 10, 11, 12, 13, 14, 15, 16, 17, 18] (by kernel_rfl) (fun _ _ _ h => h) (by kernel_rfl) <| WR.noU rfl rfl rfl rfl rfl rfl rfl <| rnV rfl rfl rfl <| rV rfl rfl (oF rfl rfl) ?_
          refine rV rfl rfl (oM rfl) <| rnV rfl rfl rfl <| rnV rfl rfl rfl <| rnV rfl rfl rfl <| rnV rfl rfl rfl <| rnV rfl rfl rfl <| rnV rfl rfl rfl <| WR.nil <| WA.takeNo (i := 19) (b := false) rfl (by kernel_rfl) (by kernel_rfl) (by kernel_rfl) (fun _ _ _ h => h) rfl rfl rfl rfl rfl rfl <| WA.takeNo (i := 20) (b := false) rfl (by kernel_rfl) (by kernel_rfl) (by kernel_rfl) (fun _ _ _ h => h) rfl rfl rfl rfl rfl rfl <| WA.run (fuel := 0) [21, 22] (by kernel_rfl) (fun _ _ _ h => h) (by kernel_rfl) <| rV rfl rfl (oF rfl rfl) ?_
          refine rV rfl rfl (oA rfl) <| WR.nil <| WA.done (by kernel_rfl) <| Tr.ret ?_
          (have h2 : (r8node u f deep wh seen set x).2 = (r8list u f (deep + 1) ⟨true, wh.Loop, r8of f.types x.outs, wh.Next, wh.Left⟩ seen (r8list u f (deep + 1) ⟨true, wh.Loop, r8of f.types x.outs, wh.Next, wh.Left⟩ seen set ka).2 kb).2 := (by rw [r8node_if _ _ _ _ _ _ hbare hk10 hkids]; simp_all [andT, andS, r8end]; done)
           rw [h2]
           refine ret_ok rfl ?_ (po2 rfl rfl)
           clear h2
           rw [r8node_if _ _ _ _ _ _ hbare hk10 hkids]
           simp_all [andT, andS, r8end]
           done)
        refine rnV rfl rfl rfl <| rnV rfl rfl rfl <| rnV rfl rfl rfl <| rnV rfl rfl rfl <| rnV rfl rfl rfl <| rnV rfl rfl rfl <| rnV rfl rfl rfl <| rnV rfl rfl rfl <| rnV rfl rfl rfl <| WR.nil <| WA.takeNo (i := 28) (b := false) rfl (by kernel_rfl) (by kernel_rfl) (by kernel_rfl) (fun _ _ _ h => h) rfl rfl rfl rfl rfl rfl <| WA.run (fuel := 0) [29, 30] (by kernel_rfl) (fun _ _ _ h => h) (by kernel_rfl) ?_
        refine rV rfl rfl (oF rfl rfl) <| rV rfl rfl (oA rfl) <| WR.nil <| WA.done (by kernel_rfl) <| Tr.seq <| Tr.drawn mixed (fun k => k ∈ ([3] : List Nat)) <| WA.run (fuel := 15) [0, 1, 2, 3, 4, 5, 6, 7] (by kernel_rfl) (fun _ _ _ h => h) (by kernel_rfl) <| rV rfl rfl (oM rfl) <| rV rfl rfl (oM rfl) <| rnV rfl rfl rfl <| rnV rfl rfl rfl <| rnV rfl rfl rfl ?_
        refine rnV rfl rfl rfl <| rnV rfl rfl rfl <| WR.noU rfl rfl rfl rfl rfl rfl rfl <| WR.nil <| WA.takeNoU (i := 8) rfl (by kernel_rfl) (by kernel_rfl) (by kernel_rfl) (fun _ _ _ h => h) rfl rfl rfl rfl rfl rfl <| WA.run (fuel := 4) [9, 10, 11, 12, 13, 14, 15, 16, 17, 18] (by kernel_rfl) (fun _ _ _ h => h) (by kernel_rfl) <| WR.noU rfl rfl rfl rfl rfl rfl rfl <| rnV rfl rfl rfl <| rV rfl rfl (oF rfl rfl) <| rV rfl rfl (oM rfl) <| rnV rfl rfl rfl <| rnV rfl rfl rfl ?_
        refine rnV rfl rfl rfl <| rnV rfl rfl rfl <| rnV rfl rfl rfl <| rnV rfl rfl rfl <| WR.nil <| WA.takeNo (i := 19) (b := false) rfl (by kernel_rfl) (by kernel_rfl) (by kernel_rfl) (fun _ _ _ h => h) rfl rfl rfl rfl rfl rfl <| WA.takeNo (i := 20) (b := false) rfl (by kernel_rfl) (by kernel_rfl) (by kernel_rfl) (fun _ _ _ h => h) rfl rfl rfl rfl rfl rfl <| WA.run (fuel := 0) [21, 22] (by kernel_rfl) (fun _ _ _ h => h) (by kernel_rfl) <| rV rfl rfl (oF rfl rfl) <| rV rfl rfl (oA rfl) <| WR.nil <| WA.done (by kernel_rfl) ?_
        refine Tr.ret ?_
        (have h2 : (r8node u f deep wh seen set x).2 = (r8list u f (deep + 1) ⟨true, wh.Loop, r8of f.types x.outs, wh.Next, wh.Left⟩ seen set ka).2 := (by rw [r8node_if _ _ _ _ _ _ hbare hk10 hkids]; simp_all [andT, andS, r8end]; done)
         rw [h2]
         refine ret_ok rfl ?_ (po2 rfl rfl)
         clear h2
         rw [r8node_if _ _ _ _ _ _ hbare hk10 hkids]
         simp_all [andT, andS, r8end]
         done)
      refine rnV rfl rfl rfl <| rnV rfl rfl rfl <| rnV rfl rfl rfl <| rnV rfl rfl rfl <| rnV rfl rfl rfl <| rnV rfl rfl rfl <| rnV rfl rfl rfl <| rnV rfl rfl rfl <| rnV rfl rfl rfl <| WR.nil <| WA.takeNo (i := 16) (b := false) rfl (by kernel_rfl) (by kernel_rfl) (by kernel_rfl) (fun _ _ _ h => h) rfl rfl rfl rfl rfl rfl <| WA.run (fuel := 3) [17, 18, 19, 20, 21, 22, 23, 24, 25, 26, 27] (by kernel_rfl) (fun _ _ _ h => h) (by kernel_rfl) ?_
      refine rV rfl rfl (oF rfl rfl) <| rV rfl rfl (oM rfl) <| rnV rfl rfl rfl <| rnV rfl rfl rfl <| rnV rfl rfl rfl <| rnV rfl rfl rfl <| rnV rfl rfl rfl <| rnV rfl rfl rfl <| rnV rfl rfl rfl <| rnV rfl rfl rfl <| rnV rfl rfl rfl <| WR.nil ?_
      refine WA.takeNo (i := 28) (b := false) rfl (by kernel_rfl) (by kernel_rfl) (by kernel_rfl) (fun _ _ _ h => h) rfl rfl rfl rfl rfl rfl <| WA.run (fuel := 0) [29, 30] (by kernel_rfl) (fun _ _ _ h => h) (by kernel_rfl) <| rV rfl rfl (oF rfl rfl) <| rV rfl rfl (oA rfl) <| WR.nil <| WA.done (by kernel_rfl) <| Tr.seq <| Tr.drawn mixed (fun k => k ∈ ([3] : List Nat)) <| WA.run (fuel := 15) [0, 1, 2, 3, 4, 5, 6, 7] (by kernel_rfl) (fun _ _ _ h => h) (by kernel_rfl) <| rV rfl rfl (oM rfl) <| rV rfl rfl (oM rfl) <| rnV rfl rfl rfl ?_
      refine rnV rfl rfl rfl <| rnV rfl rfl rfl <| rnV rfl rfl rfl <| rnV rfl rfl rfl <| WR.noU rfl rfl rfl rfl rfl rfl rfl <| WR.nil <| WA.takeNoU (i := 8) rfl (by kernel_rfl) (by kernel_rfl) (by kernel_rfl) (fun _ _ _ h => h) rfl rfl rfl rfl rfl rfl <| WA.run (fuel := 4) [9, 10, 11, 12, 13, 14, 15, 16, 17, 18] (by kernel_rfl) (fun _ _ _ h => h) (by kernel_rfl) <| WR.noU rfl rfl rfl rfl rfl rfl rfl <| rnV rfl rfl rfl <| rV rfl rfl (oF rfl rfl) <| rV rfl rfl (oM rfl) ?_
      refine rnV rfl rfl rfl <| rnV rfl rfl rfl <| rnV rfl rfl rfl <| rnV rfl rfl rfl <| rnV rfl rfl rfl <| rnV rfl rfl rfl <| WR.nil <| WA.takeNo (i := 19) (b := false) rfl (by kernel_rfl) (by kernel_rfl) (by kernel_rfl) (fun _ _ _ h => h) rfl rfl rfl rfl rfl rfl <| WA.takeNo (i := 20) (b := false) rfl (by kernel_rfl) (by kernel_rfl) (by kernel_rfl) (fun _ _ _ h => h) rfl rfl rfl rfl rfl rfl <| WA.run (fuel := 0) [21, 22] (by kernel_rfl) (fun _ _ _ h => h) (by kernel_rfl) <| rV rfl rfl (oF rfl rfl) <| rV rfl rfl (oA rfl) ?_
      refine WR.nil <| WA.done (by kernel_rfl) <| Tr.ret ?_
      (have h2 : (r8node u f deep wh seen set x).2 = set := (by rw [r8node_if _ _ _ _ _ _ hbare hk10 hkids]; simp_all [andT, andS, r8end]; done)
       rw [h2]
       refine ret_ok rfl ?_ (po2 rfl rfl)
       clear h2
       rw [r8node_if _ _ _ _ _ _ hbare hk10 hkids]
       simp_all [andT, andS, r8end]
       done)
    refine WI.op rfl rfl rfl (by intro t h; cases h <;> rfl) (fun k (h : _) => by (simp at h ⊢; omega)) (new_one rfl) (fun ρ w => ok_alloc (k := 111) rfl tZ87 rfl rfl rfl rfl) <| WA.one (i := 5) (by kernel_rfl) <| WI.op rfl rfl rfl (by intro t h; cases h <;> rfl) (fun k (h : _) => by (simp at h ⊢; omega)) (new_app rfl) (fun ρ w => ok_callr (sc_r8of u f set x.outs hbo) ent91 rfl rfl (Subs.refl _ _) (po2 rfl rfl) rfl (fun k (h : _) => by (simp only [List.mem_cons, List.not_mem_nil, or_false] at h; rcases h with rfl <;> first | exact .inl rfl | exact .inr rfl | exact .inr (by decide))) rfl rfl) <| WA.run (fuel := 1) [10] (by kernel_rfl) (fun _ _ _ h => h) (by kernel_rfl) <| rV rfl rfl (ok_build_pure rfl rfl tZ87 tP87 rfl (firmB_ok rfl) rfl) <| WR.nil <| WA.one (i := 12) (by kernel_rfl) ?_
    refine WI.op rfl rfl rfl (by intro t h; cases h <;> rfl) (fun k (h : _) => by (simp at h ⊢; omega)) (new_old rfl) (fun ρ w => ok_store_box_agg rfl rfl rfl rfl rfl (by simp) tS87 (firmL_ok rfl) (lb rfl)) ?_
    refine WA.done (by kernel_rfl) <| Tr.seq <| Tr.drawn mixed (fun k => k ∈ ([3, 111] : List Nat)) <| WA.run (fuel := 27) [0, 1, 2, 3] (by kernel_rfl) (fun _ _ _ h => h) (by kernel_rfl) <| rV rfl rfl (oM rfl) <| rV rfl rfl (oFe rfl tF42_4) <| rV rfl rfl (oLe Tryz.underlying35 rfl rfl) <| rV rfl rfl (oM rfl) <| WR.nil <| WA.one (i := 4) (by kernel_rfl) <| WI.op rfl rfl rfl (by intro t h; cases h <;> rfl) (fun k (h : _) => by (simp at h ⊢; omega)) (fun _ h1 h2 => absurd h1 h2) (fun ρ w => ok_buildSlice rfl rfl Tryz.underlying35 tZ3 tS3 rfl rfl rfl rfl (firmB_ok rfl) rfl) <| WA.one (i := 5) (by kernel_rfl) ?_
    refine WI.op rfl rfl rfl (by intro t h; cases h <;> rfl) (fun k (h : _) => by (simp at h ⊢; omega)) (new_app rfl) (fun ρ w => ok_callr (sc_r8types u f set x.args seen [2]) ent92 rfl rfl (Subs.refl _ _) (po2 rfl rfl) rfl (fun k (h : _) => .inr trivial) rfl rfl) <| WA.run (fuel := 15) [6, 7, 8, 9, 10, 11, 12, 13, 14, 15] (by kernel_rfl) (fun _ _ _ h => h) (by kernel_rfl) <| rV rfl rfl (oM rfl) ?_
    refine WR.split (t := 39) rfl (fun hb39 => ?_) (fun hb39 => ?_)
    · refine ryV rfl rfl rfl (oM rfl) <| ryV rfl rfl rfl (oFe rfl tF42_7) <| ryV rfl rfl rfl (oLe Tryz.underlying40 rfl rfl) <| ryV rfl rfl rfl (ok_index_seq rfl rfl rfl Tryz.underlying40 hi0 tS43 rfl (by rfl)) <| ryV rfl rfl rfl (oLe Tryz.underlying43 rfl rfl) <| ryV rfl rfl rfl (oM rfl) <| ryV rfl rfl rfl (ok_load_box_pure rfl rfl rfl Tryz.underlying87 rfl tS87 (Nat.le_of_ble_eq_true rfl) rfl (by decide)) <| ryV rfl rfl rfl (oM rfl) <| ryV rfl rfl rfl (oB rfl rfl (i64_add rfl (by omega))) <| WR.nil <| WA.one (i := 16) (by kernel_rfl) <| WI.opYes rfl rfl rfl rfl rfl rfl (by intro t h; cases h <;> rfl) (fun k (h : _) => by (simp at h ⊢; omega)) (new_app rfl) (fun ρ w => ok_callr (ih ka hm0 (deep + 1) ⟨true, wh.Loop, r8of f.types x.outs, wh.Next, wh.Left⟩ seen set ⟨by omega, by omega⟩ hs hb0) ent48 rfl rfl (Subs.refl _ _) (po2 rfl rfl) rfl (fun k (h : _) => by (simp only [List.mem_cons, List.not_mem_nil, or_false] at h; rcases h with rfl | rfl <;> first | exact .inl rfl | exact .inr rfl | exact .inr (by decide))) rfl rfl) ?_
      refine WA.run (fuel := 3) [17, 18, 19, 20, 21, 22, 23, 24, 25, 26, 27] (by kernel_rfl) (fun _ _ _ h => h) (by kernel_rfl) <| rV rfl rfl (oT rfl rfl) <| rV rfl rfl (oM rfl) ?_
      refine WR.split (t := 51) rfl (fun hb51 => ?_) (fun hb51 => ?_)
      · refine ryV rfl rfl rfl (oM rfl) <| ryV rfl rfl rfl (oFe rfl tF42_7) <| ryV rfl rfl rfl (oLe Tryz.underlying40 rfl rfl) <| ryV rfl rfl rfl (ok_index_seq rfl rfl rfl Tryz.underlying40 hi1 tS43 rfl (by rfl)) <| ryV rfl rfl rfl (oLe Tryz.underlying43 rfl rfl) <| ryV rfl rfl rfl (oM rfl) <| ryV rfl rfl rfl (ok_load_box_pure rfl rfl rfl Tryz.underlying87 rfl tS87 (Nat.le_of_ble_eq_true rfl) rfl (by decide)) <| ryV rfl rfl rfl (oM rfl) <| ryV rfl rfl rfl (oB rfl rfl (i64_add rfl (by omega))) <| WR.nil <| WA.one (i := 28) (by kernel_rfl) <| WI.opYes rfl rfl rfl rfl rfl rfl (by intro t h; cases h <;> rfl) (fun k (h : _) => by (simp at h ⊢; omega)) (new_app rfl) (fun ρ w => ok_callr (ih kb hm1 (deep + 1) ⟨true, wh.Loop, r8of f.types x.outs, wh.Next, wh.Left⟩ seen (r8list u f (deep + 1) ⟨true, wh.Loop, r8of f.types x.outs, wh.Next, wh.Left⟩ seen set ka).2 ⟨by omega, by omega⟩ hs1 hb1) ent48 rfl rfl (Subs.refl _ _) (po2 rfl rfl) rfl (fun k (h : _) => by (simp only [List.mem_cons, List.not_mem_nil, or_false] at h; rcases h with rfl | rfl <;> first | exact .inl rfl | exact .inr rfl | exact .inr (by decide))) rfl rfl) ?_
        refine WA.run (fuel := 0) [29, 30] (by kernel_rfl) (fun _ _ _ h => h) (by kernel_rfl) <| rV rfl rfl (oT rfl rfl) <| rV rfl rfl (oA rfl) <| WR.nil <| WA.done (by kernel_rfl) <| Tr.seq <| Tr.drawn mixed (fun k => k ∈ ([3] : List Nat)) <| WA.run (fuel := 15) [0, 1, 2, 3, 4, 5, 6, 7] (by kernel_rfl) (fun _ _ _ h => h) (by kernel_rfl) <| rV rfl rfl (oM rfl) <| rV rfl rfl (oM rfl) ?_
        refine WR.split (t := 64) rfl (fun hb64 => ?_) (fun hb64 => ?_)
        · refine ryV rfl rfl rfl (oFe rfl tF42_5) <| ryV rfl rfl rfl (oLe Tryz.underlying35 rfl rfl) <| ryV rfl rfl rfl (oSm Tryz.underlying35 rfl) <| ryV rfl rfl rfl (oB rfl rfl rfl) <| ryV rfl rfl rfl (oM rfl) ?_
          refine WR.split (t := 69) rfl (fun hb69 => ?_) (fun hb69 => ?_)
          · refine rnV rfl rfl rfl <| WR.nil <| WA.takeNo (i := 8) (b := true) rfl (by kernel_rfl) (by kernel_rfl) (by kernel_rfl) (fun _ _ _ h => h) rfl rfl rfl rfl rfl rfl <| WA.run (fuel := 4) [9, 10, 11, 12, 13, 14, 15, 16, 17, 18] (by kernel_rfl) (fun _ _ _ h => h) (by kernel_rfl) <| rnV rfl rfl rfl <| ryV rfl rfl rfl (oT rfl rfl) <| rV rfl rfl (oT rfl rfl) <| rV rfl rfl (oM rfl) <| ryV rfl rfl rfl (oM rfl) <| ryV rfl rfl rfl (oFe rfl tF42_5) <| ryV rfl rfl rfl (oLe Tryz.underlying35 rfl rfl) <| ryV rfl rfl rfl (oFe rfl tF42_5) ?_
            refine ryV rfl rfl rfl (oLe Tryz.underlying35 rfl rfl) <| ryV rfl rfl rfl (oSm Tryz.underlying35 rfl) <| WR.nil <| WA.one (i := 19) (by kernel_rfl) <| WI.opYes rfl rfl rfl rfl rfl rfl (by intro t h; cases h <;> rfl) (fun k (h : _) => by (simp at h ⊢; omega)) (new_one rfl) (fun ρ w => ok_makeSlice (k := 182) (s := ⟨3, 1⟩) rfl rfl rfl Tryz.underlying35 tZ3 tC3 rfl (by decide) (by omega) (by omega) rfl rfl rfl rfl) <| WA.one (i := 20) (by kernel_rfl) <| WI.opYes rfl rfl rfl rfl rfl rfl (by intro t h; cases h <;> rfl) (fun k (h : _) => by (simp at h ⊢; omega)) (new_app rfl) (fun ρ w => ok_lend (fun k => k = 182) (sc_r8sets u f (r8list u f (deep + 1) ⟨true, wh.Loop, r8of f.types x.outs, wh.Next, wh.Left⟩ seen (r8list u f (deep + 1) ⟨true, wh.Loop, r8of f.types x.outs, wh.Next, wh.Left⟩ seen set ka).2 kb).2 x.outs (List.replicate x.outs.length 0) hs2) ent93 rfl rfl (Subs.refl _ _) (And.intro LendOf.same (And.intro LendOf.same (And.intro (LendOf.row rfl rfl (by (simp; done)) (by (simp only [List.map_replicate]; rfl))) (trivial)))) (fun k h => by subst h; rfl) (po2 rfl rfl) rfl (fun k (h : _) => by (simp only [List.mem_cons, List.not_mem_nil, or_false] at h; rcases h with rfl <;> first | exact .inl rfl | exact .inr rfl | exact .inr (by decide))) ⟨_, rfl⟩ (ck_lend (r8sets_length ..))) <| WA.run (fuel := 0) [21, 22] (by kernel_rfl) (fun _ _ _ h => h) (by kernel_rfl) <| rV rfl rfl (oT rfl rfl) <| rV rfl rfl (oA rfl) <| WR.nil <| WA.done (by kernel_rfl) ?_
            refine Tr.ret ?_
            (have h2 : (r8node u f deep wh seen set x).2 = (r8sets f.types (r8list u f (deep + 1) ⟨true, wh.Loop, r8of f.types x.outs, wh.Next, wh.Left⟩ seen (r8list u f (deep + 1) ⟨true, wh.Loop, r8of f.types x.outs, wh.Next, wh.Left⟩ seen set ka).2 kb).2 x.outs (List.replicate x.outs.length 0)).2 := (by rw [r8node_if _ _ _ _ _ _ hbare hk10 hkids]; simp_all [andT, andS, r8end]; done)
             rw [h2]
             refine ret_ok rfl ?_ (po2 rfl rfl)
             clear h2
             rw [r8node_if _ _ _ _ _ _ hbare hk10 hkids]
             simp_all [andT, andS, r8end]
             done)
          refine ryV rfl rfl rfl (ok_load_ept_agg rfl rfl Tryz.underlying42 rfl tS42 (Nat.le_of_ble_eq_true rfl)) <| WR.nil <| WA.one (i := 8) (by kernel_rfl) <| WI.opYes rfl rfl rfl rfl rfl rfl (by intro t h; cases h <;> rfl) (fun k (h : _) => by (simp at h ⊢; omega)) (fun _ h1 h2 => absurd h1 h2) (fun ρ w => ok_callq (sc_r8Closed _) ent53 rfl rfl (Subs.refl _ _) rfl) <| WA.run (fuel := 4) [9, 10, 11, 12, 13, 14, 15, 16, 17, 18] (by kernel_rfl) (fun _ _ _ h => h) (by kernel_rfl) <| ryV rfl rfl rfl (oN rfl) <| ryV rfl rfl rfl (oF rfl rfl) <| rV rfl rfl (oT rfl rfl) <| rV rfl rfl (oM rfl) ?_
          refine WR.split (t := 75) rfl (fun hb75 => ?_) (fun hb75 => ?_)
          · refine ryV rfl rfl rfl (oM rfl) <| ryV rfl rfl rfl (oFe rfl tF42_5) <| ryV rfl rfl rfl (oLe Tryz.underlying35 rfl rfl) <| ryV rfl rfl rfl (oFe rfl tF42_5) <| ryV rfl rfl rfl (oLe Tryz.underlying35 rfl rfl) <| ryV rfl rfl rfl (oSm Tryz.underlying35 rfl) <| WR.nil <| WA.one (i := 19) (by kernel_rfl) <| WI.opYes rfl rfl rfl rfl rfl rfl (by intro t h; cases h <;> rfl) (fun k (h : _) => by (simp at h ⊢; omega)) (new_one rfl) (fun ρ w => ok_makeSlice (k := 182) (s := ⟨3, 1⟩) rfl rfl rfl Tryz.underlying35 tZ3 tC3 rfl (by decide) (by omega) (by omega) rfl rfl rfl rfl) <| WA.one (i := 20) (by kernel_rfl) <| WI.opYes rfl rfl rfl rfl rfl rfl (by intro t h; cases h <;> rfl) (fun k (h : _) => by (simp at h ⊢; omega)) (new_app rfl) (fun ρ w => ok_lend (fun k => k = 182) (sc_r8sets u f (r8list u f (deep + 1) ⟨true, wh.Loop, r8of f.types x.outs, wh.Next, wh.Left⟩ seen (r8list u f (deep + 1) ⟨true, wh.Loop, r8of f.types x.outs, wh.Next, wh.Left⟩ seen set ka).2 kb).2 x.outs (List.replicate x.outs.length 0) hs2) ent93 rfl rfl (Subs.refl _ _) (And.intro LendOf.same (And.intro LendOf.same (And.intro (LendOf.row rfl rfl (by (simp; done)) (by (simp only [List.map_replicate]; rfl))) (trivial)))) (fun k h => by subst h; rfl) (po2 rfl rfl) rfl (fun k (h : _) => by (simp only [List.mem_cons, List.not_mem_nil, or_false] at h; rcases h with rfl <;> first | exact .inl rfl | exact .inr rfl | exact .inr (by decide))) ⟨_, rfl⟩ (ck_lend (r8sets_length ..))) <| WA.run (fuel := 0) [21, 22] (by kernel_rfl) (fun _ _ _ h => h) (by kernel_rfl) ?_
            refine rV rfl rfl (oT rfl rfl) <| rV rfl rfl (oA rfl) <| WR.nil <| WA.done (by kernel_rfl) <| Tr.ret ?_
            (have h2 : (r8node u f deep wh seen set x).2 = (r8sets f.types (r8list u f (deep + 1) ⟨true, wh.Loop, r8of f.types x.outs, wh.Next, wh.Left⟩ seen (r8list u f (deep + 1) ⟨true, wh.Loop, r8of f.types x.outs, wh.Next, wh.Left⟩ seen set ka).2 kb).2 x.outs (List.replicate x.outs.length 0)).2 := (by rw [r8node_if _ _ _ _ _ _ hbare hk10 hkids]; simp_all [andT, andS, r8end]; done)
             rw [h2]
             refine ret_ok rfl ?_ (po2 rfl rfl)
             clear h2
             rw [r8node_if _ _ _ _ _ _ hbare hk10 hkids]
             simp_all [andT, andS, r8end]
             done)
          refine rnV rfl rfl rfl <| rnV rfl rfl rfl <| rnV rfl rfl rfl <| rnV rfl rfl rfl <| rnV rfl rfl rfl <| rnV rfl rfl rfl <| WR.nil <| WA.takeNo (i := 19) (b := false) rfl (by kernel_rfl) (by kernel_rfl) (by kernel_rfl) (fun _ _ _ h => h) rfl rfl rfl rfl rfl rfl <| WA.takeNo (i := 20) (b := false) rfl (by kernel_rfl) (by kernel_rfl) (by kernel_rfl) (fun _ _ _ h => h) rfl rfl rfl rfl rfl rfl <| WA.run (fuel := 0) [21, 22] (by kernel_rfl) (fun _ _ _ h => h) (by kernel_rfl) <| rV rfl rfl (oF rfl rfl) <| rV rfl rfl (oA rfl) ?_
          refine WR.nil <| WA.done (by kernel_rfl) <| Tr.ret ?_
          (have h2 : (r8node u f deep wh seen set x).2 = (r8list u f (deep + 1) ⟨true, wh.Loop, r8of f.types x.outs, wh.Next, wh.Left⟩ seen (r8list u f (deep + 1) ⟨true, wh.Loop, r8of f.types x.outs, wh.Next, wh.Left⟩ seen set ka).2 kb).2 := (by rw [r8node_if _ _ _ _ _ _ hbare hk10 hkids]; simp_all [andT, andS, r8end]; done)
           rw [h2]
           refine ret_ok rfl ?_ (po2 rfl rfl)
           clear h2
           rw [r8node_if _ _ _ _ _ _ hbare hk10 hkids]
           simp_all [andT, andS, r8end]
           done)
        refine rnV rfl rfl rfl <| rnV rfl rfl rfl <| rnV rfl rfl rfl <| rnV rfl rfl rfl <| rnV rfl rfl rfl <| WR.noU rfl rfl rfl rfl rfl rfl rfl <| WR.nil <| WA.takeNoU (i := 8) rfl (by kernel_rfl) (by kernel_rfl) (by kernel_rfl) (fun _ _ _ h => h) rfl rfl rfl rfl rfl rfl <| WA.run (fuel := 4) [9, 10, 11, 12, 13, 14, 15, 16, 17, 18] (by kernel_rfl) (fun _ _ _ h => h) (by kernel_rfl) <| WR.noU rfl rfl rfl rfl rfl rfl rfl <| rnV rfl rfl rfl <| rV rfl rfl (oF rfl rfl) ?_
        refine rV rfl rfl (oM rfl) <| rnV rfl rfl rfl <| rnV rfl rfl rfl <| rnV rfl rfl rfl <| rnV rfl rfl rfl <| rnV rfl rfl rfl <| rnV rfl rfl rfl <| WR.nil <| WA.takeNo (i := 19) (b := false) rfl (by kernel_rfl) (by kernel_rfl) (by kernel_rfl) (fun _ _ _ h => h) rfl rfl rfl rfl rfl rfl <| WA.takeNo (i := 20) (b := false) rfl (by kernel_rfl) (by kernel_rfl) (by kernel_rfl) (fun _ _ _ h => h) rfl rfl rfl rfl rfl rfl <| WA.run (fuel := 0) [21, 22] (by kernel_rfl) (fun _ _ _ h => h) (by kernel_rfl) <| rV rfl rfl (oF rfl rfl) ?_
        refine rV rfl rfl (oA rfl) <| WR.nil <| WA.done (by kernel_rfl) <| Tr.ret ?_
        (have h2 : (r8node u f deep wh seen set x).2 = (r8list u f (deep + 1) ⟨true, wh.Loop, r8of f.types x.outs, wh.Next, wh.Left⟩ seen (r8list u f (deep + 1) ⟨true, wh.Loop, r8of f.types x.outs, wh.Next, wh.Left⟩ seen set ka).2 kb).2 := (by rw [r8node_if _ _ _ _ _ _ hbare hk10 hkids]; simp_all [andT, andS, r8end]; done)
         rw [h2]
         refine ret_ok rfl ?_ (po2 rfl rfl)
         clear h2
         rw [r8node_if _ _ _ _ _ _ hbare hk10 hkids]
         simp_all [andT, andS, r8end]
         done)
      refine rnV rfl rfl rfl <| rnV rfl rfl rfl <| rnV rfl rfl rfl <| rnV rfl rfl rfl <| rnV rfl rfl rfl <| rnV rfl rfl rfl <| rnV rfl rfl rfl <| rnV rfl rfl rfl <| rnV rfl rfl rfl <| WR.nil <| WA.takeNo (i := 28) (b := false) rfl (by kernel_rfl) (by kernel_rfl) (by kernel_rfl) (fun _ _ _ h => h) rfl rfl rfl rfl rfl rfl <| WA.run (fuel := 0) [29, 30] (by kernel_rfl) (fun _ _ _ h => h) (by kernel_rfl) ?_
      refine rV rfl rfl (oF rfl rfl) <| rV rfl rfl (oA rfl) <| WR.nil <| WA.done (by kernel_rfl) <| Tr.seq <| Tr.drawn mixed (fun k => k ∈ ([3] : List Nat)) <| WA.run (fuel := 15) [0, 1, 2, 3, 4, 5, 6, 7] (by kernel_rfl) (fun _ _ _ h => h) (by kernel_rfl) <| rV rfl rfl (oM rfl) <| rV rfl rfl (oM rfl) <| rnV rfl rfl rfl <| rnV rfl rfl rfl <| rnV rfl rfl rfl ?_
      refine rnV rfl rfl rfl <| rnV rfl rfl rfl <| WR.noU rfl rfl rfl rfl rfl rfl rfl <| WR.nil <| WA.takeNoU (i := 8) rfl (by kernel_rfl) (by kernel_rfl) (by kernel_rfl) (fun _ _ _ h => h) rfl rfl rfl rfl rfl rfl <| WA.run (fuel := 4) [9, 10, 11, 12, 13, 14, 15, 16, 17, 18] (by kernel_rfl) (fun _ _ _ h => h) (by kernel_rfl) <| WR.noU rfl rfl rfl rfl rfl rfl rfl <| rnV rfl rfl rfl <| rV rfl rfl (oF rfl rfl) <| rV rfl rfl (oM rfl) <| rnV rfl rfl rfl <| rnV rfl rfl rfl ?_
      refine rnV rfl rfl rfl <| rnV rfl rfl rfl <| rnV rfl rfl rfl <| rnV rfl rfl rfl <| WR.nil <| WA.takeNo (i := 19) (b := false) rfl (by kernel_rfl) (by kernel_rfl) (by kernel_rfl) (fun _ _ _ h => h) rfl rfl rfl rfl rfl rfl <| WA.takeNo (i := 20) (b := false) rfl (by kernel_rfl) (by kernel_rfl) (by kernel_rfl) (fun _ _ _ h => h) rfl rfl rfl rfl rfl rfl <| WA.run (fuel := 0) [21, 22] (by kernel_rfl) (fun _ _ _ h => h) (by kernel_rfl) <| rV rfl rfl (oF rfl rfl) <| rV rfl rfl (oA rfl) <| WR.nil <| WA.done (by kernel_rfl) ?_
      refine Tr.ret ?_
      (have h2 : (r8node u f deep wh seen set x).2 = (r8list u f (deep + 1) ⟨true, wh.Loop, r8of f.types x.outs, wh.Next, wh.Left⟩ seen set ka).2 := (by rw [r8node_if _ _ _ _ _ _ hbare hk10 hkids]; simp_all [andT, andS, r8end]; done)
       rw [h2]
       refine ret_ok rfl ?_ (po2 rfl rfl)
       clear h2
       rw [r8node_if _ _ _ _ _ _ hbare hk10 hkids]
       simp_all [andT, andS, r8end]
       done)
    refine rnV rfl rfl rfl <| rnV rfl rfl rfl <| rnV rfl rfl rfl <| rnV rfl rfl rfl <| rnV rfl rfl rfl <| rnV rfl rfl rfl <| rnV rfl rfl rfl <| rnV rfl rfl rfl <| rnV rfl rfl rfl <| WR.nil <| WA.takeNo (i := 16) (b := false) rfl (by kernel_rfl) (by kernel_rfl) (by kernel_rfl) (fun _ _ _ h => h) rfl rfl rfl rfl rfl rfl <| WA.run (fuel := 3) [17, 18, 19, 20, 21, 22, 23, 24, 25, 26, 27] (by kernel_rfl) (fun _ _ _ h => h) (by kernel_rfl) ?_
    refine rV rfl rfl (oF rfl rfl) <| rV rfl rfl (oM rfl) <| rnV rfl rfl rfl <| rnV rfl rfl rfl <| rnV rfl rfl rfl <| rnV rfl rfl rfl <| rnV rfl rfl rfl <| rnV rfl rfl rfl <| rnV rfl rfl rfl <| rnV rfl rfl rfl <| rnV rfl rfl rfl <| WR.nil ?_
    refine WA.takeNo (i := 28) (b := false) rfl (by kernel_rfl) (by kernel_rfl) (by kernel_rfl) (fun _ _ _ h => h) rfl rfl rfl rfl rfl rfl <| WA.run (fuel := 0) [29, 30] (by kernel_rfl) (fun _ _ _ h => h) (by kernel_rfl) <| rV rfl rfl (oF rfl rfl) <| rV rfl rfl (oA rfl) <| WR.nil <| WA.done (by kernel_rfl) <| Tr.seq <| Tr.drawn mixed (fun k => k ∈ ([3] : List Nat)) <| WA.run (fuel := 15) [0, 1, 2, 3, 4, 5, 6, 7] (by kernel_rfl) (fun _ _ _ h => h) (by kernel_rfl) <| rV rfl rfl (oM rfl) <| rV rfl rfl (oM rfl) <| rnV rfl rfl rfl ?_
    refine rnV rfl rfl rfl <| rnV rfl rfl rfl <| rnV rfl rfl rfl <| rnV rfl rfl rfl <| WR.noU rfl rfl rfl rfl rfl rfl rfl <| WR.nil <| WA.takeNoU (i := 8) rfl (by kernel_rfl) (by kernel_rfl) (by kernel_rfl) (fun _ _ _ h => h) rfl rfl rfl rfl rfl rfl <| WA.run (fuel := 4) [9, 10, 11, 12, 13, 14, 15, 16, 17, 18] (by kernel_rfl) (fun _ _ _ h => h) (by kernel_rfl) <| WR.noU rfl rfl rfl rfl rfl rfl rfl <| rnV rfl rfl rfl <| rV rfl rfl (oF rfl rfl) <| rV rfl rfl (oM rfl) ?_
    refine rnV rfl rfl rfl <| rnV rfl rfl rfl <| rnV rfl rfl rfl <| rnV rfl rfl rfl <| rnV rfl rfl rfl <| rnV rfl rfl rfl <| WR.nil <| WA.takeNo (i := 19) (b := false) rfl (by kernel_rfl) (by kernel_rfl) (by kernel_rfl) (fun _ _ _ h => h) rfl rfl rfl rfl rfl rfl <| WA.takeNo (i := 20) (b := false) rfl (by kernel_rfl) (by kernel_rfl) (by kernel_rfl) (fun _ _ _ h => h) rfl rfl rfl rfl rfl rfl <| WA.run (fuel := 0) [21, 22] (by kernel_rfl) (fun _ _ _ h => h) (by kernel_rfl) <| rV rfl rfl (oF rfl rfl) <| rV rfl rfl (oA rfl) ?_
    refine WR.nil <| WA.done (by kernel_rfl) <| Tr.ret ?_
    (have h2 : (r8node u f deep wh seen set x).2 = set := (by rw [r8node_if _ _ _ _ _ _ hbare hk10 hkids]; simp_all [andT, andS, r8end]; done)
     rw [h2]
     refine ret_ok rfl ?_ (po2 rfl rfl)
     clear h2
     rw [r8node_if _ _ _ _ _ _ hbare hk10 hkids]
     simp_all [andT, andS, r8end]
     done)
  refine Tr.seq <| Tr.region rfl <| cV rfl (oB rfl rfl rfl) <| cV rfl (oA rfl) <| WL.nil ?_
  refine Tr.cond rfl (fun hc85 => ?_) (fun hc85 => ?_)
  · have hk11 : x.kind = 11 := by simpa using hc85
    obtain ⟨ka, hkids⟩ := r8bare_loop hbare hk11
    have hi0 : (x.kids.map eKid)[0]? = some [nodes ka] := by rw [hkids]; rfl
    have hm0 : ka ∈ x.kids := by rw [hkids]; simp
    have hkW : kdW x.kids = 1 + lsW ka := by rw [hkids]; simp [kdW]
    have hb0 : (seen ++ x.params).length + lsW ka ≤ 1073741824 := by simp; omega
    have hs1 : (r8sets f.types set x.params (List.replicate x.params.length 0)).2.length = f.types.length := (r8sets_length ..).trans hs
    have hs2 : (r8list u f (deep + 1) ⟨false, true, [], r8of f.types x.params, r8of f.types x.outs⟩ (seen ++ x.params) (r8sets f.types set x.params (List.replicate x.params.length 0)).2 ka).2.length = f.types.length := (r8list_length ..).trans hs1
    refine Tr.seq <| Tr.drawn mixed (fun k => k ∈ ([3] : List Nat)) <| WA.run (fuel := 5) [0, 1, 2, 4, 5, 6] (by kernel_rfl) (fun _ _ _ h => h) (by kernel_rfl) <| rV rfl rfl (oM rfl) <| rV rfl rfl (oFe rfl tF42_6) <| rV rfl rfl (oLe Tryz.underlying35 rfl rfl) <| rV rfl rfl (oM rfl) <| rV rfl rfl (oFe rfl tF42_5) <| rV rfl rfl (oLe Tryz.underlying35 rfl rfl) <| WR.nil ?_
    refine WA.all (rs := [3, 9]) (by kernel_rfl) (by simp) ?_
    refine List.forall_mem_cons.2 ⟨?_, List.forall_mem_cons.2 ⟨?_, by simp⟩⟩
    · refine WI.op rfl rfl rfl (by intro t h; cases h <;> rfl) (fun k (h : _) => by (simp at h ⊢; omega)) (new_app rfl) (fun ρ w => ok_callr (sc_r8of u f set x.params hbp) ent91 rfl rfl (Subs.refl _ _) (po2 rfl rfl) rfl (fun k (h : _) => by (simp only [List.mem_cons, List.not_mem_nil, or_false] at h; rcases h with rfl <;> first | exact .inl rfl | exact .inr rfl | exact .inr (by decide))) rfl rfl) ?_
      refine WA.all (rs := [7, 9]) (by kernel_rfl) (by simp) ?_
      refine List.forall_mem_cons.2 ⟨?_, List.forall_mem_cons.2 ⟨?_, by simp⟩⟩
      · refine WI.op rfl rfl rfl (by intro t h; cases h <;> rfl) (fun k (h : _) => by (simp at h ⊢; omega)) (new_app rfl) (fun ρ w => ok_callr (sc_r8of u f set x.outs hbo) ent91 rfl rfl (Subs.refl _ _) (po2 rfl rfl) rfl (fun k (h : _) => by (simp only [List.mem_cons, List.not_mem_nil, or_false] at h; rcases h with rfl <;> first | exact .inl rfl | exact .inr rfl | exact .inr (by decide))) rfl rfl) <| WA.run (fuel := 2) [8] (by kernel_rfl) (fun _ _ _ h => h) (by kernel_rfl) <| rV rfl rfl (ok_build_pure rfl rfl tZ87 tP87 rfl (firmB_ok rfl) rfl) <| WR.nil <| WA.one (i := 9) (by kernel_rfl) <| WI.op rfl rfl rfl (by intro t h; cases h <;> rfl) (fun k (h : _) => by (simp at h ⊢; omega)) (new_one rfl) (fun ρ w => ok_alloc (k := 113) rfl tZ87 rfl rfl rfl rfl) <| WA.one (i := 10) (by kernel_rfl) ?_
        refine WI.op rfl rfl rfl (by intro t h; cases h <;> rfl) (fun k (h : _) => by (simp at h ⊢; omega)) (new_old rfl) (fun ρ w => ok_store_box_agg rfl rfl rfl rfl rfl (by simp) tS87 (firmL_ok rfl) (lb rfl)) ?_
        refine WA.done (by kernel_rfl) <| Tr.seq <| Tr.seq <| Tr.drawn mixed (fun k => k ∈ ([3] : List Nat)) <| WA.run (fuel := 14) [0, 1, 2, 3, 4, 5, 6] (by kernel_rfl) (fun _ _ _ h => h) (by kernel_rfl) <| rV rfl rfl (oM rfl) <| rV rfl rfl (oFe rfl tF42_4) <| rV rfl rfl (oLe Tryz.underlying35 rfl rfl) <| rV rfl rfl (oM rfl) <| rV rfl rfl (oM rfl) <| rV rfl rfl (oFe rfl tF42_6) <| rV rfl rfl (oLe Tryz.underlying35 rfl rfl) ?_
        refine WR.nil <| WA.one (i := 7) (by kernel_rfl) <| WI.op rfl rfl rfl (by intro t h; cases h <;> rfl) (fun k (h : _) => by (simp at h ⊢; omega)) (new_app rfl) (fun ρ w => ok_callr (sc_r8of u f set x.params hbp) ent91 rfl rfl (Subs.refl _ _) (po2 rfl rfl) rfl (fun k (h : _) => by (simp only [List.mem_cons, List.not_mem_nil, or_false] at h; rcases h with rfl <;> first | exact .inl rfl | exact .inr rfl | exact .inr (by decide))) rfl rfl) <| WA.one (i := 8) (by kernel_rfl) <| WI.op rfl rfl rfl (by intro t h; cases h <;> rfl) (fun k (h : _) => by (simp at h ⊢; omega)) (new_app rfl) (fun ρ w => ok_callr (sc_r8types u f set x.args seen (r8of f.types x.params)) ent92 rfl rfl (Subs.refl _ _) (po2 rfl rfl) rfl (fun k (h : _) => .inr trivial) rfl rfl) <| WA.run (fuel := 4) [9, 10, 11, 12, 13, 14, 15, 16] (by kernel_rfl) (fun _ _ _ h => h) (by kernel_rfl) <| rV rfl rfl (oN rfl) <| rV rfl rfl (oM rfl) ?_
        refine WR.split (t := 106) rfl (fun hb106 => ?_) (fun hb106 => ?_)
        · refine rnV rfl rfl rfl <| rnV rfl rfl rfl <| rnV rfl rfl rfl <| rnV rfl rfl rfl <| rnV rfl rfl rfl <| rnV rfl rfl rfl <| WR.nil <| WA.takeNo (i := 17) (b := true) rfl (by kernel_rfl) (by kernel_rfl) (by kernel_rfl) (fun _ _ _ h => h) rfl rfl rfl rfl rfl rfl <| WA.takeNo (i := 18) (b := true) rfl (by kernel_rfl) (by kernel_rfl) (by kernel_rfl) (fun _ _ _ h => h) rfl rfl rfl rfl rfl rfl <| WA.run (fuel := 0) [19, 20] (by kernel_rfl) (fun _ _ _ h => h) (by kernel_rfl) <| rnV rfl rfl rfl <| rV rfl rfl (oT rfl rfl) ?_
          refine WR.nil <| WA.done (by kernel_rfl) <| Tr.condT rfl <| Tr.seq <| Tr.region rfl <| cV rfl (oA rfl) <| WL.nil <| Tr.ret ?_
          (have h2 : (r8node u f deep wh seen set x).2 = set := (by rw [r8node_loop _ _ _ _ _ _ hbare hk11 hkids]; simp_all [andT, andS, r8end]; done)
           rw [h2]
           refine ret_ok rfl ?_ (po2 rfl rfl)
           clear h2
           rw [r8node_loop _ _ _ _ _ _ hbare hk11 hkids]
           simp_all [andT, andS, r8end]
           done)
        refine ryV rfl rfl rfl (oM rfl) <| ryV rfl rfl rfl (oFe rfl tF42_6) <| ryV rfl rfl rfl (oLe Tryz.underlying35 rfl rfl) <| ryV rfl rfl rfl (oFe rfl tF42_6) <| ryV rfl rfl rfl (oLe Tryz.underlying35 rfl rfl) <| ryV rfl rfl rfl (oSm Tryz.underlying35 rfl) <| WR.nil <| WA.one (i := 17) (by kernel_rfl) <| WI.opYes rfl rfl rfl rfl rfl rfl (by intro t h; cases h <;> rfl) (fun k (h : _) => by (simp at h ⊢; omega)) (new_one rfl) (fun ρ w => ok_makeSlice (k := 213) (s := ⟨3, 1⟩) rfl rfl rfl Tryz.underlying35 tZ3 tC3 rfl (by decide) (by omega) (by omega) rfl rfl rfl rfl) <| WA.one (i := 18) (by kernel_rfl) <| WI.opYes rfl rfl rfl rfl rfl rfl (by intro t h; cases h <;> rfl) (fun k (h : _) => by (simp at h ⊢; omega)) (new_app rfl) (fun ρ w => ok_lend (fun k => k = 213) (sc_r8sets u f set x.params (List.replicate x.params.length 0) hs) ent93 rfl rfl (Subs.refl _ _) (And.intro LendOf.same (And.intro LendOf.same (And.intro (LendOf.row rfl rfl (by (simp; done)) (by (simp only [List.map_replicate]; rfl))) (trivial)))) (fun k h => by subst h; rfl) (po2 rfl rfl) rfl (fun k (h : _) => by (simp only [List.mem_cons, List.not_mem_nil, or_false] at h; rcases h with rfl <;> first | exact .inl rfl | exact .inr rfl | exact .inr (by decide))) ⟨_, rfl⟩ (ck_lend (r8sets_length ..))) <| WA.run (fuel := 0) [19, 20] (by kernel_rfl) (fun _ _ _ h => h) (by kernel_rfl) ?_
        refine ryV rfl rfl rfl (oN rfl) <| rV rfl rfl (oF rfl rfl) <| WR.nil <| WA.done (by kernel_rfl) ?_
        refine Tr.cond rfl (fun hc116 => ?_) (fun hc116 => ?_)
        · refine Tr.seq <| Tr.region rfl <| cV rfl (oA rfl) <| WL.nil <| Tr.ret ?_
          (have h2 : (r8node u f deep wh seen set x).2 = (r8sets f.types set x.params (List.replicate x.params.length 0)).2 := (by rw [r8node_loop _ _ _ _ _ _ hbare hk11 hkids]; simp_all [andT, andS, r8end]; done)
           rw [h2]
           refine ret_ok rfl ?_ (po2 rfl rfl)
           clear h2
           rw [r8node_loop _ _ _ _ _ _ hbare hk11 hkids]
           simp_all [andT, andS, r8end]
           done)
        refine Tr.skip <| Tr.seq <| Tr.region rfl <| cV rfl (oA rfl) <| WL.nil <| Tr.seq <| Tr.grow (t := 14) (k := 114) ⟨3, 1⟩ rfl rfl rfl rfl rfl <| Tr.region rfl <| cV rfl (oM rfl) <| cV rfl (oM rfl) ?_
        refine WL.cons rfl rfl rfl (ok_append rfl rfl rfl rfl (by rfl) (by simp) Tryz.underlying35 tB3 (by decide) (hw_int) (hone_int) (by simp [maxLen, chunks]; omega) (by simp [chunks]; omega)) ?_
        refine cV rfl (oA rfl) <| WL.nil <| Tr.seq <| Tr.region rfl <| cV rfl (oM rfl) <| cV rfl (oFe rfl tF42_6) <| cV rfl (oLe Tryz.underlying35 rfl rfl) ?_
        refine WL.cons rfl rfl rfl (ok_append rfl rfl rfl rfl (by (simp; done)) (by simp) Tryz.underlying35 tB3 (by decide) (hw_int) (hone_int) (by simp [maxLen, chunks]; omega) (by simp [chunks]; omega)) ?_
        refine cV rfl (oA rfl) <| WL.nil <| Tr.seq <| Tr.drawn mixed (fun k => k ∈ ([3, 113] : List Nat)) <| WA.run (fuel := 23) [0, 1, 2, 3, 4, 5, 6, 7, 8] (by kernel_rfl) (fun _ _ _ h => h) (by kernel_rfl) <| rV rfl rfl (oM rfl) <| rV rfl rfl (oFe rfl tF42_7) <| rV rfl rfl (oLe Tryz.underlying40 rfl rfl) <| rV rfl rfl (ok_index_seq rfl rfl rfl Tryz.underlying40 hi0 tS43 rfl (by rfl)) <| rV rfl rfl (oLe Tryz.underlying43 rfl rfl) <| rV rfl rfl (oM rfl) <| rV rfl rfl (ok_load_box_pure rfl rfl rfl Tryz.underlying87 rfl tS87 (Nat.le_of_ble_eq_true rfl) rfl (by decide)) ?_
        refine rV rfl rfl (oM rfl) <| rV rfl rfl (oB rfl rfl (i64_add rfl (by omega))) <| WR.nil <| WA.one (i := 9) (by kernel_rfl) <| WI.op rfl rfl rfl (by intro t h; cases h <;> rfl) (fun k (h : _) => by (simp at h ⊢; omega)) (new_app rfl) (fun ρ w => ok_lend (fun k => k = 114) (ih ka hm0 (deep + 1) ⟨false, true, [], r8of f.types x.params, r8of f.types x.outs⟩ (seen ++ x.params) (r8sets f.types set x.params (List.replicate x.params.length 0)).2 ⟨by omega, by omega⟩ hs1 hb0) ent48 rfl rfl (Subs.same rfl (Subs.same rfl (Subs.same rfl (Subs.cons (fun _ _ _ _ h => sub_pv (q := whv ⟨false, true, [], r8of f.types x.params, r8of f.types x.outs⟩) (PSub.agg (ps := [vBool false, vBool true, .val (.slice none 0 0), ints (r8of f.types x.params), ints (r8of f.types x.outs)]) (And.intro (PSub.refl _) (And.intro (PSub.refl _) (And.intro PSub.nil (And.intro (PSub.refl _) (And.intro (PSub.refl _) trivial)))))) h) (Subs.same rfl Subs.nil))))) (And.intro LendOf.same (And.intro LendOf.same (And.intro (LendOf.row rfl rfl (by (simp; done)) (by (simp; done))) (And.intro LendOf.same (And.intro LendOf.same (trivial)))))) (fun k h => by subst h; rfl) (po2 rfl rfl) rfl (fun k (h : _) => by (simp only [List.mem_cons, List.not_mem_nil, or_false] at h; rcases h with rfl | rfl <;> first | exact .inl rfl | exact .inr rfl | exact .inr (by decide))) ⟨_, rfl⟩ (ck_lend (r8list_length ..))) <| WA.run (fuel := 15) [10, 11, 12, 13, 14, 15, 16] (by kernel_rfl) (fun _ _ _ h => h) (by kernel_rfl) <| rV rfl rfl (oM rfl) ?_
        refine WR.split (t := 134) rfl (fun hb134 => ?_) (fun hb134 => ?_)
        · refine ryV rfl rfl rfl (oFe rfl tF42_5) <| ryV rfl rfl rfl (oLe Tryz.underlying35 rfl rfl) <| ryV rfl rfl rfl (oSm Tryz.underlying35 rfl) <| ryV rfl rfl rfl (oB rfl rfl rfl) <| ryV rfl rfl rfl (oM rfl) ?_
          refine WR.split (t := 139) rfl (fun hb139 => ?_) (fun hb139 => ?_)
          · refine rnV rfl rfl rfl <| WR.nil <| WA.takeNo (i := 17) (b := true) rfl (by kernel_rfl) (by kernel_rfl) (by kernel_rfl) (fun _ _ _ h => h) rfl rfl rfl rfl rfl rfl <| WA.run (fuel := 4) [18, 19, 20, 21, 22, 23, 24, 25, 26, 27] (by kernel_rfl) (fun _ _ _ h => h) (by kernel_rfl) <| rnV rfl rfl rfl <| ryV rfl rfl rfl (oT rfl rfl) <| rV rfl rfl (oT rfl rfl) <| rV rfl rfl (oM rfl) <| ryV rfl rfl rfl (oM rfl) <| ryV rfl rfl rfl (oFe rfl tF42_5) <| ryV rfl rfl rfl (oLe Tryz.underlying35 rfl rfl) <| ryV rfl rfl rfl (oFe rfl tF42_5) ?_
            refine ryV rfl rfl rfl (oLe Tryz.underlying35 rfl rfl) <| ryV rfl rfl rfl (oSm Tryz.underlying35 rfl) <| WR.nil <| WA.one (i := 28) (by kernel_rfl) <| WI.opYes rfl rfl rfl rfl rfl rfl (by intro t h; cases h <;> rfl) (fun k (h : _) => by (simp at h ⊢; omega)) (new_one rfl) (fun ρ w => ok_makeSlice (k := 252) (s := ⟨3, 1⟩) rfl rfl rfl Tryz.underlying35 tZ3 tC3 rfl (by decide) (by omega) (by omega) rfl rfl rfl rfl) <| WA.one (i := 29) (by kernel_rfl) <| WI.opYes rfl rfl rfl rfl rfl rfl (by intro t h; cases h <;> rfl) (fun k (h : _) => by (simp at h ⊢; omega)) (new_app rfl) (fun ρ w => ok_lend (fun k => k = 252) (sc_r8sets u f (r8list u f (deep + 1) ⟨false, true, [], r8of f.types x.params, r8of f.types x.outs⟩ (seen ++ x.params) (r8sets f.types set x.params (List.replicate x.params.length 0)).2 ka).2 x.outs (List.replicate x.outs.length 0) hs2) ent93 rfl rfl (Subs.refl _ _) (And.intro LendOf.same (And.intro LendOf.same (And.intro (LendOf.row rfl rfl (by (simp; done)) (by (simp only [List.map_replicate]; rfl))) (trivial)))) (fun k h => by subst h; rfl) (po2 rfl rfl) rfl (fun k (h : _) => by (simp only [List.mem_cons, List.not_mem_nil, or_false] at h; rcases h with rfl | rfl <;> first | exact .inl rfl | exact .inr rfl | exact .inr (by decide))) ⟨_, rfl⟩ (ck_lend (r8sets_length ..))) <| WA.run (fuel := 0) [30, 31] (by kernel_rfl) (fun _ _ _ h => h) (by kernel_rfl) <| rV rfl rfl (oT rfl rfl) <| rV rfl rfl (oA rfl) <| WR.nil <| WA.done (by kernel_rfl) ?_
            refine Tr.ret ?_
            (have h2 : (r8node u f deep wh seen set x).2 = (r8sets f.types (r8list u f (deep + 1) ⟨false, true, [], r8of f.types x.params, r8of f.types x.outs⟩ (seen ++ x.params) (r8sets f.types set x.params (List.replicate x.params.length 0)).2 ka).2 x.outs (List.replicate x.outs.length 0)).2 := (by rw [r8node_loop _ _ _ _ _ _ hbare hk11 hkids]; simp_all [andT, andS, r8end]; done)
             rw [h2]
             refine ret_ok rfl ?_ (po2 rfl rfl)
             clear h2
             rw [r8node_loop _ _ _ _ _ _ hbare hk11 hkids]
             simp_all [andT, andS, r8end]
             done)
          refine ryV rfl rfl rfl (ok_load_ept_agg rfl rfl Tryz.underlying42 rfl tS42 (Nat.le_of_ble_eq_true rfl)) <| WR.nil <| WA.one (i := 17) (by kernel_rfl) <| WI.opYes rfl rfl rfl rfl rfl rfl (by intro t h; cases h <;> rfl) (fun k (h : _) => by (simp at h ⊢; omega)) (fun _ h1 h2 => absurd h1 h2) (fun ρ w => ok_callq (sc_r8Closed _) ent53 rfl rfl (Subs.refl _ _) rfl) <| WA.run (fuel := 4) [18, 19, 20, 21, 22, 23, 24, 25, 26, 27] (by kernel_rfl) (fun _ _ _ h => h) (by kernel_rfl) <| ryV rfl rfl rfl (oN rfl) <| ryV rfl rfl rfl (oF rfl rfl) <| rV rfl rfl (oT rfl rfl) <| rV rfl rfl (oM rfl) ?_
          refine WR.split (t := 145) rfl (fun hb145 => ?_) (fun hb145 => ?_)
          · refine ryV rfl rfl rfl (oM rfl) <| ryV rfl rfl rfl (oFe rfl tF42_5) <| ryV rfl rfl rfl (oLe Tryz.underlying35 rfl rfl) <| ryV rfl rfl rfl (oFe rfl tF42_5) <| ryV rfl rfl rfl (oLe Tryz.underlying35 rfl rfl) <| ryV rfl rfl rfl (oSm Tryz.underlying35 rfl) <| WR.nil <| WA.one (i := 28) (by kernel_rfl) <| WI.opYes rfl rfl rfl rfl rfl rfl (by intro t h; cases h <;> rfl) (fun k (h : _) => by (simp at h ⊢; omega)) (new_one rfl) (fun ρ w => ok_makeSlice (k := 252) (s := ⟨3, 1⟩) rfl rfl rfl Tryz.underlying35 tZ3 tC3 rfl (by decide) (by omega) (by omega) rfl rfl rfl rfl) <| WA.one (i := 29) (by kernel_rfl) <| WI.opYes rfl rfl rfl rfl rfl rfl (by intro t h; cases h <;> rfl) (fun k (h : _) => by (simp at h ⊢; omega)) (new_app rfl) (fun ρ w => ok_lend (fun k => k = 252) (sc_r8sets u f (r8list u f (deep + 1) ⟨false, true, [], r8of f.types x.params, r8of f.types x.outs⟩ (seen ++ x.params) (r8sets f.types set x.params (List.replicate x.params.length 0)).2 ka).2 x.outs (List.replicate x.outs.length 0) hs2) ent93 rfl rfl (Subs.refl _ _) (And.intro LendOf.same (And.intro LendOf.same (And.intro (LendOf.row rfl rfl (by (simp; done)) (by (simp only [List.map_replicate]; rfl))) (trivial)))) (fun k h => by subst h; rfl) (po2 rfl rfl) rfl (fun k (h : _) => by (simp only [List.mem_cons, List.not_mem_nil, or_false] at h; rcases h with rfl | rfl <;> first | exact .inl rfl | exact .inr rfl | exact .inr (by decide))) ⟨_, rfl⟩ (ck_lend (r8sets_length ..))) <| WA.run (fuel := 0) [30, 31] (by kernel_rfl) (fun _ _ _ h => h) (by kernel_rfl) ?_
            refine rV rfl rfl (oT rfl rfl) <| rV rfl rfl (oA rfl) <| WR.nil <| WA.done (by kernel_rfl) <| Tr.ret ?_
            (have h2 : (r8node u f deep wh seen set x).2 = (r8sets f.types (r8list u f (deep + 1) ⟨false, true, [], r8of f.types x.params, r8of f.types x.outs⟩ (seen ++ x.params) (r8sets f.types set x.params (List.replicate x.params.length 0)).2 ka).2 x.outs (List.replicate x.outs.length 0)).2 := (by rw [r8node_loop _ _ _ _ _ _ hbare hk11 hkids]; simp_all [andT, andS, r8end]; done)
             rw [h2]
             refine ret_ok rfl ?_ (po2 rfl rfl)
             clear h2
             rw [r8node_loop _ _ _ _ _ _ hbare hk11 hkids]
             simp_all [andT, andS, r8end]
             done)
          refine rnV rfl rfl rfl <| rnV rfl rfl rfl <| rnV rfl rfl rfl <| rnV rfl rfl rfl <| rnV rfl rfl rfl <| rnV rfl rfl rfl <| WR.nil <| WA.takeNo (i := 28) (b := false) rfl (by kernel_rfl) (by kernel_rfl) (by kernel_rfl) (fun _ _ _ h => h) rfl rfl rfl rfl rfl rfl <| WA.takeNo (i := 29) (b := false) rfl (by kernel_rfl) (by kernel_rfl) (by kernel_rfl) (fun _ _ _ h => h) rfl rfl rfl rfl rfl rfl <| WA.run (fuel := 0) [30, 31] (by kernel_rfl) (fun _ _ _ h => h) (by kernel_rfl) <| rV rfl rfl (oF rfl rfl) <| rV rfl rfl (oA rfl) ?_
          refine WR.nil <| WA.done (by kernel_rfl) <| Tr.ret ?_
          (have h2 : (r8node u f deep wh seen set x).2 = (r8list u f (deep + 1) ⟨false, true, [], r8of f.types x.params, r8of f.types x.outs⟩ (seen ++ x.params) (r8sets f.types set x.params (List.replicate x.params.length 0)).2 ka).2 := (by rw [r8node_loop _ _ _ _ _ _ hbare hk11 hkids]; simp_all [andT, andS, r8end]; done)
           rw [h2]
           refine ret_ok rfl ?_ (po2 rfl rfl)
           clear h2
           rw [r8node_loop _ _ _ _ _ _ hbare hk11 hkids]
           simp_all [andT, andS, r8end]
           done)
        refine rnV rfl rfl rfl <| rnV rfl rfl rfl <| rnV rfl rfl rfl <| rnV rfl rfl rfl <| rnV rfl rfl rfl <| WR.noU rfl rfl rfl rfl rfl rfl rfl <| WR.nil <| WA.takeNoU (i := 17) rfl (by kernel_rfl) (by kernel_rfl) (by kernel_rfl) (fun _ _ _ h => h) rfl rfl rfl rfl rfl rfl <| WA.run (fuel := 4) [18, 19, 20, 21, 22, 23, 24, 25, 26, 27] (by kernel_rfl) (fun _ _ _ h => h) (by kernel_rfl) <| WR.noU rfl rfl rfl rfl rfl rfl rfl <| rnV rfl rfl rfl <| rV rfl rfl (oF rfl rfl) ?_
        refine rV rfl rfl (oM rfl) <| rnV rfl rfl rfl <| rnV rfl rfl rfl <| rnV rfl rfl rfl <| rnV rfl rfl rfl <| rnV rfl rfl rfl <| rnV rfl rfl rfl <| WR.nil <| WA.takeNo (i := 28) (b := false) rfl (by kernel_rfl) (by kernel_rfl) (by kernel_rfl) (fun _ _ _ h => h) rfl rfl rfl rfl rfl rfl <| WA.takeNo (i := 29) (b := false) rfl (by kernel_rfl) (by kernel_rfl) (by kernel_rfl) (fun _ _ _ h => h) rfl rfl rfl rfl rfl rfl <| WA.run (fuel := 0) [30, 31] (by kernel_rfl) (fun _ _ _ h => h) (by kernel_rfl) <| rV rfl rfl (oF rfl rfl) ?_
        refine rV rfl rfl (oA rfl) <| WR.nil <| WA.done (by kernel_rfl) <| Tr.ret ?_
        (have h2 : (r8node u f deep wh seen set x).2 = (r8list u f (deep + 1) ⟨false, true, [], r8of f.types x.params, r8of f.types x.outs⟩ (seen ++ x.params) (r8sets f.types set x.params (List.replicate x.params.length 0)).2 ka).2 := (by rw [r8node_loop _ _ _ _ _ _ hbare hk11 hkids]; simp_all [andT, andS, r8end]; done)
         rw [h2]
         refine ret_ok rfl ?_ (po2 rfl rfl)
         clear h2
         rw [r8node_loop _ _ _ _ _ _ hbare hk11 hkids]
         simp_all [andT, andS, r8end]
         done)
      refine WI.op rfl rfl rfl (by intro t h; cases h <;> rfl) (fun k (h : _) => by (simp at h ⊢; omega)) (new_one rfl) (fun ρ w => ok_alloc (k := 113) rfl tZ87 rfl rfl rfl rfl) <| WA.one (i := 7) (by kernel_rfl) <| WI.op rfl rfl rfl (by intro t h; cases h <;> rfl) (fun k (h : _) => by (simp at h ⊢; omega)) (new_app rfl) (fun ρ w => ok_callr (sc_r8of u f set x.outs hbo) ent91 rfl rfl (Subs.refl _ _) (po2 rfl rfl) rfl (fun k (h : _) => by (simp only [List.mem_cons, List.not_mem_nil, or_false] at h; rcases h with rfl | rfl <;> first | exact .inl rfl | exact .inr rfl | exact .inr (by decide))) rfl rfl) <| WA.run (fuel := 1) [8] (by kernel_rfl) (fun _ _ _ h => h) (by kernel_rfl) <| rV rfl rfl (ok_build_pure rfl rfl tZ87 tP87 rfl (firmB_ok rfl) rfl) <| WR.nil <| WA.one (i := 10) (by kernel_rfl) ?_
      refine WI.op rfl rfl rfl (by intro t h; cases h <;> rfl) (fun k (h : _) => by (simp at h ⊢; omega)) (new_old rfl) (fun ρ w => ok_store_box_agg rfl rfl rfl rfl rfl (by simp) tS87 (firmL_ok rfl) (lb rfl)) ?_
      refine WA.done (by kernel_rfl) <| Tr.seq <| Tr.seq <| Tr.drawn mixed (fun k => k ∈ ([3] : List Nat)) <| WA.run (fuel := 14) [0, 1, 2, 3, 4, 5, 6] (by kernel_rfl) (fun _ _ _ h => h) (by kernel_rfl) <| rV rfl rfl (oM rfl) <| rV rfl rfl (oFe rfl tF42_4) <| rV rfl rfl (oLe Tryz.underlying35 rfl rfl) <| rV rfl rfl (oM rfl) <| rV rfl rfl (oM rfl) <| rV rfl rfl (oFe rfl tF42_6) <| rV rfl rfl (oLe Tryz.underlying35 rfl rfl) ?_
      refine WR.nil <| WA.one (i := 7) (by kernel_rfl) <| WI.op rfl rfl rfl (by intro t h; cases h <;> rfl) (fun k (h : _) => by (simp at h ⊢; omega)) (new_app rfl) (fun ρ w => ok_callr (sc_r8of u f set x.params hbp) ent91 rfl rfl (Subs.refl _ _) (po2 rfl rfl) rfl (fun k (h : _) => by (simp only [List.mem_cons, List.not_mem_nil, or_false] at h; rcases h with rfl <;> first | exact .inl rfl | exact .inr rfl | exact .inr (by decide))) rfl rfl) <| WA.one (i := 8) (by kernel_rfl) <| WI.op rfl rfl rfl (by intro t h; cases h <;> rfl) (fun k (h : _) => by (simp at h ⊢; omega)) (new_app rfl) (fun ρ w => ok_callr (sc_r8types u f set x.args seen (r8of f.types x.params)) ent92 rfl rfl (Subs.refl _ _) (po2 rfl rfl) rfl (fun k (h : _) => .inr trivial) rfl rfl) <| WA.run (fuel := 4) [9, 10, 11, 12, 13, 14, 15, 16] (by kernel_rfl) (fun _ _ _ h => h) (by kernel_rfl) <| rV rfl rfl (oN rfl) <| rV rfl rfl (oM rfl) ?_
      refine WR.split (t := 106) rfl (fun hb106 => ?_) (fun hb106 => ?_)
      · refine rnV rfl rfl rfl <| rnV rfl rfl rfl <| rnV rfl rfl rfl <| rnV rfl rfl rfl <| rnV rfl rfl rfl <| rnV rfl rfl rfl <| WR.nil <| WA.takeNo (i := 17) (b := true) rfl (by kernel_rfl) (by kernel_rfl) (by kernel_rfl) (fun _ _ _ h => h) rfl rfl rfl rfl rfl rfl <| WA.takeNo (i := 18) (b := true) rfl (by kernel_rfl) (by kernel_rfl) (by kernel_rfl) (fun _ _ _ h => h) rfl rfl rfl rfl rfl rfl <| WA.run (fuel := 0) [19, 20] (by kernel_rfl) (fun _ _ _ h => h) (by kernel_rfl) <| rnV rfl rfl rfl <| rV rfl rfl (oT rfl rfl) ?_
        refine WR.nil <| WA.done (by kernel_rfl) <| Tr.condT rfl <| Tr.seq <| Tr.region rfl <| cV rfl (oA rfl) <| WL.nil <| Tr.ret ?_
        (have h2 : (r8node u f deep wh seen set x).2 = set := (by rw [r8node_loop _ _ _ _ _ _ hbare hk11 hkids]; simp_all [andT, andS, r8end]; done)
         rw [h2]
         refine ret_ok rfl ?_ (po2 rfl rfl)
         clear h2
         rw [r8node_loop _ _ _ _ _ _ hbare hk11 hkids]
         simp_all [andT, andS, r8end]
         done)
      refine ryV rfl rfl rfl (oM rfl) <| ryV rfl rfl rfl (oFe rfl tF42_6) <| ryV rfl rfl rfl (oLe Tryz.underlying35 rfl rfl) <| ryV rfl rfl rfl (oFe rfl tF42_6) <| ryV rfl rfl rfl (oLe Tryz.underlying35 rfl rfl) <| ryV rfl rfl rfl (oSm Tryz.underlying35 rfl) <| WR.nil <| WA.one (i := 17) (by kernel_rfl) <| WI.opYes rfl rfl rfl rfl rfl rfl (by intro t h; cases h <;> rfl) (fun k (h : _) => by (simp at h ⊢; omega)) (new_one rfl) (fun ρ w => ok_makeSlice (k := 213) (s := ⟨3, 1⟩) rfl rfl rfl Tryz.underlying35 tZ3 tC3 rfl (by decide) (by omega) (by omega) rfl rfl rfl rfl) <| WA.one (i := 18) (by kernel_rfl) <| WI.opYes rfl rfl rfl rfl rfl rfl (by intro t h; cases h <;> rfl) (fun k (h : _) => by (simp at h ⊢; omega)) (new_app rfl) (fun ρ w => ok_lend (fun k => k = 213) (sc_r8sets u f set x.params (List.replicate x.params.length 0) hs) ent93 rfl rfl (Subs.refl _ _) (And.intro LendOf.same (And.intro LendOf.same (And.intro (LendOf.row rfl rfl (by (simp; done)) (by (simp only [List.map_replicate]; rfl))) (trivial)))) (fun k h => by subst h; rfl) (po2 rfl rfl) rfl (fun k (h : _) => by (simp only [List.mem_cons, List.not_mem_nil, or_false] at h; rcases h with rfl <;> first | exact .inl rfl | exact .inr rfl | exact .inr (by decide))) ⟨_, rfl⟩ (ck_lend (r8sets_length ..))) <| WA.run (fuel := 0) [19, 20] (by kernel_rfl) (fun _ _ _ h => h) (by kernel_rfl) ?_
      refine ryV rfl rfl rfl (oN rfl) <| rV rfl rfl (oF rfl rfl) <| WR.nil <| WA.done (by kernel_rfl) ?_
      refine Tr.cond rfl (fun hc116 => ?_) (fun hc116 => ?_)
      · refine Tr.seq <| Tr.region rfl <| cV rfl (oA rfl) <| WL.nil <| Tr.ret ?_
        (have h2 : (r8node u f deep wh seen set x).2 = (r8sets f.types set x.params (List.replicate x.params.length 0)).2 := (by rw [r8node_loop _ _ _ _ _ _ hbare hk11 hkids]; simp_all [andT, andS, r8end]; done)
         rw [h2]
         refine ret_ok rfl ?_ (po2 rfl rfl)
         clear h2
         rw [r8node_loop _ _ _ _ _ _ hbare hk11 hkids]
         simp_all [andT, andS, r8end]
         done)
      refine Tr.skip <| Tr.seq <| Tr.region rfl <| cV rfl (oA rfl) <| WL.nil <| Tr.seq <| Tr.grow (t := 14) (k := 114) ⟨3, 1⟩ rfl rfl rfl rfl rfl <| Tr.region rfl <| cV rfl (oM rfl) <| cV rfl (oM rfl) ?_
      refine WL.cons rfl rfl rfl (ok_append rfl rfl rfl rfl (by rfl) (by simp) Tryz.underlying35 tB3 (by decide) (hw_int) (hone_int) (by simp [maxLen, chunks]; omega) (by simp [chunks]; omega)) ?_
      refine cV rfl (oA rfl) <| WL.nil <| Tr.seq <| Tr.region rfl <| cV rfl (oM rfl) <| cV rfl (oFe rfl tF42_6) <| cV rfl (oLe Tryz.underlying35 rfl rfl) ?_
      refine WL.cons rfl rfl rfl (ok_append rfl rfl rfl rfl (by (simp; done)) (by simp) Tryz.underlying35 tB3 (by decide) (hw_int) (hone_int) (by simp [maxLen, chunks]; omega) (by simp [chunks]; omega)) ?_
      refine cV rfl (oA rfl) <| WL.nil <| Tr.seq <| Tr.drawn mixed (fun k => k ∈ ([3, 113] : List Nat)) <| WA.run (fuel := 23) [0, 1, 2, 3, 4, 5, 6, 7, 8] (by kernel_rfl) (fun _ _ _ h => h) (by kernel_rfl) <| rV rfl rfl (oM rfl) <| rV rfl rfl (oFe rfl tF42_7) <| rV rfl rfl (oLe Tryz.underlying40 rfl rfl) <| rV rfl rfl (ok_index_seq rfl rfl rfl Tryz.underlying40 hi0 tS43 rfl (by rfl)) <| rV rfl rfl (oLe Tryz.underlying43 rfl rfl) <| rV rfl rfl (oM rfl) <| rV rfl rfl (ok_load_box_pure rfl rfl rfl Tryz.underlying87 rfl tS87 (Nat.le_of_ble_eq_true rfl) rfl (by decide)) ?_
      refine rV rfl rfl (oM rfl) <| rV rfl rfl (oB rfl rfl (i64_add rfl (by omega))) <| WR.nil <| WA.one (i := 9) (by kernel_rfl) <| WI.op rfl rfl rfl (by intro t h; cases h <;> rfl) (fun k (h : _) => by (simp at h ⊢; omega)) (new_app rfl) (fun ρ w => ok_lend (fun k => k = 114) (ih ka hm0 (deep + 1) ⟨false, true, [], r8of f.types x.params, r8of f.types x.outs⟩ (seen ++ x.params) (r8sets f.types set x.params (List.replicate x.params.length 0)).2 ⟨by omega, by omega⟩ hs1 hb0) ent48 rfl rfl (Subs.same rfl (Subs.same rfl (Subs.same rfl (Subs.cons (fun _ _ _ _ h => sub_pv (q := whv ⟨false, true, [], r8of f.types x.params, r8of f.types x.outs⟩) (PSub.agg (ps := [vBool false, vBool true, .val (.slice none 0 0), ints (r8of f.types x.params), ints (r8of f.types x.outs)]) (And.intro (PSub.refl _) (And.intro (PSub.refl _) (And.intro PSub.nil (And.intro (PSub.refl _) (And.intro (PSub.refl _) trivial)))))) h) (Subs.same rfl Subs.nil))))) (And.intro LendOf.same (And.intro LendOf.same (And.intro (LendOf.row rfl rfl (by (simp; done)) (by (simp; done))) (And.intro LendOf.same (And.intro LendOf.same (trivial)))))) (fun k h => by subst h; rfl) (po2 rfl rfl) rfl (fun k (h : _) => by (simp only [List.mem_cons, List.not_mem_nil, or_false] at h; rcases h with rfl | rfl <;> first | exact .inl rfl | exact .inr rfl | exact .inr (by decide))) ⟨_, rfl⟩ (ck_lend (r8list_length ..))) <| WA.run (fuel := 15) [10, 11, 12, 13, 14, 15, 16] (by kernel_rfl) (fun _ _ _ h => h) (by kernel_rfl) <| rV rfl rfl (oM rfl) ?_
      refine WR.split (t := 134) rfl (fun hb134 => ?_) (fun hb134 => ?_)
      · refine ryV rfl rfl rfl (oFe rfl tF42_5) <| ryV rfl rfl rfl (oLe Tryz.underlying35 rfl rfl) <| ryV rfl rfl rfl (oSm Tryz.underlying35 rfl) <| ryV rfl rfl rfl (oB rfl rfl rfl) <| ryV rfl rfl rfl (oM rfl) ?_
        refine WR.split (t := 139) rfl (fun hb139 => ?_) (fun hb139 => ?_)
        · refine rnV rfl rfl rfl <| WR.nil <| WA.takeNo (i := 17) (b := true) rfl (by kernel_rfl) (by kernel_rfl) (by kernel_rfl) (fun _ _ _ h => h) rfl rfl rfl rfl rfl rfl <| WA.run (fuel := 4) [18, 19, 20, 21, 22, 23, 24, 25, 26, 27] (by kernel_rfl) (fun _ _ _ h => h) (by kernel_rfl) <| rnV rfl rfl rfl <| ryV rfl rfl rfl (oT rfl rfl) <| rV rfl rfl (oT rfl rfl) <| rV rfl rfl (oM rfl) <| ryV rfl rfl rfl (oM rfl) <| ryV rfl rfl rfl (oFe rfl tF42_5) <| ryV rfl rfl rfl (oLe Tryz.underlying35 rfl rfl) <| ryV rfl rfl rfl (oFe rfl tF42_5) ?_
          refine ryV rfl rfl rfl (oLe Tryz.underlying35 rfl rfl) <| ryV rfl rfl rfl (oSm Tryz.underlying35 rfl) <| WR.nil <| WA.one (i := 28) (by kernel_rfl) <| WI.opYes rfl rfl rfl rfl rfl rfl (by intro t h; cases h <;> rfl) (fun k (h : _) => by (simp at h ⊢; omega)) (new_one rfl) (fun ρ w => ok_makeSlice (k := 252) (s := ⟨3, 1⟩) rfl rfl rfl Tryz.underlying35 tZ3 tC3 rfl (by decide) (by omega) (by omega) rfl rfl rfl rfl) <| WA.one (i := 29) (by kernel_rfl) <| WI.opYes rfl rfl rfl rfl rfl rfl (by intro t h; cases h <;> rfl) (fun k (h : _) => by (simp at h ⊢; omega)) (new_app rfl) (fun ρ w => ok_lend (fun k => k = 252) (sc_r8sets u f (r8list u f (deep + 1) ⟨false, true, [], r8of f.types x.params, r8of f.types x.outs⟩ (seen ++ x.params) (r8sets f.types set x.params (List.replicate x.params.length 0)).2 ka).2 x.outs (List.replicate x.outs.length 0) hs2) ent93 rfl rfl (Subs.refl _ _) (And.intro LendOf.same (And.intro LendOf.same (And.intro (LendOf.row rfl rfl (by (simp; done)) (by (simp only [List.map_replicate]; rfl))) (trivial)))) (fun k h => by subst h; rfl) (po2 rfl rfl) rfl (fun k (h : _) => by (simp only [List.mem_cons, List.not_mem_nil, or_false] at h; rcases h with rfl | rfl <;> first | exact .inl rfl | exact .inr rfl | exact .inr (by decide))) ⟨_, rfl⟩ (ck_lend (r8sets_length ..))) <| WA.run (fuel := 0) [30, 31] (by kernel_rfl) (fun _ _ _ h => h) (by kernel_rfl) <| rV rfl rfl (oT rfl rfl) <| rV rfl rfl (oA rfl) <| WR.nil <| WA.done (by kernel_rfl) ?_
          refine Tr.ret ?_
          (have h2 : (r8node u f deep wh seen set x).2 = (r8sets f.types (r8list u f (deep + 1) ⟨false, true, [], r8of f.types x.params, r8of f.types x.outs⟩ (seen ++ x.params) (r8sets f.types set x.params (List.replicate x.params.length 0)).2 ka).2 x.outs (List.replicate x.outs.length 0)).2 := (by rw [r8node_loop _ _ _ _ _ _ hbare hk11 hkids]; simp_all [andT, andS, r8end]; done)
           rw [h2]
           refine ret_ok rfl ?_ (po2 rfl rfl)
           clear h2
           rw [r8node_loop _ _ _ _ _ _ hbare hk11 hkids]
           simp_all [andT, andS, r8end]
           done)
        refine ryV rfl rfl rfl (ok_load_ept_agg rfl rfl Tryz.underlying42 rfl tS42 (Nat.le_of_ble_eq_true rfl)) <| WR.nil <| WA.one (i := 17) (by kernel_rfl) <| WI.opYes rfl rfl rfl rfl rfl rfl (by intro t h; cases h <;> rfl) (fun k (h : _) => by (simp at h ⊢; omega)) (fun _ h1 h2 => absurd h1 h2) (fun ρ w => ok_callq (sc_r8Closed _) ent53 rfl rfl (Subs.refl _ _) rfl) <| WA.run (fuel := 4) [18, 19, 20, 21, 22, 23, 24, 25, 26, 27] (by kernel_rfl) (fun _ _ _ h => h) (by kernel_rfl) <| ryV rfl rfl rfl (oN rfl) <| ryV rfl rfl rfl (oF rfl rfl) <| rV rfl rfl (oT rfl rfl) <| rV rfl rfl (oM rfl) ?_
        refine WR.split (t := 145) rfl (fun hb145 => ?_) (fun hb145 => ?_)
        · refine ryV rfl rfl rfl (oM rfl) <| ryV rfl rfl rfl (oFe rfl tF42_5) <| ryV rfl rfl rfl (oLe Tryz.underlying35 rfl rfl) <| ryV rfl rfl rfl (oFe rfl tF42_5) <| ryV rfl rfl rfl (oLe Tryz.underlying35 rfl rfl) <| ryV rfl rfl rfl (oSm Tryz.underlying35 rfl) <| WR.nil <| WA.one (i := 28) (by kernel_rfl) <| WI.opYes rfl rfl rfl rfl rfl rfl (by intro t h; cases h <;> rfl) (fun k (h : _) => by (simp at h ⊢; omega)) (new_one rfl) (fun ρ w => ok_makeSlice (k := 252) (s := ⟨3, 1⟩) rfl rfl rfl Tryz.underlying35 tZ3 tC3 rfl (by decide) (by omega) (by omega) rfl rfl rfl rfl) <| WA.one (i := 29) (by kernel_rfl) <| WI.opYes rfl rfl rfl rfl rfl rfl (by intro t h; cases h <;> rfl) (fun k (h : _) => by (simp at h ⊢; omega)) (new_app rfl) (fun ρ w => ok_lend (fun k => k = 252) (sc_r8sets u f (r8list u f (deep + 1) ⟨false, true, [], r8of f.types x.params, r8of f.types x.outs⟩ (seen ++ x.params) (r8sets f.types set x.params (List.replicate x.params.length 0)).2 ka).2 x.outs (List.replicate x.outs.length 0) hs2) ent93 rfl rfl (Subs.refl _ _) (And.intro LendOf.same (And.intro LendOf.same (And.intro (LendOf.row rfl rfl (by (simp; done)) (by (simp only [List.map_replicate]; rfl))) (trivial)))) (fun k h => by subst h; rfl) (po2 rfl rfl) rfl (fun k (h : _) => by (simp only [List.mem_cons, List.not_mem_nil, or_false] at h; rcases h with rfl | rfl <;> first | exact .inl rfl | exact .inr rfl | exact .inr (by decide))) ⟨_, rfl⟩ (ck_lend (r8sets_length ..))) <| WA.run (fuel := 0) [30, 31] (by kernel_rfl) (fun _ _ _ h => h) (by kernel_rfl) ?_
          refine rV rfl rfl (oT rfl rfl) <| rV rfl rfl (oA rfl) <| WR.nil <| WA.done (by kernel_rfl) <| Tr.ret ?_
          (have h2 : (r8node u f deep wh seen set x).2 = (r8sets f.types (r8list u f (deep + 1) ⟨false, true, [], r8of f.types x.params, r8of f.types x.outs⟩ (seen ++ x.params) (r8sets f.types set x.params (List.replicate x.params.length 0)).2 ka).2 x.outs (List.replicate x.outs.length 0)).2 := (by rw [r8node_loop _ _ _ _ _ _ hbare hk11 hkids]; simp_all [andT, andS, r8end]; done)
           rw [h2]
           refine ret_ok rfl ?_ (po2 rfl rfl)
           clear h2
           rw [r8node_loop _ _ _ _ _ _ hbare hk11 hkids]
           simp_all [andT, andS, r8end]
           done)
        refine rnV rfl rfl rfl <| rnV rfl rfl rfl <| rnV rfl rfl rfl <| rnV rfl rfl rfl <| rnV rfl rfl rfl <| rnV rfl rfl rfl <| WR.nil <| WA.takeNo (i := 28) (b := false) rfl (by kernel_rfl) (by kernel_rfl) (by kernel_rfl) (fun _ _ _ h => h) rfl rfl rfl rfl rfl rfl <| WA.takeNo (i := 29) (b := false) rfl (by kernel_rfl) (by kernel_rfl) (by kernel_rfl) (fun _ _ _ h => h) rfl rfl rfl rfl rfl rfl <| WA.run (fuel := 0) [30, 31] (by kernel_rfl) (fun _ _ _ h => h) (by kernel_rfl) <| rV rfl rfl (oF rfl rfl) <| rV rfl rfl (oA rfl) ?_
        refine WR.nil <| WA.done (by kernel_rfl) <| Tr.ret ?_
        (have h2 : (r8node u f deep wh seen set x).2 = (r8list u f (deep + 1) ⟨false, true, [], r8of f.types x.params, r8of f.types x.outs⟩ (seen ++ x.params) (r8sets f.types set x.params (List.replicate x.params.length 0)).2 ka).2 := (by rw [r8node_loop _ _ _ _ _ _ hbare hk11 hkids]; simp_all [andT, andS, r8end]; done)
         rw [h2]
         refine ret_ok rfl ?_ (po2 rfl rfl)
         clear h2
         rw [r8node_loop _ _ _ _ _ _ hbare hk11 hkids]
         simp_all [andT, andS, r8end]
         done)
      refine rnV rfl rfl rfl <| rnV rfl rfl rfl <| rnV rfl rfl rfl <| rnV rfl rfl rfl <| rnV rfl rfl rfl <| WR.noU rfl rfl rfl rfl rfl rfl rfl <| WR.nil <| WA.takeNoU (i := 17) rfl (by kernel_rfl) (by kernel_rfl) (by kernel_rfl) (fun _ _ _ h => h) rfl rfl rfl rfl rfl rfl <| WA.run (fuel := 4) [18, 19, 20, 21, 22, 23, 24, 25, 26, 27] (by kernel_rfl) (fun _ _ _ h => h) (by kernel_rfl) <| WR.noU rfl rfl rfl rfl rfl rfl rfl <| rnV rfl rfl rfl <| rV rfl rfl (oF rfl rfl) ?_
      refine rV rfl rfl (oM rfl) <| rnV rfl rfl rfl <| rnV rfl rfl rfl <| rnV rfl rfl rfl <| rnV rfl rfl rfl <| rnV rfl rfl rfl <| rnV rfl rfl rfl <| WR.nil <| WA.takeNo (i := 28) (b := false) rfl (by kernel_rfl) (by kernel_rfl) (by kernel_rfl) (fun _ _ _ h => h) rfl rfl rfl rfl rfl rfl <| WA.takeNo (i := 29) (b := false) rfl (by kernel_rfl) (by kernel_rfl) (by kernel_rfl) (fun _ _ _ h => h) rfl rfl rfl rfl rfl rfl <| WA.run (fuel := 0) [30, 31] (by kernel_rfl) (fun _ _ _ h => h) (by kernel_rfl) <| rV rfl rfl (oF rfl rfl) ?_
      refine rV rfl rfl (oA rfl) <| WR.nil <| WA.done (by kernel_rfl) <| Tr.ret ?_
      (have h2 : (r8node u f deep wh seen set x).2 = (r8list u f (deep + 1) ⟨false, true, [], r8of f.types x.params, r8of f.types x.outs⟩ (seen ++ x.params) (r8sets f.types set x.params (List.replicate x.params.length 0)).2 ka).2 := (by rw [r8node_loop _ _ _ _ _ _ hbare hk11 hkids]; simp_all [andT, andS, r8end]; done)
       rw [h2]
       refine ret_ok rfl ?_ (po2 rfl rfl)
       clear h2
       rw [r8node_loop _ _ _ _ _ _ hbare hk11 hkids]
       simp_all [andT, andS, r8end]
       done)
    refine WI.op rfl rfl rfl (by intro t h; cases h <;> rfl) (fun k (h : _) => by (simp at h ⊢; omega)) (new_one rfl) (fun ρ w => ok_alloc (k := 113) rfl tZ87 rfl rfl rfl rfl) <| WA.one (i := 3) (by kernel_rfl) <| WI.op rfl rfl rfl (by intro t h; cases h <;> rfl) (fun k (h : _) => by (simp at h ⊢; omega)) (new_app rfl) (fun ρ w => ok_callr (sc_r8of u f set x.params hbp) ent91 rfl rfl (Subs.refl _ _) (po2 rfl rfl) rfl (fun k (h : _) => by (simp only [List.mem_cons, List.not_mem_nil, or_false] at h; rcases h with rfl | rfl <;> first | exact .inl rfl | exact .inr rfl | exact .inr (by decide))) rfl rfl) <| WA.one (i := 7) (by kernel_rfl) <| WI.op rfl rfl rfl (by intro t h; cases h <;> rfl) (fun k (h : _) => by (simp at h ⊢; omega)) (new_app rfl) (fun ρ w => ok_callr (sc_r8of u f set x.outs hbo) ent91 rfl rfl (Subs.refl _ _) (po2 rfl rfl) rfl (fun k (h : _) => by (simp only [List.mem_cons, List.not_mem_nil, or_false] at h; rcases h with rfl | rfl <;> first | exact .inl rfl | exact .inr rfl | exact .inr (by decide))) rfl rfl) <| WA.run (fuel := 1) [8] (by kernel_rfl) (fun _ _ _ h => h) (by kernel_rfl) <| rV rfl rfl (ok_build_pure rfl rfl tZ87 tP87 rfl (firmB_ok rfl) rfl) <| WR.nil <| WA.one (i := 10) (by kernel_rfl) ?_
    refine WI.op rfl rfl rfl (by intro t h; cases h <;> rfl) (fun k (h : _) => by (simp at h ⊢; omega)) (new_old rfl) (fun ρ w => ok_store_box_agg rfl rfl rfl rfl rfl (by simp) tS87 (firmL_ok rfl) (lb rfl)) ?_
    refine WA.done (by kernel_rfl) <| Tr.seq <| Tr.seq <| Tr.drawn mixed (fun k => k ∈ ([3] : List Nat)) <| WA.run (fuel := 14) [0, 1, 2, 3, 4, 5, 6] (by kernel_rfl) (fun _ _ _ h => h) (by kernel_rfl) <| rV rfl rfl (oM rfl) <| rV rfl rfl (oFe rfl tF42_4) <| rV rfl rfl (oLe Tryz.underlying35 rfl rfl) <| rV rfl rfl (oM rfl) <| rV rfl rfl (oM rfl) <| rV rfl rfl (oFe rfl tF42_6) <| rV rfl rfl (oLe Tryz.underlying35 rfl rfl) ?_
    refine WR.nil <| WA.one (i := 7) (by kernel_rfl) <| WI.op rfl rfl rfl (by intro t h; cases h <;> rfl) (fun k (h : _) => by (simp at h ⊢; omega)) (new_app rfl) (fun ρ w => ok_callr (sc_r8of u f set x.params hbp) ent91 rfl rfl (Subs.refl _ _) (po2 rfl rfl) rfl (fun k (h : _) => by (simp only [List.mem_cons, List.not_mem_nil, or_false] at h; rcases h with rfl <;> first | exact .inl rfl | exact .inr rfl | exact .inr (by decide))) rfl rfl) <| WA.one (i := 8) (by kernel_rfl) <| WI.op rfl rfl rfl (by intro t h; cases h <;> rfl) (fun k (h : _) => by (simp at h ⊢; omega)) (new_app rfl) (fun ρ w => ok_callr (sc_r8types u f set x.args seen (r8of f.types x.params)) ent92 rfl rfl (Subs.refl _ _) (po2 rfl rfl) rfl (fun k (h : _) => .inr trivial) rfl rfl) <| WA.run (fuel := 4) [9, 10, 11, 12, 13, 14, 15, 16] (by kernel_rfl) (fun _ _ _ h => h) (by kernel_rfl) <| rV rfl rfl (oN rfl) <| rV rfl rfl (oM rfl) ?_
    refine WR.split (t := 106) rfl (fun hb106 => ?_) (fun hb106 => ?_)
    · refine rnV rfl rfl rfl <| rnV rfl rfl rfl <| rnV rfl rfl rfl <| rnV rfl rfl rfl <| rnV rfl rfl rfl <| rnV rfl rfl rfl <| WR.nil <| WA.takeNo (i := 17) (b := true) rfl (by kernel_rfl) (by kernel_rfl) (by kernel_rfl) (fun _ _ _ h => h) rfl rfl rfl rfl rfl rfl <| WA.takeNo (i := 18) (b := true) rfl (by kernel_rfl) (by kernel_rfl) (by kernel_rfl) (fun _ _ _ h => h) rfl rfl rfl rfl rfl rfl <| WA.run (fuel := 0) [19, 20] (by kernel_rfl) (fun _ _ _ h => h) (by kernel_rfl) <| rnV rfl rfl rfl <| rV rfl rfl (oT rfl rfl) ?_
      refine WR.nil <| WA.done (by kernel_rfl) <| Tr.condT rfl <| Tr.seq <| Tr.region rfl <| cV rfl (oA rfl) <| WL.nil <| Tr.ret ?_
      (have h2 : (r8node u f deep wh seen set x).2 = set := (by rw [r8node_loop _ _ _ _ _ _ hbare hk11 hkids]; simp_all [andT, andS, r8end]; done)
       rw [h2]
       refine ret_ok rfl ?_ (po2 rfl rfl)
       clear h2
       rw [r8node_loop _ _ _ _ _ _ hbare hk11 hkids]
       simp_all [andT, andS, r8end]
       done)
    refine ryV rfl rfl rfl (oM rfl) <| ryV rfl rfl rfl (oFe rfl tF42_6) <| ryV rfl rfl rfl (oLe Tryz.underlying35 rfl rfl) <| ryV rfl rfl rfl (oFe rfl tF42_6) <| ryV rfl rfl rfl (oLe Tryz.underlying35 rfl rfl) <| ryV rfl rfl rfl (oSm Tryz.underlying35 rfl) <| WR.nil <| WA.one (i := 17) (by kernel_rfl) <| WI.opYes rfl rfl rfl rfl rfl rfl (by intro t h; cases h <;> rfl) (fun k (h : _) => by (simp at h ⊢; omega)) (new_one rfl) (fun ρ w => ok_makeSlice (k := 213) (s := ⟨3, 1⟩) rfl rfl rfl Tryz.underlying35 tZ3 tC3 rfl (by decide) (by omega) (by omega) rfl rfl rfl rfl) <| WA.one (i := 18) (by kernel_rfl) <| WI.opYes rfl rfl rfl rfl rfl rfl (by intro t h; cases h <;> rfl) (fun k (h : _) => by (simp at h ⊢; omega)) (new_app rfl) (fun ρ w => ok_lend (fun k => k = 213) (sc_r8sets u f set x.params (List.replicate x.params.length 0) hs) ent93 rfl rfl (Subs.refl _ _) (And.intro LendOf.same (And.intro LendOf.same (And.intro (LendOf.row rfl rfl (by (simp; done)) (by (simp only [List.map_replicate]; rfl))) (trivial)))) (fun k h => by subst h; rfl) (po2 rfl rfl) rfl (fun k (h : _) => by (simp only [List.mem_cons, List.not_mem_nil, or_false] at h; rcases h with rfl <;> first | exact .inl rfl | exact .inr rfl | exact .inr (by decide))) ⟨_, rfl⟩ (ck_lend (r8sets_length ..))) <| WA.run (fuel := 0) [19, 20] (by kernel_rfl) (fun _ _ _ h => h) (by kernel_rfl) ?_
    refine ryV rfl rfl rfl (oN rfl) <| rV rfl rfl (oF rfl rfl) <| WR.nil <| WA.done (by kernel_rfl) ?_
    refine Tr.cond rfl (fun hc116 => ?_) (fun hc116 => ?_)
    · refine Tr.seq <| Tr.region rfl <| cV rfl (oA rfl) <| WL.nil <| Tr.ret ?_
      (have h2 : (r8node u f deep wh seen set x).2 = (r8sets f.types set x.params (List.replicate x.params.length 0)).2 := (by rw [r8node_loop _ _ _ _ _ _ hbare hk11 hkids]; simp_all [andT, andS, r8end]; done)
       rw [h2]
       refine ret_ok rfl ?_ (po2 rfl rfl)
       clear h2
       rw [r8node_loop _ _ _ _ _ _ hbare hk11 hkids]
       simp_all [andT, andS, r8end]
       done)
    refine Tr.skip <| Tr.seq <| Tr.region rfl <| cV rfl (oA rfl) <| WL.nil <| Tr.seq <| Tr.grow (t := 14) (k := 114) ⟨3, 1⟩ rfl rfl rfl rfl rfl <| Tr.region rfl <| cV rfl (oM rfl) <| cV rfl (oM rfl) ?_
    refine WL.cons rfl rfl rfl (ok_append rfl rfl rfl rfl (by rfl) (by simp) Tryz.underlying35 tB3 (by decide) (hw_int) (hone_int) (by simp [maxLen, chunks]; omega) (by simp [chunks]; omega)) ?_
    refine cV rfl (oA rfl) <| WL.nil <| Tr.seq <| Tr.region rfl <| cV rfl (oM rfl) <| cV rfl (oFe rfl tF42_6) <| cV rfl (oLe Tryz.underlying35 rfl rfl) ?_
    refine WL.cons rfl rfl rfl (ok_append rfl rfl rfl rfl (by (simp; done)) (by simp) Tryz.underlying35 tB3 (by decide) (hw_int) (hone_int) (by simp [maxLen, chunks]; omega) (by simp [chunks]; omega)) ?_
    refine cV rfl (oA rfl) <| WL.nil <| Tr.seq <| Tr.drawn mixed (fun k => k ∈ ([3, 113] : List Nat)) <| WA.run (fuel := 23) [0, 1, 2, 3, 4, 5, 6, 7, 8] (by kernel_rfl) (fun _ _ _ h => h) (by kernel_rfl) <| rV rfl rfl (oM rfl) <| rV rfl rfl (oFe rfl tF42_7) <| rV rfl rfl (oLe Tryz.underlying40 rfl rfl) <| rV rfl rfl (ok_index_seq rfl rfl rfl Tryz.underlying40 hi0 tS43 rfl (by rfl)) <| rV rfl rfl (oLe Tryz.underlying43 rfl rfl) <| rV rfl rfl (oM rfl) <| rV rfl rfl (ok_load_box_pure rfl rfl rfl Tryz.underlying87 rfl tS87 (Nat.le_of_ble_eq_true rfl) rfl (by decide)) ?_
    refine rV rfl rfl (oM rfl) <| rV rfl rfl (oB rfl rfl (i64_add rfl (by omega))) <| WR.nil <| WA.one (i := 9) (by kernel_rfl) <| WI.op rfl rfl rfl (by intro t h; cases h <;> rfl) (fun k (h : _) => by (simp at h ⊢; omega)) (new_app rfl) (fun ρ w => ok_lend (fun k => k = 114) (ih ka hm0 (deep + 1) ⟨false, true, [], r8of f.types x.params, r8of f.types x.outs⟩ (seen ++ x.params) (r8sets f.types set x.params (List.replicate x.params.length 0)).2 ⟨by omega, by omega⟩ hs1 hb0) ent48 rfl rfl (Subs.same rfl (Subs.same rfl (Subs.same rfl (Subs.cons (fun _ _ _ _ h => sub_pv (q := whv ⟨false, true, [], r8of f.types x.params, r8of f.types x.outs⟩) (PSub.agg (ps := [vBool false, vBool true, .val (.slice none 0 0), ints (r8of f.types x.params), ints (r8of f.types x.outs)]) (And.intro (PSub.refl _) (And.intro (PSub.refl _) (And.intro PSub.nil (And.intro (PSub.refl _) (And.intro (PSub.refl _) trivial)))))) h) (Subs.same rfl Subs.nil))))) (And.intro LendOf.same (And.intro LendOf.same (And.intro (LendOf.row rfl rfl (by (simp; done)) (by (simp; done))) (And.intro LendOf.same (And.intro LendOf.same (trivial)))))) (fun k h => by subst h; rfl) (po2 rfl rfl) rfl (fun k (h : _) => by (simp only [List.mem_cons, List.not_mem_nil, or_false] at h; rcases h with rfl | rfl <;> first | exact .inl rfl | exact .inr rfl | exact .inr (by decide))) ⟨_, rfl⟩ (ck_lend (r8list_length ..))) <| WA.run (fuel := 15) [10, 11, 12, 13, 14, 15, 16] (by kernel_rfl) (fun _ _ _ h => h) (by kernel_rfl) <| rV rfl rfl (oM rfl) ?_
    refine WR.split (t := 134) rfl (fun hb134 => ?_) (fun hb134 => ?_)
    · refine ryV rfl rfl rfl (oFe rfl tF42_5) <| ryV rfl rfl rfl (oLe Tryz.underlying35 rfl rfl) <| ryV rfl rfl rfl (oSm Tryz.underlying35 rfl) <| ryV rfl rfl rfl (oB rfl rfl rfl) <| ryV rfl rfl rfl (oM rfl) ?_
      refine WR.split (t := 139) rfl (fun hb139 => ?_) (fun hb139 => ?_)
      · refine rnV rfl rfl rfl <| WR.nil <| WA.takeNo (i := 17) (b := true) rfl (by kernel_rfl) (by kernel_rfl) (by kernel_rfl) (fun _ _ _ h => h) rfl rfl rfl rfl rfl rfl <| WA.run (fuel := 4) [18, 19, 20, 21, 22, 23, 24, 25, 26, 27] (by kernel_rfl) (fun _ _ _ h => h) (by kernel_rfl) <| rnV rfl rfl rfl <| ryV rfl rfl rfl (oT rfl rfl) <| rV rfl rfl (oT rfl rfl) <| rV rfl rfl (oM rfl) <| ryV rfl rfl rfl (oM rfl) <| ryV rfl rfl rfl (oFe rfl tF42_5) <| ryV rfl rfl rfl (oLe Tryz.underlying35 rfl rfl) <| ryV rfl rfl rfl (oFe rfl tF42_5) ?_
        refine ryV rfl rfl rfl (oLe Tryz.underlying35 rfl rfl) <| ryV rfl rfl rfl (oSm Tryz.underlying35 rfl) <| WR.nil <| WA.one (i := 28) (by kernel_rfl) <| WI.opYes rfl rfl rfl rfl rfl rfl (by intro t h; cases h <;> rfl) (fun k (h : _) => by (simp at h ⊢; omega)) (new_one rfl) (fun ρ w => ok_makeSlice (k := 252) (s := ⟨3, 1⟩) rfl rfl rfl Tryz.underlying35 tZ3 tC3 rfl (by decide) (by omega) (by omega) rfl rfl rfl rfl) <| WA.one (i := 29) (by kernel_rfl) <| WI.opYes rfl rfl rfl rfl rfl rfl (by intro t h; cases h <;> rfl) (fun k (h : _) => by (simp at h ⊢; omega)) (new_app rfl) (fun ρ w => ok_lend (fun k => k = 252) (sc_r8sets u f (r8list u f (deep + 1) ⟨false, true, [], r8of f.types x.params, r8of f.types x.outs⟩ (seen ++ x.params) (r8sets f.types set x.params (List.replicate x.params.length 0)).2 ka).2 x.outs (List.replicate x.outs.length 0) hs2) ent93 rfl rfl (Subs.refl _ _) (And.intro LendOf.same (And.intro LendOf.same (And.intro (LendOf.row rfl rfl (by (simp; done)) (by (simp only [List.map_replicate]; rfl))) (trivial)))) (fun k h => by subst h; rfl) (po2 rfl rfl) rfl (fun k (h : _) => by (simp only [List.mem_cons, List.not_mem_nil, or_false] at h; rcases h with rfl | rfl <;> first | exact .inl rfl | exact .inr rfl | exact .inr (by decide))) ⟨_, rfl⟩ (ck_lend (r8sets_length ..))) <| WA.run (fuel := 0) [30, 31] (by kernel_rfl) (fun _ _ _ h => h) (by kernel_rfl) <| rV rfl rfl (oT rfl rfl) <| rV rfl rfl (oA rfl) <| WR.nil <| WA.done (by kernel_rfl) ?_
        refine Tr.ret ?_
        (have h2 : (r8node u f deep wh seen set x).2 = (r8sets f.types (r8list u f (deep + 1) ⟨false, true, [], r8of f.types x.params, r8of f.types x.outs⟩ (seen ++ x.params) (r8sets f.types set x.params (List.replicate x.params.length 0)).2 ka).2 x.outs (List.replicate x.outs.length 0)).2 := (by rw [r8node_loop _ _ _ _ _ _ hbare hk11 hkids]; simp_all [andT, andS, r8end]; done)
         rw [h2]
         refine ret_ok rfl ?_ (po2 rfl rfl)
         clear h2
         rw [r8node_loop _ _ _ _ _ _ hbare hk11 hkids]
         simp_all [andT, andS, r8end]
         done)
      refine ryV rfl rfl rfl (ok_load_ept_agg rfl rfl Tryz.underlying42 rfl tS42 (Nat.le_of_ble_eq_true rfl)) <| WR.nil <| WA.one (i := 17) (by kernel_rfl) <| WI.opYes rfl rfl rfl rfl rfl rfl (by intro t h; cases h <;> rfl) (fun k (h : _) => by (simp at h ⊢; omega)) (fun _ h1 h2 => absurd h1 h2) (fun ρ w => ok_callq (sc_r8Closed _) ent53 rfl rfl (Subs.refl _ _) rfl) <| WA.run (fuel := 4) [18, 19, 20, 21, 22, 23, 24, 25, 26, 27] (by kernel_rfl) (fun _ _ _ h => h) (by kernel_rfl) <| ryV rfl rfl rfl (oN rfl) <| ryV rfl rfl rfl (oF rfl rfl) <| rV rfl rfl (oT rfl rfl) <| rV rfl rfl (oM rfl) ?_
      refine WR.split (t := 145) rfl (fun hb145 => ?_) (fun hb145 => ?_)
      · refine ryV rfl rfl rfl (oM rfl) <| ryV rfl rfl rfl (oFe rfl tF42_5) <| ryV rfl rfl rfl (oLe Tryz.underlying35 rfl rfl) <| ryV rfl rfl rfl (oFe rfl tF42_5) <| ryV rfl rfl rfl (oLe Tryz.underlying35 rfl rfl) <| ryV rfl rfl rfl (oSm Tryz.underlying35 rfl) <| WR.nil <| WA.one (i := 28) (by kernel_rfl) <| WI.opYes rfl rfl rfl rfl rfl rfl (by intro t h; cases h <;> rfl) (fun k (h : _) => by (simp at h ⊢; omega)) (new_one rfl) (fun ρ w => ok_makeSlice (k := 252) (s := ⟨3, 1⟩) rfl rfl rfl Tryz.underlying35 tZ3 tC3 rfl (by decide) (by omega) (by omega) rfl rfl rfl rfl) <| WA.one (i := 29) (by kernel_rfl) <| WI.opYes rfl rfl rfl rfl rfl rfl (by intro t h; cases h <;> rfl) (fun k (h : _) => by (simp at h ⊢; omega)) (new_app rfl) (fun ρ w => ok_lend (fun k => k = 252) (sc_r8sets u f (r8list u f (deep + 1) ⟨false, true, [], r8of f.types x.params, r8of f.types x.outs⟩ (seen ++ x.params) (r8sets f.types set x.params (List.replicate x.params.length 0)).2 ka).2 x.outs (List.replicate x.outs.length 0) hs2) ent93 rfl rfl (Subs.refl _ _) (And.intro LendOf.same (And.intro LendOf.same (And.intro (LendOf.row rfl rfl (by (simp; done)) (by (simp only [List.map_replicate]; rfl))) (trivial)))) (fun k h => by subst h; rfl) (po2 rfl rfl) rfl (fun k (h : _) => by (simp only [List.mem_cons, List.not_mem_nil, or_false] at h; rcases h with rfl | rfl <;> first | exact .inl rfl | exact .inr rfl | exact .inr (by decide))) ⟨_, rfl⟩ (ck_lend (r8sets_length ..))) <| WA.run (fuel := 0) [30, 31] (by kernel_rfl) (fun _ _ _ h => h) (by kernel_rfl) ?_
        refine rV rfl rfl (oT rfl rfl) <| rV rfl rfl (oA rfl) <| WR.nil <| WA.done (by kernel_rfl) <| Tr.ret ?_
        (have h2 : (r8node u f deep wh seen set x).2 = (r8sets f.types (r8list u f (deep + 1) ⟨false, true, [], r8of f.types x.params, r8of f.types x.outs⟩ (seen ++ x.params) (r8sets f.types set x.params (List.replicate x.params.length 0)).2 ka).2 x.outs (List.replicate x.outs.length 0)).2 := (by rw [r8node_loop _ _ _ _ _ _ hbare hk11 hkids]; simp_all [andT, andS, r8end]; done)
         rw [h2]
         refine ret_ok rfl ?_ (po2 rfl rfl)
         clear h2
         rw [r8node_loop _ _ _ _ _ _ hbare hk11 hkids]
         simp_all [andT, andS, r8end]
         done)
      refine rnV rfl rfl rfl <| rnV rfl rfl rfl <| rnV rfl rfl rfl <| rnV rfl rfl rfl <| rnV rfl rfl rfl <| rnV rfl rfl rfl <| WR.nil <| WA.takeNo (i := 28) (b := false) rfl (by kernel_rfl) (by kernel_rfl) (by kernel_rfl) (fun _ _ _ h => h) rfl rfl rfl rfl rfl rfl <| WA.takeNo (i := 29) (b := false) rfl (by kernel_rfl) (by kernel_rfl) (by kernel_rfl) (fun _ _ _ h => h) rfl rfl rfl rfl rfl rfl <| WA.run (fuel := 0) [30, 31] (by kernel_rfl) (fun _ _ _ h => h) (by kernel_rfl) <| rV rfl rfl (oF rfl rfl) <| rV rfl rfl (oA rfl) ?_
      refine WR.nil <| WA.done (by kernel_rfl) <| Tr.ret ?_
      (have h2 : (r8node u f deep wh seen set x).2 = (r8list u f (deep + 1) ⟨false, true, [], r8of f.types x.params, r8of f.types x.outs⟩ (seen ++ x.params) (r8sets f.types set x.params (List.replicate x.params.length 0)).2 ka).2 := (by rw [r8node_loop _ _ _ _ _ _ hbare hk11 hkids]; simp_all [andT, andS, r8end]; done)
       rw [h2]
       refine ret_ok rfl ?_ (po2 rfl rfl)
       clear h2
       rw [r8node_loop _ _ _ _ _ _ hbare hk11 hkids]
       simp_all [andT, andS, r8end]
       done)
    refine rnV rfl rfl rfl <| rnV rfl rfl rfl <| rnV rfl rfl rfl <| rnV rfl rfl rfl <| rnV rfl rfl rfl <| WR.noU rfl rfl rfl rfl rfl rfl rfl <| WR.nil <| WA.takeNoU (i := 17) rfl (by kernel_rfl) (by kernel_rfl) (by kernel_rfl) (fun _ _ _ h => h) rfl rfl rfl rfl rfl rfl <| WA.run (fuel := 4) [18, 19, 20, 21, 22, 23, 24, 25, 26, 27] (by kernel_rfl) (fun _ _ _ h => h) (by kernel_rfl) <| WR.noU rfl rfl rfl rfl rfl rfl rfl <| rnV rfl rfl rfl <| rV rfl rfl (oF rfl rfl) ?_
    refine rV rfl rfl (oM rfl) <| rnV rfl rfl rfl <| rnV rfl rfl rfl <| rnV rfl rfl rfl <| rnV rfl rfl rfl <| rnV rfl rfl rfl <| rnV rfl rfl rfl <| WR.nil <| WA.takeNo (i := 28) (b := false) rfl (by kernel_rfl) (by kernel_rfl) (by kernel_rfl) (fun _ _ _ h => h) rfl rfl rfl rfl rfl rfl <| WA.takeNo (i := 29) (b := false) rfl (by kernel_rfl) (by kernel_rfl) (by kernel_rfl) (fun _ _ _ h => h) rfl rfl rfl rfl rfl rfl <| WA.run (fuel := 0) [30, 31] (by kernel_rfl) (fun _ _ _ h => h) (by kernel_rfl) <| rV rfl rfl (oF rfl rfl) ?_
    refine rV rfl rfl (oA rfl) <| WR.nil <| WA.done (by kernel_rfl) <| Tr.ret ?_
    (have h2 : (r8node u f deep wh seen set x).2 = (r8list u f (deep + 1) ⟨false, true, [], r8of f.types x.params, r8of f.types x.outs⟩ (seen ++ x.params) (r8sets f.types set x.params (List.replicate x.params.length 0)).2 ka).2 := (by rw [r8node_loop _ _ _ _ _ _ hbare hk11 hkids]; simp_all [andT, andS, r8end]; done)
     rw [h2]
     refine ret_ok rfl ?_ (po2 rfl rfl)
     clear h2
     rw [r8node_loop _ _ _ _ _ _ hbare hk11 hkids]
     simp_all [andT, andS, r8end]
     done)
  refine Tr.skip <| Tr.seq <| Tr.region rfl <| cV rfl (oM rfl) <| cV rfl (ok_load_ept_agg rfl rfl Tryz.underlying42 rfl tS42 (Nat.le_of_ble_eq_true rfl)) <| cV rfl (oM rfl) <| cV rfl (ok_load_ept_agg rfl rfl Tryz.underlying87 rfl tS87 (Nat.le_of_ble_eq_true rfl)) <| WL.cons rfl rfl rfl (ok_callr (sc_r8simple u f set hs hg x seen wh) ent94 rfl rfl (Subs.refl _ _) (po2 rfl rfl) rfl (fun k (h : _) => .inr h) rfl rfl) <| cV rfl (oA rfl) <| WL.nil <| Tr.ret ?_
  rw [r8node_simple _ _ _ _ _ _ hbare hc20 hc85]
  exact ret_ok rfl rfl (po2 rfl rfl)
set_option maxRecDepth 8000 in
set_option maxHeartbeats 2000000 in
theorem sc_r8list_aux (N : Nat) : ∀ (u : Un) (f : Fl) (hg : ∀ g ∈ u.flows, 0 ≤ g.params ∧ g.params ≤ g.types.length) (l : List Nd) (deep : Int) (wh : Wh) (all : List Int) (set : List Bool) (hd : 0 ≤ deep ∧ deep ≤ 101) (hs : set.length = f.types.length) (hb : all.length + lsW l ≤ 1073741824), SizeOf.sizeOf l < N → SC Tryz.prog 48 [.ptr 3 0, .pv (nodes l), .pv (ints all), .pv (whv wh), iInt deep] (ckHp u f 4 set) (fun k => k = 3) (iBool (r8list u f deep wh all set l).1) (ckHp u f 4 (r8list u f deep wh all set l).2) := by
  induction N with
  | zero => intro u f hg l deep wh all set hd hs hb hN; exact absurd hN (Nat.not_lt_zero _)
  | succ N ih =>
    intro u f hg l deep wh all set hd hs hb hN
    refine SC.of Tryz.func48 rfl (lb rfl) fun F ρ w => ?_
    refine Tr.lenOf (t := 1) rfl (fun hl => ?_)
    simp only [List.length_map] at hl
    refine Tr.seq <| Tr.region rfl <| WL.cons rfl rfl rfl (ok_box rfl rfl) <| cV rfl (oA rfl) <| WL.nil <| Tr.seq <| Tr.region rfl <| cV rfl (oA rfl) <| WL.nil <| Tr.seq <| Tr.grow (t := 11) (k := 111) ⟨3, 1⟩ rfl rfl rfl rfl rfl <| Tr.region rfl ?_
    refine cV rfl (oM rfl) <| cV rfl (oM rfl) ?_
    refine WL.cons rfl rfl rfl (ok_append rfl rfl rfl rfl (by rfl) (by simp) Tryz.underlying35 tB3 (by decide) (hw_int) (hone_int) (by simp [maxLen, chunks]; omega) (by simp [chunks]; omega)) ?_
    refine cV rfl (oA rfl) <| WL.nil <| Tr.seq <| Tr.seq <| Tr.region rfl <| cV rfl (oA rfl) <| WL.nil <| Tr.block ?_
    refine Tr.sub (Sub.of (fr' := [(12, iInt 0), (11, .sl 111 all.length), (8, .pv (.ept [vBool wh.If, vBool wh.Loop, ints wh.Yield, ints wh.Next, ints wh.Left] 0)), (0, .ptr 3 0), (1, .pv (nodes l)), (4, iInt deep)]) ⟨rfl, congrArg (fun z => some (IV.sl 111 z)) (by simp), rfl, rfl, rfl, rfl, trivial⟩) ?_
    refine Tr.heap (σ' := look ((111, some (.row ⟨3, 1⟩ (all.map eInt))) :: up (ckHp u f 4 set))) (fun _ => congrFun look_shadow _) ?_
    refine Tr.loop (fun fr σ m => ∃ (k : Nat) (al : List Int) (st : List Bool), (k ≤ l.length) ∧ (r8go u f deep wh all set l = r8go u f deep wh al st (l.drop k)) ∧ (st.length = f.types.length) ∧ (al.length + lsW (l.drop k) ≤ 1073741824) ∧ fr = [(12, iInt k), (11, .sl 111 al.length), (8, .pv (.ept [vBool wh.If, vBool wh.Loop, ints wh.Yield, ints wh.Next, ints wh.Left] 0)), (0, .ptr 3 0), (1, .pv (nodes l)), (4, iInt deep)] ∧ σ = look ((111, some (.row ⟨3, 1⟩ (al.map eInt))) :: up (ckHp u f 4 st)) ∧ m = l.length - k) (n := l.length - 0) ?_ ?_
    · exact ⟨0, all, set, Nat.zero_le _, rfl, hs, hb, rfl, rfl, rfl⟩
    rintro fr σ m ⟨k, al, st, hI0, hI1, hI2, hI3, rfl, rfl, rfl⟩
    refine Tr.seq <| Tr.seq <| Tr.region rfl <| cV rfl (oM rfl) <| cV rfl (oM rfl) <| cV rfl (oSm Tryz.underlying43 rfl) <| cV rfl (oB rfl rfl rfl) <| WL.nil ?_
    refine Tr.cond rfl (fun hc19 => ?_) (fun hc19 => ?_)
    · have hlt : k < l.length := by simpa using hc19
      have hd2 := List.drop_eq_getElem_cons hlt
      have hm := List.getElem_mem hlt
      have hi := nodes_get (List.getElem?_eq_getElem hlt)
      generalize l[k] = x at hd2 hm hi
      have hxo : x.outs.length ≤ ndW x := by have := ndW_eq x; omega
      have hbn : al.length + ndW x ≤ 1073741824 := by rw [hd2] at hI3; simp only [lsW] at hI3; omega
      refine Tr.skip <| Tr.seq <| Tr.block <| Tr.seq <| Tr.seq <| Tr.drawn mixed (fun k => k ∈ ([3] : List Nat)) <| WA.run (fuel := 16) [0, 1, 2, 3, 4, 5, 6, 7, 8, 9, 10] (by kernel_rfl) (fun _ _ _ h => h) (by kernel_rfl) <| rV rfl rfl (oM rfl) <| rV rfl rfl (oB rfl rfl rfl) <| rV rfl rfl (oM rfl) ?_
      refine WR.split (t := 24) rfl (fun hb24 => ?_) (fun hb24 => ?_)
      · refine rnV rfl rfl rfl <| rnV rfl rfl rfl <| rnV rfl rfl rfl <| rnV rfl rfl rfl <| rnV rfl rfl rfl <| rnV rfl rfl rfl <| rnV rfl rfl rfl <| rnV rfl rfl rfl <| WR.nil <| WA.takeNo (i := 11) (b := true) rfl (by kernel_rfl) (by kernel_rfl) (by kernel_rfl) (fun _ _ _ h => h) rfl rfl rfl rfl rfl rfl <| WA.run (fuel := 3) [12, 13, 14, 15, 16, 17, 18, 20, 21, 22, 23, 24] (by kernel_rfl) (fun _ _ _ h => h) (by kernel_rfl) <| rnV rfl rfl rfl ?_
        refine rV rfl rfl (oT rfl rfl) <| rV rfl rfl (oM rfl) <| rnV rfl rfl rfl <| rnV rfl rfl rfl <| rnV rfl rfl rfl <| rnV rfl rfl rfl <| rnV rfl rfl rfl <| rnV rfl rfl rfl <| rnV rfl rfl rfl <| rnV rfl rfl rfl <| rnV rfl rfl rfl <| WR.nil ?_
        refine WA.takeNo (i := 19) (b := true) rfl (by kernel_rfl) (by kernel_rfl) (by kernel_rfl) (fun _ _ _ h => h) rfl rfl rfl rfl rfl rfl <| WA.run (fuel := 0) [25, 26] (by kernel_rfl) (fun _ _ _ h => h) (by kernel_rfl) <| rnV rfl rfl rfl <| rV rfl rfl (oT rfl rfl) <| WR.nil <| WA.done (by kernel_rfl) <| Tr.condT rfl <| Tr.seq <| Tr.region rfl <| cV rfl (oA rfl) <| WL.nil <| Tr.ret ?_
        (have h2 : r8list u f deep wh all set l = (false, st) := by
           rw [r8list_ne hlt, hI1, hd2]
           unfold r8go
           rw [if_pos (by simpa using hb24)]
         rw [h2]
         exact ret_ok rfl rfl (po2 rfl rfl))
      refine ryV rfl rfl rfl (oM rfl) <| ryV rfl rfl rfl (oM rfl) <| ryV rfl rfl rfl (oM rfl) <| ryV rfl rfl rfl (ok_index_seq rfl rfl rfl Tryz.underlying43 hi tS42 rfl (by rfl)) <| ryV rfl rfl rfl (ok_load_ept_agg rfl rfl Tryz.underlying42 rfl tS42 (Nat.le_of_ble_eq_true rfl)) <| ryV rfl rfl rfl (oM rfl) <| ryV rfl rfl rfl (ok_load_ept_agg rfl rfl Tryz.underlying87 rfl tS87 (Nat.le_of_ble_eq_true rfl)) <| ryV rfl rfl rfl (oM rfl) <| WR.nil <| WA.one (i := 11) (by kernel_rfl) <| WI.opYes rfl rfl rfl rfl rfl rfl (by intro t h; cases h <;> rfl) (fun k (h : _) => by (simp at h ⊢; omega)) (new_app rfl) (fun ρ w => ok_lend (fun k => k = 111) (sc_r8node u f hg x deep ⟨hd.1, by simp at hb24; omega⟩ wh al st hI2 hbn (fun q hq deep w all set hd hs hb => ih u f hg q deep w all set hd hs hb (Nat.lt_of_lt_of_le (kid_lt hm rfl hq) (Nat.le_of_lt_succ hN)))) ent72 rfl rfl (Subs.refl _ _) (And.intro LendOf.same (And.intro LendOf.same (And.intro (LendOf.row rfl rfl (by (simp; done)) (by rfl)) (And.intro LendOf.same (And.intro LendOf.same (trivial)))))) (fun k h => by subst h; rfl) (po2 rfl rfl) rfl (fun k (h : _) => by (simp only [List.mem_cons, List.not_mem_nil, or_false] at h; rcases h with rfl <;> first | exact .inl rfl | exact .inr rfl | exact .inr (by decide))) ⟨_, rfl⟩ (ck_lend (r8node_length ..))) <| WA.run (fuel := 3) [12, 13, 14, 15, 16, 17, 18, 20, 21, 22, 23, 24] (by kernel_rfl) (fun _ _ _ h => h) (by kernel_rfl) ?_
      refine ryV rfl rfl rfl (oN rfl) <| rV rfl rfl (oF rfl rfl) <| rV rfl rfl (oM rfl) ?_
      refine WR.split (t := 36) rfl (fun hb36 => ?_) (fun hb36 => ?_)
      · refine rnV rfl rfl rfl <| rnV rfl rfl rfl <| rnV rfl rfl rfl <| rnV rfl rfl rfl <| rnV rfl rfl rfl <| rnV rfl rfl rfl <| rnV rfl rfl rfl <| rnV rfl rfl rfl <| rnV rfl rfl rfl <| WR.nil <| WA.takeNo (i := 19) (b := true) rfl (by kernel_rfl) (by kernel_rfl) (by kernel_rfl) (fun _ _ _ h => h) rfl rfl rfl rfl rfl rfl <| WA.run (fuel := 0) [25, 26] (by kernel_rfl) (fun _ _ _ h => h) (by kernel_rfl) ?_
        refine rnV rfl rfl rfl <| rV rfl rfl (oT rfl rfl) <| WR.nil <| WA.done (by kernel_rfl) <| Tr.condT rfl <| Tr.seq <| Tr.region rfl <| cV rfl (oA rfl) <| WL.nil <| Tr.ret ?_
        (have h2 : r8list u f deep wh all set l = (false, (r8node u f deep wh al st x).2) := by
           rw [r8list_ne hlt, hI1, hd2]
           unfold r8go
           rw [if_neg (by simpa using hb24)]
           have hn1 : (r8node u f deep wh al st x).1 = false := by simpa using hb36
           simp [andT, hn1]
         rw [h2]
         exact ret_ok rfl rfl (po2 rfl rfl))
      refine ryV rfl rfl rfl (oM rfl) <| ryV rfl rfl rfl (oM rfl) <| ryV rfl rfl rfl (ok_index_seq rfl rfl rfl Tryz.underlying43 hi tS42 rfl (by rfl)) <| ryV rfl rfl rfl (ok_load_ept_agg rfl rfl Tryz.underlying42 rfl tS42 (Nat.le_of_ble_eq_true rfl)) <| ryV rfl rfl rfl (oM rfl) <| ryV rfl rfl rfl (oM rfl) <| ryV rfl rfl rfl (oSm Tryz.underlying43 rfl) <| ryV rfl rfl rfl (oB rfl rfl (i64_sub rfl (by omega))) <| ryV rfl rfl rfl (oB rfl rfl rfl) <| WR.nil <| WA.one (i := 19) (by kernel_rfl) <| WI.opYes rfl rfl rfl rfl rfl rfl (by intro t h; cases h <;> rfl) (fun k (h : _) => by (simp at h ⊢; omega)) (fun _ h1 h2 => absurd h1 h2) (fun ρ w => ok_callq (sc_r8Closed _) ent53 rfl rfl (Subs.refl _ _) rfl) ?_
      refine WA.run (fuel := 0) [25, 26] (by kernel_rfl) (fun _ _ _ h => h) (by kernel_rfl) <| ryV rfl rfl rfl (ok_neq_bool rfl rfl rfl Tryz.underlying4) <| rV rfl rfl (oF rfl rfl) <| WR.nil <| WA.done (by kernel_rfl) ?_
      refine Tr.cond rfl (fun hc48 => ?_) (fun hc48 => ?_)
      · refine Tr.seq <| Tr.region rfl <| cV rfl (oA rfl) <| WL.nil <| Tr.ret ?_
        (have h2 : r8list u f deep wh all set l = (false, (r8node u f deep wh al st x).2) := by
           rw [r8list_ne hlt, hI1, hd2]
           unfold r8go
           rw [if_neg (by simpa using hb24)]
           have hn1 : (r8node u f deep wh al st x).1 = true := by simpa using hb36
           have hcl : (r8Closed x != (l.drop (k + 1)).isEmpty) = true := by rw [drop_isEmpty hlt]; simpa using hc48
           simp [andT, hn1, hcl]
         rw [h2]
         exact ret_ok rfl rfl (po2 rfl rfl))
      refine Tr.skip <| Tr.region rfl <| cV rfl (oM rfl) <| cV rfl (oM rfl) <| cV rfl (oM rfl) <| cV rfl (ok_index_seq rfl rfl rfl Tryz.underlying43 hi tS42 rfl (by rfl)) <| cV rfl (oFe rfl tF42_5) <| cV rfl (oLe Tryz.underlying35 rfl rfl) ?_
      refine WL.cons rfl rfl rfl (ok_append rfl rfl rfl rfl (by (simp; done)) (by simp) Tryz.underlying35 tB3 (by decide) (hw_int) (hone_int) (by simp [maxLen, chunks]; omega) (by simp [chunks]; omega)) ?_
      refine cV rfl (oA rfl) <| WL.nil <| Tr.region rfl <| cV rfl (oM rfl) <| cV rfl (oB rfl rfl (i64_add rfl (by omega))) <| cV rfl (oA rfl) <| WL.nil ?_
      refine ⟨_, _, ?_, Sub.of (fr' := [(12, iInt (k + 1)), (11, .sl 111 (al ++ x.outs).length), (8, .pv (.ept [vBool wh.If, vBool wh.Loop, ints wh.Yield, ints wh.Next, ints wh.Left] 0)), (0, .ptr 3 0), (1, .pv (nodes l)), (4, iInt deep)]) ⟨rfl, congrArg (fun z => some (IV.sl 111 z)) (by simp), rfl, rfl, rfl, rfl, trivial⟩, (k + 1), (al ++ x.outs), (r8node u f deep wh al st x).2, ?_, ?_, ?_, ?_, rfl, ck_row', rfl⟩
      · omega
      · omega
      · rw [hI1, hd2]
        have hn1 : (r8node u f deep wh al st x).1 = true := by simpa using hb36
        have hcl : (r8Closed x != (l.drop (k + 1)).isEmpty) = false := by rw [drop_isEmpty hlt]; simpa using hc48
        have hdp : ¬ deep > 100 := by simpa using hb24
        conv => lhs; unfold r8go
        simp only [if_neg hdp, andT, hn1, hcl, if_true]
        rfl
      · exact (r8node_length ..).trans hI2
      rw [hd2] at hI3; have hWx := ndW_eq x; simp only [lsW] at hI3; simp only [List.length_append]; omega
    refine Tr.exit <| Tr.seq <| Tr.region rfl <| cV rfl (oM rfl) <| cV rfl (oSm Tryz.underlying43 rfl) <| cV rfl (oB rfl rfl rfl) <| cV rfl (oA rfl) <| WL.nil <| Tr.ret ?_
    have hge : l.length ≤ k := by simpa using hc19
    have hgo : r8go u f deep wh all set l = (true, st) := by rw [hI1, List.drop_eq_nil_of_le hge]; simp [r8go]
    have h2 : (r8list u f deep wh all set l) = (decide ((l.length : Int) > 0), st) := by
      unfold r8list ne
      rw [hgo]
      cases l <;> simp <;> omega
    rw [h2]
    exact ret_ok rfl rfl (po2 rfl rfl)
theorem sc_r8list (u : Un) (f : Fl) (hg : ∀ g ∈ u.flows, 0 ≤ g.params ∧ g.params ≤ g.types.length) (l : List Nd) (deep : Int) (wh : Wh) (all : List Int) (set : List Bool) (hd : 0 ≤ deep ∧ deep ≤ 101) (hs : set.length = f.types.length) (hb : all.length + lsW l ≤ 1073741824) : SC Tryz.prog 48 [.ptr 3 0, .pv (nodes l), .pv (ints all), .pv (whv wh), iInt deep] (ckHp u f 4 set) (fun k => k = 3) (iBool (r8list u f deep wh all set l).1) (ckHp u f 4 (r8list u f deep wh all set l).2) := sc_r8list_aux _ u f hg l deep wh all set hd hs hb (Nat.lt_succ_self _)
theorem ba_sz (s : ByteArray) : s.data.toList.length = s.size := rfl
theorem ba_loop (s : ByteArray) : ∀ (n i : Nat) (acc : List UInt8), s.size - i = n → ByteArray.toList.loop s i acc = acc.reverse ++ s.data.toList.drop i
  | 0, i, acc, h => by
    rw [ByteArray.toList.loop]
    have : ¬ i < s.size := by omega
    rw [if_neg this, List.drop_eq_nil_of_le (by rw [ba_sz]; omega)]
    simp
  | n + 1, i, acc, h => by
    rw [ByteArray.toList.loop]
    have hi : i < s.size := by omega
    rw [if_pos hi, ba_loop s n (i + 1) _ (by omega)]
    have hi2 : i < s.data.toList.length := by rw [ba_sz]; exact hi
    rw [List.drop_eq_getElem_cons hi2]
    have hget : s.get! i = s.data.toList[i] := by
      show s.data[i]! = _
      rw [getElem!_pos s.data i hi]
      rfl
    simp [hget]
theorem ba_toList (s : ByteArray) : s.toList = s.data.toList := by
  rw [ByteArray.toList, ba_loop s _ 0 [] rfl]; simp
theorem ba_len (s : ByteArray) : s.toList.length = s.size := by rw [ba_toList]; rfl
theorem ba_get {s : ByteArray} {i : Nat} (h : i < s.toList.length) : s[i]? = some (s.toList[i]) := by
  have h2 : i < s.size := by rwa [ba_len] at h
  rw [getElem?_pos s i h2]
  congr 1
  simp only [ba_toList]
  rfl
def isLetter (n : Int) : Bool := (decide (n ≥ 97) && decide (n ≤ 122)) || (decide (n ≥ 65) && decide (n ≤ 90)) || n == 95
def isDigit (n : Int) : Bool := decide (n ≥ 48) && decide (n ≤ 57)
def isLD (b : UInt8) : Bool := isLetter b.toNat || isDigit b.toNat
def isWord (s : ByteArray) : Bool := s.toList == ByteArray.toList ⟨#[105, 110, 116]⟩ || s.toList == ByteArray.toList ⟨#[98, 111, 111, 108]⟩ || s.toList == ByteArray.toList ⟨#[105, 102]⟩ || s.toList == ByteArray.toList ⟨#[101, 108, 115, 101]⟩ || s.toList == ByteArray.toList ⟨#[119, 104, 105, 108, 101]⟩ || s.toList == ByteArray.toList ⟨#[98, 114, 101, 97, 107]⟩ || s.toList == ByteArray.toList ⟨#[99, 111, 110, 116, 105, 110, 117, 101]⟩ || s.toList == ByteArray.toList ⟨#[114, 101, 116, 117, 114, 110]⟩ || s.toList == ByteArray.toList ⟨#[112, 114, 105, 110, 116]⟩ || s.toList == ByteArray.toList ⟨#[114, 101, 97, 100]⟩ || s.toList == ByteArray.toList ⟨#[116, 114, 117, 101]⟩ || s.toList == ByteArray.toList ⟨#[102, 97, 108, 115, 101]⟩ || s.toList == ByteArray.toList ⟨#[105, 56]⟩ || s.toList == ByteArray.toList ⟨#[105, 49, 54]⟩ || s.toList == ByteArray.toList ⟨#[105, 51, 50]⟩ || s.toList == ByteArray.toList ⟨#[117, 56]⟩ || s.toList == ByteArray.toList ⟨#[117, 49, 54]⟩ || s.toList == ByteArray.toList ⟨#[117, 51, 50]⟩
def isName (s : ByteArray) : Bool := !(s.toList == []) && decide ((s.size : Int) ≤ 20) && isLetter (s.toList.headD 0).toNat && !isWord s && s.toList.all isLD
mutual
def wtN : Nd → Nat
  | .mk _ _ _ name args outs params kids => args.length + outs.length + params.length + name.size + wtK kids
def wtL : List Nd → Nat
  | [] => 0
  | x :: r => wtN x + wtL r
def wtK : List (List Nd) → Nat
  | [] => 0
  | l :: r => 1 + (l.length + wtL l) + wtK r
end
theorem wtN_eq (x : Nd) : wtN x = x.args.length + x.outs.length + x.params.length + x.name.size + wtK x.kids := by cases x; simp [wtN, Nd.args, Nd.outs, Nd.params, Nd.kids, Nd.name]
def r8nodes (l : List Nd) : Nat := l.length + wtL l
def wtA : List Ar → Nat
  | [] => 0
  | a :: r => a.name.size + wtA r
def wtF : List Fl → Nat
  | [] => 0
  | f :: r => f.name.size + f.types.length + r8nodes f.body + wtF r
def r8Weight (u : Un) : Nat := u.arrays.length + u.flows.length + wtA u.arrays + wtF u.flows
mutual
def sameN : Nd → Nd → Bool
  | .mk k o n s a u p ks, .mk k' o' n' s' a' u' p' ks' => k == k' && o == o' && n == n' && s.toList == s'.toList && ks.length == ks'.length && a == a' && u == u' && p == p' && sameK ks ks'
def sameL : List Nd → List Nd → Bool
  | [], [] => true
  | x :: a, y :: b => sameN x y && sameL a b
  | _, _ => false
def sameK : List (List Nd) → List (List Nd) → Bool
  | [], [] => true
  | x :: a, y :: b => sameL x y && sameK a b
  | _, _ => false
end
def sameH (x y : Nd) : Bool := x.kind == y.kind && x.op == y.op && x.n == y.n && x.name.toList == y.name.toList && x.kids.length == y.kids.length && x.args == y.args && x.outs == y.outs && x.params == y.params
theorem sameN_eq (x y : Nd) : sameN x y = (sameH x y && sameK x.kids y.kids) := by cases x; cases y; simp [sameN, sameH, Nd.kind, Nd.op, Nd.n, Nd.name, Nd.args, Nd.outs, Nd.params, Nd.kids]
theorem sameL_len : ∀ {a b : List Nd}, a.length ≠ b.length → sameL a b = false
  | [], [], h => absurd rfl h
  | [], _ :: _, _ => by simp [sameL]
  | _ :: _, [], _ => by simp [sameL]
  | x :: a, y :: b, h => by simp [sameL, sameL_len (a := a) (b := b) (by simpa using h)]
def sameF (f g : Fl) : Bool := f.name.toList == g.name.toList && f.ty == g.ty && f.params == g.params && f.types == g.types && sameL f.body g.body
def sameFs : List Fl → List Fl → Bool
  | [], [] => true
  | x :: a, y :: b => sameF x y && sameFs a b
  | _, _ => false
def sameA (f g : Ar) : Bool := f.name.toList == g.name.toList && f.size == g.size
def sameAs : List Ar → List Ar → Bool
  | [], [] => true
  | x :: a, y :: b => sameA x y && sameAs a b
  | _, _ => false
def r8Same (u v : Un) : Bool := u.arrays.length == v.arrays.length && u.flows.length == v.flows.length && sameAs u.arrays v.arrays && sameFs u.flows v.flows
theorem look_two {a b : Nat} {x y : Option HO} {hp : Hp} {f : Nat → Option HO} (h1 : f a = x) (h2 : f b = y) (h3 : ∀ k, k ≠ a → k ≠ b → f k = look hp k) (hab : a ≠ b) : f = look ((a, x) :: (b, y) :: hp) := by
  funext k
  simp only [look]
  by_cases ha : a = k
  · subst ha; simp [h1]
  · by_cases hb : b = k
    · subst hb; simp [beq_ne hab, h2]
    · simp [beq_ne ha, beq_ne hb, h3 k (Ne.symm ha) (Ne.symm hb)]
end Go.Proofs.YtfaeemilgahcpaaGreat
